/- Merged. -/
import Derived.Test.YtmngofgminlloaaGreatDoorCT16
set_option linter.all false
set_option maxHeartbeats 16000000
set_option maxRecDepth 100000
namespace Go.Proofs.YtmngofgminlloaaGreatDoor
open Go.Proofs.Tryz
open Go.RowKit Tw
def zhY(left:Nat):Prop:=
 ∀(a:Int),a=left-> ∀(l:List Sm)(A:Option Addr)(c:Nat)(F:Nat->Prop)(w:World),K9 w F (.slice A l.length c) l->(∀s∈l,SmZ s)->l.length<=281474976710656->
  Calls prog 50 #[.slice A l.length c,.int .i64 a] w λe b=>e=.returned (.int .i64 (O0 l left))/\Below w.heap.size w b
def YP(left:Nat)(d9:left<=40)(ih:1<=left->zhY (left-1)):zhY left:=by
 intro li d0 l A c F w hA hZ d8;subst d0;have HA:=qh hA;have HZ:=qh hZ;have IH:=qh ih;clear hA hZ ih
 go_enter func50,ntmps50
 go_wp2_with fail
 go_loopw[12] (λi wr=> ∃j:Nat,j<=l.length/\i=.int .i64 j/\Hid (O0 (l.take j) left=0)/\Hid (Below w.heap.size w wr)) (λi _=>l.length-(intOf i).toNat)
 case atStart=>exact⟨0,D0 _,rfl,qh (by rw[List.take_zero,O0]),qh (x8 _ _)⟩
 case round=>
  obtain⟨j,hj,rfl,M,r⟩:=hrel
  by_cases d1:j<l.length
  ·obtain⟨s,hs⟩: ∃s,l[j]?=some s:=⟨_,x9 d1⟩
   obtain⟨g,d,Aa,ca,Ab,cb,Ae,ce,rfl,-,L,a0,a1,a2,E⟩:=HA.out.at j s hs;have b0:=(r.out.cell (p:=⟨g,d+j*10,none⟩) L).trans (E 0 _ rfl);have b1:=(r.out.cell (p:=⟨g,d+j*10+1,none⟩) L).trans (E 1 _ rfl);have b2:=(r.out.cell (p:=⟨g,d+j*10+2,none⟩) L).trans (E 2 _ rfl);have b3:=(r.out.cell (p:=⟨g,d+j*10+3,none⟩) L).trans (E 3 _ rfl);have b4:=(r.out.cell (p:=⟨g,d+j*10+4,none⟩) L).trans (E 4 _ rfl);have b5:=(r.out.cell (p:=⟨g,d+j*10+5,none⟩) L).trans (E 5 _ rfl);have b6:=(r.out.cell (p:=⟨g,d+j*10+6,none⟩) L).trans (E 6 _ rfl);have b7:=(r.out.cell (p:=⟨g,d+j*10+7,none⟩) L).trans (E 7 _ rfl);have b8:=(r.out.cell (p:=⟨g,d+j*10+8,none⟩) L).trans (E 8 _ rfl);have b9:=(r.out.cell (p:=⟨g,d+j*10+9,none⟩) L).trans (E 9 _ rfl);have a3:s∈l:=B7 hs;have P:=qh hs;have d2:=qh a0;have d3:=qh a1;have d4:=qh a2;have y:=qh (HZ.out s a3);clear hs a0 a1 a2 E a3;have k0:(0:Int)<=(j:Int):=by omega
   have k1:(j:Int)<(l.length:Int):=by omega
   by_cases d5:left=0
   ·subst d5
    go_wp2_with fail
    go_ret;have e:xK s 0=2:=by cases s with|mk=>rw[xK];rfl
    exact⟨by rw[za P.out M.out (by rw[e];decide),e];rfl,r.out.alloc r.out.size _⟩
   ·have G:1<=left:=by omega
    have e5:(1:Int)<=(left:Int):=by omega
    go_upto_region 6 with(fail)
    clear b0 b1 b2 b3 b4 b5 b6 b7 b8 b9;have t:=qh (r.out.alloc r.out.size (.cells #[.int .i64 s.I9,.string s.J2,.int .i64 s.a.I9,.int .i64 s.a.n,.string s.a.K0,.slice Aa s.a.args.length ca,.int .i64 s.a.pos,.slice Ab s.J0.length cb,.slice Ae s.M9.length ce,.int .i64 s.pos] 188));have m:=qh (A5 wr (.cells #[.int .i64 s.I9,.string s.J2,.int .i64 s.a.I9,.int .i64 s.a.n,.string s.a.K0,.slice Aa s.a.args.length ca,.int .i64 s.a.pos,.slice Ab s.J0.length cb,.slice Ae s.M9.length ce,.int .i64 s.pos] 188));generalize wr.alloc _=wa at t m|-;have a4:=I5 m.out;generalize wr.heap.size=b6 at m a4|-;obtain⟨bn,a5⟩: ∃b,R2 s.J2=b:=⟨_,rfl⟩;have HN:=qh a5;have U:=qh y.out.Z1.1;obtain⟨kd,V⟩: ∃k,s.I9=k:=⟨_,rfl⟩;rw[V]at m;have B:=qh V;clear a5 V;obtain⟨J9,a6⟩: ∃b,(decide (kd<1)||(decide (7<kd)||(decide (kd<=2)&&!bn)))=b:=⟨_,rfl⟩;have C:=qh a6;clear a6
    go_cut[41] (λu W=>u=.bool J9/\W=wa)
    case first=>
     obtain⟨⟨c0,c1,-⟩,-⟩:=J5 m.out
     by_cases q1:kd<1
     ·have Q:Hid (J9=true):=qh (by rw[<-C.out];simp[q1])
      go_wp2_with fail
      go_meet
      case rel=>exact⟨by rw[Q.out],rfl⟩
     by_cases q7:7<kd
     ·have Q:Hid (J9=true):=qh (by rw[<-C.out];simp[q7])
      have d6:1<=kd:=by omega
      clear q1
      go_wp2_with fail
      go_meet
      case rel=>exact⟨by rw[Q.out],rfl⟩
     have d6:1<=kd:=by omega
     have e6:kd<=7:=by omega
     by_cases q2:kd<=2
     ·have Q:Hid (J9=!bn):=qh (by rw[<-C.out];simp[q1,q7,q2])
      clear q1 q7;cases e1:(kd==1)with
      |true=>
       go_wp2_with fail
       refine(X4 s.J2 bn HN.out U.out _).mono ?_;rintro e w7 ⟨rfl,rfl⟩
       go_wp2_with fail
       all_goals
        go_meet
        case rel=>exact⟨H0 Value.bool (by rw[Q.out];simp[show¬kd<1 by omega,show¬7<kd by omega]),rfl⟩
      |false=>
       have e2:(kd==2)=true:=beq_iff_eq.2 (by have:=beq_eq_false_iff_ne.1 e1;omega)
       go_wp2_with fail
       refine(X4 s.J2 bn HN.out U.out _).mono ?_;rintro e w7 ⟨rfl,rfl⟩
       go_wp2_with fail
       all_goals
        go_meet
        case rel=>exact⟨H0 Value.bool (by rw[Q.out];simp[show¬kd<1 by omega,show¬7<kd by omega]),rfl⟩
     ·have Q:Hid (J9=false):=qh (by rw[<-C.out];simp[q1,q7,q2])
      have e1:(kd==1)=false:=beq_eq_false_iff_ne.2 (by omega);have e2:(kd==2)=false:=beq_eq_false_iff_ne.2 (by omega);clear q1 q7 q2
      go_wp2_with fail
      all_goals
       go_meet
       case rel=>exact⟨H0 Value.bool (by rw[Q.out];simp[show¬kd<1 by omega,show¬7<kd by omega]),rfl⟩
    case rest=>
     obtain⟨rfl,hw⟩:=hcut;subst hw;have HP:Hid (J9=true↔(s.I9<1\/7<s.I9\/(s.I9<=2/\R2 s.J2=false))):=qh (by
      rw[<-C.out,B.out,HN.out];cases bn<;>simp)
     cases J9 with
     |true=>
      have H3:=qh (zlf (s:=s) (left:=left) G (HP.out.1 rfl))
      go_wp2_with fail
      go_ret;exact⟨by rw[za P.out M.out (by rw[H3.out];decide),H3.out];rfl,t.out⟩
     |false=>
      have a7:Hid (¬(s.I9<1\/7<s.I9\/(s.I9<=2/\R2 s.J2=false))):=qh (λe=>H9 (HP.out.2 e) (by decide));clear HP C HN U;obtain⟨⟨c0,c1,c2,c3,d7,c5,c6,c7,c8,c9⟩,-⟩:=J5 m.out
      go_wp2_with fail
      clear c0 c1 c2 c3 d7 c5 c6 c7 c8 c9;refine(zmP (left-1) (by omega) _ (by omega) s.a Aa ca F _ (d2.out.K7 (F':=F) (λq h1 R=>⟨h1,A7 R t.out.size,t.out.block q R⟩)) y.out.Z1.2.1).mono ?_;rintro e w8 ⟨rfl,H⟩;replace m:=qh ((H.block b6 a4).trans m.out);have v:=qh (t.out.trans (H.mono t.out.size));clear H t;obtain⟨z,hz⟩: ∃z,zK s.a (left-1)=z:=⟨_,rfl⟩;rw[hz];have a8:=qh hz;clear hz
      by_cases I:z=0
      ·subst I
       have HR:=qh (zk3 G a7.out a8.out);have H:=I5 m.out
       by_cases h:kd=3\/kd=4
       ·obtain⟨zb,a9⟩: ∃z,O0 s.J0 (left-1)=z:=⟨_,rfl⟩
        have N:=qh a9;clear a9
        go_upto_region 11 with(fail)
        go_cut[57] (λu W=>u=.bool true/\W=w8)
        case first=>
         have c0:=(J5 m.out).1.1
         rcases h with hk|hk
         all_goals
          subst hk
          go_wp2_with fail
          go_meet
          case rel=>exact⟨rfl,rfl⟩
        case rest=>
         obtain⟨rfl,hw⟩:=hcut;subst hw;have c7:=(J5 m.out).1.2.2.2.2.2.2.2.1
         go_wp2_with fail
         clear c7;refine(IH.out G _ (by omega) s.J0 Ab cb F _ (d3.out.K7 (F':=F) (λq h1 R=>⟨h1,A7 R v.out.size,v.out.block q R⟩)) y.out.Z1.2.2.2.2.1 y.out.Z1.2.2.1).mono ?_;rintro e w9 ⟨rfl,O⟩;replace m:=qh ((O.block b6 H).trans m.out);have D:=qh (v.out.trans (O.mono v.out.size));clear O v;rw[N.out]
         by_cases o:zb=0
         ·subst o
          have f:Hid (xK s left=if s.I9=3 then O0 s.M9 (left-1)else 0):=qh (by rw[HR.out,B5 (λe=>e.2 N.out)]);have O:=I5 m.out;have c0:=(J5 m.out).1.1
          by_cases J:kd=3
          ·have X:Hid (xK s left=O0 s.M9 (left-1)):=qh (by rw[f.out,C8 (by rw[B.out,J])])
           subst J;have c8:=(J5 m.out).1.2.2.2.2.2.2.2.2.1
           go_wp2_with fail
           clear c0 c8;refine(IH.out G _ (by omega) s.M9 Ae ce F _ (d4.out.K7 (F':=F) (λq h1 R=>⟨h1,A7 R D.out.size,D.out.block q R⟩)) y.out.Z1.2.2.2.2.2 y.out.Z1.2.2.2.1).mono ?_;rintro e e7 ⟨rfl,S⟩;have T:=qh (D.out.trans (S.mono D.out.size));clear S;obtain⟨ze,Y⟩: ∃z,O0 s.M9 (left-1)=z:=⟨_,rfl⟩;rw[Y];have Z:=qh (X.out.trans Y);clear Y
           by_cases x:ze=0
           ·subst x
            go_wp2_with fail
            go_roundw
            case rel=>exact⟨j+1,by omega,by go_num,qh (xo P.out M.out Z.out),T⟩
            case measure=>simp[intOf];omega
           ·have e0:(ze !=0)=true:=by simpa using x
            have K:=qh x;clear x
            go_wp2_with fail
            go_ret;exact⟨by rw[za P.out M.out (by rw[Z.out];exact K.out),Z.out];rfl,T.out⟩
          ·have X:Hid (xK s left=0):=qh (by rw[f.out,B5 (by rw[B.out];exact J)])
           have e3:(kd==3)=false:=beq_eq_false_iff_ne.2 J;clear J
           go_wp2_with fail
           go_roundw
           case rel=>exact⟨j+1,by omega,by go_num,qh (xo P.out M.out X.out),D⟩
           case measure=>simp[intOf];omega
         ·have f:Hid (xK s left=zb):=qh (by rw[HR.out,C8 ⟨by rw[B.out];exact h,by rw[N.out];exact o⟩,N.out])
          have e0:(zb !=0)=true:=by simpa using o
          have K:=qh o;clear o h
          go_wp2_with fail
          go_ret;exact⟨by rw[za P.out M.out (by rw[f.out];exact K.out),f.out];rfl,D.out⟩
       ·have f:Hid (xK s left=0):=qh (by rw[HR.out,B5 (λe=>h (by rw[<-B.out];exact e.1)),B5 (λe=>h (.inl (by rw[<-B.out];exact e)))])
        have e3:(kd==3)=false:=beq_eq_false_iff_ne.2 (by omega);have e4:(kd==4)=false:=beq_eq_false_iff_ne.2 (by omega);clear h;have c0:=(J5 m.out).1.1
        go_wp2_with fail
        go_roundw
        case rel=>exact⟨j+1,by omega,by go_num,qh (xo P.out M.out f.out),v⟩
        case measure=>simp[intOf];omega
      ·have f:=qh (zk0 (s:=s) G a7.out I a8.out)
       have e0:(z !=0)=true:=by simpa using I
       have K:=qh I;clear I
       go_wp2_with fail
       go_ret;exact⟨by rw[za P.out M.out (by rw[f.out];exact K.out),f.out];rfl,v.out⟩
  ·have c4:j=l.length:=by omega
   have HF:Hid (O0 l left=0):=qh (by have:=M.out;rw[c4,F5]at this;exact this);clear c4
   go_wp2_with fail
   go_ret;exact⟨by rw[HF.out];rfl,r.out⟩
def zjp: ∀left,left<=40->zhY left:=by
 intro left
 induction left with
 |zero=>exact λh=>YP 0 h (λe=>by omega)
 |succ left a=>exact λh=>YP (left+1) h (λ_=>a (by omega))
def zdO(f)(q m:Nat)(h:jy f q=false):jy f (q+m)=false:=by
 induction m with
 |zero=>exact h
 |succ m a=>exact zfc f (q+m) a
def zbp{f}{q:Nat}(a: ¬6<f.J1.length)(b:q<=f.J1.length)(h:jy f q=false):QZ f=3:=by
 unfold QZ;rw[B5 a,C8];rw[<-JB];have:=zdO f q (f.J1.length-q) h
 rwa [show q+(f.J1.length-q)=f.J1.length by omega]at this
def zl9{f}(a: ¬6<f.J1.length)(h:jy f f.J1.length=true):QZ f=O0 f.J0 40:=by
 unfold QZ;rw[B5 a,B5 (by rw[<-JB,h];decide)]
def zhl(f)(q:Nat)(n:ByteArray)(t:Int)(a:f.J1[q]?=some n)(b:f.K4[q]?=some t)(h:jc t=false):jy f (q+1)=false:=by
 rw[ZU f q n t a b,h,Bool.and_false]
def zfe(l A)(c:Nat)(F:Nat->Prop)(w)(hA:U2 w F (.slice A l.length c) l)(hZ: ∀f∈l,FnZ f)(d2:l.length<=281474976710656):
 Calls prog 14 #[.agg #[.slice A l.length c]] w λe w'=>e=.returned (.int .i64 (U6 l))/\Below w.heap.size w w':=by
 have HA:=qh hA;have HZ:=qh hZ;clear hA hZ
 by_cases H:16<l.length
 ·have T:(16:Int)<(l.length:Int):=by omega
  go_enter func14,ntmps14
  go_wp2_with fail
  go_ret;exact⟨by unfold U6;rw[C8 H];rfl,(x8 _ _).alloc (x7 _) _⟩
 have T:(l.length:Int)<=16:=by omega
 have P:Hid (U6 l=ja l):=qh (by unfold U6;rw[B5 H]);clear H
 go_enter func14,ntmps14
 go_wp2_with fail
 go_loopw[15] (λi wr=> ∃j:Nat,j<=l.length/\i=.int .i64 j/\Hid (ja (l.take j)=0)/\Hid (Below w.heap.size w wr)) (λi _=>l.length-(intOf i).toNat)
 case atStart=>exact⟨0,D0 _,rfl,qh (by rw[List.take_zero,ja]),qh ((x8 _ _).alloc (x7 _) _)⟩
 case round=>
  obtain⟨j,hj,rfl,I,y⟩:=hrel
  by_cases a9:j<l.length
  ·obtain⟨f,hf⟩: ∃f,l[j]?=some f:=⟨_,x9 a9⟩
   obtain⟨g,m,An,cn,At,ct,Ab,cb,rfl,Q,U,V,X,J⟩:=HA.out.at j f hf;have b0:=(y.out.cell (p:=⟨g,m+j*6,none⟩) Q).trans (J 0 _ rfl);have b1:=(y.out.cell (p:=⟨g,m+j*6+1,none⟩) Q).trans (J 1 _ rfl);have b2:=(y.out.cell (p:=⟨g,m+j*6+2,none⟩) Q).trans (J 2 _ rfl);have b3:=(y.out.cell (p:=⟨g,m+j*6+3,none⟩) Q).trans (J 3 _ rfl);have b4:=(y.out.cell (p:=⟨g,m+j*6+4,none⟩) Q).trans (J 4 _ rfl);have b5:=(y.out.cell (p:=⟨g,m+j*6+5,none⟩) Q).trans (J 5 _ rfl);have Y:f∈l:=B7 hf;have R:=qh hf;have b7:=qh U;have b8:=qh V;have b9:=qh X;have d:=qh (HZ.out f Y);clear hf U V X J Y;have k0:(0:Int)<=(j:Int):=by omega
   have k1:(j:Int)<(l.length:Int):=by omega
   go_upto_region 6 with(fail)
   clear b0 b1 b2 b3 b4 b5;have a:=qh (y.out.alloc y.out.size (.cells #[.string f.J2,.slice An f.J1.length cn,.slice At f.K4.length ct,.int .i64 f.out,.slice Ab f.J0.length cb,.int .i64 f.pos] 32));have Z:=qh (A5 wr (.cells #[.string f.J2,.slice An f.J1.length cn,.slice At f.K4.length ct,.int .i64 f.out,.slice Ab f.J0.length cb,.int .i64 f.pos] 32));generalize wr.alloc _=wa at a Z|-;have c6:=I5 Z.out;generalize wr.heap.size=b6 at Z c6|-;have d3:=d.out.zkt;have d4:=d.out.zm8;have d5:=d.out.zej;obtain⟨⟨c0,c1,c2,c3,c4,c5⟩,-⟩:=M6 Z.out
   by_cases h6:6<f.J1.length
   ·have c7:(6:Int)<(f.J1.length:Int):=by omega
    have e:QZ f=2:=by unfold QZ;rw[C8 h6]
    have h:=qh e;clear e h6
    go_wp2_with fail
    go_ret;exact⟨by rw[P.out,jS R.out I.out (by rw[h.out];decide),h.out];rfl,a.out⟩
   have c7:(f.J1.length:Int)<=6:=by omega
   have H6:=qh h6;clear h6;obtain⟨bn,r⟩: ∃b,R2 f.J2=b:=⟨_,rfl⟩;have k:=qh r;have s:=qh d.out.J2;clear r;obtain⟨ho,a0⟩: ∃b,jy f 0=b:=⟨_,rfl⟩;have o:=qh a0;clear a0
   go_upto_region 8 with(fail)
   go_cut[45] (λu W=>u=.bool (!ho)/\W=wa)
   case first=>
    have HX:Hid (ho=(decide (f.J1.length=f.K4.length)&&bn&&jc f.out)):=qh (by rw[<-o.out,yk,<-k.out];rfl)
    by_cases hl:f.J1.length=f.K4.length
    ·have e1:((f.J1.length:Int) !=(f.K4.length:Int))=false:=by simp;omega
     have K:=qh hl;clear hl;cases bn with
     |false=>
      go_wp2_with fail
      refine(X4 f.J2 false k.out s.out _).mono ?_;rintro e L ⟨rfl,rfl⟩
      go_wp2_with fail
      all_goals
       go_meet
       case rel=>exact⟨H0 Value.bool (by rw[HX.out];simp),rfl⟩
     |true=>
      cases v:(f.out !=1)with
      |false=>
       go_wp2_with fail
       refine(X4 f.J2 true k.out s.out _).mono ?_;rintro e L ⟨rfl,rfl⟩
       go_wp2_with fail
       all_goals
        go_meet
        case rel=>exact⟨H0 Value.bool (by rw[HX.out];have:f.out=1:=(by simpa using v);simp[jc,this,K.out]),rfl⟩
      |true=>
       cases x:(f.out !=2)with
       |false=>
        go_wp2_with fail
        refine(X4 f.J2 true k.out s.out _).mono ?_;rintro e L ⟨rfl,rfl⟩
        go_wp2_with fail
        all_goals
         go_meet
         case rel=>exact⟨H0 Value.bool (by rw[HX.out];have:f.out=2:=(by simpa using x);simp[jc,this,K.out]),rfl⟩
       |true=>
        go_wp2_with fail
        refine(X4 f.J2 true k.out s.out _).mono ?_;rintro e L ⟨rfl,rfl⟩
        go_wp2_with fail
        all_goals
         go_meet
         case rel=>exact⟨H0 Value.bool (by rw[HX.out];have B: ¬f.out=1:=(by simpa using v);have S: ¬f.out=2:=(by simpa using x);simp[jc,B,S]),rfl⟩
    ·have e1:((f.J1.length:Int) !=(f.K4.length:Int))=true:=by simp;omega
     have K:=qh hl;clear hl
     go_wp2_with fail
     all_goals
      go_meet
      case rel=>exact⟨H0 Value.bool (by rw[HX.out];simp[K.out]),rfl⟩
   case rest=>
    obtain⟨rfl,hw⟩:=hcut;subst hw;clear k s;cases ho with
    |false=>
     have h:=qh (zbp H6.out (D0 _) o.out)
     go_wp2_with fail
     go_ret;exact⟨by rw[P.out,jS R.out I.out (by rw[h.out];decide),h.out];rfl,a.out⟩
    |true=>
     have K:Hid (f.J1.length=f.K4.length):=qh (by
      have:=o.out;rw[yk]at this;unfold xX at this;simp only[F3,F1]at this;exact this.1.1)
     have G:(f.K4.length:Int)=(f.J1.length:Int):=by have:=K.out;omega
     have c8:=qh G;clear G
     go_upto_block 2 with(fail)
     go_cut[] (λW=>Hid (jy f f.J1.length=true)/\W=wc)
     case first=>
      go_wp2_with fail
      go_loopw[49] (λi wq=> ∃q:Nat,q<=f.J1.length/\i=.int .i64 q/\Hid (jy f q=true)/\wq=wc) (λi _=>f.J1.length-(intOf i).toNat)
      case atStart=>exact⟨0,D0 _,rfl,o,rfl⟩
      case round=>
       clear o;obtain⟨q,hq,rfl,o,hw⟩:=hrel;subst hw
       by_cases a1:q<f.J1.length
       ·obtain⟨n,hn⟩: ∃n,f.J1[q]?=some n:=⟨_,x9 a1⟩
        obtain⟨t,ht⟩: ∃t,f.K4[q]?=some t:=⟨_,x9 (by have:=K.out;omega)⟩;obtain⟨gn,on,rfl,a2,a3⟩:=b7.out.at q n hn;obtain⟨gt,ot,rfl,a4,a5⟩:=b8.out.at q t ht;have kn:=(a.out.cell (p:=⟨gn,on+q,none⟩) a2).trans a3;have kt:=(a.out.cell (p:=⟨gt,ot+q,none⟩) a4).trans a5;have C:=qh hn;have M:=qh ht;have D:=qh (d.out.J1 n (B7 hn));clear a3 a5 hn ht a2 a4;have q0:(0:Int)<=(q:Int):=by omega
        have q1:(q:Int)<(f.J1.length:Int):=by omega
        have q2:(q:Int)<(f.K4.length:Int):=by have:=c8.out;omega
        obtain⟨bn,r⟩: ∃b,R2 n=b:=⟨_,rfl⟩;have k:=qh r;clear r;cases bn with
        |false=>
         have h:=qh (zbp H6.out (q:=q+1) (by omega) (zbe f q n C.out k.out))
         go_wp2_with fail
         refine(X4 n false k.out D.out _).mono ?_;rintro e L ⟨rfl,rfl⟩
         go_wp2_with fail
         go_ret;exact⟨by rw[P.out,jS R.out I.out (by rw[h.out];decide),h.out];rfl,a.out⟩
        |true=>
         cases v:(t !=1)with
         |false=>
          have N:Hid (jy f (q+1)=true):=qh (by
           have B:t=1:=by simpa using v
           rw[ZU f q n t C.out M.out,o.out,k.out];simp[jc,B])
          go_wp2_with fail
          refine(X4 n true k.out D.out _).mono ?_;rintro e L ⟨rfl,rfl⟩
          go_wp2_with fail
          go_roundw
          case rel=>(repeat apply Exists.intro);exact⟨⟨q+1,by omega,by go_num,N,trivial⟩,rfl⟩
          case measure=>simp[intOf];omega
         |true=>
          cases x:(t !=2)with
          |false=>
           have N:Hid (jy f (q+1)=true):=qh (by
            have B:t=2:=by simpa using x
            rw[ZU f q n t C.out M.out,o.out,k.out];simp[jc,B])
           go_wp2_with fail
           refine(X4 n true k.out D.out _).mono ?_;rintro e L ⟨rfl,rfl⟩
           go_wp2_with fail
           go_roundw
           case rel=>(repeat apply Exists.intro);exact⟨⟨q+1,by omega,by go_num,N,trivial⟩,rfl⟩
           case measure=>simp[intOf];omega
          |true=>
           have h:=qh (zbp H6.out (q:=q+1) (by omega) (zhl f q n t C.out M.out (by
            have B: ¬t=1:=by simpa using v
            have S: ¬t=2:=by simpa using x
            simp[jc,B,S])))
           go_wp2_with fail
           refine(X4 n true k.out D.out _).mono ?_;rintro e L ⟨rfl,rfl⟩
           go_wp2_with fail
           go_ret;exact⟨by rw[P.out,jS R.out I.out (by rw[h.out];decide),h.out];rfl,a.out⟩
       ·have c9:q=f.J1.length:=by omega
        subst c9
        go_wp2_with fail
        go_meet
        case rel=>exact⟨o,rfl⟩
     case rest=>
      clear o;obtain⟨o,hw⟩:=hcut;subst hw;have h:=qh (zl9 H6.out o.out);have d0:_:=(M6 Z.out).1.2.2.2.2.1;clear c0 c1 c2 c3 c4 c5
      go_wp2_with fail
      clear d0;refine(zjp 40 (by decide) 40 rfl f.J0 Ab cb F _ (b9.out.K7 (F':=F) (λq B S=>⟨B,A7 S a.out.size,a.out.block q S⟩)) d.out.J0 d.out.zej).mono ?_;rintro e w8 ⟨rfl,a6⟩;have a7:=qh (a.out.trans (a6.mono a.out.size));clear a6;obtain⟨z,hz⟩: ∃z,O0 f.J0 40=z:=⟨_,rfl⟩;rw[hz];have O:=qh (h.out.trans hz);clear hz
      by_cases E:z=0
      ·subst E
       go_wp2_with fail
       go_roundw
       case rel=>exact⟨j+1,by omega,by go_num,qh (zaG R.out I.out O.out),a7⟩
       case measure=>simp[intOf];omega
      ·have e0:(z !=0)=true:=by simpa using E
       have d1:=qh E;clear E
       go_wp2_with fail
       go_ret;exact⟨by rw[P.out,jS R.out I.out (by rw[O.out];exact d1.out),O.out];rfl,a7.out⟩
  ·have a8:j=l.length:=by omega
   have h:Hid (ja l=0):=qh (by have:=I.out;rw[a8,F5]at this;exact this);clear a8
   go_wp2_with fail
   go_ret;exact⟨by rw[P.out,h.out];rfl,y.out⟩
def JQ: ∀l:List Fn,ja l=0-> ∀f∈l,QZ f=0:=by
 intro l
 induction l with
 |nil=>intro _ f a;cases a
 |cons g l c=>
  intro h f a;rw[ja]at h
  split at h
  ·rename_i b
   rcases List.mem_cons.1 a with rfl|a
   ·exact b
   ·exact c h f a
  ·rename_i b;exact H9 h b
def zA{us}(h:U6 us=0):us.length<=16/\ ∀f∈us,f.J1.length=f.K4.length/\f.J1.length<=6/\jc f.out=true/\(∀t∈f.K4,jc t=true)/\O0 f.J0 40=0:=by
 unfold U6 at h
 by_cases b:16<us.length
 ·rw[C8 b]at h;cases h
 rw[B5 b]at h;refine⟨by omega,λf e=>?_⟩;have a:=JQ us h f e;unfold QZ at a
 by_cases d:6<f.J1.length
 ·rw[C8 d]at a;cases a
 rw[B5 d]at a
 split at a
 ·cases a
 ·rename_i c
  simp only[Bool.not_eq_false,F3,F1,G0]at c;exact⟨c.1.1.1.1,by omega,c.1.1.2,c.2,a⟩
def Qt(us:List Fn)(j:Nat):Prop:= ∀(m:Nat)(f:Fn),m<j->us[m]?=some f->S3 (us.take m) f.J2=none
def zgb{α}(p)(l:List α):(l.find? p).isSome=l.any p:=by
 induction l with
 |nil=>rfl
 |cons a l b=>rw[List.find?_cons,List.any_cons];cases h:p a<;>simp[b]
def Xi(l)(s:ByteArray):(S3 l s).isSome=(l.reverse.map Fn.J2).any (λn=>decide (n=s)):=by
 unfold S3;rw[List.any_map,List.any_reverse,zgb];rfl
def zc2{us}: ∀j:Nat,j<=us.length->Qt us j->yO [] us=yO ((us.take j).reverse.map Fn.J2) (us.drop j):=by
 intro j
 induction j with
 |zero=>intro _ _;simp
 |succ j c=>
  intro e h;have a:j<us.length:=by omega
  rw[c (by omega) (λm f g=>h m f (by omega)),F8 a,yO];have d:=h j us[j] (by omega) (x9 a);have b:=Xi (us.take j) us[j].J2;rw[d]at b;rw[B5 (by rw[<-b];decide),P0 (x9 a),List.reverse_append,List.map_append];rfl
def zco{us}{j:Nat}{f}(b:us[j]?=some f)(h:Qt us j)(c:(S3 (us.take j) f.J2).isSome=true):yO [] us=some f.pos:=by
 have a:=(List.getElem?_eq_some_iff.1 b).1;have e:us[j]=f:=(List.getElem?_eq_some_iff.1 b).2;rw[zc2 j (by omega) h,F8 a,yO,e,C8 (by rw[<-Xi];exact c)]
def zcP{us}(h:Qt us us.length):yO [] us=none:=by
 rw[zc2 us.length (x7 _) h,List.drop_length];rfl
def Qt.next{us}{j:Nat}{f}(h:Qt us j)(d:us[j]?=some f)(b:(S3 (us.take j) f.J2).isSome=false):Qt us (j+1):=by
 intro m g i a
 rcases E0 m j with c|c
 ·exact h m g c a
 ·obtain rfl:m=j:=by omega
  rw[d]at a;obtain rfl:=F6 a;cases e:S3 (us.take m) f.J2 with
  |none=>rfl
  |some y=>rw[e]at b;cases b
def zcT{us:List Fn}{j:Nat}{f:Fn}(a:us[j]?=some f):(us.take (j+1)).any zg=((us.take j).any zg||zg f):=by
 rw[P0 a,List.any_append];simp
def zcA(us a b):xi us (a++b)=match xi us a with|.ok _=>xi us b|.J9 q e=>.J9 q e:=by
 induction a with
 |nil=>rfl
 |cons f a c=>simp only[B6,xi];cases JM us f with
  |ok _=>exact c
  |J9 q e=>rfl
def zaO{us l:List Fn}{j:Nat}{f:Fn}(a:l[j]?=some f)(h:xi us (l.take j)=.ok ())(b:JM us f=.ok ()):xi us (l.take (j+1))=.ok ():=by
 rw[P0 a,zcA,h];simp only[xi,b]
def ym{us l}{j:Nat}{f}{q e:Int}(c:l[j]?=some f)(h:xi us (l.take j)=.ok ())(a:JM us f=.J9 q e):xi us l=.J9 q e:=by
 have b:=(List.getElem?_eq_some_iff.1 c).1;have d:l=l.take j++f::l.drop (j+1):=by
  have a:=List.take_append_drop j l;rw[F8 b]at a;rw[(List.getElem?_eq_some_iff.1 c).2]at a;exact a.symm
 rw[d,zcA,h];simp only[xi,a]
def zcn(p:Int): ∀a c b d env(m:Nat),a.length=c.length->zy p (a++b) (c++d) env m=match zy p a c env m with|.ok (e,n)=>zy p b d e n|.J9 q e=>.J9 q e:=by
 intro a
 induction a with
 |nil=>intro c b d env m h;cases c with
  |nil=>rfl
  |cons=>simp at h
 |cons n a f=>
  intro c b d env m h;cases c with
  |nil=>simp at h
  |cons t c=>
   simp only[B6,zy];cases Y4 env m p n t with
   |J9 q e=>rfl
   |ok z=>obtain⟨g,i⟩:=z;exact f c b d g i (by simpa using h)
def Xm{p:Int}{a:List ByteArray}{ts:List Int}{k:Nat}{n:ByteArray}{t:Int}{env:P1}{m:Nat}(b:a[k]?=some n)(c:ts[k]?=some t)(h:zy p (a.take k) (ts.take k) [] 0=.ok (env,m)):zy p (a.take (k+1)) (ts.take (k+1)) [] 0=Y4 env m p n t:=by
 have d:=(List.getElem?_eq_some_iff.1 b).1;have f:=(List.getElem?_eq_some_iff.1 c).1;rw[P0 b,P0 c,zcn _ _ _ _ _ _ _ (by simp;omega),h];simp only[zy];cases Y4 env m p n t with
 |J9 q e=>rfl
 |ok z=>rfl
def zcM{p:Int}{a:List ByteArray}{ts:List Int}{k:Nat}{n:ByteArray}{t:Int}{env:P1}{m:Nat}{q e:Int}(b:a[k]?=some n)(c:ts[k]?=some t)(h:zy p (a.take k) (ts.take k) [] 0=.ok (env,m))(f:Y4 env m p n t=.J9 q e):zy p a ts [] 0=.J9 q e:=by
 have d:=Xm b c h;rw[f]at d;have g:=List.take_append_drop (k+1) a;have i:=List.take_append_drop (k+1) ts;have j:=(List.getElem?_eq_some_iff.1 b).1;have l:=(List.getElem?_eq_some_iff.1 c).1;rw[<-g,<-i,zcn _ _ _ _ _ _ _ (by simp;omega),d]
def zcD{p:Int}: ∀b ts env a(m c:Nat),(∀t∈ts,jc t=true)->U7 env->env.length=m->m<=64->zy p b ts env m=.ok (a,c)->U7 a/\a.length=c/\c<=64:=by
 intro b
 induction b with
 |nil=>intro ts env a m c _ f i j h;rw[zy]at h;injection h with h;injection h with k d;subst k d;exact⟨f,i,j⟩;intro n b t ts e;cases e
 |cons n b r=>
  intro ts env a m c o f i j h;cases ts with
  |nil=>rw[zy]at h;injection h with h;injection h with k d;subst k d;exact⟨f,i,j⟩;intro n b t ts e s;cases s
  |cons t ts=>
   rw[zy]at h;cases g:Y4 env m p n t with
   |J9 q e=>rw[g]at h;cases h
   |ok z=>
    obtain⟨u,v⟩:=z;rw[g]at h;have d:=f.Y4 (Jy.1 (o t (B2 ..))) g;obtain⟨rfl,w,rfl,-⟩:=xh g;exact r ts _ a _ c (λt l=>o t (x5 _ l)) d (by simp;omega) (by omega) h
def ze8{us:List Fn}{f:Fn}{q e:Int}(h:zy f.pos f.J1 f.K4 [] 0=.J9 q e):JM us f=.J9 q e:=by unfold JM;rw[h]
def zdd{us:List Fn}{f:Fn}{env:P1}{m:Nat}(h:zy f.pos f.J1 f.K4 [] 0=.ok (env,m)):JM us f=match zS us f.out f.J0 env m with|.J9 q e=>.J9 q e|.ok (_,r)=>if r then .ok ()else .J9 f.pos 3:=by unfold JM;rw[h];rfl
def U2.take{w}{F:Nat->Prop}{A}{c:Nat}{us}(h:U2 w F (.slice A us.length c) us)(j:Nat)(t:j<=us.length):U2 w F (.slice A (us.take j).length c) (us.take j):=by
 rcases h with⟨a,u,e,rfl⟩|⟨g,d,i,l,m,n,e,o,p,q⟩
 ·exact .inl ⟨A,c,by simp,by simp⟩
 ·injection e with r v s
  subst r s;refine .inr ⟨g,d,c,l,m,n,rfl,o,p,λk f b=>q k f ?_⟩;rw[List.getElem?_take]at b
  split at b
  ·exact b
  ·cases b
def zi8(p)(s:ByteArray)(A)(c:Nat)(F:Nat->Prop)(us w)(k:U2 w F (.slice A us.length c) us)(l:zd0 63 p s w)(q:us.length<=281474976710656):
 Calls prog 62 #[.slice A us.length c,.func (.func 63) #[] #[.pointer (some p)]] w λe w'=>e=.returned (.bool (S3 us s).isSome)/\Below w.heap.size w w':=by
 have r:=qh (zkb p s A c F us w k l q);clear k l
 go_enter func62,ntmps62
 go_wp2_with fail
 refine r.out.mono ?_;rintro e u ⟨z,rfl,m,a⟩;have b:=qh a;have n:=qh m;clear a m
 by_cases o:0<=z
 ·have h:=qh o
  go_wp2_with fail
  go_ret;refine⟨?_,b.out⟩
  rcases n.out with⟨i,f,g,d,t⟩|⟨g,d⟩
  ·rw[d];rfl
  ·have:=h.out;omega
 ·have j:z<0:=by omega
  have h:=qh j;clear o
  go_wp2_with fail
  go_ret;refine⟨?_,b.out⟩
  rcases n.out with⟨i,f,g,d,t⟩|⟨g,d⟩
  ·have:=h.out;omega
  ·subst d
   rw[g];rfl
def Qi(f):zg f=(decide (f.J2=Yn)&&decide (f.J1.length=0)&&decide (f.out=1)):=rfl
def zbI{us:List Fn}(h:U6 us≠0):S4 us=(0,U6 us):=by unfold S4;rw[C8 h]
def XS{us:List Fn}{p:Int}(h:U6 us=0)(a:yO [] us=some p):S4 us=(p,5):=by unfold S4;rw[B5 (λe=>e h),a]
def zbJ{us:List Fn}(h:U6 us=0)(a:yO [] us=none)(b:us.any zg=false):S4 us=(0,16):=by unfold S4;rw[B5 (λe=>e h),a];simp only;rw[C8 b]
def yE{us:List Fn}{p e:Int}(h:U6 us=0)(a:yO [] us=none)(b:us.any zg=true)(c:xi us us=.J9 p e):S4 us=(p,e):=by unfold S4;rw[B5 (λe=>e h),a];simp only;rw[B5 (by rw[b];decide),c]
def zbs{us:List Fn}(h:U6 us=0)(a:yO [] us=none)(b:us.any zg=true)(c:xi us us=.ok ()):S4 us=(0,0):=by unfold S4;rw[B5 (λe=>e h),a];simp only;rw[B5 (by rw[b];decide),c]
structure FrK(w W:World)(b1 bp be:Nat)(A:Option Addr)(n c:Nat):Prop where
 un:W.heap[b1]?=some (.cells #[.slice A n c] 24 (0,0))
 pp:W.heap[bp]?=some (.cells #[.int .i64 0] 3 (0,0))
 ee:W.heap[be]?=some (.cells #[.int .i64 0] 25 (0,0))
 M1:Below w.heap.size w W
 gl:O4 W
section
variable {w W W':World}{b1 bp be:Nat}{A:Option Addr}{n c:Nat}
theorem FrK.below{B:Nat}(h:FrK w W b1 bp be A n c)(a:Below B W W')(b:w.heap.size<=B)(d:b1<B)(e:bp<B)(f:be<B)(i:10<B):FrK w W' b1 bp be A n c:=
 ⟨(a.block b1 d).trans h.un,(a.block bp e).trans h.pp,(a.block be f).trans h.ee,h.M1.trans (a.mono b),h.gl.Z3 a.size (λg j=>a.block g (by omega)),⟩
theorem FrK.later(h:FrK w W b1 bp be A n c)(a:Below W.heap.size W W'):FrK w W' b1 bp be A n c:=
 ⟨(a.block b1 (I5 h.un)).trans h.un,(a.block bp (I5 h.pp)).trans h.pp,(a.block be (I5 h.ee)).trans h.ee,h.M1.trans (a.mono h.M1.size),h.gl.to a⟩
end
theorem zg0(us A)(c:Nat)(F0:Nat->Prop)(w)(hU:U2 w F0 (.slice A us.length c) us)(hZ: ∀f∈us,FnZ f)(d4:us.length<=281474976710656)(o3:us.length<=c)(hG:O4 w):
 Calls prog 17 #[.agg #[.slice A us.length c]] w λe w'=>CkR w us e w':=by
 have f8:=hG.xM;obtain⟨F,d7⟩: ∃F:Nat->Prop,F=λg=>F0 g/\g<w.heap.size:=⟨_,rfl⟩
 have d8:U2 w F (.slice A us.length c) us:=hU.K7 (λg h1 Y=>⟨by rw[d7];exact⟨h1,Y⟩,Y,rfl⟩);have g9: ∀g,F g->g<w.heap.size:=λg Z=>by rw[d7]at Z;exact Z.2
 have HU:=qh d8;have l3:=qh g9;have HZ:=qh hZ;have HG:=qh hG;have a6:Below w.heap.size w (((w.alloc (.cells #[.slice A us.length c] 24)).alloc (.cells #[.int .i64 0] 3)).alloc (.cells #[.int .i64 0] 25)):=(((x8 _ _).alloc (x7 _) _).alloc (by simp) _).alloc (by simp;omega) _;have WC:=qh (zfe us A c F (((w.alloc (.cells #[.slice A us.length c] 24)).alloc (.cells #[.int .i64 0] 3)).alloc (.cells #[.int .i64 0] 25)) (d8.K7 (λg h1 Y=>⟨h1,A7 Y a6.size,a6.block g Y⟩)) hZ d4);have h0:(((w.alloc (.cells #[.slice A us.length c] 24)).alloc (.cells #[.int .i64 0] 3)).alloc (.cells #[.int .i64 0] 25)).heap[w.heap.size]?=some (.cells #[.slice A us.length c] 24 (0,0)):=(C4 _ _ (by simp;omega)).trans ((C4 _ _ (by simp)).trans (A5 w _));have h4:(((w.alloc (.cells #[.slice A us.length c] 24)).alloc (.cells #[.int .i64 0] 3)).alloc (.cells #[.int .i64 0] 25)).heap[w.heap.size+1]?=some (.cells #[.int .i64 0] 3 (0,0)):=(C4 _ _ (by simp)).trans (by simpa using A5 (w.alloc (.cells #[.slice A us.length c] 24)) (.cells #[.int .i64 0] 3));have h5:(((w.alloc (.cells #[.slice A us.length c] 24)).alloc (.cells #[.int .i64 0] 3)).alloc (.cells #[.int .i64 0] 25)).heap[w.heap.size+2]?=some (.cells #[.int .i64 0] 25 (0,0)):=by simpa using A5 ((w.alloc (.cells #[.slice A us.length c] 24)).alloc (.cells #[.int .i64 0] 3)) (.cells #[.int .i64 0] 25)
 have o5: ∀(fn:Go.Fn)(first h6:Array Value)(w:World),(Instr.makeFunc fn first h6).run prog w=.ok (.func fn first h6) w:=λ_ _ _ _=>rfl
 have b2:=qh (FrK.mk h0 h4 h5 a6 (hG.to a6):FrK w (((w.alloc (.cells #[.slice A us.length c] 24)).alloc (.cells #[.int .i64 0] 3)).alloc (.cells #[.int .i64 0] 25)) w.heap.size (w.heap.size+1) (w.heap.size+2) A us.length c);have c2:(((w.alloc (.cells #[.slice A us.length c] 24)).alloc (.cells #[.int .i64 0] 3)).alloc (.cells #[.int .i64 0] 25)).heap.size=w.heap.size+3:=by simp
 clear hU d8 g9 hZ hG d7 h0 h4 h5
 go_enter_defers func17,ntmps17
 go_upto_region 1 with(fail)
 generalize((w.alloc _).alloc _).alloc _=w0 at WC b2 c2 a6|-;obtain⟨b1,d9⟩: ∃b,w.heap.size=b:=⟨_,rfl⟩;obtain⟨bp,e0⟩: ∃b,w.heap.size+1=b:=⟨_,rfl⟩;obtain⟨be,h7⟩: ∃b,bp+1=b:=⟨_,rfl⟩;rw[e0,show w.heap.size+2=be by omega,d9]at b2;simp only[e0];simp only[h7];simp only[d9];have n1:b1<bp:=by omega
 have n2:bp<be:=by omega
 have n3:be<w0.heap.size:=by omega
 have n0:10<b1:=by omega
 have o6:w.heap.size<=b1:=by omega
 have o7:b1<=w.heap.size:=by omega
 clear e0 h7 d9 c2 f8;have c1:w0.cell? ⟨b1,0,none⟩=some (.slice A us.length c):=x6 b2.out.un 0
 go_wp2_with fail
 refine WC.out.mono ?_;rintro e w1 ⟨rfl,H⟩;have P:=qh (b2.out.later H);have l4:=H.size;clear c1 H WC b2 a6
 by_cases V:U6 us=0
 case neg=>
  obtain⟨z,hz⟩: ∃z,U6 us=z:=⟨_,rfl⟩;rw[hz]at V|-;have e1:(z !=0)=true:=by simpa using V
  have l5:Hid (S4 us=(0,z)):=qh (by rw[zbI (by rw[hz];exact V),hz]);clear V hz;have cp:w1.cell? ⟨bp,0,none⟩=some (.int .i64 0):=x6 P.out.pp 0;have fp:w1.frozen? ⟨bp,0,none⟩=false:=B4 P.out.pp 0;have ce:w1.cell? ⟨be,0,none⟩=some (.int .i64 0):=x6 P.out.ee 0;have fe:w1.frozen? ⟨be,0,none⟩=false:=B4 P.out.ee 0;have m2:bp≠be:=by omega
  go_wp2_with fail
  obtain⟨H,g2,g3⟩:=zhp P.out.M1 (by omega) n2 P.out.pp P.out.ee 0 z;exact Yd rfl rfl g2 g3 H l5.out
 case pos=>
 rw[V];have a7:=qh V;have o8:=(zA V).1;have h8:=qh (zA V).2;clear V;have c1:w1.cell? ⟨b1,0,none⟩=some (.slice A us.length c):=x6 P.out.un 0
 go_wp2_with fail
 clear c1
 go_loopw[5,22] (λu i wr=> ∃j:Nat,j<=us.length/\i=.int .i64 j/\u=.bool ((us.take j).any zg)/\Hid (Qt us j)/\Hid (FrK w wr b1 bp be A us.length c)/\w0.heap.size<=wr.heap.size) (λ_ i _=>us.length-(intOf i).toNat)
 case atStart=>exact⟨0,D0 _,rfl,rfl,qh (λm f h=>H9 h (Nat.not_lt_zero m)),P,l4⟩
 case round=>
  clear P;obtain⟨j,hj,rfl,rfl,HN,B,b3⟩:=hrel
  by_cases e4:j<us.length
  ·obtain⟨f,hf⟩: ∃f,us[j]?=some f:=⟨_,x9 e4⟩
   obtain⟨g,o,An,cn,At,ct,Ab,D,rfl,Z,c4,c5,c6,hc⟩:=HU.out.at j f hf;have q0:=(B.out.M1.cell (p:=⟨g,o+j*6,none⟩) Z).trans (hc 0 _ rfl);have q1:=(B.out.M1.cell (p:=⟨g,o+j*6+1,none⟩) Z).trans (hc 1 _ rfl);have q2:=(B.out.M1.cell (p:=⟨g,o+j*6+2,none⟩) Z).trans (hc 2 _ rfl);have q3:=(B.out.M1.cell (p:=⟨g,o+j*6+3,none⟩) Z).trans (hc 3 _ rfl);have q4:=(B.out.M1.cell (p:=⟨g,o+j*6+4,none⟩) Z).trans (hc 4 _ rfl);have q5:=(B.out.M1.cell (p:=⟨g,o+j*6+5,none⟩) Z).trans (hc 5 _ rfl);have HS:=qh hf;have o9:=(HZ.out f (B7 hf)).zkt;have H:=(x8 wr.heap.size wr).alloc (x7 _) (.cells #[.string f.J2,.slice An f.J1.length cn,.slice At f.K4.length ct,.int .i64 f.out,.slice Ab f.J0.length D,.int .i64 f.pos] 32);have E:=qh (B.out.later H);have HX:=qh (A5 wr (.cells #[.string f.J2,.slice An f.J1.length cn,.slice At f.K4.length ct,.int .i64 f.out,.slice Ab f.J0.length D,.int .i64 f.pos] 32));have I:=I5 HX.out;have c7:w0.heap.size<=(wr.alloc (.cells #[.string f.J2,.slice An f.J1.length cn,.slice At f.K4.length ct,.int .i64 f.out,.slice Ab f.J0.length D,.int .i64 f.pos] 32)).heap.size:=C1 b3 H.size;have h9:(us.take j).length=j:=by simp;omega
   have i3:=(HU.out.take j (by omega)).K7 (F':=F) (w':=wr.alloc (.cells #[.string f.J2,.slice An f.J1.length cn,.slice At f.K4.length ct,.int .i64 f.out,.slice Ab f.J0.length D,.int .i64 f.pos] 32)) (λq h1 Y=>⟨h1,A7 Y E.out.M1.size,E.out.M1.block q Y⟩);have i4:(wr.alloc (.cells #[.string f.J2,.slice An f.J1.length cn,.slice At f.K4.length ct,.int .i64 f.out,.slice Ab f.J0.length D,.int .i64 f.pos] 32)).cell? ⟨wr.heap.size,0,none⟩=some (.string f.J2):=x6 HX.out 0;have hD:=zi8 ⟨wr.heap.size,0,none⟩ f.J2 (some ⟨g,o,none⟩) c F (us.take j) _ i3 (ziT wr.heap.size f.J2 _ I i4) (by omega);rw[h9]at hD;obtain⟨d,J⟩: ∃d,(S3 (us.take j) f.J2).isSome=d:=⟨_,rfl⟩;rw[J]at hD;have HD:=qh hD;have i5:=qh J;have k0:(0:Int)<=(j:Int):=by omega
   have k1:(j:Int)<(us.length:Int):=by omega
   have k2:(j:Int)<=(c:Int):=by omega
   clear hf c4 c5 c6 hc H i3 hD J i4 h9 Z
   go_upto_region 9 with(fail)
   clear q0 q1 q2 q3 q4 q5;generalize wr.alloc _=wa at E HX HD I c7|-;generalize wr.heap.size=bf at HX HD I|-;have c1:wa.cell? ⟨b1,0,none⟩=some (.slice (some ⟨g,o,none⟩) us.length c):=x6 E.out.un 0
   go_wp2_with fail
   refine HD.out.mono ?_;rintro e w2 ⟨rfl,c8⟩;have a1:=qh (E.out.later c8);have l6:=qh ((c8.block _ I).trans HX.out);have b4:w0.heap.size<=w2.heap.size:=by have:=c8.size;omega
   clear c8 c1 HD HX E I;obtain⟨⟨q0,q1,q2,q3,q4,q5⟩,-⟩:=M6 l6.out;cases d with
   |true=>
    have M:=qh (XS a7.out (zco HS.out HN.out i5.out))
    go_wp2_with fail
    refine leaves_cons (f:=61) (args:= #[.pointer (some ⟨bp,0,none⟩),.pointer (some ⟨be,0,none⟩)]) (by simp) (by simp[go_sem]) ?_;refine(yL bp be 0 0 _ _ [] w2 a1.out.pp a1.out.ee n2).mono ?_;rintro e u' w' ⟨rfl,rfl,H,g2,g3⟩;simp only[settle,List.dropWhile_nil];exact Yd rfl rfl g2 g3 ((a1.out.M1).trans (H.mono (by omega))) (M.out)
   |false=>
    have b5:=qh (HN.out.next HS.out i5.out);have a8:=qh (zcT HS.out);obtain⟨mb,a9⟩: ∃b,(us.take j).any zg=b:=⟨_,rfl⟩;rw[a9]at a8|-;clear a9;have i6:(f.J2.toList==[109,97,105,110])=decide (f.J2=Yn):=by
     rw[Jj];refine decide_eq_decide.2 ⟨λh=>?_,λh=>by rw[h];rfl⟩;rw[<-YG f.J2,h];rfl
    have i7:=qh (Qi f);cases mb with
    |true=>
     clear i6
     go_wp2_with fail
     go_roundw
     case rel=>exact⟨j+1,by omega,by go_num,by rw[a8.out];rfl,b5,a1,b4⟩
     case measure=>simp[intOf];omega
    |false=>
     obtain⟨d1,h1⟩: ∃d,decide (f.J2=Yn)=d:=⟨_,rfl⟩;obtain⟨d2,Y⟩: ∃d,decide (f.J1.length=0)=d:=⟨_,rfl⟩;obtain⟨d3,h3⟩: ∃d,decide (f.out=1)=d:=⟨_,rfl⟩;have e2:((f.J1.length:Int)==0)=d2:=by rw[<-Y];by_cases h:f.J1.length=0<;>simp[h]
     have e3:(f.out==1)=d3:=by rw[<-h3];by_cases h:f.out=1<;>simp[h]
     rw[h1]at i6;have c9:Hid (zg f=(d1&&d2&&d3)):=qh (by rw[i7.out,h1,Y,h3]);clear h1 Y h3 i7;cases d1 with
     |false=>
      go_wp2_with fail
      go_roundw
      case rel=>exact⟨j+1,by omega,by go_num,by rw[a8.out,c9.out];rfl,b5,a1,b4⟩
      case measure=>simp[intOf];omega
     |true=>
      cases d2 with
      |false=>
       go_wp2_with fail
       go_roundw
       case rel=>exact⟨j+1,by omega,by go_num,by rw[a8.out,c9.out];rfl,b5,a1,b4⟩
       case measure=>simp[intOf];omega
      |true=>
       cases d3 with
       |false=>
        go_wp2_with fail
        go_roundw
        case rel=>exact⟨j+1,by omega,by go_num,by rw[a8.out,c9.out];rfl,b5,a1,b4⟩
        case measure=>simp[intOf];omega
       |true=>
        go_wp2_with fail
        go_roundw
        case rel=>exact⟨j+1,by omega,by go_num,by rw[a8.out,c9.out];rfl,b5,a1,b4⟩
        case measure=>simp[intOf];omega
  ·obtain rfl:j=us.length:=by omega
   rw[F5];have b6:=qh (zcP HN.out);have o4:=b3;clear HN;obtain⟨mb,a9⟩: ∃b,us.any zg=b:=⟨_,rfl⟩;have b7:=qh a9;rw[a9];clear a9;cases mb with
   |false=>
    have M:=qh (zbJ a7.out b6.out b7.out);have cp:wr.cell? ⟨bp,0,none⟩=some (.int .i64 0):=x6 B.out.pp 0;have fp:wr.frozen? ⟨bp,0,none⟩=false:=B4 B.out.pp 0;have ce:wr.cell? ⟨be,0,none⟩=some (.int .i64 0):=x6 B.out.ee 0;have fe:wr.frozen? ⟨be,0,none⟩=false:=B4 B.out.ee 0;have m2:bp≠be:=by omega
    go_wp2_with fail
    refine leaves_cons (f:=61) (args:= #[.pointer (some ⟨bp,0,none⟩),.pointer (some ⟨be,0,none⟩)]) (by simp) (by simp[go_sem]) ?_;refine(Xw _ _ _).mono ?_;rintro e u' w' ⟨rfl,rfl,rfl⟩;simp only[settle];obtain⟨H,g2,g3⟩:=zhp B.out.M1 (by omega) n2 B.out.pp B.out.ee 0 16;exact Yd rfl rfl g2 g3 H M.out
   |true=>
    have c1:wr.cell? ⟨b1,0,none⟩=some (.slice A us.length c):=x6 B.out.un 0
    go_wp2_with fail
    clear c1;have i8:=B;clear B;obtain⟨wx,rfl⟩: ∃wo:World,wo=wr:=⟨_,rfl⟩
    go_loopw[60] (λi wr=> ∃j:Nat,j<=us.length/\i=.int .i64 j/\Hid (xi us (us.take j)=.ok ())/\Hid (FrK w wr b1 bp be A us.length c)/\w0.heap.size<=wr.heap.size) (λi _=>us.length-(intOf i).toNat)
    case atStart=>exact⟨0,D0 _,rfl,qh rfl,i8,b3⟩
    case round=>
     clear i8;obtain⟨j,hj,rfl,HT,B,b3⟩:=hrel
     by_cases e4:j<us.length
     ·obtain⟨f,hf⟩: ∃f,us[j]?=some f:=⟨_,x9 e4⟩
      obtain⟨g,o,An,cn,At,ct,Ab,D,rfl,Z,c4,c5,c6,hc⟩:=HU.out.at j f hf;have q0:=(B.out.M1.cell (p:=⟨g,o+j*6,none⟩) Z).trans (hc 0 _ rfl);have q1:=(B.out.M1.cell (p:=⟨g,o+j*6+1,none⟩) Z).trans (hc 1 _ rfl);have q2:=(B.out.M1.cell (p:=⟨g,o+j*6+2,none⟩) Z).trans (hc 2 _ rfl);have q3:=(B.out.M1.cell (p:=⟨g,o+j*6+3,none⟩) Z).trans (hc 3 _ rfl);have q4:=(B.out.M1.cell (p:=⟨g,o+j*6+4,none⟩) Z).trans (hc 4 _ rfl);have q5:=(B.out.M1.cell (p:=⟨g,o+j*6+5,none⟩) Z).trans (hc 5 _ rfl);have HS:=qh hf;have l7:=qh c4;have l8:=qh c5;have l9:=qh c6;have e5:=B7 hf;have i9:=qh (HZ.out f e5);obtain⟨pl,p6,p0,j0,j1⟩:=h8.out f e5;have j2:=qh j0;have j3:=qh j1;have e6:=qh pl;clear pl;have H:=(x8 wr.heap.size wr).alloc (x7 _) (.cells #[.string f.J2,.slice An f.J1.length cn,.slice At f.K4.length ct,.int .i64 f.out,.slice Ab f.J0.length D,.int .i64 f.pos] 32);have E:=qh (B.out.later H);have HX:=qh (A5 wr (.cells #[.string f.J2,.slice An f.J1.length cn,.slice At f.K4.length ct,.int .i64 f.out,.slice Ab f.J0.length D,.int .i64 f.pos] 32));have I:=I5 HX.out;have c7:=C1 b3 H.size;have k0:(0:Int)<=(j:Int):=by omega
      have k1:(j:Int)<(us.length:Int):=by omega
      clear hf c4 c5 c6 hc H Z j0 j1 e5
      go_upto_region 18 with(fail)
      clear q0 q1 q2 q3 q4 q5;generalize wr.alloc _=wa at E HX I c7|-;generalize wr.heap.size=bf at HX I|-;obtain⟨⟨q0,q1,q2,q3,q4,q5⟩,-⟩:=M6 HX.out;have c1:wa.cell? ⟨b1,0,none⟩=some (.slice (some ⟨g,o,none⟩) us.length c):=x6 E.out.un 0;have b0:=(x8 wa.heap.size wa).alloc (x7 _) (.cells #[.slice (some ⟨g,o,none⟩) us.length c,.string f.J2,.slice An f.J1.length cn,.slice At f.K4.length ct,.int .i64 f.out,.slice Ab f.J0.length D,.int .i64 f.pos,.slice none 0 0,.int .i64 0] 130);have a5:=E.out.M1.trans (b0.mono E.out.M1.size);have b8:Hid (yx (wa.alloc (.cells #[.slice (some ⟨g,o,none⟩) us.length c,.string f.J2,.slice An f.J1.length cn,.slice At f.K4.length ct,.int .i64 f.out,.slice Ab f.J0.length D,.int .i64 f.pos,.slice none 0 0,.int .i64 0] 130)) (wa.alloc (.cells #[.slice (some ⟨g,o,none⟩) us.length c,.string f.J2,.slice An f.J1.length cn,.slice At f.K4.length ct,.int .i64 f.out,.slice Ab f.J0.length D,.int .i64 f.pos,.slice none 0 0,.int .i64 0] 130)) wa.heap.size wa.heap.size (Hd.mk (.slice (some ⟨g,o,none⟩) us.length c) f.J2 (.slice An f.J1.length cn) (.slice At f.K4.length ct) f.out (.slice Ab f.J0.length D) f.pos) none 0 [] 0 us F):=qh ⟨⟨A5 wa _,G4 _ _ _ _,x7 _,by simp[Value.ownBlock]⟩,HU.out.K7 (λq h1 Y=>⟨h1,A7 Y a5.size,a5.block q Y⟩),x8 _ _,E.out.gl.to b0,λq hq=>by have:=l3.out q hq;have:=E.out.M1.size;omega,by omega,by simp⟩;obtain⟨K,hK⟩: ∃K:Hd,(Hd.mk (.slice (some ⟨g,o,none⟩) us.length c) f.J2 (.slice An f.J1.length cn) (.slice At f.K4.length ct) f.out (.slice Ab f.J0.length D) f.pos)=K:=⟨_,rfl⟩;rw[hK]at b8;have m0:Hid (K.out=f.out):=qh (by rw[<-hK]);clear hK;have j4:=qh (E.out.later b0);have e7:=qh ((b0.block _ I).trans HX.out);have j5:=qh b0;have e8:=qh a5;clear b0 a5
      go_upto_region 19 with(fail)
      clear q0 q1 q2 q3 q4 q5 c1;generalize wa.alloc _=wb at b8 j4 e7 j5 e8|-;obtain⟨cb,j6⟩: ∃n,wa.heap.size=n:=⟨_,rfl⟩;rw[j6]at b8 j5 I c7|-;clear j6;have f0:w.heap.size<=cb:=by omega
      obtain⟨⟨q0,q1,q2,q3,q4,q5⟩,-⟩:=M6 e7.out
      go_wp2_with fail
      clear q0 q1 q2 q3 q4 q5;have d5:=b8;clear b8
      go_loopw[71] (λi wr=> ∃(k:Nat)(Q:P1)(m:Nat)(A':Option Addr)(c':Nat),k<=f.J1.length/\i=.int .i64 k/\Hid (zy f.pos (f.J1.take k) (f.K4.take k) [] 0=.ok (Q,m))/\Hid (yx wb wr cb cb K A' c' Q m us F)) (λi _=>f.J1.length-(intOf i).toNat)
      case atStart=>exact⟨0,[],0,none,0,D0 _,rfl,qh rfl,d5⟩
      case round=>
       clear d5;obtain⟨k,Q,m,A',c',hk,rfl,HP,HC⟩:=hrel;have d0:=zcD _ _ _ _ _ _ (λt ht=>j2.out t (List.mem_of_mem_take ht)) U7.nil rfl (by decide) HP.out;have j7:=qh d0.1;have p1:Q.length=m:=d0.2.1;have j8:m<=64:=d0.2.2;clear d0;have f1:=qh ((HC.out.M1.block bf I).trans e7.out);have j9:=qh (j4.out.below HC.out.M1 f0 (by omega) (by omega) (by omega) (by omega))
       by_cases m3:k<f.J1.length
       ·obtain⟨n,hn⟩: ∃n,f.J1[k]?=some n:=⟨_,x9 m3⟩
        obtain⟨t,ht⟩: ∃t,f.K4[k]?=some t:=⟨_,x9 (by have:=e6.out;omega)⟩;obtain⟨gn,on,rfl,m4,k3⟩:=l7.out.at k n hn;obtain⟨gt,ot,rfl,m5,k4⟩:=l8.out.at k t ht;have b9:=qh (e8.out.trans (HC.out.M1.mono (show w.heap.size<=cb by omega)));have kn:=(b9.out.cell (p:=⟨gn,on+k,none⟩) m4).trans k3;have kt:=(b9.out.cell (p:=⟨gt,ot+k,none⟩) m5).trans k4;have HN:=qh hn;have k5:=qh ht;have i0:(0:Int)<=(k:Int):=by omega
        have i1:(k:Int)<(f.J1.length:Int):=by omega
        have i2:(k:Int)<(f.K4.length:Int):=by have:=e6.out;omega
        have k6:=qh (HC.out.below (M2 wr));obtain⟨rl,f2⟩: ∃r,Y4 Q m f.pos n t=r:=⟨_,rfl⟩;have k7:=qh f2;have m6:Hid (Calls prog 64 #[.pointer (some ⟨cb,0,none⟩),.int .i64 f.pos,.string n,.int .i64 t] wr.drew (zlA wr.drew cb cb K us F A' rl)):=qh (by rw[<-f2];exact zle f.pos n t F wr.drew cb cb _ A' c' Q m us j7.out (by omega) (by omega) k6.out.Z8);clear hn ht k3 k4 f2;obtain⟨⟨q0,q1,q2,q3,q4,q5⟩,-⟩:=M6 f1.out
        go_upto_region 22 with(fail)
        generalize c0:([(0,76,.pointer (some ⟨cb,0,none⟩)),(1,77,.pointer (some ⟨bf,5,none⟩)),(2,78,.int .i64 f.pos),(3,79,.string n),(4,80,.pointer (some ⟨bf,2,none⟩)),(5,81,.slice (some ⟨gt,ot,none⟩) f.K4.length ct),(6,82,.int .i64 k),(7,83,.pointer (some ⟨gt,ot+k,none⟩)),(8,84,.int .i64 t)]:XM)=T;generalize X:Act.mk _ _=a0;have e9:a0.tmps[9]?=some (.pointer (some ⟨bf,0,none⟩)):=by rw[<-X];rfl
        have k8:a0.tmps[10]?=some (.pointer (some ⟨cb,0,none⟩)):=by rw[<-X];rfl
        have k9:a0.tmps[11]?=some (.int .i64 k):=by rw[<-X];rfl
        have l0:a0.tmps[12]?=some (.string n):=by rw[<-X];rfl
        have ez:a0.tmps.size=97:=by rw[<-X];rfl
        have l: ∀(e:Nat×Nat×Value),e∈([(0,76,.pointer (some ⟨cb,0,none⟩)),(1,77,.pointer (some ⟨bf,5,none⟩)),(2,78,.int .i64 f.pos),(3,79,.string n),(4,80,.pointer (some ⟨bf,2,none⟩)),(5,81,.slice (some ⟨gt,ot,none⟩) f.K4.length ct),(6,82,.int .i64 k),(7,83,.pointer (some ⟨gt,ot+k,none⟩)),(8,84,.int .i64 t)]:XM)->e∈T:=λe s=>by rw[<-c0];exact s
        have R:(T.map (·.1)).Nodup:=by rw[<-c0];show([0,1,2,3,4,5,6,7,8]:List Nat).Nodup;decide
        have S:(T.map (·.2.1)).Nodup:=by rw[<-c0];show([76,77,78,79,80,81,82,83,84]:List Nat).Nodup;decide
        have a3: ∀e∈T,76<=e.2.1/\e.2.1<=84:=by
         intro e s;rw[<-c0]at s;simp only[E7,List.mem_nil_iff,or_false]at s
         rcases s with rfl|rfl|rfl|rfl|rfl|rfl|rfl|rfl|rfl<;>simp
        have U: ∀e∈T,e.2.1<a0.tmps.size:=λe s=>by have:=a3 e s;omega
        have l1:=qh X;clear X;refine zef (by kernel_rfl) 9 rfl T ?_ ?_ ?_
        ·rintro L a i f3 ⟨G,x⟩ O m7
         have f9:=(G.un 9 λe s=>by have:=a3 e s;omega).trans e9;have m8:=(G.un 10 λe s=>by have:=a3 e s;omega).trans k8;have m9:=(G.un 11 λe s=>by have:=a3 e s;omega).trans k9;have n4:=(G.un 12 λe s=>by have:=a3 e s;omega).trans l0;have f4:i=0\/i=1\/i=2\/i=3\/i=4\/i=5\/i=6\/i=7\/i=8:=by omega
         rcases f4 with rfl|rfl|rfl|rfl|rfl|rfl|rfl|rfl|rfl
         ·have J:=J8 O rfl
          refine K5 76 (w':=wr.drew) (v:=_) rfl rfl rfl (by simp[execOp,go_sem,m8];rfl) ?_;exact⟨⟨G.put R S U _ (l _ (B2 ..)),x.next O⟩,rfl⟩
         ·have J:=J8 O rfl
          refine K5 77 (w':=wr.drew) (v:=_) rfl rfl rfl (by simp[execOp,go_sem,f9];rfl) ?_;exact⟨⟨G.put R S U _ (l _ (x5 _ (B2 ..))),x.next O⟩,rfl⟩
         ·have J:=J8 O rfl
          have g1:L.getD 1 false=true:=J ⟨1,.data⟩ (by simp) (by decide);have v1:=G.tb _ (l _ (x5 _ (B2 ..))) g1;simp only at v1;refine K5 78 (w':=wr.drew) (v:=_) rfl rfl rfl (by simp[execOp,go_sem,v1,q5];rfl) ?_;exact⟨⟨G.put R S U _ (l _ (x5 _ (x5 _ (B2 ..)))),x.next O⟩,rfl⟩
         ·have J:=J8 O rfl
          refine K5 79 (w':=wr.drew) (v:=_) rfl rfl rfl (by simp[execOp,go_sem,n4];rfl) ?_;exact⟨⟨G.put R S U _ (l _ (x5 _ (x5 _ (x5 _ (B2 ..))))),x.next O⟩,rfl⟩
         ·have J:=J8 O rfl
          refine K5 80 (w':=wr.drew) (v:=_) rfl rfl rfl (by simp[execOp,go_sem,f9];rfl) ?_;exact⟨⟨G.put R S U _ (l _ (x5 _ (x5 _ (x5 _ (x5 _ (B2 ..)))))),x.next O⟩,rfl⟩
         ·have J:=J8 O rfl
          have g4:L.getD 4 false=true:=J ⟨4,.data⟩ (by simp) (by decide);have v4:=G.tb _ (l _ (x5 _ (x5 _ (x5 _ (x5 _ (B2 ..)))))) g4;simp only at v4;refine K5 81 (w':=wr.drew) (v:=_) rfl rfl rfl (by simp[execOp,go_sem,v4,q2];rfl) ?_;exact⟨⟨G.put R S U _ (l _ (x5 _ (x5 _ (x5 _ (x5 _ (x5 _ (B2 ..))))))),x.next O⟩,rfl⟩
         ·have J:=J8 O rfl
          refine K5 82 (w':=wr.drew) (v:=_) rfl rfl rfl (by simp[execOp,go_sem,m9];rfl) ?_;exact⟨⟨G.put R S U _ (l _ (x5 _ (x5 _ (x5 _ (x5 _ (x5 _ (x5 _ (B2 ..)))))))),x.next O⟩,rfl⟩
         ·have J:=J8 O rfl
          have g5:L.getD 5 false=true:=J ⟨5,.data⟩ (by simp) (by decide);have v5:=G.tb _ (l _ (x5 _ (x5 _ (x5 _ (x5 _ (x5 _ (B2 ..))))))) g5;simp only at v5;have g6:L.getD 6 false=true:=J ⟨6,.data⟩ (by simp) (by decide);have v6:=G.tb _ (l _ (x5 _ (x5 _ (x5 _ (x5 _ (x5 _ (x5 _ (B2 ..)))))))) g6;simp only at v6;refine K5 83 (w':=wr.drew) (v:=_) rfl rfl rfl (by simp[execOp,go_sem,v5,v6,i0,i2];rfl) ?_;exact⟨⟨G.put R S U _ (l _ (x5 _ (x5 _ (x5 _ (x5 _ (x5 _ (x5 _ (x5 _ (B2 ..))))))))),x.next O⟩,rfl⟩
         ·have J:=J8 O rfl
          have g7:L.getD 7 false=true:=J ⟨7,.data⟩ (by simp) (by decide);have v7:=G.tb _ (l _ (x5 _ (x5 _ (x5 _ (x5 _ (x5 _ (x5 _ (x5 _ (B2 ..))))))))) g7;simp only at v7;refine K5 84 (w':=wr.drew) (v:=_) rfl rfl rfl (by simp[execOp,go_sem,v7,kt];rfl) ?_;exact⟨⟨G.put R S U _ (l _ (x5 _ (x5 _ (x5 _ (x5 _ (x5 _ (x5 _ (x5 _ (x5 _ (B2 ..)))))))))),x.next O⟩,rfl⟩
        ·rintro L a f3 ⟨G,x⟩ O
         have J:=J8 O rfl;have g0:L.getD 0 false=true:=J ⟨0,.data⟩ (by simp) (by decide);have g2:L.getD 2 false=true:=J ⟨2,.data⟩ (by simp) (by decide);have g3:L.getD 3 false=true:=J ⟨3,.data⟩ (by simp) (by decide);have g8:L.getD 8 false=true:=J ⟨8,.data⟩ (by simp) (by decide);have g7:L.getD 7 false=true:=x 8 _ rfl g8 ⟨7,.data⟩ (by simp) (by decide);have g5:L.getD 5 false=true:=x 7 _ rfl g7 ⟨5,.data⟩ (by simp) (by decide);have g6:L.getD 6 false=true:=x 7 _ rfl g7 ⟨6,.data⟩ (by simp) (by decide);have g4:L.getD 4 false=true:=x 5 _ rfl g5 ⟨4,.data⟩ (by simp) (by decide);have g1:L.getD 1 false=true:=x 2 _ rfl g2 ⟨1,.data⟩ (by simp) (by decide);refine⟨λi m7=>by
          have f4:i=0\/i=1\/i=2\/i=3\/i=4\/i=5\/i=6\/i=7\/i=8:=by omega
          rcases f4 with rfl|rfl|rfl|rfl|rfl|rfl|rfl|rfl|rfl<;>assumption,?_⟩
         have v0:=G.tb _ (l _ (B2 ..)) g0;have v2:=G.tb _ (l _ (x5 _ (x5 _ (B2 ..)))) g2;have v3:=G.tb _ (l _ (x5 _ (x5 _ (x5 _ (B2 ..))))) g3;have v8:=G.tb _ (l _ (x5 _ (x5 _ (x5 _ (x5 _ (x5 _ (x5 _ (x5 _ (x5 _ (B2 ..)))))))))) g8;simp only at v0 v2 v3 v8;have d6:=zbE (lo:=76) (hi:=84) G.df G.az (λk hk=>G.un k λe s=>by have:=a3 e s;omega);clear J g0 g1 g2 g3 g4 g5 g6 g7 g8 x O;have n5:=G.df;refine zfZ (w':=wr.drew) 64 #[.pointer (some ⟨cb,0,none⟩),.int .i64 f.pos,.string n,.int .i64 t] rfl rfl (by simp[execOp,go_sem,v0,v2,v3,v8]) ?_;refine m6.out.mono ?_;rintro e w3 ⟨a2,s⟩;have n6:=(M2 wr).mono (show cb<=wr.heap.size by have:=HC.out.bs;omega);have N:=qh (j9.out.below (n6.trans a2) f0 (by omega) (by omega) (by omega) (by omega));obtain⟨y,hy⟩: ∃y:Nat->Value,a=⟨(List.range' 76 9).foldl (λt k=>t.setIfInBounds k (y k)) a0.tmps,a0.defers⟩:=⟨_,d6⟩;clear d6 n5 v0 v2 v3 v8 G U R S a3 l e9 k8 k9 l0 ez c0 f3;subst hy;have X:=l1.out;clear l1;subst X;cases rl with
         |J9 q er=>
          have n7:=qh (ze8 (us:=us) (zcM HN.out k5.out HP.out k7.out));have M:=qh (yE a7.out b6.out b7.out (ym HS.out HT.out n7.out));have a4:e=M0 q er:=s;subst a4;clear s a2 q0 q1 q2 q3 q4 q5 kn kt;unfold M0;simp only[List.range',List.foldl];go_simp
          go_wp2_with fail
          refine leaves_cons (f:=61) (args:= #[.pointer (some ⟨bp,0,none⟩),.pointer (some ⟨be,0,none⟩)]) (by simp) (by simp[go_sem]) ?_;refine(yL bp be 0 0 _ _ [] w3 N.out.pp N.out.ee n2).mono ?_;rintro e u' w' ⟨rfl,rfl,H,g2,g3⟩;simp only[settle,List.dropWhile_nil];exact Yd rfl rfl g2 g3 ((N.out.M1).trans (H.mono (by omega))) (M.out)
         |ok z=>
          obtain⟨e2,m2⟩:=z;obtain⟨a4,A3,c3,l2,-⟩:=s;subst a4;have n8:=qh (l2.Zg k6.out.M1);clear a2 l2 q0 q1 q2 q3 q4 q5 kn kt;simp only[List.range',List.foldl];go_simp
          go_wp2_with fail
          go_roundw
          case rel=>exact⟨k+1,e2,m2,A3,c3,by omega,by go_num,qh (by rw[Xm HN.out k5.out HP.out];exact k7.out),n8⟩
          case measure=>simp[intOf];omega
        ·rintro L a f3 ⟨G,x⟩ C
         have r0:L.getD 0 false=true:=N1 C rfl (by omega) (by simp);have r1:L.getD 1 false=true:=N1 C rfl (by omega) (by simp);have r3:L.getD 3 false=true:=N1 C rfl (by omega) (by simp);have r4:L.getD 4 false=true:=N1 C rfl (by omega) (by simp);have r6:L.getD 6 false=true:=N1 C rfl (by omega) (by simp);have r2:L.getD 2 false=true:=N1 C rfl (by omega) (by intro e s;simp at s;rcases s with rfl;assumption);have r5:L.getD 5 false=true:=N1 C rfl (by omega) (by intro e s;simp at s;rcases s with rfl;assumption);have r7:L.getD 7 false=true:=N1 C rfl (by omega) (by intro e s;simp at s;rcases s with rfl|rfl<;>assumption);have r8:L.getD 8 false=true:=N1 C rfl (by omega) (by intro e s;simp at s;rcases s with rfl;assumption);exact N1 C rfl (by omega) (by intro e s;simp at s;rcases s with rfl|rfl|rfl|rfl<;>assumption)
       ·obtain rfl:k=f.J1.length:=by omega
        have n9:Hid (zy f.pos f.J1 f.K4 [] 0=.ok (Q,m)):=qh (by have:=HP.out;rwa [F5,e6.out,F5]at this);have f5:=qh (zdd (us:=us) n9.out);have b9:=qh (e8.out.trans (HC.out.M1.mono (show w.heap.size<=cb by omega)));obtain⟨rb,f6⟩: ∃r,zS us f.out f.J0 Q m=r:=⟨_,rfl⟩;have f7:=qh f6;have o0:Hid (Calls prog 65 #[.pointer (some ⟨cb,0,none⟩),.slice Ab f.J0.length D] wr (QS wr cb cb K us F A' Q rb)):=qh (by
         rw[<-f6,<-m0.out];exact znL 40 f.J0 Ab D F wr cb cb _ A' c' Q m us j3.out i9.out.J0 i9.out.zej ⟨HZ.out,d4,λf hf=>(h8.out f hf).2.2.1,j7.out,by omega,j8⟩ HC.out.Z8 (l9.out.K7 (λq h1 Y=>⟨h1,A7 Y b9.out.size,b9.out.block q Y⟩)))
        clear f6;obtain⟨⟨q0,q1,q2,q3,q4,q5⟩,-⟩:=M6 f1.out
        go_wp2_with fail
        refine o0.out.mono ?_;rintro e w3 ⟨a2,s⟩;have N:=qh (j9.out.below a2 f0 (by omega) (by omega) (by omega) (by omega));have o1:=qh ((a2.block bf I).trans f1.out);have c2:w0.heap.size<=w3.heap.size:=by have:=a2.size;have:=HC.out.bs;omega
        clear q0 q1 q2 q3 q4 q5 a2;cases rb with
        |J9 q er=>
         have M:=qh (yE a7.out b6.out b7.out (ym HS.out HT.out (by rw[f5.out,f7.out])));have a4:e=M0 q er:=s;subst a4;clear s;unfold M0
         go_wp2_with fail
         refine leaves_cons (f:=61) (args:= #[.pointer (some ⟨bp,0,none⟩),.pointer (some ⟨be,0,none⟩)]) (by simp) (by simp[go_sem]) ?_;refine(yL bp be 0 0 _ _ [] w3 N.out.pp N.out.ee n2).mono ?_;rintro e u' w' ⟨rfl,rfl,H,g2,g3⟩;simp only[settle,List.dropWhile_nil];exact Yd rfl rfl g2 g3 ((N.out.M1).trans (H.mono (by omega))) (M.out)
        |ok z=>
         obtain⟨m1,rr⟩:=z;obtain⟨a4,-⟩:=s;subst a4;obtain⟨⟨q0,q1,q2,q3,q4,q5⟩,-⟩:=M6 o1.out;cases rr with
         |false=>
          have M:=qh (yE a7.out b6.out b7.out (ym HS.out HT.out (show JM us f=.J9 f.pos 3 by rw[f5.out,f7.out];rfl)))
          go_wp2_with fail
          refine leaves_cons (f:=61) (args:= #[.pointer (some ⟨bp,0,none⟩),.pointer (some ⟨be,0,none⟩)]) (by simp) (by simp[go_sem]) ?_;refine(yL bp be 0 0 _ _ [] w3 N.out.pp N.out.ee n2).mono ?_;rintro e u' w' ⟨rfl,rfl,H,g2,g3⟩;simp only[settle,List.dropWhile_nil];exact Yd rfl rfl g2 g3 ((N.out.M1).trans (H.mono (by omega))) (M.out)
         |true=>
          have o2:=qh (zaO HS.out HT.out (show JM us f=.ok () by rw[f5.out,f7.out];rfl));clear q0 q1 q2 q3 q4 q5
          go_wp2_with fail
          go_roundw
          case rel=>exact⟨j+1,by omega,by go_num,o2,N,c2⟩
          case measure=>simp[intOf];omega
     ·obtain rfl:j=us.length:=by omega
      have M:=qh (zbs a7.out b6.out b7.out (by have:=HT.out;rwa [F5]at this));have cp:wr.cell? ⟨bp,0,none⟩=some (.int .i64 0):=x6 B.out.pp 0;have fp:wr.frozen? ⟨bp,0,none⟩=false:=B4 B.out.pp 0;have ce:wr.cell? ⟨be,0,none⟩=some (.int .i64 0):=x6 B.out.ee 0;have fe:wr.frozen? ⟨be,0,none⟩=false:=B4 B.out.ee 0;have m2:bp≠be:=by omega
      go_wp2_with fail
      refine leaves_cons (f:=61) (args:= #[.pointer (some ⟨bp,0,none⟩),.pointer (some ⟨be,0,none⟩)]) (by simp) (by simp[go_sem]) ?_;refine(Xw _ _ _).mono ?_;rintro e u' w' ⟨rfl,rfl,rfl⟩;simp only[settle];obtain⟨H,g2,g3⟩:=zhp B.out.M1 (by omega) n2 B.out.pp B.out.ee 0 0;exact Yd rfl rfl g2 g3 H M.out
end Go.Proofs.YtmngofgminlloaaGreatDoor
