/- Merged. -/
import Derived.Test.YtmngofgminlloaaGreatDoorCT27
import Derived.Test.YtmngofgminlloaaGreatDoorCT21
set_option linter.all false
set_option maxHeartbeats 16000000
set_option maxRecDepth 100000
namespace Go.Proofs.YtmngofgminlloaaGreatDoor
open Go.Proofs.Tryz
open Go.RowKit Tw
section
open Go.Maps
structure FrZ(w W:World)(b1:Nat)(A:Option Addr)(n c:Nat):Prop where
 un:W.heap[b1]?=some (.cells #[.slice A n c] 24 (0,0))
 M1:Below w.heap.size w W
 lo:w.heap.size<=b1
 xM:10<w.heap.size
 gl:O4 W
section
variable {w W W':World}{b1 r r2:Nat}{A:Option Addr}{n c:Nat}
theorem FrZ.later(h:FrZ w W b1 A n c)(a:Below W.heap.size W W'):FrZ w W' b1 A n c:=
 ⟨(a.block b1 (I5 h.un)).trans h.un,h.M1.trans (a.mono h.M1.size),h.lo,h.xM,h.gl.to a⟩
theorem FrZ.two(h:FrZ w W b1 A n c)(a:JJ W W' r r2)(e:b1<r)(d:b1<r2):FrZ w W' b1 A n c:=
 ⟨(a.block b1 (I5 h.un) (by omega) (by omega)).trans h.un,⟨a.os.trans h.M1.os,a.tape.trans h.M1.tape,a.output.trans h.M1.output,C1 h.M1.size a.size,λk b=>(a.block k (A7 b h.M1.size) (by have:=h.lo;omega) (by have:=h.lo;omega)).trans (h.M1.block k b)⟩,h.lo,h.xM,
   h.gl.Z3 a.size λg f=>a.block g (by have:=h.gl.xM;omega) (by have:=h.lo;have:=h.xM;omega) (by have:=h.lo;have:=h.xM;omega)⟩
theorem FrZ.grown(h:FrZ w W b1 A n c)(b:W.grownBy W' (some r))(a:b1<r):FrZ w W' b1 A n c:=h.two (JJ.of r b) a a
end
theorem ZW(w):Below w.heap.size w (w.alloc (.map #[] 0)):=(x8 _ _).alloc (x7 _) _
theorem Qt.apart{us}(h:Qt us us.length):zdi us:=by
 have b: ∀(i j:Nat)(f g:Fn),i<j->us[i]?=some f->us[j]?=some g->f.J2=g.J2->False:=by
  intro i j f g l k d e;have m:j<us.length:=(List.getElem?_eq_some_iff.1 d).1;have a:=h j g m d;unfold S3 at a;rw[List.find?_eq_none]at a;have o:f∈us.take j:=B7 (i:=i) (by rw[List.getElem?_take,C8 l];exact k);have:=a f o;simp[e]at this
 intro i j f g k d e
 rcases Nat.lt_trichotomy i j with a|a|a
 ·exact(b i j f g a k d e).elim
 ·exact a
 ·exact(b j i g f a d k e.symm).elim
theorem zfG{p:Int}: ∀{b ts}{k:Nat}{n:ByteArray}{t:Int}{env:P1}{m:Nat}{F:Y6},b[k]?=some n->ts[k]?=some t->
 (F=none->zy p (b.take k) (ts.take k) [] 0=.ok (env,m))->(∀q,F=some q->zy p b ts [] 0=.J9 q.1 q.2)->
 (F.on (Y4 env m p n t)=none->zy p (b.take (k+1)) (ts.take (k+1)) [] 0=.ok ((n,t)::env,m+1))/\(∀q,F.on (Y4 env m p n t)=some q->zy p b ts [] 0=.J9 q.1 q.2):=by
 intro b ts k n t env m F d f g j;cases F with
 |some q=>
  refine⟨λh=>?_,λi h=>?_⟩
  ·cases a:Y4 env m p n t<;>simp[Y6.on,a]at h
  ·have:i=q:=by cases a:Y4 env m p n t<;>simp[Y6.on,a]at h<;>exact h.symm
   rw[this];exact j q rfl
 |none=>
  cases a:Y4 env m p n t with
  |ok z=>
   obtain⟨s,u⟩:=z;obtain⟨l,-,o,-⟩:=xh a;refine⟨λ_=>by rw[Xm d f (g rfl),a,l,o],λq h=>by simp[Y6.on]at h⟩
  |J9 q e=>
   refine⟨λh=>by simp[Y6.on]at h,λi h=>?_⟩;simp[Y6.on]at h;subst h;exact zcM d f (g rfl) a
theorem zgM(us:List Fn)(A:Option Addr)(c:Nat)(F0:Nat->Prop)(w:World)(hU:U2 w F0 (.slice A us.length c) us)(hZ: ∀f∈us,FnZ f)(c2:us.length<=281474976710656)(hG:O4 w):
 Calls prog 18 #[.agg #[.slice A us.length c]] w λe w'=>e=.returned (.tuple #[.int .i64 (S4 us).1,.int .i64 (S4 us).2])/\Below w.heap.size w w':=by
 have c3:=hG.xM;obtain⟨F,c6⟩: ∃F:Nat->Prop,F=λg=>F0 g/\g<w.heap.size:=⟨_,rfl⟩
 have c7:U2 w F (.slice A us.length c) us:=hU.K7 (λg V J=>⟨by rw[c6];exact⟨V,J⟩,J,rfl⟩);have e9: ∀g,F g->g<w.heap.size:=λg G=>by rw[c6]at G;exact G.2
 have HU:=qh c7;have f0:=qh e9;have HZ:=qh hZ;have k5:= @run_makeMap prog;have R:Below w.heap.size w (w.alloc (.cells #[.slice A us.length c] 24)):=(x8 _ _).alloc (x7 _) _;have UC:=qh (zeP us A c F (w.alloc (.cells #[.slice A us.length c] 24)) (c7.K7 (λg V J=>⟨V,A7 J R.size,R.block g J⟩)) hZ c2 (hG.to R));have X:Hid (FrZ w (w.alloc (.cells #[.slice A us.length c] 24)) w.heap.size A us.length c):=qh ⟨A5 w _,R,x7 _,c3,hG.to R⟩;clear hU c7 e9 hZ c6 hG R
 go_enter func18,ntmps18
 go_upto_region 1 with(fail)
 generalize w.alloc _=w0 at UC X|-;obtain⟨b1,c8⟩: ∃b,w.heap.size=b:=⟨_,rfl⟩;have n0:10<b1:=by omega
 have k6:w.heap.size<=b1:=by omega
 rw[c8]at X;simp only[c8];clear c3 c8;have c1:w0.cell? ⟨b1,0,none⟩=some (.slice A us.length c):=x6 X.out.un 0
 go_wp2_with fail
 refine UC.out.mono ?_;rintro e w1 ⟨rfl,hb⟩;have a5:=qh (X.out.later hb);clear c1 hb UC X
 by_cases D:U6 us=0
 case neg=>
  obtain⟨z,hz⟩: ∃z,U6 us=z:=⟨_,rfl⟩;rw[hz]at D|-;have e1:(z !=0)=true:=by simpa using D
  have h9:Hid (S4 us=(0,z)):=qh (by rw[zbI (by rw[hz];exact D),hz]);clear D hz
  go_wp2_with fail
  go_ret2;exact⟨by rw[h9.out];rfl,a5.out.M1⟩
 case pos=>
 rw[D];have S:=qh D;have k7:=(zA D).1;have f1:=qh (zA D).2;clear D;have c4:b1<w1.heap.size:=I5 a5.out.un
 go_upto_region 6 with(fail)
 have a6:=qh (zE.M3 w1);have a7:=qh (a5.out.later (ZW w1));generalize w1.alloc _=w2 at a6 a7|-;generalize w1.heap.size=bm at a6 c4|-;have c1:w2.cell? ⟨b1,0,none⟩=some (.slice A us.length c):=x6 a7.out.un 0
 go_wp2_with fail
 clear c1 a5
 go_loopw[5,25] (λu i wr=> ∃j:Nat,j<=us.length/\i=.int .i64 j/\u=.bool ((us.take j).any zg)/\Hid (Qt us j)/\Hid (FrZ w wr b1 A us.length c)/\Hid (zE wr bm ((us.take j).reverse.map Fn.J2))) (λ_ i _=>us.length-(intOf i).toNat)
 case atStart=>exact⟨0,D0 _,rfl,rfl,qh (λm f h=>H9 h (Nat.not_lt_zero m)),a7,a6⟩
 case round=>
  clear a7 a6;obtain⟨j,hj,rfl,rfl,HN,l,HM⟩:=hrel
  by_cases c9:j<us.length
  ·obtain⟨f,Y⟩: ∃f,us[j]?=some f:=⟨_,x9 c9⟩
   obtain⟨g,a,An,cn,At,ct,Ab,y,rfl,G,a8,a9,b0,K⟩:=HU.out.at j f Y;have L:=(l.out.M1.cell (p:=⟨g,a+j*6,none⟩) G).trans (K 0 _ rfl);have M:=(l.out.M1.cell (p:=⟨g,a+j*6+1,none⟩) G).trans (K 1 _ rfl);have N:=(l.out.M1.cell (p:=⟨g,a+j*6+2,none⟩) G).trans (K 2 _ rfl);have O:=(l.out.M1.cell (p:=⟨g,a+j*6+3,none⟩) G).trans (K 3 _ rfl);have P:=(l.out.M1.cell (p:=⟨g,a+j*6+4,none⟩) G).trans (K 4 _ rfl);have Q:=(l.out.M1.cell (p:=⟨g,a+j*6+5,none⟩) G).trans (K 5 _ rfl);have HS:=qh Y;have H:=qh (HZ.out f (B7 Y));have k8:=H.out.zkt;have hb:=(x8 wr.heap.size wr).alloc (x7 _) (.cells #[.string f.J2,.slice An f.J1.length cn,.slice At f.K4.length ct,.int .i64 f.out,.slice Ab f.J0.length y,.int .i64 f.pos] 32);have I:=qh (l.out.later hb);have E:=qh (A5 wr (.cells #[.string f.J2,.slice An f.J1.length cn,.slice At f.K4.length ct,.int .i64 f.out,.slice Ab f.J0.length y,.int .i64 f.pos] 32));have d0:=qh (HM.out.kept (I7 hb none) (by simp));have f2:bm≠wr.heap.size:=by have:=HM.out.lt;omega
   have k0:(0:Int)<=(j:Int):=by omega
   have k1:(j:Int)<(us.length:Int):=by omega
   clear Y a8 a9 b0 K hb G
   go_upto_region 9 with(fail)
   clear L M N O P Q;generalize wr.alloc _=wa at I E d0|-;generalize wr.heap.size=bf at E f2|-;obtain⟨⟨L,M,N,O,P,Q⟩,-⟩:=M6 E.out;obtain⟨d,hd⟩: ∃d,(S3 (us.take j) f.J2).isSome=d:=⟨_,rfl⟩;have b2:=d0.out.ZP f.J2 H.out.J2;rw[<-Xi,hd]at b2;have f3:=qh hd;clear hd;cases d with
   |true=>
    have x:=qh (XS S.out (zco HS.out HN.out f3.out))
    go_wp2_with fail
    go_ret2;exact⟨by rw[x.out];rfl,I.out.M1⟩
   |false=>
    have b3:=qh (HN.out.next HS.out f3.out);have Z:=qh (zcT HS.out);obtain⟨w3,f4,f5,B⟩:=d0.out.put f.J2 H.out.J2 (by simp;omega);have b4:Hid (zE w3 bm ((us.take (j+1)).reverse.map Fn.J2)):=qh (by rw[P0 HS.out,List.reverse_append,List.map_append];exact f5);have v:=qh (I.out.grown B c4);have a0:=qh ((B.block bf (I5 E.out) (by simpa using λe=>f2 e.symm)).trans E.out);clear f5 B
    go_upto_region 12 with(fail)
    clear L M N O P Q b2 f4;obtain⟨⟨L,M,N,O,P,Q⟩,-⟩:=M6 a0.out;obtain⟨mb,T⟩: ∃b,(us.take j).any zg=b:=⟨_,rfl⟩;rw[T]at Z|-;clear T;have i3:(f.J2.toList==[109,97,105,110])=decide (f.J2=Yn):=by
     rw[Jj];refine decide_eq_decide.2 ⟨λh=>?_,λh=>by rw[h];rfl⟩;rw[<-YG f.J2,h];rfl
    have f6:=qh (Qi f);obtain⟨d1,V⟩: ∃d,decide (f.J2=Yn)=d:=⟨_,rfl⟩;obtain⟨d2,J⟩: ∃d,decide (f.J1.length=0)=d:=⟨_,rfl⟩;obtain⟨d3,h3⟩: ∃d,decide (f.out=1)=d:=⟨_,rfl⟩;have e2:((f.J1.length:Int)==0)=d2:=by rw[<-J];by_cases h:f.J1.length=0<;>simp[h]
    have e3:(f.out==1)=d3:=by rw[<-h3];by_cases h:f.out=1<;>simp[h]
    rw[V]at i3;have b5:Hid (zg f=(d1&&d2&&d3)):=qh (by rw[f6.out,V,J,h3]);clear V J h3 f6;cases d1 with
    |false=>
     go_wp2_with fail
     go_roundw
     case rel=>exact⟨j+1,by omega,by go_num,by rw[Z.out,b5.out];simp,b3,v,b4⟩
     case measure=>simp[intOf];omega
    |true=>
     cases d2 with
     |false=>
      go_wp2_with fail
      go_roundw
      case rel=>exact⟨j+1,by omega,by go_num,by rw[Z.out,b5.out];simp,b3,v,b4⟩
      case measure=>simp[intOf];omega
     |true=>
      cases d3 with
      |false=>
       go_wp2_with fail
       go_roundw
       case rel=>exact⟨j+1,by omega,by go_num,by rw[Z.out,b5.out];simp,b3,v,b4⟩
       case measure=>simp[intOf];omega
      |true=>
       go_wp2_with fail
       go_roundw
       case rel=>exact⟨j+1,by omega,by go_num,by rw[Z.out,b5.out];simp,b3,v,b4⟩
       case measure=>simp[intOf];omega
  ·obtain rfl:j=us.length:=by omega
   rw[F5];have a1:=qh (zcP HN.out);have i4:=qh HN.out.apart;clear HN HM;obtain⟨mb,T⟩: ∃b,us.any zg=b:=⟨_,rfl⟩;have a2:=qh T;rw[T];clear T;cases mb with
   |false=>
    have x:=qh (zbJ S.out a1.out a2.out)
    go_wp2_with fail
    go_ret2;exact⟨by rw[x.out];rfl,l.out.M1⟩
   |true=>
    have c1:wr.cell? ⟨b1,0,none⟩=some (.slice A us.length c):=x6 l.out.un 0
    go_wp2_with fail
    clear c1;have f7:=l;clear l;obtain⟨wx,rfl⟩: ∃wo:World,wo=wr:=⟨_,rfl⟩
    go_loopw[58] (λi wr=> ∃j:Nat,j<=us.length/\i=.int .i64 j/\Hid (xi us (us.take j)=.ok ())/\Hid (FrZ w wr b1 A us.length c)) (λi _=>us.length-(intOf i).toNat)
    case atStart=>exact⟨0,D0 _,rfl,qh rfl,f7⟩
    case round=>
     clear f7;obtain⟨j,hj,rfl,HT,l⟩:=hrel
     by_cases c9:j<us.length
     ·obtain⟨f,Y⟩: ∃f,us[j]?=some f:=⟨_,x9 c9⟩
      obtain⟨g,a,An,cn,At,ct,Ab,y,rfl,G,a8,a9,b0,K⟩:=HU.out.at j f Y;have L:=(l.out.M1.cell (p:=⟨g,a+j*6,none⟩) G).trans (K 0 _ rfl);have M:=(l.out.M1.cell (p:=⟨g,a+j*6+1,none⟩) G).trans (K 1 _ rfl);have N:=(l.out.M1.cell (p:=⟨g,a+j*6+2,none⟩) G).trans (K 2 _ rfl);have O:=(l.out.M1.cell (p:=⟨g,a+j*6+3,none⟩) G).trans (K 3 _ rfl);have P:=(l.out.M1.cell (p:=⟨g,a+j*6+4,none⟩) G).trans (K 4 _ rfl);have Q:=(l.out.M1.cell (p:=⟨g,a+j*6+5,none⟩) G).trans (K 5 _ rfl);have HS:=qh Y;have i5:=qh a8;have i6:=qh a9;have i7:=qh b0;have d5:=B7 Y;have H:=qh (HZ.out f d5);obtain⟨pl,p6,f8,f9,g0⟩:=f1.out f d5;have c5:=qh f9;have g1:=qh g0;have b6:=qh pl;have i8:=qh f8;clear pl f8;have hb:=(x8 wr.heap.size wr).alloc (x7 _) (.cells #[.string f.J2,.slice An f.J1.length cn,.slice At f.K4.length ct,.int .i64 f.out,.slice Ab f.J0.length y,.int .i64 f.pos] 32);have I:=qh (l.out.later hb);have E:=qh (A5 wr (.cells #[.string f.J2,.slice An f.J1.length cn,.slice At f.K4.length ct,.int .i64 f.out,.slice Ab f.J0.length y,.int .i64 f.pos] 32));have i9:b1<wr.heap.size:=I5 l.out.un;have k0:(0:Int)<=(j:Int):=by omega
      have k1:(j:Int)<(us.length:Int):=by omega
      clear Y a8 a9 b0 K hb G f9 g0 d5
      go_upto_region 20 with(fail)
      clear L M N O P Q l;generalize wr.alloc _=wa at I E|-;generalize wr.heap.size=bf at E i9|-;obtain⟨⟨L,M,N,O,P,Q⟩,-⟩:=M6 E.out;have c1:wa.cell? ⟨b1,0,none⟩=some (.slice (some ⟨g,a,none⟩) us.length c):=x6 I.out.un 0;have g2:=I5 E.out;have d6:=(x8 wa.heap.size wa).alloc (x7 _) (.cells #[.slice (some ⟨g,a,none⟩) us.length c,.int .i64 f.out,.int .i64 0,.int .i64 0,.int .i64 0] 136);have U:Hid (ZN (wa.alloc (.cells #[.slice (some ⟨g,a,none⟩) us.length c,.int .i64 f.out,.int .i64 0,.int .i64 0,.int .i64 0] 136)) wa.heap.size (.slice (some ⟨g,a,none⟩) us.length c) f.out 0 none):=qh ⟨A5 wa _,(λ_ h=>by cases h),by omega⟩;have d7:=qh (I.out.later d6);have b7:=qh ((d6.block _ g2).trans E.out);clear d6
      go_upto_region 21 with(fail)
      clear L M N O P Q c1 E I;generalize wa.alloc _=wb at U d7 b7|-;obtain⟨cb,g3⟩: ∃n,wa.heap.size=n:=⟨_,rfl⟩;rw[g3]at U g2|-;clear g3
      go_upto_region 22 with(fail)
      have b8:=qh (Z6.M3 wb);have d8:=qh (d7.out.later (ZW wb));have d9:=qh (U.out.kept ((ZW wb).block cb U.out.lt));have b9:=qh (((ZW wb).block bf (I5 b7.out)).trans b7.out);have j0:cb<wb.heap.size:=U.out.lt;clear d7 U b7;generalize wb.alloc _=wc at b8 d8 d9 b9|-;generalize wb.heap.size=bs at b8 j0|-;obtain⟨⟨L,M,N,O,P,Q⟩,-⟩:=M6 b9.out
      go_wp2_with fail
      clear L M N O P Q
      go_loopw[71] (λi wr=> ∃(k:Nat)(C:P1)(Fl:Y6),k<=f.J1.length/\i=.int .i64 k/\Hid (C.length=k)/\Hid (∀q∈C,q.2=1\/q.2=2)/\Hid (Fl=none->zy f.pos (f.J1.take k) (f.K4.take k) [] 0=.ok (C,k))/\Hid (∀q,Fl=some q->zy f.pos f.J1 f.K4 [] 0=.J9 q.1 q.2)/\
       Hid (ZN wr cb (.slice (some ⟨g,a,none⟩) us.length c) f.out k Fl)/\Hid (Z6 wr bs C)/\Hid (wr.heap[bf]?=some (.cells #[.string f.J2,.slice An f.J1.length cn,.slice At f.K4.length ct,.int .i64 f.out,.slice Ab f.J0.length y,.int .i64 f.pos] 32 (0,0)))/\Hid (FrZ w wr b1 (some ⟨g,a,none⟩) us.length c)) (λi _=>f.J1.length-(intOf i).toNat)
      case atStart=>exact⟨0,[],none,D0 _,rfl,qh rfl,qh (λ_ h=>by cases h),qh (λ_=>rfl),qh (λ_ h=>by cases h),d9,b8,b9,d8⟩
      case round=>
       clear d8 d9 b8 b9;obtain⟨k,C,Fl,hk,rfl,c0,g4,g5,g6,HC,HE,E,l⟩:=hrel
       by_cases b2:k<f.J1.length
       ·obtain⟨n,hn⟩: ∃n,f.J1[k]?=some n:=⟨_,x9 b2⟩
        obtain⟨t,ht⟩: ∃t,f.K4[k]?=some t:=⟨_,x9 (by have:=b6.out;omega)⟩;obtain⟨gn,on,rfl,j1,g7⟩:=i5.out.at k n hn;obtain⟨gt,ot,rfl,j2,g8⟩:=i6.out.at k t ht;have kn:=(l.out.M1.cell (p:=⟨gn,on+k,none⟩) j1).trans g7;have kt:=(l.out.M1.cell (p:=⟨gt,ot+k,none⟩) j2).trans g8;have a3:=Jy.1 (c5.out t (B7 ht));have j3:=qh hn;have j4:=qh ht;have g9:=qh a3;have i0:(0:Int)<=(k:Int):=by omega
        have i1:(k:Int)<(f.J1.length:Int):=by omega
        have i2:(k:Int)<(f.K4.length:Int):=by have:=b6.out;omega
        have j5:=qh (zk8 f.pos n t (H.out.J1 n (B7 hn)) (by rcases a3 with rfl|rfl<;>decide) (w:=wr.drew) (HC.out.kept rfl) (HE.out.kept (I7 (M2 wr) none) (by simp)) (by omega) (by omega) (by have:=c0.out;omega) (λs=>by
         by_cases h0:L5 C s=0
         ·omega
         ·have:=g4.out _ (Qd h0);simp only at this;omega))
        clear hn ht g7 g8 a3;obtain⟨⟨L,M,N,O,P,Q⟩,-⟩:=M6 E.out
        go_upto_region 25 with(fail)
        go_region_law(first|(go_simp;go_at_call 66;refine j5.out.mono ?_;rintro e w3 ⟨rfl,o,h4,e0⟩;have j6:=qh o;have j7:=qh h4;have a0:=qh ((e0.block bf (I5 E.out) (by omega) (by omega)).trans E.out);have v:=qh ((l.out.later (M2 wr)).two e0 (by omega) (by omega));clear o h4 e0))
        all_goals
         have h5:=qh (zfG j3.out j4.out g5.out g6.out)
         go_wp2_with fail
         go_roundw
         case rel=>exact⟨k+1,(n,t)::C,_,by omega,by go_num,qh (by simp[c0.out]),qh (λq hq=>by rcases List.mem_cons.1 hq with rfl|hq;exact g9.out;exact g4.out q hq),qh h5.out.1,qh h5.out.2,j6,j7,a0,v⟩
         case measure=>simp[intOf];omega
       ·obtain rfl:k=f.J1.length:=by omega
        have h6:Hid (K9 wr F (.slice Ab f.J0.length y) f.J0):=qh (i7.out.K7 (λq V J=>⟨V,A7 J l.out.M1.size,l.out.M1.block q J⟩));have k4:cb<wr.heap.size:=HC.out.lt;have h7:bf<wr.heap.size:=I5 E.out;obtain⟨⟨L,M,N,O,P,Q⟩,-⟩:=M6 E.out;cases Fl with
        |some q=>
         have j8:=qh (ze8 (us:=us) (g6.out q rfl));have x:=qh (yE S.out a1.out a2.out (ym HS.out HT.out j8.out));have e4:=qh (zkN f.J0 Ab y F wr cb bs _ f.out _ C q H.out.zej (by have:=c0.out;omega) HC.out HE.out (λg' e5=>by have:=f0.out g' e5;omega) h6.out)
         go_wp2_with fail
         refine e4.out.mono ?_;rintro e w3 ⟨⟨r,rfl⟩,o,B⟩;have v:=qh (l.out.grown B (by omega));obtain⟨-,-,-,d3,d4⟩:=o.cells;have j9:(q.2==0)=false:=by simpa using o.ne q rfl
         have k2:(q.2 !=0)=true:=by simpa using o.ne q rfl
         simp only[Y6.p,Y6.e]at d3 d4;clear o B L M N O P Q
         go_wp2_with fail
         go_quiet (fail)
         go_wp2_with fail
         go_ret2;exact⟨by rw[x.out];rfl,J6 v.out.M1 _⟩
        |none=>
         have a4:=g5.out rfl;rw[F5,b6.out,F5]at a4;have k9:=qh a4;have h8:=zcD _ _ _ _ _ _ c5.out U7.nil rfl (by decide) a4;have e6:=qh (zdd (us:=us) a4);obtain⟨rb,e7⟩: ∃r,zS us f.out f.J0 C f.K4.length=r:=⟨_,rfl⟩;have e8:=qh e7;have e4:Hid (Calls prog 67 #[.pointer (some ⟨cb,0,none⟩),.slice Ab f.J0.length y,.map (some bs)] wr (zlb wr cb (.slice (some ⟨g,a,none⟩) us.length c) f.out rb)):=qh (by
          rw[<-e7,<-b6.out];refine zml 40 f.J0 Ab y F wr cb bs (some ⟨g,a,none⟩) c us f.out f.J1.length C g1.out H.out.J0 H.out.zej HZ.out c2 i4.out (λf Y=>(f1.out f Y).2.2.1) (Jy.1 i8.out) h8.1 (by have:=c0.out;omega) (by omega) ?_ h6.out;exact⟨HC.out,HE.out,HU.out.K7 (λq V J=>⟨V,A7 J l.out.M1.size,l.out.M1.block q J⟩),I7 (x8 _ _) _,l.out.gl,by omega,λg' e5=>by have:=f0.out g' e5;omega⟩)
         clear e7 a4 h8
         go_wp2_with fail
         refine e4.out.mono ?_;rintro e w3 ⟨B,he⟩;have v:=qh (l.out.grown B (by omega));have a0:=qh ((B.block bf h7 (by simp;omega)).trans E.out);clear B L M N O P Q;cases rb with
         |J9 p er=>
          obtain⟨r,m,rfl,o⟩:=he;have x:=qh (yE S.out a1.out a2.out (ym HS.out HT.out (by rw[e6.out,e8.out])));obtain⟨-,-,-,d3,d4⟩:=o.cells;have j9:(er==0)=false:=by simpa using o.ne (p,er) rfl
          have k2:(er !=0)=true:=by simpa using o.ne (p,er) rfl
          simp only[Y6.p,Y6.e]at d3 d4;clear o
          go_wp2_with fail
          go_quiet (fail)
          go_wp2_with fail
          go_ret2;exact⟨by rw[x.out];rfl,J6 v.out.M1 _⟩
         |ok z=>
          obtain⟨m1,rr⟩:=z;obtain⟨rfl,o⟩:=he;obtain⟨-,-,-,d3,d4⟩:=o.cells;obtain⟨⟨L,M,N,O,P,Q⟩,-⟩:=M6 a0.out;simp only[Y6.p,Y6.e]at d3 d4;clear o;cases rr with
          |false=>
           have x:=qh (yE S.out a1.out a2.out (ym HS.out HT.out (show JM us f=.J9 f.pos 3 by rw[e6.out,e8.out];rfl)))
           go_wp2_with fail
           go_ret2;exact⟨by rw[x.out];rfl,v.out.M1⟩
          |true=>
           have k3:=qh (zaO HS.out HT.out (show JM us f=.ok () by rw[e6.out,e8.out];rfl))
           go_wp2_with fail
           go_roundw
           case rel=>exact⟨j+1,by omega,by go_num,k3,v⟩
           case measure=>simp[intOf];omega
     ·obtain rfl:j=us.length:=by omega
      have x:=qh (zbs S.out a1.out a2.out (by have:=HT.out;rwa [F5]at this))
      go_wp2_with fail
      go_ret2;exact⟨by rw[x.out];rfl,l.out.M1⟩
end
def zf0{N:Nat}{t:ByteArray}(h:jj N t): ∃m:List Fn,XJ t m 0 0/\S4 m=(0,0)/\ ∀us,∀f∈m,(xJ us f).S0.length<=4000:=by
 have a:=h.zlq;obtain⟨b,m,d,e,-,c,g,i⟩:=h.M3;exact⟨m,⟨0,0,b,.inr ⟨a,(none,b),d,rfl,rfl,rfl⟩,.inr ⟨rfl,.inr ⟨m,e,rfl,c.symm,by rw[C8 c]⟩⟩⟩,g,i⟩
def zd9(A)(n c:Nat)(w)(hG:O4 w)(V:n<=c)(h: ∀j,j<n-> ∃g W v,A=some ⟨g,W,none⟩/\g<w.heap.size/\w.cell? ⟨g,W+j,none⟩=some (.int .i64 v)):
 Calls prog 25 #[.slice A n c] w λe w'=>e=.returned (.bool true)/\Below w.heap.size w w':=by
 have HG:=qh hG;have HC:=qh (zfQ A n c w hG V h);clear hG V h
 go_enter func25,ntmps25
 go_wp2_with fail
 refine HC.out.mono ?_;rintro e w1 ⟨t,N,rfl,a6,HT,hB⟩;obtain⟨m,hs,hT,O⟩:=zf0 HT.out;have HS:=qh hs;have C:Hid ((S4 m).2=0):=qh (by rw[hT]);have H4:=qh (O m);have X:t.size<=maxLen:=by unfold maxLen;omega
 have HB:=qh hB;clear hB HC hs hT O HT a6
 go_wp2_with fail
 refine(JT t w1 X (HG.out.to HB.out)).mono ?_;rintro e w2 ⟨l,I,J,p,er,rfl,hF,b,G,Y⟩;obtain⟨rfl,rfl,rfl⟩:=ZJ HS.out Y;have a:=b.alloc b.size (.cells #[.slice I m.length J] 24);have r:=qh (A5 w2 (.cells #[.slice I m.length J] 24));have HU:Hid (U2 (w2.alloc (.cells #[.slice I m.length J] 24)) (λ_=>True) (.slice I m.length J) m):=qh (hF.K7 (λg K o=>⟨trivial,by simp;omega,C4 w2 _ o⟩));have s:=qh (HB.out.trans (a.mono HB.out.size));have Z:=qh G;clear hF b G Y a HB
 go_upto_region 3 with(fail)
 generalize World.alloc _ _=w3 at r HU s|-;generalize w2.heap.size=bu at r|-
 go_wp2_with fail
 refine(Qb t w3 X (HG.out.to s.out)).mono ?_;rintro e P ⟨us,p,er,Y,Q,n1,R,m1,ec,rfl,b,d⟩;obtain⟨rfl,rfl,rfl⟩:=ZJ HS.out Y;obtain⟨rfl,rfl,rfl,hf⟩:ec=0/\n1=m.length/\m1=(zP m T0:Int)/\zF P (.slice Q n1 R) (m.map λf=>(xJ m f).pf):=by
  rcases d with⟨u,-⟩|⟨-,⟨u,-⟩|⟨-,u,-⟩|⟨-,-,K,o,h3,O⟩⟩
  ·exact H9 rfl u
  ·exact H9 C.out u
  ·rw[yR H4.out]at u;cases u
  ·exact⟨K,o,h3,O⟩
 have a:=b.alloc b.size (.cells #[.slice Q m.length R,.int .i64 (zP m T0:Int)] 55);have x:=qh (A5 P (.cells #[.slice Q m.length R,.int .i64 (zP m T0:Int)] 55));have L:=qh (hf.K7 (.of ((x8 P.heap.size P).alloc (x7 _) (.cells #[.slice Q m.length R,.int .i64 (zP m T0:Int)] 55))));have i:=qh ((a.block bu (I5 r.out)).trans r.out);have D:=qh (HU.out.K7 (F':=λ_=>True) (w':=P.alloc (.cells #[.slice Q m.length R,.int .i64 (zP m T0:Int)] 55)) (λg K o=>⟨trivial,A7 o a.size,a.block g o⟩));have y:=qh (s.out.trans (a.mono s.out.size));clear Y b d hf a r HU s
 go_upto_region 4 with(fail)
 generalize World.alloc _ _=w5 at x L i D y|-;generalize P.heap.size=b1 at x|-;have d0:=x6 i.out 0;have a2:=qh (QR HS.out)
 go_wp2_with fail
 refine(znQ m I J (λ_=>True) w5 D.out a2.out.1 (Yj HS.out) a2.out.2 Z.out (HG.out.to y.out)).mono ?_;rintro e S ⟨T,n2,U,m2,ec,rfl,b,d⟩;obtain⟨rfl,rfl,rfl,hf⟩:ec=0/\n2=m.length/\m2=(zP m T0:Int)/\zF S (.slice T n2 U) (m.map λf=>(xJ m f).pf):=by
  rcases d with⟨u,-⟩|⟨-,u,-⟩|⟨-,-,K,o,h3,O⟩
  ·exact H9 C.out u
  ·rw[yR H4.out]at u;cases u
  ·exact⟨K,o,h3,O⟩
 have a:=b.alloc b.size (.cells #[.slice T m.length U,.int .i64 (zP m T0:Int)] 55);have z:=qh (A5 S (.cells #[.slice T m.length U,.int .i64 (zP m T0:Int)] 55));have M:=qh (hf.K7 (.of ((x8 S.heap.size S).alloc (x7 _) (.cells #[.slice T m.length U,.int .i64 (zP m T0:Int)] 55))));have B:=qh (L.out.K7 (.of a));have q:=qh ((a.block b1 (I5 x.out)).trans x.out);have k:=qh ((a.block bu (I5 i.out)).trans i.out);have E:=qh (D.out.K7 (F':=λ_=>True) (w':=S.alloc (.cells #[.slice T m.length U,.int .i64 (zP m T0:Int)] 55)) (λg K o=>⟨trivial,A7 o a.size,a.block g o⟩));have F:=qh (y.out.trans (a.mono y.out.size));clear b d hf a d0 x L i D y
 go_upto_region 5 with(fail)
 generalize World.alloc _ _=w7 at z M B q k E F|-;generalize S.heap.size=b2 at z|-;have d0:=x6 k.out 0;have a0:=x6 q.out 0;have a1:=x6 q.out 1
 go_wp2_with fail
 refine(zdG m C.out H4.out Q I R J (λ_=>True) w7 B.out E.out).mono ?_;rintro e w8 ⟨rfl,b⟩;have H:=qh ((b.block b2 (I5 z.out)).trans z.out);have a3:=qh ((b.block bu (I5 k.out)).trans k.out);have a4:=qh (M.out.K7 (.of b));have a7:=qh (E.out.K7 (F':=λ_=>True) (w':=w8) (λg K o=>⟨trivial,A7 o b.size,b.block g o⟩));have a5:=qh (F.out.trans (b.mono F.out.size));clear b d0 a0 a1 z M B q k E F;have d0:=x6 a3.out 0;have a0:=x6 H.out 0;have a1:=x6 H.out 1
 go_wp2_with fail
 refine(zdG m C.out H4.out T I U J (λ_=>True) w8 a4.out a7.out).mono ?_;rintro e w9 ⟨rfl,b⟩;have a8:=qh (a5.out.trans (b.mono a5.out.size));clear b d0 a0 a1
 go_wp2_with fail
 go_ret;exact⟨rfl,a8.out⟩
def zaB(s:ByteArray)(A)(n c:Nat)(w)(hs:s.size<=maxLen)(hG:O4 w)(S:n<=c)(h: ∀j,j<n-> ∃g t v,A=some ⟨g,t,none⟩/\g<w.heap.size/\w.cell? ⟨g,t+j,none⟩=some (.int .i64 v)):
 Calls prog 9 #[.string s,.slice A n c] w λe w'=>e=.returned (.bool true)/\Below w.heap.size w w':=by
 have T:=qh hG;have HS:=qh hs;have HH:Hid (∀W,Below w.heap.size w W->Calls prog 25 #[.slice A n c] W λe w'=>e=.returned (.bool true)/\Below W.heap.size W w'):=qh (λW hW=>zd9 A n c W (hG.to hW) S (λj hj=>by
  obtain⟨g,t,v,d,i,I⟩:=h j hj;exact⟨g,t,v,d,A7 i hW.size,(hW.cell (p:=⟨g,t+j,none⟩) i).trans I⟩))
 clear hG hs S h
 go_enter func9,ntmps9
 go_wp2_with fail
 refine(Qb xy w (by decide) T.out).mono ?_;rintro e w1 ⟨us,p,U,u,A1,n1,c1,m1,E,rfl,a,b⟩;obtain⟨rfl,rfl,rfl⟩:=znV u;obtain⟨rfl,rfl⟩:E=0/\n1=1:=by
  rcases b with⟨r,-⟩|⟨-,⟨r,-⟩|⟨-,r,-⟩|⟨-,-,d,i,-⟩⟩
  ·exact H9 rfl r
  ·exact H9 (by rw[zmE]) r
  ·rw[yR (λf O=>by obtain rfl:=List.mem_singleton.1 O;exact znx _)]at r;cases r
  ·exact⟨d,i⟩
 have V:=qh (a.alloc a.size (.cells #[.slice A1 1 c1,.int .i64 m1] 55));have o:=qh (A5 w1 (.cells #[.slice A1 1 c1,.int .i64 m1] 55));clear u a b
 go_upto_region 2 with(fail)
 generalize World.alloc _ _=w2 at o V|-;generalize w1.heap.size=b5 at o|-;have c0:=x6 o.out 0
 go_wp2_with fail
 clear c0;refine(JT s w2 HS.out (T.out.to V.out)).mono ?_;rintro e w3 ⟨l,P,Q,p,U,rfl,hF,a,X,u⟩;have Y:=a.alloc a.size (.cells #[.slice P l.length Q] 24);have q:=qh (A5 w3 (.cells #[.slice P l.length Q] 24));have HU:Hid (U2 (w3.alloc (.cells #[.slice P l.length Q] 24)) (λ_=>True) (.slice P l.length Q) l):=qh (hF.K7 (λg d i=>⟨trivial,by simp;omega,C4 w3 _ i⟩));have k:=qh (V.out.trans (Y.mono V.out.size));have HR:=qh u;clear hF a X u Y V o
 go_upto_region 5 with(fail)
 generalize World.alloc _ _=w4 at q HU k|-;generalize w3.heap.size=bu at q|-
 by_cases r:U=0
 case neg=>
  have e1:(U==0)=false:=by simpa using r
  have e2:(U !=0)=true:=by simpa using r
  have a4:=qh r;clear r
  go_wp2_with fail
  refine(Qb s w4 HS.out (T.out.to k.out)).mono ?_;rintro e Z ⟨us,p',a5,u,F,J,G,K,E,rfl,a,b⟩;obtain⟨rfl,rfl,rfl⟩:=ZJ HR.out u;obtain⟨rfl,rfl⟩:E=U/\J=0:=by
   rcases b with⟨-,d,i⟩|⟨d,-⟩
   ·exact⟨d,i⟩
   ·exact H9 d a4.out
  have m:=qh (k.out.trans ((a.alloc a.size (.cells #[.slice F 0 G,.int .i64 K] 55)).mono k.out.size));have o:=qh (A5 Z (.cells #[.slice F 0 G,.int .i64 K] 55));have e3:(E==E)=true:=beq_self_eq_true _;clear u a b
  go_upto_region 8 with(fail)
  generalize World.alloc _ _=R at o m|-;generalize Z.heap.size=a6 at o|-;have c0:=x6 o.out 0
  go_wp2_with fail
  go_ret;exact⟨rfl,m.out⟩
 case pos=>
  subst r;have a0:=qh (QR HR.out);have d0:=x6 q.out 0
  go_wp2_with fail
  refine(zgM l P Q (λ_=>True) w4 HU.out a0.out.1 a0.out.2 (T.out.to k.out)).mono ?_;rintro e Z ⟨rfl,a⟩;have x:=qh ((a.block bu (I5 q.out)).trans q.out);have a1:=qh (HU.out.K7 (F':=λ_=>True) (w':=Z) (λg d i=>⟨trivial,A7 i a.size,a.block g i⟩));have m:=qh (k.out.trans (a.mono k.out.size));obtain⟨et,L⟩: ∃z,(S4 l).2=z:=⟨_,rfl⟩;have y:=qh L;rw[L];generalize(S4 l).1=ep;clear a d0 q HU k L
  go_wp2_with fail
  refine(Qb s Z HS.out (T.out.to m.out)).mono ?_;rintro e R ⟨us,p',a5,u,F,J,G,K,E,rfl,a,b⟩;obtain⟨rfl,rfl,rfl⟩:=ZJ HR.out u;have B:=a.alloc a.size (.cells #[.slice F J G,.int .i64 K] 55);have o:=qh (A5 R (.cells #[.slice F J G,.int .i64 K] 55));have H:=qh ((B.block bu (I5 x.out)).trans x.out);have a2:=qh (a1.out.K7 (F':=λ_=>True) (w':=R.alloc (.cells #[.slice F J G,.int .i64 K] 55)) (λg d i=>⟨trivial,A7 i B.size,B.block g i⟩));have C:=qh (m.out.trans (B.mono m.out.size));have HQ:=qh (jk.of ((x8 R.heap.size R).alloc (x7 _) (.cells #[.slice F J G,.int .i64 K] 55)));have M:=qh b;clear u a B b x a1 m
  go_upto_region 8 with(fail)
  generalize World.alloc _ _=w7 at o H a2 C HQ|-;generalize R.heap.size=a6 at o|-;have c0:=x6 o.out 0
  by_cases D:et=0
  case neg=>
   obtain⟨rfl,rfl⟩:E=et/\J=0:=by
    rcases M.out with⟨d,-⟩|⟨-,⟨d,i,I⟩|⟨d,-⟩|⟨d,-⟩⟩
    ·exact H9 rfl d
    ·exact⟨i.trans y.out,I⟩
    ·exact H9 (y.out.symm.trans d) D
    ·exact H9 (y.out.symm.trans d) D
   have e2:(E !=0)=true:=by simpa using D
   have e3:(E==E)=true:=beq_self_eq_true _;clear D
   go_wp2_with fail
   go_ret;exact⟨rfl,C.out⟩
  case pos=>
   subst D
   rcases M.out with⟨d,-⟩|⟨-,⟨d,-⟩|⟨-,-,i,I⟩|⟨-,hC,i,I,h4,O⟩⟩
   ·exact H9 rfl d
   ·exact H9 y.out d
   ·subst i I
    go_wp2_with fail
    go_ret;exact⟨rfl,C.out⟩
   ·subst i I h4
    have H4:Hid (∀f∈l,(xJ l f).S0.length<=4000):=qh (by
     unfold Jk at hC
     split at hC
     ·rename_i a3
      exact λf O=>by simpa using List.all_eq_true.1 a3 f O
     ·cases hC)
    have HF:=qh (O.K7 HQ.out);have c1:=x6 o.out 1;have d0:=x6 H.out 0;clear hC O M HQ
    go_wp2_with fail
    refine(zdG l y.out H4.out F P G Q (λ_=>True) w7 HF.out a2.out).mono ?_;rintro e w8 ⟨rfl,a⟩;have N:=qh (C.out.trans (a.mono C.out.size));clear a c0 c1 d0
    go_wp2_with fail
    refine(HH.out w8 N.out).mono ?_;rintro e w9 ⟨rfl,a⟩;have a7:=qh (N.out.trans (a.mono N.out.size));clear a
    go_wp2_with fail
    go_ret;exact⟨rfl,a7.out⟩
end Go.Proofs.YtmngofgminlloaaGreatDoor
