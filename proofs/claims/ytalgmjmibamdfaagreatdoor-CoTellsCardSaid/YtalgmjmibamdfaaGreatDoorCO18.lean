/- Merged. -/
import Derived.Test.YtalgmjmibamdfaaGreatDoorCO17
set_option linter.all false
set_option maxHeartbeats 16000000
set_option maxRecDepth 100000
namespace Go.Proofs.YtalgmjmibamdfaaGreatDoor
open Go.Proofs.Tryz
open Go.RowKit Tw
section
variable {us:List Fn}{n m:Nat}{vs:O5}{nm:ByteArray}{a:Ex}{J7 Q7:List Sm}{p:Int}{LA LB LE:List S3}{m1 m2:Nat}
theorem sm1(b:(O3 us vs n 0 a).map Prod.fst=LA):(S4 us n vs m (.mk 1 nm a J7 Q7 p)).1.map Prod.fst=LA++[(3,(m:Int))]:=by rw[S4];simp[b]
theorem zki:(S4 us n vs m (.mk 1 nm a J7 Q7 p)).2=(vs++[(nm,(m:Int))],m+1):=by rw[S4];simp
theorem sm2(b:(O3 us vs n 0 a).map Prod.fst=LA):(S4 us n vs m (.mk 2 nm a J7 Q7 p)).1.map Prod.fst=LA++[(3,qB vs nm)]:=by rw[S4];simp[b]
theorem zkg:(S4 us n vs m (.mk 2 nm a J7 Q7 p)).2=(vs,m):=by rw[S4];simp
theorem sm5(b:(O3 us vs n 0 a).map Prod.fst=LA):(S4 us n vs m (.mk 5 nm a J7 Q7 p)).1.map Prod.fst=LA++[(18,0)]:=by rw[S4];simp[b]
theorem zj4:(S4 us n vs m (.mk 5 nm a J7 Q7 p)).2=(vs,m):=by rw[S4];simp
theorem sm6(b:(O3 us vs n 0 a).map Prod.fst=LA):(S4 us n vs m (.mk 6 nm a J7 Q7 p)).1.map Prod.fst=LA++[(19,0)]:=by rw[S4];simp[b]
theorem zkp:(S4 us n vs m (.mk 6 nm a J7 Q7 p)).2=(vs,m):=by rw[S4];simp
theorem sm7(b:(O3 us vs n 0 a).map Prod.fst=LA):(S4 us n vs m (.mk 7 nm a J7 Q7 p)).1.map Prod.fst=LA++[(4,0)]:=by rw[S4];simp[b]
theorem zj9:(S4 us n vs m (.mk 7 nm a J7 Q7 p)).2=(vs,m):=by rw[S4];simp
theorem yn(b:(O3 us vs n 0 a).map Prod.fst=LA):(O3 us vs n 0 a).length=LA.length:=by rw[<-b,D9]
theorem jT{x:T5×Nat}(b:x.1.map Prod.fst=LB):x.1.length=LB.length:=by rw[<-b,D9]
theorem sm4(b:(O3 us vs n 0 a).map Prod.fst=LA)(c:(U3 us (n+LA.length+1) vs m J7).1.map Prod.fst=LB):
 (S4 us n vs m (.mk 4 nm a J7 Q7 p)).1.map Prod.fst=LA++(16,((n+LA.length+LB.length+2:Nat):Int))::(LB++[(15,(n:Int))]):=by
 rw[S4];simp only[if_true];rw[yn b,jT c];simp only[List.map_append,List.map_cons,List.map_nil,b,c]
theorem zke(b:(O3 us vs n 0 a).map Prod.fst=LA):(S4 us n vs m (.mk 4 nm a J7 Q7 p)).2=(vs,(U3 us (n+LA.length+1) vs m J7).2):=by
 rw[S4];simp only[if_true];rw[yn b]
theorem sm3(b:(O3 us vs n 0 a).map Prod.fst=LA)(c:(U3 us (n+LA.length+1) vs m J7).1.map Prod.fst=LB):
 (S4 us n vs m (.mk 3 nm a J7 [] p)).1.map Prod.fst=LA++(16,((n+LA.length+LB.length+1:Nat):Int))::LB:=by
 rw[S4];simp only[List.isEmpty_nil,if_true];rw[B5 (by decide),B5 (by decide),B5 (by decide),yn b,jT c];simp only[List.map_append,List.map_cons,b,c]
theorem zj8(b:(O3 us vs n 0 a).map Prod.fst=LA):(S4 us n vs m (.mk 3 nm a J7 [] p)).2=(vs,(U3 us (n+LA.length+1) vs m J7).2):=by
 rw[S4];simp only[List.isEmpty_nil,if_true];rw[B5 (by decide),B5 (by decide),B5 (by decide),yn b]
theorem ziB(e:Q7.isEmpty=false)(b:(O3 us vs n 0 a).map Prod.fst=LA)(c:(U3 us (n+LA.length+1) vs m J7).1.map Prod.fst=LB)(f:(U3 us (n+LA.length+1) vs m J7).2=m1)(d:(U3 us (n+LA.length+LB.length+2) vs m1 Q7).1.map Prod.fst=LE):
 (S4 us n vs m (.mk 3 nm a J7 Q7 p)).1.map Prod.fst=LA++(16,((n+LA.length+LB.length+2:Nat):Int))::(LB++(15,((n+LA.length+LB.length+2+LE.length:Nat):Int))::LE):=by
 rw[S4];simp only[e,if_true];rw[B5 (by decide),B5 (by decide),B5 (by decide),B5 (by decide),yn b,jT c,f,jT d];simp only[List.map_append,List.map_cons,b,c,d]
theorem zi8(b:Q7.isEmpty=false)(c:(O3 us vs n 0 a).map Prod.fst=LA)(d:(U3 us (n+LA.length+1) vs m J7).1.map Prod.fst=LB)(e:(U3 us (n+LA.length+1) vs m J7).2=m1):
 (S4 us n vs m (.mk 3 nm a J7 Q7 p)).2=(vs,(U3 us (n+LA.length+LB.length+2) vs m1 Q7).2):=by
 rw[S4];simp only[b,if_true];rw[B5 (by decide),B5 (by decide),B5 (by decide),B5 (by decide),yn c,jT d,e]
theorem zgp{B:List Sm->W9->Nat->W9->Nat->Bool->Prop}{d:Nat}{k:Int}{f i:W9}{m':Nat}{r:Bool}(h:Sx us B d (.mk k nm a J7 Q7 p) f m i m' r)(b:(O3 us vs n 0 a).map Prod.fst=LA)(c:(U3 us (n+LA.length+1) vs m J7).1.map Prod.fst=LB)(j:(U3 us (n+LA.length+1) vs m J7).2=m1)(e:(U3 us (n+LA.length+LB.length+2) vs m1 Q7).1.map Prod.fst=LE):
 LA.length+LB.length+LE.length+1<=(S4 us n vs m (.mk k nm a J7 Q7 p)).1.length/\(k=3/\Q7.isEmpty=false->LA.length+LB.length+LE.length+2<=(S4 us n vs m (.mk k nm a J7 Q7 p)).1.length):=by
 have nil: ∀{q z:Nat}{L:List S3},(U3 us q vs z []).1.map Prod.fst=L->L.length=0:=λh=>by rw[<-h,U3];rfl
 rw[show(S4 us n vs m (.mk k nm a J7 Q7 p)).1.length=((S4 us n vs m (.mk k nm a J7 Q7 p)).1.map Prod.fst).length from(D9 ..).symm];cases h with
 |bind=>rw[sm1 b,z9,nil c,nil e];simp
 |set=>rw[sm2 b,z9,nil c,nil e];simp
 |Y0 l=>
  rcases l with rfl|rfl|rfl
  ·rw[sm5 b,z9,nil c,nil e];simp
  ·rw[sm6 b,z9,nil c,nil e];simp
  ·rw[sm7 b,z9,nil c,nil e];simp
 |jf=>rw[sm4 b c,nil e];simp;omega
 |QZ=>
  cases g:Q7.isEmpty with
  |true=>
   obtain rfl:Q7=[]:=by simpa using g
   rw[sm3 b c,nil e];simp;omega
  |false=>rw[ziB g b c j e];simp only[z9,z7];exact⟨by omega,λ_=>by omega⟩
theorem Sx.jd{B:List Sm->W9->Nat->W9->Nat->Bool->Prop}{d:Nat}{k:Int}{b e:W9}{m':Nat}{r:Bool}(h:Sx us B d (.mk k nm a J7 Q7 p) b m e m' r):(k=1\/k=2\/k=3\/k=4\/k=5\/k=6\/k=7)/\(∃τ,Xw us b d τ a)/\(k=2->nm∈b)/\
 (k=3\/k=4-> ∃e m1 g,B J7 b m e m1 g/\J7.length<=1000)/\(k=3-> ∃e m1 g i m2 j,B J7 b m e m1 g/\B Q7 b m1 i m2 j/\Q7.length<=1000):=by
 cases h with
 |bind _ _ _ h=>exact⟨by simp,⟨_,h⟩,by simp,by simp,by simp⟩
 |set _ c h=>exact⟨by simp,⟨_,h⟩,λ_=>c,by simp,by simp⟩
 |QZ _ h c l f o=>exact⟨by simp,⟨_,h⟩,by simp,λ_=>⟨_,_,_,f,c⟩,λ_=>⟨_,_,_,_,_,_,f,o,l⟩⟩
 |jf _ h c f=>exact⟨by simp,⟨_,h⟩,by simp,λ_=>⟨_,_,_,f,c⟩,by simp⟩
 |Y0 c _ h=>exact⟨by omega,⟨_,h⟩,by omega,by omega,by omega⟩
end
theorem W6.eqV{w0 w:World}{c:Nat}{U:Value}{V:Mv}{vs:O5}{b:Nat}{ops ops':List S3}{us:List Fn}{F:Nat->Prop}(h:W6 w0 w c U V vs b ops us F)(z:O5×Nat)(e:z=(vs,b))(d:ops=ops'):W6 w0 w c U V z.1 z.2 ops' us F:=by subst e d;exact h
theorem zi6(us:List Fn)(left:Nat)(ib:CmB us left):CmS us left:=by
 intro s Aa Ab Ae ca cb ce F w j K L V vs g b M d3 m' r ht u hU a2 a3 a4 b3 h;cases s with|mk k nm a J7 Q7 p=>
 obtain⟨c5,⟨ty,b4⟩,h2,b5,h3⟩:=ht.jd;simp only[Sm.N4,Sm.L6,Sm.a,Sm.J7,Sm.Q7,Sm.pos]at a2 a3 a4|-
 have Y:=u.m64;have a5:=u.el;have a6:vs.length<=1000:=by have:=I1 List.length u.ok.1;simp only[D9,List.length_reverse]at this;omega
 have hv: ∀s∈M,s∈vs.map Prod.fst:=λs hs=>by rw[u.ok.1];exact List.mem_reverse.2 hs
 have c6:Hid (k=2->nm∈vs.map Prod.fst):=zh (λe=>hv nm (h2 e));have h0:=h.al (.cells #[.int .i64 k,.string nm,.int .i64 a.N4,.int .i64 a.n,.string a.O9,.slice Aa a.args.length ca,.int .i64 a.pos,.slice Ab J7.length cb,.slice Ae Q7.length ce,.int .i64 p] 174);have HX:=zh (y9 w (.cells #[.int .i64 k,.string nm,.int .i64 a.N4,.int .i64 a.n,.string a.O9,.slice Aa a.args.length ca,.int .i64 a.pos,.slice Ab J7.length cb,.slice Ae Q7.length ce,.int .i64 p] 174));obtain⟨LA,H⟩: ∃LA,(O3 us vs b.length 0 a).map Prod.fst=LA:=⟨_,rfl⟩;obtain⟨LB,N⟩: ∃LB,(U3 us (b.length+LA.length+1) vs g J7).1.map Prod.fst=LB:=⟨_,rfl⟩;obtain⟨m1,O⟩: ∃m1,(U3 us (b.length+LA.length+1) vs g J7).2=m1:=⟨_,rfl⟩;obtain⟨LE,P⟩: ∃LE,(U3 us (b.length+LA.length+LB.length+2) vs m1 Q7).1.map Prod.fst=LE:=⟨_,rfl⟩;have b6:=zgp ht H N O P;have o:=zh H;have E:=zh N;have G:=zh O;have b7:=zh P;have q:Hid (b.length+LA.length+LB.length+LE.length+1<=400000):=zh (by omega)
 have CX:Hid (∀(W:World),W6 w W j (.slice K us.length L) V vs g b us F->Calls prog 130 #[.pointer (some ⟨j,0,none⟩),.agg #[.int .i64 a.N4,.int .i64 a.n,.string a.O9,.slice Aa a.args.length ca,.int .i64 a.pos]] W λe w'=>e=.returned (.tuple #[])/\ ∃Q,W6 W w' j (.slice K us.length L) Q vs g (b++(O3 us vs b.length 0 a).map Prod.fst) us F):=
  zh (λW hW=>zfP us left a Aa ca F W j K L V vs g b 0 M ty b4 hv a6 hU.len (h.args hW.O7 a2) (by rw[yn H];omega) hW.qy)
 have CB:Hid (k=3\/k=4-> ∀(W:World)(Q:Mv)(d:List S3),W6 w W j (.slice K us.length L) Q vs g d us F->d.length=b.length+LA.length+1->Calls prog 58 #[.pointer (some ⟨j,0,none⟩),.slice Ab J7.length cb] W λe w'=>e=.returned (.tuple #[])/\ ∃a7,W6 W w' j (.slice K us.length L) a7 vs (U3 us d.length vs g J7).2 (d++(U3 us d.length vs g J7).1.map Prod.fst) us F):=
  zh (λhk W Q d hW hl=>by
   obtain⟨e1,m2,r1,R,d5⟩:=b5 hk;exact ib J7 Ab cb F W j K L Q vs g d M e1 m2 r1 R u hU (by omega) (h.zid hW.O7 a3) (by rw[hl,jT N];omega) hW.qy)
 have CE:Hid (k=3/\Q7.isEmpty=false-> ∀(W:World)(Q:Mv)(d:List S3),W6 w W j (.slice K us.length L) Q vs m1 d us F->d.length=b.length+LA.length+LB.length+2->Calls prog 58 #[.pointer (some ⟨j,0,none⟩),.slice Ae Q7.length ce] W λe w'=>e=.returned (.tuple #[])/\ ∃a7,W6 W w' j (.slice K us.length L) a7 vs (U3 us d.length vs m1 Q7).2 (d++(U3 us d.length vs m1 Q7).1.map Prod.fst) us F):=
  zh (λhk W Q d hW hl=>by
   obtain⟨e1,m2,r1,e2,m3,r2,R,c7,d6⟩:=h3 hk.1;have d4:=b6.2 hk;have hq:=(Xl (ps:=us.map λf=>f.J3.length) (nv:=0) (C:=[]) rfl hU.Zd R (b.length+LA.length+1) vs).1;rw[O]at hq;subst hq;have a8:=R.le u.m64 u.el;exact ib Q7 Ae ce F W j K L Q vs m1 d M e2 m3 r2 c7 ⟨a8.2.1,C4 u.el a8.1,u.ok.up a8.1⟩ hU (by omega) (h.zid hW.O7 a4) (by rw[hl,jT P];omega) hW.qy)
 have HF:=zh h0;have b8:=zh a6;have HM:=zh Y;rw[H]at CX;clear h0 h u hU a2 a3 a4 b3 ht b4 h2 b5 h3 Y a5 a6 hv b6 ib H N O P
 by_cases h4:k=4
 ·subst h4
  go_enter func102,ntmps102
  go_upto_region 1 with(fail)
  generalize w.alloc _=w1 at HX HF|-
  generalize w.heap.size=bx at HX|-
  have Z:=N6 HX.out;obtain⟨⟨-,-,-,-,c4⟩,-⟩:=qa HF.out.st
  go_wp2_with fail
  refine(CX.out w1 HF.out).mono ?_;rintro e w2 ⟨rfl,V2,c⟩;have A:=zh (c.jO HX.out (by decide) (by decide) (by decide) (by decide));have t:=zh (HF.out.next c);clear c;clear c4;clear Z;have Z:=N6 A.out
  go_wp2_with fail
  refine(zj 16 0 F _ j _ V2 vs g _ us (by have:=q.out;simp only[z9,z7,B1];omega) t.out.qy).mono ?_;rintro e w3 ⟨rfl,S,c⟩;have y:=zh (c.jO A.out (by decide) (by decide) (by decide) (by decide));have i:=zh (t.out.next c);clear c;clear Z;have Z:=N6 y.out;obtain⟨nP,B⟩: ∃nP:Nat,(b++LA).length=nP:=⟨_,rfl⟩;have D:=zh B;rw[B];clear B;have a9:=zh (CB.out (by simp) w3 S _ i.out (by simp<;>omega))
  go_wp2_with fail
  refine a9.out.mono ?_;rintro e w4 ⟨rfl,T,c⟩;rw[show(b++LA++[(16,0)]:List S3).length=b.length+LA.length+1 from by simp only[z9,z7,B1]<;>omega,E.out,G.out]at c;have I:=zh (c.jO y.out (by decide) (by decide) (by decide) (by decide));have v:=zh (i.out.next c);clear c;clear Z;have Z:=N6 I.out
  go_wp2_with fail
  refine(zj 15 (b.length:Int) F _ j _ T vs m1 _ us (by have:=q.out;simp only[z9,z7,B1];omega) v.out.qy).mono ?_;rintro e w5 ⟨rfl,V5,c⟩;have U:=zh (c.jO I.out (by decide) (by decide) (by decide) (by decide));have J:=zh (v.out.next c);clear c;clear Z;have Z:=N6 U.out;have z:=zh (J.out.JS (ops':=(b++LA)++(16,0)::(LB++[(15,(b.length:Int))])) (by simp))
  go_wp2_with fail
  refine(Zk nP 16 0 F _ j _ V5 vs m1 _ us (by rw[<-D.out];simp) (by have:=q.out;simp only[z9,z7,B1];omega) z.out.qy).mono ?_;rintro e w6 ⟨rfl,c⟩;rw[<-D.out,xU]at c;have X:=zh (z.out.next c);clear c
  go_wp2_with fail
  (try simp only[Exit.inBlock,Exit.then]);refine F1 (results_none rfl _ _ _) rfl ?_
  exact⟨rfl,V5,X.out.eqV _ ((zke o.out).trans (by rw[G.out])) (by
   rw[sm4 o.out E.out];rw[show(((b++LA)++(16,0)::(LB++[(15,(b.length:Int))]):List S3).length:Int)=((b.length+LA.length+LB.length+2:Nat):Int) from by congr 1;simp only[z9,z7,B1];omega];rw[B9])⟩
 ·have m4:(k==4)=false:=by simpa using h4
  go_enter func102,ntmps102
  go_upto_region 1 with(fail)
  generalize w.alloc _=w1 at HX HF|-
  generalize w.heap.size=bx at HX|-
  have Z:=N6 HX.out
  go_wp2_with fail
  refine(CX.out w1 HF.out).mono ?_;rintro e w2 ⟨rfl,V2,c⟩;have A:=zh (c.jO HX.out (by decide) (by decide) (by decide) (by decide));have t:=zh (HF.out.next c);clear c;clear Z;have Z:=N6 A.out
  rcases c5 with rfl|rfl|rfl|rfl|rfl|rfl|rfl
  ·go_wp2_with fail
   refine(zfQ nm F _ j _ V2 vs g _ us b8.out (by have:=HM.out;omega) t.out.qy).mono ?_;rintro e w3 ⟨rfl,S,c⟩;have y:=zh (c.jO A.out (by decide) (by decide) (by decide) (by decide));have i:=zh (t.out.next c);clear c;clear Z;have Z:=N6 y.out
   go_wp2_with fail
   refine(zj 3 g F _ j _ S _ _ _ us (by have:=q.out;simp only[z9,z7,B1];omega) i.out.qy).mono ?_;rintro e w4 ⟨rfl,T,c⟩;have v:=zh (i.out.next c);clear c
   go_wp2_with fail
   go_end0;exact⟨rfl,T,v.out.eqV _ zki (by rw[sm1 o.out,B9])⟩
  ·go_wp2_with fail
   refine(zc8 nm F _ j _ V2 vs g _ us (c6.out trivial) b8.out t.out.qy).mono ?_;rintro e w3 ⟨rfl,c⟩;have y:=zh (c.jO A.out (by decide) (by decide) (by decide) (by decide));have i:=zh (t.out.next c);clear c;clear Z;have Z:=N6 y.out
   go_wp2_with fail
   refine(zj 3 (qB vs nm) F _ j _ V2 _ _ _ us (by have:=q.out;simp only[z9,z7,B1];omega) i.out.qy).mono ?_;rintro e w4 ⟨rfl,T,c⟩;have v:=zh (i.out.next c);clear c
   go_wp2_with fail
   go_end0;exact⟨rfl,T,v.out.eqV _ zkg (by rw[sm2 o.out,B9])⟩
  ·go_wp2_with fail
   refine(zj 16 0 F _ j _ V2 vs g _ us (by have:=q.out;simp only[z9,z7,B1];omega) t.out.qy).mono ?_;rintro e w3 ⟨rfl,S,c⟩;have y:=zh (c.jO A.out (by decide) (by decide) (by decide) (by decide));have i:=zh (t.out.next c);clear c;clear Z;have Z:=N6 y.out;obtain⟨nP,B⟩: ∃nP:Nat,(b++LA).length=nP:=⟨_,rfl⟩;have D:=zh B;rw[B];clear B;have a9:=zh (CB.out (by simp) w3 S _ i.out (by simp<;>omega))
   go_wp2_with fail
   refine a9.out.mono ?_;rintro e w4 ⟨rfl,T,c⟩;rw[show(b++LA++[(16,0)]:List S3).length=b.length+LA.length+1 from by simp only[z9,z7,B1]<;>omega,E.out,G.out]at c;have I:=zh (c.jO y.out (by decide) (by decide) (by decide) (by decide));have v:=zh (i.out.next c);clear c;clear Z;have Z:=N6 I.out
   by_cases hz:Q7=[]
   ·subst hz
    have a0:=zh (v.out.JS (ops':=(b++LA)++(16,0)::LB) (by simp));simp only[B1]at Z
    go_wp2_with fail
    refine(Zk nP 16 0 F _ j _ T vs m1 _ us (by rw[<-D.out];simp) (by have:=q.out;simp only[z9,z7,B1];omega) a0.out.qy).mono ?_;rintro e w5 ⟨rfl,c⟩;rw[<-D.out,xU]at c;have J:=zh (a0.out.next c);clear c
    go_wp2_with fail
    (try simp only[Exit.inBlock,Exit.then]);refine F1 (results_none rfl _ _ _) rfl ?_
    exact⟨rfl,T,J.out.eqV _ ((zj8 o.out).trans (by rw[G.out])) (by
     rw[sm3 o.out E.out];rw[show(((b++LA)++(16,0)::LB:List S3).length:Int)=((b.length+LA.length+LB.length+1:Nat):Int) from by congr 1;simp only[z9,z7];omega];rw[B9])⟩
   ·have b9:Q7.isEmpty=false:=by cases Q7 with|nil=>exact I2 rfl hz|cons x l=>rfl
    have d7:((Q7.length:Int)==0)=false:=by cases Q7 with|nil=>exact I2 rfl hz|cons x l=>simp;omega
    have b0:=zh b9;clear b9 hz
    go_wp2_with fail
    refine(zj 15 0 F _ j _ T vs m1 _ us (by have:=q.out;simp only[z9,z7,B1];omega) v.out.qy).mono ?_;rintro e w5 ⟨rfl,V5,c⟩;have U:=zh (c.jO I.out (by decide) (by decide) (by decide) (by decide));have J:=zh (v.out.next c);clear c;clear Z;have Z:=N6 U.out;obtain⟨nQ,b1⟩: ∃nQ:Nat,(b++LA++[(16,0)]++LB).length=nQ:=⟨_,rfl⟩;have c8:Hid (nQ=b.length+LA.length+LB.length+1):=zh (by rw[<-b1];simp only[z9,z7,B1]<;>omega);rw[b1];clear b1;have z:=zh (J.out.JS (ops':=(b++LA)++(16,0)::(LB++[(15,0)])) (by simp))
    go_wp2_with fail
    refine(Zk nP 16 0 F _ j _ V5 vs m1 _ us (by rw[<-D.out];simp) (by have:=q.out;simp only[z9,z7,B1];omega) z.out.qy).mono ?_;rintro e w6 ⟨rfl,c⟩;rw[<-D.out,xU]at c;have c1:=zh (c.jO U.out (by decide) (by decide) (by decide) (by decide));have X:=zh (z.out.next c);clear c;clear Z;have Z:=N6 c1.out;have c9:=zh (CE.out ⟨trivial,b0.out⟩ w6 V5 _ X.out (by simp<;>omega))
    go_wp2_with fail
    refine c9.out.mono ?_;rintro e w7 ⟨rfl,V7,c⟩;rw[show(b++LA++(16,((b++LA++(16,0)::(LB++[(15,0)]):List S3).length:Int))::(LB++[(15,0)]):List S3).length=b.length+LA.length+LB.length+2 from by simp only[z9,z7,B1]<;>omega,b7.out]at c;have d0:=zh (c.jO c1.out (by decide) (by decide) (by decide) (by decide));have c2:=zh (X.out.next c);clear c;clear Z;have Z:=N6 d0.out;obtain⟨t1,b2⟩: ∃t1:Nat,((b++LA)++(16,0)::(LB++[(15,0)]):List S3).length=t1:=⟨_,rfl⟩;have d1:Hid (t1=b.length+LA.length+LB.length+2):=zh (by rw[<-b2];simp only[z9,z7,B1]<;>omega);rw[b2]at c2;clear b2;have a1:=zh (c2.out.JS (ops':=((b++LA)++(16,(t1:Int))::LB)++(15,0)::LE) (by simp));have c3:Hid (((b++LA)++(16,(t1:Int))::LB:List S3).length=nQ):=zh (by rw[c8.out];simp only[z9,z7,B1]<;>omega)
    go_wp2_with fail
    refine(Zk nQ 15 0 F _ j _ V7 vs _ _ us (by rw[<-c3.out];simp) (by have:=q.out;simp only[z9,z7,B1];omega) a1.out.qy).mono ?_;rintro e w8 ⟨rfl,c⟩;rw[<-c3.out,xU]at c;have d2:=zh (a1.out.next c);clear c
    go_wp2_with fail
    go_end0;exact⟨rfl,V7,d2.out.eqV _ (zi8 b0.out o.out E.out G.out) (by
     rw[ziB b0.out o.out E.out G.out b7.out];rw[show((((b++LA)++(16,(t1:Int))::LB)++(15,0)::LE:List S3).length:Int)=((b.length+LA.length+LB.length+2+LE.length:Nat):Int) from by congr 1;simp only[z9,z7];omega,d1.out];simp only[B9,B6])⟩
  ·exact I2 rfl h4
  all_goals
   go_wp2_with fail
   refine(zj _ 0 F _ j _ V2 vs g _ us (by have:=q.out;simp only[z9,z7,B1];omega) t.out.qy).mono ?_;rintro e w3 ⟨rfl,S,c⟩;have i:=zh (t.out.next c);clear c
   go_wp2_with fail
   go_end0
   first
    |exact⟨rfl,S,i.out.eqV _ zj4 (by rw[sm5 o.out,B9])⟩
    |exact⟨rfl,S,i.out.eqV _ zkp (by rw[sm6 o.out,B9])⟩
    |exact⟨rfl,S,i.out.eqV _ zj9 (by rw[sm7 o.out,B9])⟩
theorem zfY(us:List Fn): ∀left,CmB us left
 |0=>λ_ _ _ _ _ _ _ _ _ _ _ _ _ _ _ _ h=>h.elim
 |left+1=>ziV us left (zi6 us left (zfY us left))
theorem zV{P:Program}{fn:Func}{p a:Tmp}{e:TypeId}(h:fn.results= #[.cell p e,.tmp a])(b:Array Value)(w:World)(g:Nat)(t:TypeId)(f:Array Value)(j:Nat×Nat)(d:TypeDesc)
 (k:b.getD p undef=.pointer (some ⟨g,0,none⟩)) (l:w.heap[g]?=some (.cells f t j))
 (m:P.underlying e=some d) (o:(match d with|.struct _|.array _ _=>true|_=>false)=true) (hi:(P.info? e).map (·.size)=some f.size):
 (results fn b).run P w=.ok (.tuple #[.agg f,b.getD a undef]) w:=by
 have i:b[p]?.getD undef=.pointer (some ⟨g,0,none⟩):=by simpa using k
 simp[results,h,i,asAddr,run_loadVar_row w g t e f j d l m o hi]
theorem zde:(Tryz.prog.info? 26).map (·.size)=some 2:=by kernel_rfl
theorem zhh:R1 prog 24 40 3:=⟨underlying24,by kernel_rfl,by decide⟩
theorem Zb{α:Type}{l:List α}{j:Nat}{s:α}(h:l[j]?=some s):l.take (j+1)=l.take j++[s]:=by rw[List.take_add_one,h];rfl
theorem JF{n:ByteArray}: ∀(l:List ByteArray)(m:Nat),qG m (l++[n])=qG m l++[(n,((m+l.length:Nat):Int))]
 |[],m=>by simp[qG]
 |a::l,m=>by rw[B6,qG,JF l,qG,B6,z7,show m+1+l.length=m+(l.length+1) by omega]
theorem Yj: ∀(l:List ByteArray)(m:Nat),(qG m l).length=l.length
 |[],_=>rfl
 |a::l,m=>by rw[qG,z7,z7,Yj l]
theorem ze7{l:List ByteArray}{k:Nat}{n:ByteArray}(h:l[k]?=some n):qG 0 (l.take (k+1))=qG 0 (l.take k)++[(n,(k:Int))]:=by
 have a:k<l.length:=(List.getElem?_eq_some_iff.1 h).1;rw[Zb h,JF]
 congr 4
 rw[I5];omega
def OfR(w:World)(us:List Fn)(e:Ending)(w':World):Prop:=
 ∃(A:Option Addr)(c:Nat),e=.returned (.tuple #[.agg #[.slice A us.length c,.int .i64 (qS us qp:Int)],.int .i64 0])/\Below w.heap.size w w'/\M3 w' (.slice A us.length c) (us.map λf=>(jM us f).pf)
structure FrA(w W:World)(b1 b2:Nat)(A:Option Addr)(n c:Nat):Prop where
 un:W.heap[b1]?=some (.cells #[.slice A n c] 34 (0,0))
 rs:W.heap[b2]?=some (.cells #[.slice none 0 0,.int .i64 0] 26 (0,0))
 O7:Below w.heap.size w W
 gl:U2 W
 lo:w.heap.size<=b1
 h12:b1<b2
 Jv:10<w.heap.size
structure FrO(w W:World)(b1 b2 b6:Nat)(A:Option Addr)(n c:Nat)(z:Int)(bs:List (Pf×Value))(Ap:Option Addr)(cp:Nat):Prop where
 a:FrA w W b1 b2 A n c
 pg:W.heap[b6]?=some (.cells #[.slice Ap bs.length cp,.int .i64 z] 26 (0,0))
 row:W.ownsRow (b6+1) 40 3 (.slice Ap bs.length cp) bs.length (bs.flatMap xy)
 ins: ∀b∈bs,qo W b.2 b.1.ops
 h26:b2<b6
section
variable {w W W':World}{b1 b2 b6:Nat}{A:Option Addr}{n c:Nat}{z:Int}{bs:List (Pf×Value)}{Ap:Option Addr}{cp:Nat}
theorem FrA.mid(h:FrA w W b1 b2 A n c){B:Nat}(a:Below B W W')(e:b2<B):FrA w W' b1 b2 A n c:=by
 have b:=h.h12;have f:=h.lo;have d:=h.Jv;exact⟨(a.block _ (by omega)).trans h.un,(a.block _ e).trans h.rs,h.O7.trans (a.mono (by omega)),h.gl.qn a.size λg i=>a.block g (by omega),f,b,d⟩
theorem FrA.later(h:FrA w W b1 b2 A n c)(a:Below W.heap.size W W'):FrA w W' b1 b2 A n c:=h.mid a (I7 h.rs)
theorem FrO.later(h:FrO w W b1 b2 b6 A n c z bs Ap cp)(d:Below W.heap.size W W'):FrO w W' b1 b2 b6 A n c z bs Ap cp:=
 ⟨h.a.later d,(d.block _ (I7 h.pg)).trans h.pg,K6 h.row d,λb e=>(h.ins b e).J0 (.of d),h.h26⟩
theorem FrO.W8(h:FrO w W b1 b2 b6 A n c z bs Ap cp){x:Pf}{v:Value}{g cap:Nat}(d:W'.ownsRow (b6+1) 40 3 (.slice (some ⟨g,0,none⟩) (bs.length+1) cap) (bs.length+1) (bs.flatMap xy++[.int .i64 x.params,.int .i64 x.vars,v]))(s:W.grownBy W' (Value.slice Ap bs.length cp).ownBlock)(B:qo W v x.ops):
 W'.heap[b6]?=some (.cells #[.slice Ap bs.length cp,.int .i64 z] 26 (0,0))/\FrO w (W'.setCell ⟨b6,0,none⟩ (.slice (some ⟨g,0,none⟩) (bs.length+1) cap)) b1 b2 b6 A n c z (bs++[(x,v)]) (some ⟨g,0,none⟩) cap:=by
 have e: ∀{k:Nat}{q:Array Value}{t:Nat}{r:Nat×Nat},W.heap[k]?=some (.cells q t r)->40≠t->W'.heap[k]?=W.heap[k]?:=λf C=>s.block _ (I7 f) λe=>L9 h.row f C e.symm;have p:=(e h.pg (by decide)).trans h.pg;have j:=J2 W' b6 0 (.slice (some ⟨g,0,none⟩) (bs.length+1) cap);have D:Y2 W' (W'.setCell ⟨b6,0,none⟩ (.slice (some ⟨g,0,none⟩) (bs.length+1) cap)):=.set p (by decide) (by decide) 0 _;have u: ∀{v:Value}{l:List S3},qo W v l->qo (W'.setCell ⟨b6,0,none⟩ (.slice (some ⟨g,0,none⟩) (bs.length+1) cap)) v l:=λ{v l} E=>by
  obtain⟨k,c,q,r,F,G,f,y⟩:=E;have j:=e f (by decide);exact qo.J0 ⟨k,c,q,r,F,G,j.trans f,λi o d=>⟨(E9 (a:=⟨k,i*2,none⟩) j).trans (y i o d).1,(E9 (a:=⟨k,i*2+1,none⟩) j).trans (y i o d).2⟩⟩ D
 refine⟨p,h.a.mid (M2 (L8 (y7 b6 W) h.row (by omega) (I0 (I7 h.pg)) s) (y6 _) 0 _) h.h26,?_,?_,λb m=>?_,h.h26⟩
 ·rw[z9];simpa using z5 W' b6 0 _ _ (.slice (some ⟨g,0,none⟩) (bs.length+1) cap) p
 ·have:=d.kept j (.inr (L9 d p (by decide)))
  simpa[xy]using this
 ·rcases List.mem_append.1 m with m|m
  ·exact u (h.ins b m)
  ·obtain rfl:=List.mem_singleton.1 m
   exact u B
end
theorem Mk.jt{w:World}{U:Value}:Mk (w.alloc (.cells #[U,.slice none 0 0,.slice none 0 0,.int .i64 0,.slice none 0 0] 127)) w.heap.size U ⟨none,0,none,0,none,0⟩ [] 0 []:=
 ⟨y9 w _,⟨rfl,.inl ⟨rfl,rfl⟩⟩,⟨rfl,.inl ⟨rfl,rfl⟩⟩,⟨rfl,.inl ⟨rfl,rfl⟩⟩⟩
theorem zcR{us:List Fn}(b:Uw us){f:Fn}(hf:f∈us): ∃a m',Bx us 40 f.J7 f.J3.reverse f.J3.length a m' true/\OkM f.J3.reverse (qG 0 f.J3) f.J3.length:=by
 obtain⟨-,a,m',h⟩:=b.ty f hf;have i:=(b.fw f hf).zcj;obtain⟨d,e⟩:=zaX 0 f.J3 _ rfl;exact⟨a,m',h,by omega,by simp,by rw[d,List.reverse_reverse],λq g=>by simpa using e q g⟩
end Go.Proofs.YtalgmjmibamdfaaGreatDoor
