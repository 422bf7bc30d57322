/- Merged. -/
import Derived.Test.YtalgmjmibamdfaaGreatDoorVS16
set_option linter.all false
set_option maxHeartbeats 16000000
set_option maxRecDepth 100000
namespace Go.Proofs.YtalgmjmibamdfaaGreatDoor
open Go.Proofs.Tryz
open Go.RowKit Tw
section
variable {us:List Fn}{n m:Nat}{vs:N1}{nm:ByteArray}{a:Ex}{J0 P2:List Sm}{p:Int}{LA LB LE:List Q2}{m1 m2:Nat}
theorem sm1(b:(N0 us vs n 0 a).map Prod.fst=LA):(Q4 us n vs m (.mk 1 nm a J0 P2 p)).1.map Prod.fst=LA++[(3,(m:Int))]:=by rw[Q4];simp[b]
theorem ziO:(Q4 us n vs m (.mk 1 nm a J0 P2 p)).2=(vs++[(nm,(m:Int))],m+1):=by rw[Q4];simp
theorem sm2(b:(N0 us vs n 0 a).map Prod.fst=LA):(Q4 us n vs m (.mk 2 nm a J0 P2 p)).1.map Prod.fst=LA++[(3,zR vs nm)]:=by rw[Q4];simp[b]
theorem ziI:(Q4 us n vs m (.mk 2 nm a J0 P2 p)).2=(vs,m):=by rw[Q4];simp
theorem sm5(b:(N0 us vs n 0 a).map Prod.fst=LA):(Q4 us n vs m (.mk 5 nm a J0 P2 p)).1.map Prod.fst=LA++[(18,0)]:=by rw[Q4];simp[b]
theorem ziK:(Q4 us n vs m (.mk 5 nm a J0 P2 p)).2=(vs,m):=by rw[Q4];simp
theorem sm6(b:(N0 us vs n 0 a).map Prod.fst=LA):(Q4 us n vs m (.mk 6 nm a J0 P2 p)).1.map Prod.fst=LA++[(19,0)]:=by rw[Q4];simp[b]
theorem ziN:(Q4 us n vs m (.mk 6 nm a J0 P2 p)).2=(vs,m):=by rw[Q4];simp
theorem sm7(b:(N0 us vs n 0 a).map Prod.fst=LA):(Q4 us n vs m (.mk 7 nm a J0 P2 p)).1.map Prod.fst=LA++[(4,0)]:=by rw[Q4];simp[b]
theorem ziL:(Q4 us n vs m (.mk 7 nm a J0 P2 p)).2=(vs,m):=by rw[Q4];simp
theorem xL(b:(N0 us vs n 0 a).map Prod.fst=LA):(N0 us vs n 0 a).length=LA.length:=by rw[<-b,C0]
theorem jt{x:R2×Nat}(b:x.1.map Prod.fst=LB):x.1.length=LB.length:=by rw[<-b,C0]
theorem sm4(b:(N0 us vs n 0 a).map Prod.fst=LA)(c:(S3 us (n+LA.length+1) vs m J0).1.map Prod.fst=LB):
 (Q4 us n vs m (.mk 4 nm a J0 P2 p)).1.map Prod.fst=LA++(16,((n+LA.length+LB.length+2:Nat):Int))::(LB++[(15,(n:Int))]):=by
 rw[Q4];simp only[if_true];rw[xL b,jt c];simp only[List.map_append,List.map_cons,List.map_nil,b,c]
theorem ziB(b:(N0 us vs n 0 a).map Prod.fst=LA):(Q4 us n vs m (.mk 4 nm a J0 P2 p)).2=(vs,(S3 us (n+LA.length+1) vs m J0).2):=by
 rw[Q4];simp only[if_true];rw[xL b]
theorem sm3(b:(N0 us vs n 0 a).map Prod.fst=LA)(c:(S3 us (n+LA.length+1) vs m J0).1.map Prod.fst=LB):
 (Q4 us n vs m (.mk 3 nm a J0 [] p)).1.map Prod.fst=LA++(16,((n+LA.length+LB.length+1:Nat):Int))::LB:=by
 rw[Q4];simp only[List.isEmpty_nil,if_true];rw[z7 (by decide),z7 (by decide),z7 (by decide),xL b,jt c];simp only[List.map_append,List.map_cons,b,c]
theorem ziW(b:(N0 us vs n 0 a).map Prod.fst=LA):(Q4 us n vs m (.mk 3 nm a J0 [] p)).2=(vs,(S3 us (n+LA.length+1) vs m J0).2):=by
 rw[Q4];simp only[List.isEmpty_nil,if_true];rw[z7 (by decide),z7 (by decide),z7 (by decide),xL b]
theorem zhJ(e:P2.isEmpty=false)(b:(N0 us vs n 0 a).map Prod.fst=LA)(c:(S3 us (n+LA.length+1) vs m J0).1.map Prod.fst=LB)(f:(S3 us (n+LA.length+1) vs m J0).2=m1)(d:(S3 us (n+LA.length+LB.length+2) vs m1 P2).1.map Prod.fst=LE):
 (Q4 us n vs m (.mk 3 nm a J0 P2 p)).1.map Prod.fst=LA++(16,((n+LA.length+LB.length+2:Nat):Int))::(LB++(15,((n+LA.length+LB.length+2+LE.length:Nat):Int))::LE):=by
 rw[Q4];simp only[e,if_true];rw[z7 (by decide),z7 (by decide),z7 (by decide),z7 (by decide),xL b,jt c,f,jt d];simp only[List.map_append,List.map_cons,b,c,d]
theorem zhO(b:P2.isEmpty=false)(c:(N0 us vs n 0 a).map Prod.fst=LA)(d:(S3 us (n+LA.length+1) vs m J0).1.map Prod.fst=LB)(e:(S3 us (n+LA.length+1) vs m J0).2=m1):
 (Q4 us n vs m (.mk 3 nm a J0 P2 p)).2=(vs,(S3 us (n+LA.length+LB.length+2) vs m1 P2).2):=by
 rw[Q4];simp only[b,if_true];rw[z7 (by decide),z7 (by decide),z7 (by decide),z7 (by decide),xL c,jt d,e]
theorem zfV{B:List Sm->T9->Nat->T9->Nat->Bool->Prop}{d:Nat}{k:Int}{f i:T9}{j:Nat}{r:Bool}(h:Sx us B d (.mk k nm a J0 P2 p) f m i j r)(b:(N0 us vs n 0 a).map Prod.fst=LA)(c:(S3 us (n+LA.length+1) vs m J0).1.map Prod.fst=LB)(l:(S3 us (n+LA.length+1) vs m J0).2=m1)(e:(S3 us (n+LA.length+LB.length+2) vs m1 P2).1.map Prod.fst=LE):
 LA.length+LB.length+LE.length+1<=(Q4 us n vs m (.mk k nm a J0 P2 p)).1.length/\(k=3/\P2.isEmpty=false->LA.length+LB.length+LE.length+2<=(Q4 us n vs m (.mk k nm a J0 P2 p)).1.length):=by
 have nil: ∀{q z:Nat}{L:List Q2},(S3 us q vs z []).1.map Prod.fst=L->L.length=0:=λh=>by rw[<-h,S3];rfl
 rw[show(Q4 us n vs m (.mk k nm a J0 P2 p)).1.length=((Q4 us n vs m (.mk k nm a J0 P2 p)).1.map Prod.fst).length from(C0 ..).symm];cases h with
 |bind=>rw[sm1 b,y7,nil c,nil e];simp
 |set=>rw[sm2 b,y7,nil c,nil e];simp
 |V0 o=>
  rcases o with rfl|rfl|rfl
  ·rw[sm5 b,y7,nil c,nil e];simp
  ·rw[sm6 b,y7,nil c,nil e];simp
  ·rw[sm7 b,y7,nil c,nil e];simp
 |qv=>rw[sm4 b c,nil e];simp;omega
 |Qc=>
  cases g:P2.isEmpty with
  |true=>
   obtain rfl:P2=[]:=by simpa using g
   rw[sm3 b c,nil e];simp;omega
  |false=>rw[zhJ g b c l e];simp only[y7,y6];exact⟨by omega,λ_=>by omega⟩
theorem Sx.XY{B:List Sm->T9->Nat->T9->Nat->Bool->Prop}{d:Nat}{k:Int}{b e:T9}{i:Nat}{r:Bool}(h:Sx us B d (.mk k nm a J0 P2 p) b m e i r):(k=1\/k=2\/k=3\/k=4\/k=5\/k=6\/k=7)/\(∃τ,Xw us b d τ a)/\(k=2->nm∈b)/\
 (k=3\/k=4-> ∃e m1 g,B J0 b m e m1 g/\J0.length<=1000)/\(k=3-> ∃e m1 g j m2 l,B J0 b m e m1 g/\B P2 b m1 j m2 l/\P2.length<=1000):=by
 cases h with
 |bind _ _ _ h=>exact⟨by simp,⟨_,h⟩,by simp,by simp,by simp⟩
 |set _ c h=>exact⟨by simp,⟨_,h⟩,λ_=>c,by simp,by simp⟩
 |Qc _ h c o f q=>exact⟨by simp,⟨_,h⟩,by simp,λ_=>⟨_,_,_,f,c⟩,λ_=>⟨_,_,_,_,_,_,f,q,o⟩⟩
 |qv _ h c f=>exact⟨by simp,⟨_,h⟩,by simp,λ_=>⟨_,_,_,f,c⟩,by simp⟩
 |V0 c _ h=>exact⟨by omega,⟨_,h⟩,by omega,by omega,by omega⟩
end
theorem T4.eqV{w0 w:World}{c:Nat}{U:Value}{V:Mv}{vs:N1}{b:Nat}{ops ops':List Q2}{us:List Fn}{F:Nat->Prop}(h:T4 w0 w c U V vs b ops us F)(z:N1×Nat)(e:z=(vs,b))(d:ops=ops'):T4 w0 w c U V z.1 z.2 ops' us F:=by subst e d;exact h
theorem zgX(us:List Fn)(left:Nat)(ib:CmB us left):CmS us left:=by
 intro s Aa Ab Ae ca cb ce F w j K L V vs g b M d3 m' r ht u hU a2 a3 a4 b3 h;cases s with|mk k nm a J0 P2 p=>
 obtain⟨c5,⟨ty,b4⟩,h2,b5,h3⟩:=ht.XY;simp only[Sm.M0,Sm.K3,Sm.a,Sm.J0,Sm.P2,Sm.pos]at a2 a3 a4|-
 have Y:=u.m64;have a5:=u.el;have a6:vs.length<=1000:=by have:=G4 List.length u.ok.1;simp only[C0,List.length_reverse]at this;omega
 have hv: ∀s∈M,s∈vs.map Prod.fst:=λs hs=>by rw[u.ok.1];exact List.mem_reverse.2 hs
 have c6:Hid (k=2->nm∈vs.map Prod.fst):=zh (λe=>hv nm (h2 e));have h0:=h.al (.cells #[.int .i64 k,.string nm,.int .i64 a.M0,.int .i64 a.n,.string a.N4,.slice Aa a.args.length ca,.int .i64 a.pos,.slice Ab J0.length cb,.slice Ae P2.length ce,.int .i64 p] 174);have HX:=zh (x9 w (.cells #[.int .i64 k,.string nm,.int .i64 a.M0,.int .i64 a.n,.string a.N4,.slice Aa a.args.length ca,.int .i64 a.pos,.slice Ab J0.length cb,.slice Ae P2.length ce,.int .i64 p] 174));obtain⟨LA,H⟩: ∃LA,(N0 us vs b.length 0 a).map Prod.fst=LA:=⟨_,rfl⟩;obtain⟨LB,N⟩: ∃LB,(S3 us (b.length+LA.length+1) vs g J0).1.map Prod.fst=LB:=⟨_,rfl⟩;obtain⟨m1,O⟩: ∃m1,(S3 us (b.length+LA.length+1) vs g J0).2=m1:=⟨_,rfl⟩;obtain⟨LE,P⟩: ∃LE,(S3 us (b.length+LA.length+LB.length+2) vs m1 P2).1.map Prod.fst=LE:=⟨_,rfl⟩;have b6:=zfV ht H N O P;have o:=zh H;have E:=zh N;have G:=zh O;have b7:=zh P;have q:Hid (b.length+LA.length+LB.length+LE.length+1<=400000):=zh (by omega)
 have CX:Hid (∀(W:World),T4 w W j (.slice K us.length L) V vs g b us F->Calls prog 130 #[.pointer (some ⟨j,0,none⟩),.agg #[.int .i64 a.M0,.int .i64 a.n,.string a.N4,.slice Aa a.args.length ca,.int .i64 a.pos]] W λe w'=>e=.returned (.tuple #[])/\ ∃Q,T4 W w' j (.slice K us.length L) Q vs g (b++(N0 us vs b.length 0 a).map Prod.fst) us F):=
  zh (λW hW=>zeD us left a Aa ca F W j K L V vs g b 0 M ty b4 hv a6 hU.xy (h.args hW.N5 a2) (by rw[xL H];omega) hW.zQ)
 have CB:Hid (k=3\/k=4-> ∀(W:World)(Q:Mv)(d:List Q2),T4 w W j (.slice K us.length L) Q vs g d us F->d.length=b.length+LA.length+1->Calls prog 58 #[.pointer (some ⟨j,0,none⟩),.slice Ab J0.length cb] W λe w'=>e=.returned (.tuple #[])/\ ∃a7,T4 W w' j (.slice K us.length L) a7 vs (S3 us d.length vs g J0).2 (d++(S3 us d.length vs g J0).1.map Prod.fst) us F):=
  zh (λhk W Q d hW hl=>by
   obtain⟨e1,m2,r1,R,d5⟩:=b5 hk;exact ib J0 Ab cb F W j K L Q vs g d M e1 m2 r1 R u hU (by omega) (h.zgK hW.N5 a3) (by rw[hl,jt N];omega) hW.zQ)
 have CE:Hid (k=3/\P2.isEmpty=false-> ∀(W:World)(Q:Mv)(d:List Q2),T4 w W j (.slice K us.length L) Q vs m1 d us F->d.length=b.length+LA.length+LB.length+2->Calls prog 58 #[.pointer (some ⟨j,0,none⟩),.slice Ae P2.length ce] W λe w'=>e=.returned (.tuple #[])/\ ∃a7,T4 W w' j (.slice K us.length L) a7 vs (S3 us d.length vs m1 P2).2 (d++(S3 us d.length vs m1 P2).1.map Prod.fst) us F):=
  zh (λhk W Q d hW hl=>by
   obtain⟨e1,m2,r1,e2,m3,r2,R,c7,d6⟩:=h3 hk.1;have d4:=b6.2 hk;have hq:=(JH (ps:=us.map λf=>f.I4.length) (nv:=0) (C:=[]) rfl hU.yo R (b.length+LA.length+1) vs).1;rw[O]at hq;subst hq;have a8:=R.le u.m64 u.el;exact ib P2 Ae ce F W j K L Q vs m1 d M e2 m3 r2 c7 ⟨a8.2.1,B5 u.el a8.1,u.ok.up a8.1⟩ hU (by omega) (h.zgK hW.N5 a4) (by rw[hl,jt P];omega) hW.zQ)
 have HF:=zh h0;have b8:=zh a6;have HM:=zh Y;rw[H]at CX;clear h0 h u hU a2 a3 a4 b3 ht b4 h2 b5 h3 Y a5 a6 hv b6 ib H N O P
 by_cases h4:k=4
 ·subst h4
  go_enter func102,ntmps102
  go_upto_region 1 with(fail)
  generalize w.alloc _=w1 at HX HF|-
  generalize w.heap.size=bx at HX|-
  have Z:=O1 HX.out;obtain⟨⟨-,-,-,-,c4⟩,-⟩:=zE HF.out.st
  go_wp2_with fail
  refine(CX.out w1 HF.out).mono ?_;rintro e w2 ⟨rfl,V2,c⟩;have A:=zh (c.jg HX.out (by decide) (by decide) (by decide) (by decide));have t:=zh (HF.out.next c);clear c;clear c4;clear Z;have Z:=O1 A.out
  go_wp2_with fail
  refine(Y2 16 0 F _ j _ V2 vs g _ us (by have:=q.out;simp only[y7,y6,y9];omega) t.out.zQ).mono ?_;rintro e w3 ⟨rfl,S,c⟩;have y:=zh (c.jg A.out (by decide) (by decide) (by decide) (by decide));have i:=zh (t.out.next c);clear c;clear Z;have Z:=O1 y.out;obtain⟨nP,B⟩: ∃nP:Nat,(b++LA).length=nP:=⟨_,rfl⟩;have D:=zh B;rw[B];clear B;have a9:=zh (CB.out (by simp) w3 S _ i.out (by simp<;>omega))
  go_wp2_with fail
  refine a9.out.mono ?_;rintro e w4 ⟨rfl,T,c⟩;rw[show(b++LA++[(16,0)]:List Q2).length=b.length+LA.length+1 from by simp only[y7,y6,y9]<;>omega,E.out,G.out]at c;have I:=zh (c.jg y.out (by decide) (by decide) (by decide) (by decide));have v:=zh (i.out.next c);clear c;clear Z;have Z:=O1 I.out
  go_wp2_with fail
  refine(Y2 15 (b.length:Int) F _ j _ T vs m1 _ us (by have:=q.out;simp only[y7,y6,y9];omega) v.out.zQ).mono ?_;rintro e w5 ⟨rfl,V5,c⟩;have U:=zh (c.jg I.out (by decide) (by decide) (by decide) (by decide));have J:=zh (v.out.next c);clear c;clear Z;have Z:=O1 U.out;have z:=zh (J.out.QT (ops':=(b++LA)++(16,0)::(LB++[(15,(b.length:Int))])) (by simp))
  go_wp2_with fail
  refine(yz nP 16 0 F _ j _ V5 vs m1 _ us (by rw[<-D.out];simp) (by have:=q.out;simp only[y7,y6,y9];omega) z.out.zQ).mono ?_;rintro e w6 ⟨rfl,c⟩;rw[<-D.out,xb]at c;have X:=zh (z.out.next c);clear c
  go_wp2_with fail
  (try simp only[Exit.inBlock,Exit.then]);refine E1 (results_none rfl _ _ _) rfl ?_
  exact⟨rfl,V5,X.out.eqV _ ((ziB o.out).trans (by rw[G.out])) (by
   rw[sm4 o.out E.out];rw[show(((b++LA)++(16,0)::(LB++[(15,(b.length:Int))]):List Q2).length:Int)=((b.length+LA.length+LB.length+2:Nat):Int) from by congr 1;simp only[y7,y6,y9];omega];rw[B2])⟩
 ·have m4:(k==4)=false:=by simpa using h4
  go_enter func102,ntmps102
  go_upto_region 1 with(fail)
  generalize w.alloc _=w1 at HX HF|-
  generalize w.heap.size=bx at HX|-
  have Z:=O1 HX.out
  go_wp2_with fail
  refine(CX.out w1 HF.out).mono ?_;rintro e w2 ⟨rfl,V2,c⟩;have A:=zh (c.jg HX.out (by decide) (by decide) (by decide) (by decide));have t:=zh (HF.out.next c);clear c;clear Z;have Z:=O1 A.out
  rcases c5 with rfl|rfl|rfl|rfl|rfl|rfl|rfl
  ·go_wp2_with fail
   refine(zeB nm F _ j _ V2 vs g _ us b8.out (by have:=HM.out;omega) t.out.zQ).mono ?_;rintro e w3 ⟨rfl,S,c⟩;have y:=zh (c.jg A.out (by decide) (by decide) (by decide) (by decide));have i:=zh (t.out.next c);clear c;clear Z;have Z:=O1 y.out
   go_wp2_with fail
   refine(Y2 3 g F _ j _ S _ _ _ us (by have:=q.out;simp only[y7,y6,y9];omega) i.out.zQ).mono ?_;rintro e w4 ⟨rfl,T,c⟩;have v:=zh (i.out.next c);clear c
   go_wp2_with fail
   go_end0;exact⟨rfl,T,v.out.eqV _ ziO (by rw[sm1 o.out,B2])⟩
  ·go_wp2_with fail
   refine(zcU nm F _ j _ V2 vs g _ us (c6.out trivial) b8.out t.out.zQ).mono ?_;rintro e w3 ⟨rfl,c⟩;have y:=zh (c.jg A.out (by decide) (by decide) (by decide) (by decide));have i:=zh (t.out.next c);clear c;clear Z;have Z:=O1 y.out
   go_wp2_with fail
   refine(Y2 3 (zR vs nm) F _ j _ V2 _ _ _ us (by have:=q.out;simp only[y7,y6,y9];omega) i.out.zQ).mono ?_;rintro e w4 ⟨rfl,T,c⟩;have v:=zh (i.out.next c);clear c
   go_wp2_with fail
   go_end0;exact⟨rfl,T,v.out.eqV _ ziI (by rw[sm2 o.out,B2])⟩
  ·go_wp2_with fail
   refine(Y2 16 0 F _ j _ V2 vs g _ us (by have:=q.out;simp only[y7,y6,y9];omega) t.out.zQ).mono ?_;rintro e w3 ⟨rfl,S,c⟩;have y:=zh (c.jg A.out (by decide) (by decide) (by decide) (by decide));have i:=zh (t.out.next c);clear c;clear Z;have Z:=O1 y.out;obtain⟨nP,B⟩: ∃nP:Nat,(b++LA).length=nP:=⟨_,rfl⟩;have D:=zh B;rw[B];clear B;have a9:=zh (CB.out (by simp) w3 S _ i.out (by simp<;>omega))
   go_wp2_with fail
   refine a9.out.mono ?_;rintro e w4 ⟨rfl,T,c⟩;rw[show(b++LA++[(16,0)]:List Q2).length=b.length+LA.length+1 from by simp only[y7,y6,y9]<;>omega,E.out,G.out]at c;have I:=zh (c.jg y.out (by decide) (by decide) (by decide) (by decide));have v:=zh (i.out.next c);clear c;clear Z;have Z:=O1 I.out
   by_cases hz:P2=[]
   ·subst hz
    have a0:=zh (v.out.QT (ops':=(b++LA)++(16,0)::LB) (by simp));simp only[y9]at Z
    go_wp2_with fail
    refine(yz nP 16 0 F _ j _ T vs m1 _ us (by rw[<-D.out];simp) (by have:=q.out;simp only[y7,y6,y9];omega) a0.out.zQ).mono ?_;rintro e w5 ⟨rfl,c⟩;rw[<-D.out,xb]at c;have J:=zh (a0.out.next c);clear c
    go_wp2_with fail
    (try simp only[Exit.inBlock,Exit.then]);refine E1 (results_none rfl _ _ _) rfl ?_
    exact⟨rfl,T,J.out.eqV _ ((ziW o.out).trans (by rw[G.out])) (by
     rw[sm3 o.out E.out];rw[show(((b++LA)++(16,0)::LB:List Q2).length:Int)=((b.length+LA.length+LB.length+1:Nat):Int) from by congr 1;simp only[y7,y6];omega];rw[B2])⟩
   ·have b9:P2.isEmpty=false:=by cases P2 with|nil=>exact G5 rfl hz|cons x l=>rfl
    have d7:((P2.length:Int)==0)=false:=by cases P2 with|nil=>exact G5 rfl hz|cons x l=>simp;omega
    have b0:=zh b9;clear b9 hz
    go_wp2_with fail
    refine(Y2 15 0 F _ j _ T vs m1 _ us (by have:=q.out;simp only[y7,y6,y9];omega) v.out.zQ).mono ?_;rintro e w5 ⟨rfl,V5,c⟩;have U:=zh (c.jg I.out (by decide) (by decide) (by decide) (by decide));have J:=zh (v.out.next c);clear c;clear Z;have Z:=O1 U.out;obtain⟨nQ,b1⟩: ∃nQ:Nat,(b++LA++[(16,0)]++LB).length=nQ:=⟨_,rfl⟩;have c8:Hid (nQ=b.length+LA.length+LB.length+1):=zh (by rw[<-b1];simp only[y7,y6,y9]<;>omega);rw[b1];clear b1;have z:=zh (J.out.QT (ops':=(b++LA)++(16,0)::(LB++[(15,0)])) (by simp))
    go_wp2_with fail
    refine(yz nP 16 0 F _ j _ V5 vs m1 _ us (by rw[<-D.out];simp) (by have:=q.out;simp only[y7,y6,y9];omega) z.out.zQ).mono ?_;rintro e w6 ⟨rfl,c⟩;rw[<-D.out,xb]at c;have c1:=zh (c.jg U.out (by decide) (by decide) (by decide) (by decide));have X:=zh (z.out.next c);clear c;clear Z;have Z:=O1 c1.out;have c9:=zh (CE.out ⟨trivial,b0.out⟩ w6 V5 _ X.out (by simp<;>omega))
    go_wp2_with fail
    refine c9.out.mono ?_;rintro e w7 ⟨rfl,V7,c⟩;rw[show(b++LA++(16,((b++LA++(16,0)::(LB++[(15,0)]):List Q2).length:Int))::(LB++[(15,0)]):List Q2).length=b.length+LA.length+LB.length+2 from by simp only[y7,y6,y9]<;>omega,b7.out]at c;have d0:=zh (c.jg c1.out (by decide) (by decide) (by decide) (by decide));have c2:=zh (X.out.next c);clear c;clear Z;have Z:=O1 d0.out;obtain⟨t1,b2⟩: ∃t1:Nat,((b++LA)++(16,0)::(LB++[(15,0)]):List Q2).length=t1:=⟨_,rfl⟩;have d1:Hid (t1=b.length+LA.length+LB.length+2):=zh (by rw[<-b2];simp only[y7,y6,y9]<;>omega);rw[b2]at c2;clear b2;have a1:=zh (c2.out.QT (ops':=((b++LA)++(16,(t1:Int))::LB)++(15,0)::LE) (by simp));have c3:Hid (((b++LA)++(16,(t1:Int))::LB:List Q2).length=nQ):=zh (by rw[c8.out];simp only[y7,y6,y9]<;>omega)
    go_wp2_with fail
    refine(yz nQ 15 0 F _ j _ V7 vs _ _ us (by rw[<-c3.out];simp) (by have:=q.out;simp only[y7,y6,y9];omega) a1.out.zQ).mono ?_;rintro e w8 ⟨rfl,c⟩;rw[<-c3.out,xb]at c;have d2:=zh (a1.out.next c);clear c
    go_wp2_with fail
    go_end0;exact⟨rfl,V7,d2.out.eqV _ (zhO b0.out o.out E.out G.out) (by
     rw[zhJ b0.out o.out E.out G.out b7.out];rw[show((((b++LA)++(16,(t1:Int))::LB)++(15,0)::LE:List Q2).length:Int)=((b.length+LA.length+LB.length+2+LE.length:Nat):Int) from by congr 1;simp only[y7,y6];omega,d1.out];simp only[B2,z9])⟩
  ·exact G5 rfl h4
  all_goals
   go_wp2_with fail
   refine(Y2 _ 0 F _ j _ V2 vs g _ us (by have:=q.out;simp only[y7,y6,y9];omega) t.out.zQ).mono ?_;rintro e w3 ⟨rfl,S,c⟩;have i:=zh (t.out.next c);clear c
   go_wp2_with fail
   go_end0
   first
    |exact⟨rfl,S,i.out.eqV _ ziK (by rw[sm5 o.out,B2])⟩
    |exact⟨rfl,S,i.out.eqV _ ziN (by rw[sm6 o.out,B2])⟩
    |exact⟨rfl,S,i.out.eqV _ ziL (by rw[sm7 o.out,B2])⟩
theorem zex(us:List Fn): ∀left,CmB us left
 |0=>λ_ _ _ _ _ _ _ _ _ _ _ _ _ _ _ _ h=>h.elim
 |left+1=>zhc us left (zgX us left (zex us left))
theorem zu{P:Program}{fn:Func}{p a:Tmp}{e:TypeId}(h:fn.results= #[.cell p e,.tmp a])(b:Array Value)(w:World)(g:Nat)(t:TypeId)(f:Array Value)(j:Nat×Nat)(d:TypeDesc)
 (k:b.getD p undef=.pointer (some ⟨g,0,none⟩)) (l:w.heap[g]?=some (.cells f t j))
 (m:P.underlying e=some d) (o:(match d with|.struct _|.array _ _=>true|_=>false)=true) (hi:(P.info? e).map (·.size)=some f.size):
 (results fn b).run P w=.ok (.tuple #[.agg f,b.getD a undef]) w:=by
 have i:b[p]?.getD undef=.pointer (some ⟨g,0,none⟩):=by simpa using k
 simp[results,h,i,asAddr,run_loadVar_row w g t e f j d l m o hi]
theorem zb2:(Tryz.prog.info? 26).map (·.size)=some 2:=by kernel_rfl
theorem ze7:S1 prog 24 40 3:=⟨underlying24,by kernel_rfl,by decide⟩
theorem xY{α:Type}{l:List α}{j:Nat}{s:α}(h:l[j]?=some s):l.take (j+1)=l.take j++[s]:=by rw[List.take_add_one,h];rfl
theorem QL{n:ByteArray}: ∀(l:List ByteArray)(m:Nat),zX m (l++[n])=zX m l++[(n,((m+l.length:Nat):Int))]
 |[],m=>by simp[zX]
 |a::l,m=>by rw[z9,zX,QL l,zX,z9,y6,show m+1+l.length=m+(l.length+1) by omega]
theorem XL: ∀(l:List ByteArray)(m:Nat),(zX m l).length=l.length
 |[],_=>rfl
 |a::l,m=>by rw[zX,y6,y6,XL l]
theorem zd3{l:List ByteArray}{k:Nat}{n:ByteArray}(h:l[k]?=some n):zX 0 (l.take (k+1))=zX 0 (l.take k)++[(n,(k:Int))]:=by
 have a:k<l.length:=(List.getElem?_eq_some_iff.1 h).1;rw[xY h,QL]
 congr 4
 rw[G8];omega
def OfR(w:World)(us:List Fn)(e:Ending)(w':World):Prop:=
 ∃(A:Option Addr)(c:Nat),e=.returned (.tuple #[.agg #[.slice A us.length c,.int .i64 (ql us zK:Int)],.int .i64 0])/\Below w.heap.size w w'/\L4 w' (.slice A us.length c) (us.map λf=>(jk us f).pf)
structure FrA(w W:World)(b1 b2:Nat)(A:Option Addr)(n c:Nat):Prop where
 un:W.heap[b1]?=some (.cells #[.slice A n c] 34 (0,0))
 rs:W.heap[b2]?=some (.cells #[.slice none 0 0,.int .i64 0] 26 (0,0))
 N5:Below w.heap.size w W
 gl:R8 W
 lo:w.heap.size<=b1
 h12:b1<b2
 Qz:10<w.heap.size
structure FrO(w W:World)(b1 b2 b6:Nat)(A:Option Addr)(n c:Nat)(z:Int)(bs:List (Pf×Value))(Ap:Option Addr)(cp:Nat):Prop where
 a:FrA w W b1 b2 A n c
 pg:W.heap[b6]?=some (.cells #[.slice Ap bs.length cp,.int .i64 z] 26 (0,0))
 row:W.ownsRow (b6+1) 40 3 (.slice Ap bs.length cp) bs.length (bs.flatMap jQ)
 ins: ∀b∈bs,zJ W b.2 b.1.ops
 h26:b2<b6
section
variable {w W W':World}{b1 b2 b6:Nat}{A:Option Addr}{n c:Nat}{z:Int}{bs:List (Pf×Value)}{Ap:Option Addr}{cp:Nat}
theorem FrA.mid(h:FrA w W b1 b2 A n c){B:Nat}(a:Below B W W')(e:b2<B):FrA w W' b1 b2 A n c:=by
 have b:=h.h12;have f:=h.lo;have d:=h.Qz;exact⟨(a.block _ (by omega)).trans h.un,(a.block _ e).trans h.rs,h.N5.trans (a.mono (by omega)),h.gl.zr a.size λg i=>a.block g (by omega),f,b,d⟩
theorem FrA.later(h:FrA w W b1 b2 A n c)(a:Below W.heap.size W W'):FrA w W' b1 b2 A n c:=h.mid a (I0 h.rs)
theorem FrO.later(h:FrO w W b1 b2 b6 A n c z bs Ap cp)(d:Below W.heap.size W W'):FrO w W' b1 b2 b6 A n c z bs Ap cp:=
 ⟨h.a.later d,(d.block _ (I0 h.pg)).trans h.pg,K1 h.row d,λb e=>(h.ins b e).I5 (.of d),h.h26⟩
theorem FrO.U7(h:FrO w W b1 b2 b6 A n c z bs Ap cp){x:Pf}{v:Value}{g yK:Nat}(d:W'.ownsRow (b6+1) 40 3 (.slice (some ⟨g,0,none⟩) (bs.length+1) yK) (bs.length+1) (bs.flatMap jQ++[.int .i64 x.params,.int .i64 x.vars,v]))(s:W.grownBy W' (Value.slice Ap bs.length cp).ownBlock)(B:zJ W v x.ops):
 W'.heap[b6]?=some (.cells #[.slice Ap bs.length cp,.int .i64 z] 26 (0,0))/\FrO w (W'.setCell ⟨b6,0,none⟩ (.slice (some ⟨g,0,none⟩) (bs.length+1) yK)) b1 b2 b6 A n c z (bs++[(x,v)]) (some ⟨g,0,none⟩) yK:=by
 have e: ∀{k:Nat}{q:Array Value}{t:Nat}{r:Nat×Nat},W.heap[k]?=some (.cells q t r)->40≠t->W'.heap[k]?=W.heap[k]?:=λf C=>s.block _ (I0 f) λe=>K5 h.row f C e.symm;have p:=(e h.pg (by decide)).trans h.pg;have j:=I7 W' b6 0 (.slice (some ⟨g,0,none⟩) (bs.length+1) yK);have D:X1 W' (W'.setCell ⟨b6,0,none⟩ (.slice (some ⟨g,0,none⟩) (bs.length+1) yK)):=.set p (by decide) (by decide) 0 _;have u: ∀{v:Value}{l:List Q2},zJ W v l->zJ (W'.setCell ⟨b6,0,none⟩ (.slice (some ⟨g,0,none⟩) (bs.length+1) yK)) v l:=λ{v l} E=>by
  obtain⟨k,c,q,r,F,G,f,y⟩:=E;have j:=e f (by decide);exact zJ.I5 ⟨k,c,q,r,F,G,j.trans f,λi o d=>⟨(E0 (a:=⟨k,i*2,none⟩) j).trans (y i o d).1,(E0 (a:=⟨k,i*2+1,none⟩) j).trans (y i o d).2⟩⟩ D
 refine⟨p,h.a.mid (K8 (L3 (x7 b6 W) h.row (by omega) (G3 (I0 h.pg)) s) (x6 _) 0 _) h.h26,?_,?_,λb m=>?_,h.h26⟩
 ·rw[y7];simpa using y4 W' b6 0 _ _ (.slice (some ⟨g,0,none⟩) (bs.length+1) yK) p
 ·have:=d.kept j (.inr (K5 d p (by decide)))
  simpa[jQ]using this
 ·rcases List.mem_append.1 m with m|m
  ·exact u (h.ins b m)
  ·obtain rfl:=List.mem_singleton.1 m
   exact u B
end
theorem Mk.qF{w:World}{U:Value}:Mk (w.alloc (.cells #[U,.slice none 0 0,.slice none 0 0,.int .i64 0,.slice none 0 0] 127)) w.heap.size U ⟨none,0,none,0,none,0⟩ [] 0 []:=
 ⟨x9 w _,⟨rfl,.inl ⟨rfl,rfl⟩⟩,⟨rfl,.inl ⟨rfl,rfl⟩⟩,⟨rfl,.inl ⟨rfl,rfl⟩⟩⟩
theorem zc5{us:List Fn}(d:Uw us){f:Fn}(hf:f∈us): ∃a b,Bx us 40 f.J0 f.I4.reverse f.I4.length a b true/\OkM f.I4.reverse (zX 0 f.I4) f.I4.length:=by
 obtain⟨-,a,b,h⟩:=d.ty f hf;have j:=(d.fw f hf).zbk;obtain⟨e,g⟩:=YV 0 f.I4 _ rfl;exact⟨a,b,h,by omega,by simp,by rw[e,List.reverse_reverse],λq i=>by simpa using g q i⟩
end Go.Proofs.YtalgmjmibamdfaaGreatDoor
