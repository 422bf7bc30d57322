/- Merged. -/
import Derived.Test.YtalgmjmibamdfaaGreatDoorCO19b
set_option linter.all false
set_option maxHeartbeats 16000000
set_option maxRecDepth 100000
namespace Go.Proofs.YtalgmjmibamdfaaGreatDoor
open Go.Proofs.Tryz
open Go.RowKit Tw
section
variable {L:List Cf}{main:Nat}{Z:Nat}{B:Bd}{rb cf g:Nat}{Af:Option Addr}{value:Int}{hf:R4}{lb:Array Value}{I:World->(Nat->Prop)->List (Int×List Int)->Prop}
theorem zgn(hP:zk L main)(HH:zT Z B g lb hf I){c:Nat}{A:Option Addr}{low:List Fm}{f:Fq}{v s:Value}{w:World}{t:List (Int×List Int)}
 (h:qF w B rb 0 value A c (low++[(f,v,s)])) (hF:M3 w (.slice Af L.length cf) (L.map Cf.pf)) (hI:I w B.S t) (hT:jC L f) (hR:FrR f) (g7:low.length+1<=32) (c8: ∀y∈low,y.1.I8.length<=600/\y.1.pc<=4000) (h4: ∀c∈L,c.J6.length<=4000) (c9: ∀o h,xw L f=some (o,h)->o.1≠17/\o.1≠18/\o.1≠20):
 Calls prog 39 #[.pointer (some ⟨rb,0,none⟩),.agg #[.slice Af L.length cf,.int .i64 main],.func (.func g) #[] lb] w (NxO (R5 L hf value (low.map Prod.fst) f) Z B rb I (t++Y5 L f) w):=by
 obtain⟨cd,⟨d,x⟩,a9,c5,g8,e8,d7,a6⟩:=hT.jN hP;have b0:=c9 _ _ c5;have e1:R5 L hf value (low.map Prod.fst) f=M8 L hf value (low.map Prod.fst) f (d,x) (f.I8.take (f.I8.length-J4 (L.map (·.params)) (d,x))) (f.I8.drop (f.I8.length-J4 (L.map (·.params)) (d,x))):=by unfold R5;rw[c5];rfl
 have e2:Y5 L f=Q9 (d,x) (f.I8.drop (f.I8.length-J4 (L.map (·.params)) (d,x))):=by unfold Y5;rw[c5];rfl
 rw[e1,e2];clear e1 e2 c5 c9 hT;obtain⟨d4,b9,b1,-⟩:=g8;obtain⟨fn,G,E,st⟩:=f;simp only at a9 b9 b1 e8 d7 a6 hR b0|-
 obtain⟨po,Q⟩: ∃z,J4 (L.map (·.params)) (d,x)=z:=⟨_,rfl⟩;rw[Q]at b9 b1|-
 obtain⟨r,xs,rfl,a0,hS,hX⟩: ∃r xs,st=r++xs/\xs.length=po/\st.take (st.length-po)=r/\st.drop (st.length-po)=xs:=⟨_,_,(List.take_append_drop (st.length-po) st).symm,by rw[I6];omega,rfl,rfl⟩;rw[hS,hX];clear hS hX;have g9:po<=7:=by rw[<-Q];exact qL (λy hy=>by obtain⟨z,hz,rfl⟩:=List.mem_map.1 hy;exact(hP.yF z hz).params) _
 have Y:(r++xs).length<=300:=by omega
 clear g9;obtain⟨N,j7,Av,cv,As,cs,rfl,h1,e9,rfl,rfl,J,K,V,P,z1,z3,h2⟩:=qw h.T9;obtain⟨c0,c1,R,f0,f1,f2⟩:=qM h;rw[z9,List.length_singleton]at R;obtain⟨C,d8⟩: ∃n,low.length=n:=⟨_,rfl⟩;have i:=zh d8;rw[d8]at R J K g7;clear d8;obtain⟨gf,j8,vo,hv,-,f3,u0,u1,u2,d5⟩:=hF.at (zi a9);injection hv with h3 h7 h8
 clear h7;subst h3 h8;obtain⟨go,co,rfl,-,f4,f5⟩:=d5.at;obtain⟨o0,o1⟩:=f5 G (d,x) (by show(cd.J6.map Prod.fst)[G]?=_;rw[G3,a6];rfl);simp only[Cf.pf,D9]at u0 u1 u2 o0 o1;have j9:fn<L.length:=(List.getElem?_eq_some_iff.1 a9).1;have k2:G<cd.J6.length:=(List.getElem?_eq_some_iff.1 a6).1;have k3:G<=4000:=by have:=h4 cd (B7 a9);omega
 have l1:rb<w.heap.size:=I7 h.K3;have l2:N<w.heap.size:=I7 e9;have d9:=h.bd;have H:=zh h;have HF:=zh hF;have HI:=zh hI;have HP:=zh hP;have m:=zh HH;have k4:=zh c8;have f6:=zh d4;have h9:=zh Q;have i3:=zh a0;have HR:=zh hR;have k5:=zh a9;have c6:=zh d7;have i4:=zh b0;have i5:=zh Y;have i6:=zh b1;have i7: ∀(d:Int),1<=d->d<=20->True:=λ_ _ _=>trivial;have X3:=heap_alloc2_old w (.cells #[.pointer (some ⟨rb,0,none⟩)] 145) (.cells #[.slice (some ⟨gf,0,none⟩) L.length cf,.int .i64 main] 26);have X4:=heap_alloc2_new w (.cells #[.pointer (some ⟨rb,0,none⟩)] 145) (.cells #[.slice (some ⟨gf,0,none⟩) L.length cf,.int .i64 main] 26);have a5:=((y7 w.heap.size w).alloc (y6 _) (.cells #[.pointer (some ⟨rb,0,none⟩)] 145)).alloc (by simp) (.cells #[.slice (some ⟨gf,0,none⟩) L.length cf,.int .i64 main] 26);have a2:=zh X3;have a4:=zh X4;have HB:=zh a5;have oc: ∀b k,b<w.heap.size->((w.alloc (.cells #[.pointer (some ⟨rb,0,none⟩)] 145)).alloc (.cells #[.slice (some ⟨gf,0,none⟩) L.length cf,.int .i64 main] 26)).cell? ⟨b,k,none⟩=w.cell? ⟨b,k,none⟩:=λb k hb=>a5.cell (p:=⟨b,k,none⟩) hb;rw[<-oc _ _ (by assumption)]at R J K u2 o0 o1;have i8:=zh oc;clear i7 X3 X4 a5 oc h hF hI hP HH c8 d4 Q a0 hR a9 d7 b0 Y b1 a6 f5 d5 h4 e8 c0 c1 f0 f1 f2 V P z1 z3 u0 u1 h2 b9 e9 h1;have i0:(0:Int)<=(C:Int):=by omega
 have i1:(C:Int)<(C:Int)+1:=by omega
 have i2:wrap64 (C:Int)=(C:Int):=IntWalk.wrap64_in _ (by omega);have f7:IntKind.i64.wrap (C:Int)=(C:Int):=(IntWalk.i64_left _).trans i2;have j0:(0:Int)<=(fn:Int):=by omega
 have j1:(fn:Int)<(L.length:Int):=by omega
 have k0:(0:Int)<=(G:Int):=by omega
 have k1:(G:Int)<(cd.J6.length:Int):=by omega
 go_enter func39,ntmps39
 go_upto_region 1 with(fail)
 have m1:rb<(World.alloc _ _).heap.size:=z6 l1 HB.out.size;have m2:N<(World.alloc _ _).heap.size:=z6 l2 HB.out.size;have m3:gf<(World.alloc _ _).heap.size:=z6 f3 HB.out.size;have m4:go<(World.alloc _ _).heap.size:=z6 f4 HB.out.size;have a3:=zh (Vo.of HB.out d9);have a1:=zh (H.out.below HB.out);clear f3 f4 l1 l2 HB i8;generalize World.alloc (World.alloc _ _) _=w1 at a2 a4 a3 a1 R J K u2 o0 o1 m1 m2 m3 m4|-
 obtain⟨b4,e0⟩: ∃b,w.heap.size+1=b:=⟨_,rfl⟩;rw[e0]at a4;simp only[e0];clear e0;obtain⟨b3,e3⟩: ∃b,w.heap.size=b:=⟨_,rfl⟩;rw[e3]at a2 d9;simp only[e3];clear e3 d9;have X:=y5 a2.out 0;have T:=y5 a4.out 0;have m5:=I7 a2.out;have m6:=I7 a4.out;have hA: ∀b k O,b<w1.heap.size->(w1.alloc O).cell? ⟨b,k,none⟩=w1.cell? ⟨b,k,none⟩:=λb k O hb=>((y7 w1.heap.size w1).alloc (y6 _) O).cell (p:=⟨b,k,none⟩) hb;refine L4 (by kernel_rfl) [(0,25,.pointer (some ⟨rb,0,none⟩)),(1,26,.pointer (some ⟨rb,0,none⟩)),(2,27,.pointer (some ⟨rb,2,none⟩)),(3,28,.slice (some ⟨N,0,none⟩) (C+1) c),(4,29,.pointer (some ⟨rb,0,none⟩)),(5,30,.pointer (some ⟨rb,0,none⟩)),(6,31,.pointer (some ⟨rb,2,none⟩)),(7,32,.slice (some ⟨N,0,none⟩) (C+1) c),(8,33,.int .i64 (C+1)),(9,34,.int .i64 C),(10,35,.pointer (some ⟨N,C*4,none⟩)),(11,7,.pointer (some ⟨w1.heap.size,0,none⟩))] [] _ _ rfl rfl [11,12] (λz=>match z with|0=>w1.drew|1=>w1.drew.alloc (.cells #[.pointer none] 146)|_=>w1.drew.alloc (.cells #[.pointer (some ⟨N,C*4,none⟩)] 146)) [(0,0),(0,1),(1,0),(1,1),(2,0),(2,1),(3,0),(3,1),(4,0),(4,1),(5,0),(5,1),(6,0),(6,1),(7,0),(7,1),(8,0),(8,1),(9,0),(9,1),(10,0),(10,1),(11,0),(12,1)] (by kernel_rfl) (by kernel_rfl) (by rfl) rfl ?_ ?_
 ·generalize hF:J8 _ _=F
  simp[J8]at hF;subst hF
  repeat' (first|refine List.forall_mem_cons.2 ⟨?_,?_⟩|exact List.forall_mem_nil _)
  all_goals
   intro o' ho;injection ho with ho
   subst ho
  all_goals simp[X9,execOp,go_sem,hA,m1,m5,X,R,i0,i1,i2,f7]
 simp only[J8,B6,C0,List.append_nil,List.foldl];go_simp;have ba:=((y7 w1.heap.size w1).alloc (y6 _) (.cells #[.pointer (some ⟨N,C*4,none⟩)] 146)).drew;have b2:Hid ((w1.alloc (.cells #[.pointer (some ⟨N,C*4,none⟩)] 146)).drew.heap[w1.heap.size]?=_):=zh (y9 w1 (.cells #[.pointer (some ⟨N,C*4,none⟩)] 146));have c3:=a1.out.bd;replace a2:=zh ((ba.block b3 m5).trans a2.out);replace a4:=zh ((ba.block b4 m6).trans a4.out);replace a3:=zh (a3.out.trans (Vo.of ba c3));replace a1:=zh (a1.out.below ba);have oc: ∀b k,b<w1.heap.size->((w1.alloc (.cells #[.pointer (some ⟨N,C*4,none⟩)] 146)).drew).cell? ⟨b,k,none⟩=w1.cell? ⟨b,k,none⟩:=λb k hb=>ba.cell (p:=⟨b,k,none⟩) hb;rw[<-oc _ _ (by assumption)]at T J K u2 o0 o1;have s1:=ba.size;have n2:=z6 m2 s1;have n3:=z6 m3 s1;have n4:=z6 m4 s1;have n6:=z6 m6 s1;clear oc ba s1 hA m1 m2 m3 m4 m5 m6 X R c3 i0 i1 i2 f7;generalize(World.alloc _ _).drew=w2 at a2 a4 b2 a3 a1 T J K u2 o0 o1 n2 n3 n4 n6|-
 generalize w1.heap.size=b7 at b2|-
 have U:=y5 b2.out 0;have n7:=I7 b2.out
 go_upto_region 2 with(fail)
 have hA: ∀b k O,b<w2.heap.size->(w2.alloc O).cell? ⟨b,k,none⟩=w2.cell? ⟨b,k,none⟩:=λb k O hb=>((y7 w2.heap.size w2).alloc (y6 _) O).cell (p:=⟨b,k,none⟩) hb;refine L4 (by kernel_rfl) [(0,36,.pointer (some ⟨b4,0,none⟩)),(1,37,.slice (some ⟨gf,0,none⟩) L.length cf),(2,38,.pointer (some ⟨N,C*4,none⟩)),(3,39,.pointer (some ⟨N,C*4,none⟩)),(4,40,.pointer (some ⟨N,C*4,none⟩)),(5,41,.int .i64 fn),(6,42,.pointer (some ⟨gf,fn*3,none⟩)),(7,43,.pointer (some ⟨gf,fn*3+2,none⟩)),(8,44,.slice (some ⟨go,0,none⟩) cd.J6.length co),(9,45,.pointer (some ⟨N,C*4,none⟩)),(10,46,.pointer (some ⟨N,C*4,none⟩)),(11,47,.pointer (some ⟨N,C*4+1,none⟩)),(12,48,.int .i64 G),(13,49,.pointer (some ⟨go,G*2,none⟩)),(14,50,.agg #[.int .i64 d,.int .i64 x]),(15,8,.pointer (some ⟨w2.heap.size,0,none⟩))] [] _ _ rfl rfl [15,16] (λz=>match z with|0=>w2.drew|1=>w2.drew.alloc (.cells #[.int .i64 0,.int .i64 0] 74)|_=>w2.drew.alloc (.cells #[.int .i64 d,.int .i64 x] 74)) [(0,0),(0,1),(1,0),(1,1),(2,0),(2,1),(3,0),(3,1),(4,0),(4,1),(5,0),(5,1),(6,0),(6,1),(7,0),(7,1),(8,0),(8,1),(9,0),(9,1),(10,0),(10,1),(11,0),(11,1),(12,0),(12,1),(13,0),(13,1),(14,0),(14,1),(15,0),(16,1)] (by kernel_rfl) (by kernel_rfl) (by rfl) rfl ?_ ?_
 ·generalize hF:J8 _ _=F
  simp[J8]at hF;subst hF
  repeat' (first|refine List.forall_mem_cons.2 ⟨?_,?_⟩|exact List.forall_mem_nil _)
  all_goals
   intro o' ho;injection ho with ho
   subst ho
  all_goals simp[X9,execOp,go_sem,hA,n2,n3,n4,n6,n7,T,U,J,K,u2,o0,o1,j0,j1,k0,k1]
 simp only[J8,B6,C0,List.append_nil,List.foldl];go_simp;have ba:=((y7 w2.heap.size w2).alloc (y6 _) (.cells #[.int .i64 d,.int .i64 x] 74)).drew;have f8:Hid ((w2.alloc (.cells #[.int .i64 d,.int .i64 x] 74)).drew.heap[w2.heap.size]?=_):=zh (y9 w2 (.cells #[.int .i64 d,.int .i64 x] 74));have c3:=a1.out.bd;have c7:Hid (NxL rb b3 b4 b7 w2.heap.size N C (some ⟨gf,0,none⟩) L.length cf main d x (w2.alloc (.cells #[.int .i64 d,.int .i64 x] 74)).drew):=zh ⟨(ba.block b3 (I7 a2.out)).trans a2.out,(ba.block b4 n6).trans a4.out,(ba.block b7 n7).trans b2.out,f8.out⟩;replace a3:=zh (a3.out.trans (Vo.of ba c3));replace a1:=zh (a1.out.below ba);clear ba hA c3 n2 n3 n4 n6 n7 T U J K u2 o0 o1 j0 j1 k0 k1 a2 a4 b2 f8;generalize(World.alloc _ _).drew=w3 at c7 a3 a1|-
 generalize w2.heap.size=b8 at c7|-
 have e4:Hid (X8 Z B I t w rb b3 b4 b7 b8 N C (some ⟨gf,0,none⟩) L.length cf main d x value c (low++[(⟨fn,G,E,r++xs⟩,.slice Av E.length cv,.slice As (r++xs).length cs)]) w3):=zh ⟨a1.out,c7.out,a3.out.qh m.out.le,m.out.J0 HI.out a3.out⟩;have ep:IntKind.i64.wrap ((G:Int)+1)=((G+1:Nat):Int):=by rw[show((G+1:Nat):Int)=(G:Int)+1 by omega];exact IntWalk.i64_in _ (by omega)
 have u:Hid (X8 Z B I t w rb b3 b4 b7 b8 N C (some ⟨gf,0,none⟩) L.length cf main d x value c (low++[(⟨fn,G+1,E,r++xs⟩,.slice Av E.length cv,.slice As (r++xs).length cs)]) (w3.setCell ⟨N,C*4+1,none⟩ (.int .i64 ((G+1:Nat):Int)))):=zh (yl i.out m.out e4.out (G+1));obtain⟨⟨X,T,U,q0,q1⟩,⟨J,K,V,P,z1,z3⟩,-⟩:=(X8.U0 i.out e4.out)
 go_upto_region 8 with(fail)
 clear X T U q0 q1 J K V P z1 z3 e4 a1 c7 a3
 try rw[show(G:Int)+1=((G+1:Nat):Int) by omega]
 generalize World.setCell _ _ _=w4 at u|-
 obtain⟨⟨X,T,U,q0,q1⟩,⟨J,K,V,P,z1,z3⟩,c0,c1,R,f0,f1,f2⟩:=(X8.U0 i.out u.out);obtain⟨f9,g0,b5,d6⟩:=f6.out;have Q:=h9.out;have a0:=i3.out;have Y:=i5.out;have b1:=i6.out
 try simp only at f9
 try simp only at g0
 try simp only at b5
 try simp only at d6
 rw[z9]at Y;have b0:=i4.out
 try simp only at b0
 have hc:d=1\/d=2\/d=3\/d=4\/d=5\/d=6\/d=15\/d=16\/d=19\/(7<=d/\d<=14):=by omega
 clear f9 g0 b0
 rcases hc with rfl|rfl|rfl|rfl|rfl|rfl|rfl|rfl|rfl|hb
 ·obtain rfl:po=0:=by rw[<-Q];simp[J4]
  obtain rfl:=List.length_eq_zero_iff.1 a0;rw[List.append_nil]at u P;have PC:=zh (xK i.out m.out u.out (by omega) x)
  go_wp2_with fail
  clear X T U q0 q1 J K V P z1 z3 c0 c1 R f0 f1 f2;refine PC.out.mono ?_;rintro e w6 ⟨rfl,s',h6⟩;have H6:=zh h6;clear h6 PC
  go_wp2_with fail
  go_ret;exact .mk (M:=⟨0,value,low.map Prod.fst++[⟨fn,G+1,E,r++[x]⟩]⟩) (by simp[M8]) H6.out.rf (by simp) H6.out.q (by simpa[Q9]using H6.out.hi)
 ·obtain rfl:po=0:=by rw[<-Q];simp[J4]
  obtain rfl:=List.length_eq_zero_iff.1 a0;rw[List.append_nil]at u P;obtain⟨a7,a8⟩:=b5 (by decide);simp[Y1]at a7 a8;obtain⟨j,rfl⟩: ∃j:Nat,x=j:=⟨x.toNat,by omega⟩;obtain⟨y,hy⟩: ∃y,E[j]?=some y:=⟨_,y8 (by have:=c6.out;omega)⟩;obtain⟨gv,rfl,v0⟩:=qI u.out.rf.T9.R9.yd.1 (k:=j) (a:=y) hy;have j0:(0:Int)<=(j:Int):=by omega
  have j1:(j:Int)<(E.length:Int):=by have:=c6.out;omega
  have c4:r.length<=2000:=by omega
  have b6:Hid (M8 L hf value (low.map Prod.fst) ⟨fn,G,E,r⟩ (2,(j:Int)) r []=(⟨0,value,low.map Prod.fst++[⟨fn,G+1,E,r++[y]⟩]⟩,false)):=zh (by simp[M8,hy])
  go_upto_region 19 with(fail)
  clear v0;clear X T U q0 q1 J K V P z1 z3 c0 c1 R f0 f1 f2;refine W4 (D:=World) (by kernel_rfl) [(0,94),(1,95),(2,96),(3,97),(4,98),(5,99),(6,100),(7,101),(8,102),(9,103)] [9] [[],[9]] (λ_ d=>[(0,94,.func (.func (76)) #[] #[.pointer (some ⟨b7,0,none⟩)]),(1,95,.pointer (some ⟨N,C*4,none⟩)),(2,96,.pointer (some ⟨N,C*4,none⟩)),(3,97,.pointer (some ⟨N,C*4+2,none⟩)),(4,98,.slice (some ⟨gv,0,none⟩) E.length cv),(5,99,.pointer (some ⟨b8,1,none⟩)),(6,100,.int .i64 j),(7,101,.pointer (some ⟨gv,j,none⟩)),(8,102,.int .i64 y),(9,103,.tuple #[])]) (λ_ d=>d) (λj' d=>match j' with|0=>X8 Z B I t w rb b3 b4 b7 b8 N C (some ⟨gf,0,none⟩) L.length cf main 2 j value c (low++[(⟨fn,G+1,E,r⟩,.slice (some ⟨gv,0,none⟩) E.length cv,.slice As r.length cs)]) d|_=> ∃s',X8 Z B I t w rb b3 b4 b7 b8 N C (some ⟨gf,0,none⟩) L.length cf main 2 j value c (low++[(⟨fn,G+1,E,r++[y]⟩,.slice (some ⟨gv,0,none⟩) E.length cv,s')]) d) [(0,0),(1,0),(2,0),(3,0),(4,0),(5,0),(6,0),(7,0),(8,0),(9,0)] (by kernel_rfl) (by kernel_rfl) (λ_ _=>rfl) (by rfl) w4.drew rfl (u.out.drew m.out) rfl ?_ ?_
  ·repeat' (first|refine List.forall_mem_cons.2 ⟨?_,?_⟩|exact List.forall_mem_nil _)
   all_goals
    intro o' ho;injection ho with ho
    subst ho;rintro W hg;obtain⟨⟨X,T,U,q0,q1⟩,⟨J,K,V,P,z1,z3⟩,c0,c1,R,f0,f1,f2⟩:=X8.U0 i.out hg;obtain⟨i9,e,v0⟩:=qI (X8.rf hg).T9.R9.yd.1 (k:=j) (a:=y) hy;injection e with e;injection e with e
    subst e
   rotate_left 9
   ·refine .call (76) #[.int .i64 y,.pointer (some ⟨b7,0,none⟩)] (by simp[J8,execOp,go_sem]) ((xK i.out m.out hg c4 y).mono ?_)
    rintro e w5 ⟨rfl,s',h5⟩;exact⟨_,1,w5,rfl,.of (by decide) ⟨s',h5⟩ rfl rfl,rfl,rfl⟩
   all_goals exact .xk rfl (by simp[J8,X9,execOp,go_sem,U,V,q1,v0,j0,j1])
  ·rintro jj W hg hd
   have hj:=hd 9 (by decide) (by decide)
   match jj,hg,hj with
   |0,_,h=>cases h
   |1,hg,_=>
    obtain⟨s',h5⟩:=hg;have H5:=zh h5;clear hd hg h5;simp only[J8,B6,C0,List.append_nil,List.foldl];go_simp
    go_wp2_with fail
    go_ret;exact .mk b6.out H5.out.rf (by simp) H5.out.q (by simpa[Q9]using H5.out.hi)
   |n+2,_,h=>cases h
 ·obtain rfl:po=1:=by rw[<-Q];simp[J4]
  obtain⟨a,rfl⟩: ∃a,xs=[a]:=List.length_eq_one_iff.1 a0;obtain⟨a7,a8⟩:=b5 (by decide);simp[Y1]at a7 a8;obtain⟨j,rfl⟩: ∃j:Nat,x=j:=⟨x.toNat,by omega⟩;obtain⟨y,hy⟩: ∃y,E[j]?=some y:=⟨_,y8 (by have:=c6.out;omega)⟩;obtain⟨gv,rfl,v0⟩:=qI u.out.rf.T9.R9.yd.1 (k:=j) (a:=y) hy;have j0:(0:Int)<=(j:Int):=by omega
  have j1:(j:Int)<(E.length:Int):=by have:=c6.out;omega
  have c4:(r++[a]).length<=2000:=by simp at Y|-;omega
  go_upto_region 21 with(fail)
  clear v0;clear X T U q0 q1 J K V P z1 z3 c0 c1 R f0 f1 f2;refine W4 (D:=World) (by kernel_rfl) [(0,106),(1,107),(2,108),(3,109),(4,110),(5,111),(6,112),(7,113),(8,114)] [7,9] [[],[7],[7,9]] (λ_ d=>[(0,106,.pointer (some ⟨N,C*4,none⟩)),(1,107,.pointer (some ⟨N,C*4,none⟩)),(2,108,.pointer (some ⟨N,C*4+2,none⟩)),(3,109,.slice (some ⟨gv,0,none⟩) E.length cv),(4,110,.pointer (some ⟨b8,1,none⟩)),(5,111,.int .i64 j),(6,112,.func (.func (75)) #[] #[.pointer (some ⟨b7,0,none⟩)]),(7,113,.int .i64 a),(8,114,.pointer (some ⟨gv,j,none⟩))]) (λ_ d=>d) (λj' d=>match j' with|0=>X8 Z B I t w rb b3 b4 b7 b8 N C (some ⟨gf,0,none⟩) L.length cf main 3 j value c (low++[(⟨fn,G+1,E,r++[a]⟩,.slice (some ⟨gv,0,none⟩) E.length cv,.slice As (r++[a]).length cs)]) d|1=>X8 Z B I t w rb b3 b4 b7 b8 N C (some ⟨gf,0,none⟩) L.length cf main 3 j value c (low++[(⟨fn,G+1,E,r⟩,.slice (some ⟨gv,0,none⟩) E.length cv,.slice As r.length cs)]) d|_=>X8 Z B I t w rb b3 b4 b7 b8 N C (some ⟨gf,0,none⟩) L.length cf main 3 j value c (low++[(⟨fn,G+1,E.set j a,r⟩,.slice (some ⟨gv,0,none⟩) E.length cv,.slice As r.length cs)]) d) [(0,0),(0,1),(1,0),(1,1),(2,0),(2,1),(3,0),(3,1),(4,0),(4,1),(5,0),(5,1),(6,0),(7,0),(8,1),(9,1)] (by kernel_rfl) (by kernel_rfl) (λ_ _=>rfl) (by rfl) w4.drew rfl (u.out.drew m.out) rfl ?_ ?_
  ·repeat' (first|refine List.forall_mem_cons.2 ⟨?_,?_⟩|exact List.forall_mem_nil _)
   all_goals
    intro o' ho;injection ho with ho
    subst ho;rintro W hg;obtain⟨⟨X,T,U,q0,q1⟩,⟨J,K,V,P,z1,z3⟩,c0,c1,R,f0,f1,f2⟩:=X8.U0 i.out hg;obtain⟨i9,e,v0⟩:=qI (X8.rf hg).T9.R9.yd.1 (k:=j) (a:=y) hy;injection e with e;injection e with e
    subst e;have vf:=((X8.rf hg).T9.R9.yd.1).frozenAt j
   rotate_left 13
   ·refine .call (75) #[.pointer (some ⟨b7,0,none⟩)] (by simp[J8,execOp,go_sem]) ((jS i.out m.out hg c4).mono ?_)
    rintro e w5 ⟨rfl,h5⟩;exact⟨_,1,w5,rfl,.of (by decide) h5 rfl rfl,rfl,rfl⟩
   rotate_left 1
   ·obtain⟨e5,e6⟩:=zg2 (X8.rf hg) j a
    exact .qU 2 (W.setCell ⟨gv,j,none⟩ (.int .i64 a)) (.of (by decide) (X8.vo hg m.out e6 e5) rfl rfl) (by simp[J8,X9,execOp,go_sem,v0,vf])
   all_goals exact .xk rfl (by simp[J8,X9,execOp,go_sem,U,V,q1,v0,j0,j1])
  ·rintro jj W hg hd
   have hj:=hd 9 (by decide) (by decide)
   match jj,hg,hj with
   |0,_,h=>cases h
   |1,_,h=>cases h
   |2,hg,_=>
    have H5:=zh hg;clear hd hg;simp only[J8,B6,C0,List.append_nil,List.foldl];go_simp
    go_wp2_with fail
    go_ret;exact .mk (M:=⟨0,value,low.map Prod.fst++[⟨fn,G+1,E.set j a,r⟩]⟩) (by simp[M8]) H5.out.rf (by simp) H5.out.q (by simpa[Q9]using H5.out.hi)
   |n+3,_,h=>cases h
 ·obtain rfl:po=1:=by rw[<-Q];simp[J4]
  obtain⟨a,rfl⟩: ∃a,xs=[a]:=List.length_eq_one_iff.1 a0;have PP:=zh (jS i.out m.out u.out (by simp at Y|-;omega))
  go_wp2_with fail
  clear X T U q0 q1 J K V P z1 z3 c0 c1 R f0 f1 f2;refine PP.out.mono ?_;rintro e w5 ⟨rfl,h5⟩;replace u:=zh h5;clear h5 PP;obtain⟨⟨X,T,U,q0,q1⟩,⟨J,K,V,P,z1,z3⟩,c0,c1,R,f0,f1,f2⟩:=(X8.U0 i.out u.out)
  go_wp2_with fail
  go_ret;exact .mk (M:=⟨0,value,low.map Prod.fst++[⟨fn,G+1,E,r⟩]⟩) (by simp[M8]) u.out.rf (by simp) u.out.q (by simpa[Q9]using u.out.hi)
 ·obtain rfl:po=1:=by rw[<-Q];simp[J4]
  obtain⟨a,rfl⟩: ∃a,xs=[a]:=List.length_eq_one_iff.1 a0;have PP:=zh (jS i.out m.out u.out (by simp at Y|-;omega))
  go_wp2_with fail
  clear X T U q0 q1 J K V P z1 z3 c0 c1 R f0 f1 f2;refine PP.out.mono ?_;rintro e w5 ⟨rfl,h5⟩;replace u:=zh h5;clear h5 PP;obtain⟨⟨X,T,U,q0,q1⟩,⟨J,K,V,P,z1,z3⟩,c0,c1,R,f0,f1,f2⟩:=(X8.U0 i.out u.out);obtain⟨y,hy⟩: ∃y,IntKind.i64.wrap (-a)=y:=⟨_,rfl⟩;have HY:=zh hy;have g1:IntKind.i64.wrap (0-a)=y:=by rw[Int.zero_sub];exact hy
  have j2:wrap64 (-a)=y:=(IntWalk.i64_left _).symm.trans hy;have j3:wrap64 (0-a)=y:=(IntWalk.i64_left _).symm.trans g1;have PC:=zh (xK i.out m.out u.out (by simp at Y;omega) y)
  go_wp2_with fail
  clear hy g1 j2 j3;clear X T U q0 q1 J K V P z1 z3 c0 c1 R f0 f1 f2;refine PC.out.mono ?_;rintro e w6 ⟨rfl,s',h6⟩;have H6:=zh h6;clear h6 PC
  go_wp2_with fail
  go_ret;exact .mk (M:=⟨0,value,low.map Prod.fst++[⟨fn,G+1,E,r++[y]⟩]⟩) (by rw[<-HY.out];simp[M8]) H6.out.rf (by simp) H6.out.q (by simpa[Q9]using H6.out.hi)
 ·obtain rfl:po=1:=by rw[<-Q];simp[J4]
  obtain⟨a,rfl⟩: ∃a,xs=[a]:=List.length_eq_one_iff.1 a0;have PP:=zh (jS i.out m.out u.out (by simp at Y|-;omega))
  go_wp2_with fail
  clear X T U q0 q1 J K V P z1 z3 c0 c1 R f0 f1 f2;refine PP.out.mono ?_;rintro e w5 ⟨rfl,h5⟩;replace u:=zh h5;clear h5 PP;obtain⟨⟨X,T,U,q0,q1⟩,⟨J,K,V,P,z1,z3⟩,c0,c1,R,f0,f1,f2⟩:=(X8.U0 i.out u.out);obtain⟨y,hy⟩: ∃y,tr (a==0)=y:=⟨_,rfl⟩;have HY:=zh hy;have PC:=zh (xK i.out m.out u.out (by simp at Y;omega) y)
  go_wp2_with fail
  refine(zd7 _ _).mono ?_;rintro e w7 ⟨rfl,rfl⟩;rw[hy];clear hy
  go_wp2_with fail
  clear X T U q0 q1 J K V P z1 z3 c0 c1 R f0 f1 f2;refine PC.out.mono ?_;rintro e w6 ⟨rfl,s',h6⟩;have H6:=zh h6;clear h6 PC
  go_wp2_with fail
  go_ret;exact .mk (M:=⟨0,value,low.map Prod.fst++[⟨fn,G+1,E,r++[y]⟩]⟩) (by rw[<-HY.out];simp[M8];rfl) H6.out.rf (by simp) H6.out.q (by simpa[Q9]using H6.out.hi)
 ·obtain rfl:po=0:=by rw[<-Q];simp[J4]
  obtain rfl:=List.length_eq_zero_iff.1 a0;rw[List.append_nil]at u P;obtain⟨a7,a8⟩:=b5 (by decide);simp[Y1]at a7 a8;obtain⟨j,rfl⟩: ∃j:Nat,x=j:=⟨x.toNat,by omega⟩;have H5:=zh (yl i.out m.out u.out j)
  go_wp2_with fail
  clear X T U q0 q1 J K V P z1 z3 c0 c1 R f0 f1 f2;go_ret;exact .mk (M:=⟨0,value,low.map Prod.fst++[⟨fn,j,E,r⟩]⟩) (by simp[M8]) H5.out.rf (by simp) H5.out.q (by simpa[Q9]using H5.out.hi)
 ·obtain rfl:po=1:=by rw[<-Q];simp[J4]
  obtain⟨a,rfl⟩: ∃a,xs=[a]:=List.length_eq_one_iff.1 a0;have PP:=zh (jS i.out m.out u.out (by simp at Y|-;omega));obtain⟨a7,a8⟩:=b5 (by decide);simp[Y1]at a7 a8;obtain⟨j,rfl⟩: ∃j:Nat,x=j:=⟨x.toNat,by omega⟩
  go_wp2_with fail
  clear X T U q0 q1 J K V P z1 z3 c0 c1 R f0 f1 f2;refine PP.out.mono ?_;rintro e w5 ⟨rfl,h5⟩;replace u:=zh h5;clear h5 PP;obtain⟨⟨X,T,U,q0,q1⟩,⟨J,K,V,P,z1,z3⟩,c0,c1,R,f0,f1,f2⟩:=(X8.U0 i.out u.out)
  by_cases h0:a=0
  ·subst h0
   have H5:=zh (yl i.out m.out u.out j)
   go_wp2_with fail
   clear X T U q0 q1 J K V P z1 z3 c0 c1 R f0 f1 f2;go_ret;exact .mk (M:=⟨0,value,low.map Prod.fst++[⟨fn,j,E,r⟩]⟩) (by simp[M8]) H5.out.rf (by simp) H5.out.q (by simpa[Q9]using H5.out.hi)
  ·have k6:(a==0)=false:=beq_eq_false_iff_ne.2 h0
   go_wp2_with fail
   clear X T U q0 q1 J K V P z1 z3 c0 c1 R f0 f1 f2;go_ret;exact .mk (M:=⟨0,value,low.map Prod.fst++[⟨fn,G+1,E,r⟩]⟩) (by simp[M8,h0]) u.out.rf (by simp) u.out.q (by simpa[Q9]using u.out.hi)
 ·obtain rfl:po=1:=by rw[<-Q];simp[J4]
  obtain⟨a,rfl⟩: ∃a,xs=[a]:=List.length_eq_one_iff.1 a0;have c4:(r++[a]).length<=2000:=by simp at Y|-;omega
  go_upto_region 30 with(fail)
  clear X T U q0 q1 J K V P z1 z3 c0 c1 R f0 f1 f2;refine W4 (D:=World) (by kernel_rfl) [(0,138),(1,139),(2,140),(3,141),(4,142)] [2,5] [[],[2],[2,5]] (λ_ d=>[(0,138,.pointer (some ⟨rb,0,none⟩)),(1,139,.func (.func (75)) #[] #[.pointer (some ⟨b7,0,none⟩)]),(2,140,.int .i64 a),(3,141,.pointer (some ⟨rb,0,none⟩)),(4,142,.pointer (some ⟨rb,1,none⟩))]) (λ_ d=>d) (λj' d=>match j' with|0=>X8 Z B I t w rb b3 b4 b7 b8 N C (some ⟨gf,0,none⟩) L.length cf main 19 x value c (low++[(⟨fn,G+1,E,r++[a]⟩,.slice Av E.length cv,.slice As (r++[a]).length cs)]) d|1=>X8 Z B I t w rb b3 b4 b7 b8 N C (some ⟨gf,0,none⟩) L.length cf main 19 x value c (low++[(⟨fn,G+1,E,r⟩,.slice Av E.length cv,.slice As r.length cs)]) d|_=>X8 Z B I t w rb b3 b4 b7 b8 N C (some ⟨gf,0,none⟩) L.length cf main 19 x a c (low++[(⟨fn,G+1,E,r⟩,.slice Av E.length cv,.slice As r.length cs)]) d) [(0,0),(0,1),(1,0),(2,0),(3,1),(4,1),(5,1)] (by kernel_rfl) (by kernel_rfl) (λ_ _=>rfl) (by rfl) w4.drew rfl (u.out.drew m.out) rfl ?_ ?_
  ·repeat' (first|refine List.forall_mem_cons.2 ⟨?_,?_⟩|exact List.forall_mem_nil _)
   all_goals
    intro o' ho;injection ho with ho
    subst ho;rintro W hg;obtain⟨⟨X,T,U,q0,q1⟩,⟨J,K,V,P,z1,z3⟩,c0,c1,R,f0,f1,f2⟩:=X8.U0 i.out hg
   rotate_left 3
   ·refine .call (75) #[.pointer (some ⟨b7,0,none⟩)] (by simp[J8,execOp,go_sem]) ((jS i.out m.out hg c4).mono ?_)
    rintro e w5 ⟨rfl,h5⟩;exact⟨_,1,w5,rfl,.of (by decide) h5 rfl rfl,rfl,rfl⟩
   rotate_left 2
   ·obtain⟨e5,e6⟩:=(X8.rf hg).yld a
    exact .qU 2 (W.setCell ⟨rb,1,none⟩ (.int .i64 a)) (.of (by decide) (X8.vo hg m.out e6 e5) rfl rfl) (by simp[J8,X9,execOp,go_sem,c1,f1])
   all_goals exact .xk rfl (by simp[J8,X9,execOp,go_sem,X])
  ·rintro jj W hg hd
   have hj:=hd 5 (by decide) (by decide)
   match jj,hg,hj with
   |0,_,h=>cases h
   |1,_,h=>cases h
   |2,hg,_=>
    have H5:=zh hg;clear hd hg;simp only[J8,B6,C0,List.append_nil,List.foldl];go_simp
    go_wp2_with fail
    go_ret;exact .mk (M:=⟨0,a,low.map Prod.fst++[⟨fn,G+1,E,r⟩]⟩) (by simp[M8]) H5.out.rf (by simp) H5.out.q (by simpa[Q9]using H5.out.hi)
   |n+3,_,h=>cases h
 ·obtain⟨e7,a5⟩:=hb
  obtain rfl:po=2:=by rw[<-Q,zbf (by omega) a5,B5 (by omega)]
  obtain⟨a,b,rfl⟩: ∃a b,xs=[a,b]:=by match xs,a0 with|[a,b],_=>exact⟨a,b,rfl⟩
  have g2:qX a:=HR.out.2 a (by simp);have es:r++[a,b]=(r++[a])++[b]:=by simp
  rw[es]at u P;have PP:=zh (jS i.out m.out u.out (by simp at Y|-;omega));have b6:=zh (zbX (L:=L) (hf:=hf) (v:=value) (fs:=low.map Prod.fst) (f:=⟨fn,G,E,r++[a,b]⟩) (x:=x) (a:=a) (b:=b) (l:=r) e7 a5);have TC:=zh (λW=>ziX d a b e7 a5 g2 W);have n1:(d==1)=false:=beq_eq_false_iff_ne.2 (by omega);have n2:(d==2)=false:=beq_eq_false_iff_ne.2 (by omega);have n3:(d==3)=false:=beq_eq_false_iff_ne.2 (by omega);have n4:(d==4)=false:=beq_eq_false_iff_ne.2 (by omega);have n5:(d==5)=false:=beq_eq_false_iff_ne.2 (by omega);have n6:(d==6)=false:=beq_eq_false_iff_ne.2 (by omega);have k7:(d==15)=false:=beq_eq_false_iff_ne.2 (by omega);have k8:(d==16)=false:=beq_eq_false_iff_ne.2 (by omega);have k9:(d==17)=false:=beq_eq_false_iff_ne.2 (by omega);have l0:(d==18)=false:=beq_eq_false_iff_ne.2 (by omega);have l3:(d==19)=false:=beq_eq_false_iff_ne.2 (by omega);have l4:(d==20)=false:=beq_eq_false_iff_ne.2 (by omega);have a6:Q9 (d,x) [a,b]=[]:=by simp[Q9];omega
  have g3:=zh a6;clear a6 es g2 e7 a5 b5 d6 Q b1
  go_wp2_with fail
  clear X T U q0 q1 J K V P z1 z3 c0 c1 R f0 f1 f2;refine PP.out.mono ?_;rintro e w5 ⟨rfl,h5⟩;replace u:=zh h5;clear h5 PP;obtain⟨⟨X,T,U,q0,q1⟩,⟨J,K,V,P,z1,z3⟩,c0,c1,R,f0,f1,f2⟩:=(X8.U0 i.out u.out);have PP:=zh (jS i.out m.out u.out (by simp at Y|-;omega))
  go_wp2_with fail
  clear X T U q0 q1 J K V P z1 z3 c0 c1 R f0 f1 f2;refine PP.out.mono ?_;rintro e w6 ⟨rfl,h6⟩;replace u:=zh h6;clear h6 PP;obtain⟨⟨X,T,U,q0,q1⟩,⟨J,K,V,P,z1,z3⟩,c0,c1,R,f0,f1,f2⟩:=(X8.U0 i.out u.out)
  go_wp2_with fail
  refine(TC.out _).mono ?_;rintro e w7 ⟨he,rfl⟩;cases hk:Zv d a b with
  |none=>
   rw[hk]at he b6;simp only at he;subst he;have FC:=zh (Xr m.out u.out 17)
   go_wp2_with fail
   refine FC.out.mono ?_;rintro e w8 ⟨rfl,g4,g5,g6⟩;have j4:=zh g4;have j5:=zh g5;have j6:=zh g6;clear g4 g5 g6 FC;clear X T U q0 q1 J K V P z1 z3 c0 c1 R f0 f1 f2
   go_wp2_with fail
   go_ret;exact .mk b6.out j4.out rfl j5.out (by rw[g3.out,List.append_nil];exact j6.out)
  |some y=>
   rw[hk]at he b6;simp only at he;subst he;have PC:=zh (xK i.out m.out u.out (by simp at Y;omega) y)
   go_wp2_with fail
   clear X T U q0 q1 J K V P z1 z3 c0 c1 R f0 f1 f2;refine PC.out.mono ?_;rintro e w6 ⟨rfl,s',h6⟩;have H6:=zh h6;clear h6 PC
   go_wp2_with fail
   go_ret;exact .mk b6.out H6.out.rf (by simp) H6.out.q (by rw[g3.out,List.append_nil];exact H6.out.hi)
end
end Go.Proofs.YtalgmjmibamdfaaGreatDoor
