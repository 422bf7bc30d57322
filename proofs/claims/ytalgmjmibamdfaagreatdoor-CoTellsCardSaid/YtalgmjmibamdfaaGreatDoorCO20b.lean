/- Merged. -/
import Derived.Test.YtalgmjmibamdfaaGreatDoorCO20
set_option linter.all false
set_option maxHeartbeats 16000000
set_option maxRecDepth 100000
namespace Go.Proofs.YtalgmjmibamdfaaGreatDoor
open Go.Proofs.Tryz
open Go.RowKit Tw
section
variable {L:List Cf}{main:Nat}{Z:Nat}{B:Bd}{rb cf g:Nat}{Af:Option Addr}{value:Int}{hf:R4}{lb:Array Value}{I:World->(Nat->Prop)->List (Int×List Int)->Prop}
theorem zha(hP:zk L main)(HH:zT Z B g lb hf I){c:Nat}{A:Option Addr}{low:List Fm}{f:Fq}{v s:Value}{w:World}{t:List (Int×List Int)}
 (h:qF w B rb 0 value A c (low++[(f,v,s)])) (Y:M3 w (.slice Af L.length cf) (L.map Cf.pf)) (hI:I w B.S t) (hT:jC L f) (hR:FrR f) (h3:low.length+1<=32) (c6: ∀y∈low,y.1.I8.length<=600/\y.1.pc<=4000) (h4: ∀c∈L,c.J6.length<=4000) (c7: ∀o h,xw L f=some (o,h)->o.1=18):
 Calls prog 39 #[.pointer (some ⟨rb,0,none⟩),.agg #[.slice Af L.length cf,.int .i64 main],.func (.func g) #[] lb] w (NxO (R5 L hf value (low.map Prod.fst) f) Z B rb I (t++Y5 L f) w):=by
 obtain⟨cd,⟨d,x⟩,a0,b6,h6,f7,d7,b9⟩:=hT.jN hP;have a1:=c7 _ _ b6;have e1:R5 L hf value (low.map Prod.fst) f=M8 L hf value (low.map Prod.fst) f (d,x) (f.I8.take (f.I8.length-J4 (L.map (·.params)) (d,x))) (f.I8.drop (f.I8.length-J4 (L.map (·.params)) (d,x))):=by unfold R5;rw[b6];rfl
 have e2:Y5 L f=Q9 (d,x) (f.I8.drop (f.I8.length-J4 (L.map (·.params)) (d,x))):=by unfold Y5;rw[b6];rfl
 rw[e1,e2];clear e1 e2 b6 c7 hT;obtain⟨d4,a4,a5,-⟩:=h6;obtain⟨fn,Q,vs,st⟩:=f;simp only at a0 a4 a5 f7 d7 b9 hR a1|-
 obtain⟨po,a2⟩: ∃z,J4 (L.map (·.params)) (d,x)=z:=⟨_,rfl⟩;rw[a2]at a4 a5|-
 obtain⟨S0,xs,rfl,c3,hS,hX⟩: ∃S0 xs,st=S0++xs/\xs.length=po/\st.take (st.length-po)=S0/\st.drop (st.length-po)=xs:=⟨_,_,(List.take_append_drop (st.length-po) st).symm,by rw[I6];omega,rfl,rfl⟩;rw[hS,hX];clear hS hX;have h7:po<=7:=by rw[<-a2];exact qL (λy hy=>by obtain⟨z,hz,rfl⟩:=List.mem_map.1 hy;exact(hP.yF z hz).params) _
 have a6:(S0++xs).length<=300:=by omega
 clear h7;obtain⟨j,l0,Av,cv,As,cs,rfl,h8,f8,rfl,rfl,U,R,d2,d3,z1,z3,h9⟩:=qw h.T9;obtain⟨c0,c1,X,f0,f1,f2⟩:=qM h;rw[z9,List.length_singleton]at X;obtain⟨i,d8⟩: ∃n,low.length=n:=⟨_,rfl⟩;have C:=zh d8;rw[d8]at X U R h3;clear d8;obtain⟨gf,l3,vo,hv,-,f9,u0,u1,u2,d5⟩:=Y.at (zi a0);injection hv with i5 i6 i7
 clear i6;subst i5 i7;obtain⟨go,co,rfl,-,g0,g1⟩:=d5.at;obtain⟨o0,o1⟩:=g1 Q (d,x) (by show(cd.J6.map Prod.fst)[Q]?=_;rw[G3,b9];rfl);simp only[Cf.pf,D9]at u0 u1 u2 o0 o1;have l4:fn<L.length:=(List.getElem?_eq_some_iff.1 a0).1;have l5:Q<cd.J6.length:=(List.getElem?_eq_some_iff.1 b9).1;have l6:Q<=4000:=by have:=h4 cd (B7 a0);omega
 have l1:rb<w.heap.size:=I7 h.K3;have l2:j<w.heap.size:=I7 f8;have d9:=h.bd;have H:=zh h;have HF:=zh Y;have HI:=zh hI;have HP:=zh hP;have D:=zh HH;have i8:=zh c6;have g2:=zh d4;have i9:=zh a2;have j2:=zh c3;have HR:=zh hR;have l7:=zh a0;have l8:=zh d7;have j3:=zh a1;have j4:=zh a6;have j5:=zh a5;have j6: ∀(d:Int),1<=d->d<=20->True:=λ_ _ _=>trivial;have X3:=heap_alloc2_old w (.cells #[.pointer (some ⟨rb,0,none⟩)] 145) (.cells #[.slice (some ⟨gf,0,none⟩) L.length cf,.int .i64 main] 26);have X4:=heap_alloc2_new w (.cells #[.pointer (some ⟨rb,0,none⟩)] 145) (.cells #[.slice (some ⟨gf,0,none⟩) L.length cf,.int .i64 main] 26);have e0:=((y7 w.heap.size w).alloc (y6 _) (.cells #[.pointer (some ⟨rb,0,none⟩)] 145)).alloc (by simp) (.cells #[.slice (some ⟨gf,0,none⟩) L.length cf,.int .i64 main] 26);have E:=zh X3;have P:=zh X4;have HB:=zh e0;have oc: ∀b k,b<w.heap.size->((w.alloc (.cells #[.pointer (some ⟨rb,0,none⟩)] 145)).alloc (.cells #[.slice (some ⟨gf,0,none⟩) L.length cf,.int .i64 main] 26)).cell? ⟨b,k,none⟩=w.cell? ⟨b,k,none⟩:=λb k hb=>e0.cell (p:=⟨b,k,none⟩) hb;rw[<-oc _ _ (by assumption)]at X U R u2 o0 o1;have j7:=zh oc;clear j6 X3 X4 e0 oc h Y hI hP HH c6 d4 a2 c3 hR a0 d7 a1 a6 a5 b9 g1 d5 h4 f7 c0 c1 f0 f1 f2 d2 d3 z1 z3 u0 u1 h9 a4 f8 h8;have i0:(0:Int)<=(i:Int):=by omega
 have i1:(i:Int)<(i:Int)+1:=by omega
 have i2:wrap64 (i:Int)=(i:Int):=IntWalk.wrap64_in _ (by omega);have a7:IntKind.i64.wrap (i:Int)=(i:Int):=(IntWalk.i64_left _).trans i2;have j0:(0:Int)<=(fn:Int):=by omega
 have j1:(fn:Int)<(L.length:Int):=by omega
 have k0:(0:Int)<=(Q:Int):=by omega
 have k1:(Q:Int)<(cd.J6.length:Int):=by omega
 go_enter func39,ntmps39
 go_upto_region 1 with(fail)
 have m1:rb<(World.alloc _ _).heap.size:=z6 l1 HB.out.size;have m2:j<(World.alloc _ _).heap.size:=z6 l2 HB.out.size;have m3:gf<(World.alloc _ _).heap.size:=z6 f9 HB.out.size;have m4:go<(World.alloc _ _).heap.size:=z6 g0 HB.out.size;have G:=zh (Vo.of HB.out d9);have r:=zh (H.out.below HB.out);clear f9 g0 l1 l2 HB j7;generalize World.alloc (World.alloc _ _) _=T at E P G r X U R u2 o0 o1 m1 m2 m3 m4|-
 obtain⟨b4,e4⟩: ∃b,w.heap.size+1=b:=⟨_,rfl⟩;rw[e4]at P;simp only[e4];clear e4;obtain⟨b3,e5⟩: ∃b,w.heap.size=b:=⟨_,rfl⟩;rw[e5]at E d9;simp only[e5];clear e5 d9;have p3:=y5 E.out 0;have p4:=y5 P.out 0;have m5:=I7 E.out;have m6:=I7 P.out;have hA: ∀b k O,b<T.heap.size->(T.alloc O).cell? ⟨b,k,none⟩=T.cell? ⟨b,k,none⟩:=λb k O hb=>((y7 T.heap.size T).alloc (y6 _) O).cell (p:=⟨b,k,none⟩) hb;refine L4 (by kernel_rfl) [(0,25,.pointer (some ⟨rb,0,none⟩)),(1,26,.pointer (some ⟨rb,0,none⟩)),(2,27,.pointer (some ⟨rb,2,none⟩)),(3,28,.slice (some ⟨j,0,none⟩) (i+1) c),(4,29,.pointer (some ⟨rb,0,none⟩)),(5,30,.pointer (some ⟨rb,0,none⟩)),(6,31,.pointer (some ⟨rb,2,none⟩)),(7,32,.slice (some ⟨j,0,none⟩) (i+1) c),(8,33,.int .i64 (i+1)),(9,34,.int .i64 i),(10,35,.pointer (some ⟨j,i*4,none⟩)),(11,7,.pointer (some ⟨T.heap.size,0,none⟩))] [] _ _ rfl rfl [11,12] (λz=>match z with|0=>T.drew|1=>T.drew.alloc (.cells #[.pointer none] 146)|_=>T.drew.alloc (.cells #[.pointer (some ⟨j,i*4,none⟩)] 146)) [(0,0),(0,1),(1,0),(1,1),(2,0),(2,1),(3,0),(3,1),(4,0),(4,1),(5,0),(5,1),(6,0),(6,1),(7,0),(7,1),(8,0),(8,1),(9,0),(9,1),(10,0),(10,1),(11,0),(12,1)] (by kernel_rfl) (by kernel_rfl) (by rfl) rfl ?_ ?_
 ·generalize Y:J8 _ _=F
  simp[J8]at Y;subst Y
  repeat' (first|refine List.forall_mem_cons.2 ⟨?_,?_⟩|exact List.forall_mem_nil _)
  all_goals
   intro o' J;injection J with J
   subst J
  all_goals simp[X9,execOp,go_sem,hA,m1,m5,p3,X,i0,i1,i2,a7]
 simp only[J8,B6,C0,List.append_nil,List.foldl];go_simp;have K:=((y7 T.heap.size T).alloc (y6 _) (.cells #[.pointer (some ⟨j,i*4,none⟩)] 146)).drew;have a3:Hid ((T.alloc (.cells #[.pointer (some ⟨j,i*4,none⟩)] 146)).drew.heap[T.heap.size]?=_):=zh (y9 T (.cells #[.pointer (some ⟨j,i*4,none⟩)] 146));have a8:=r.out.bd;replace E:=zh ((K.block b3 m5).trans E.out);replace P:=zh ((K.block b4 m6).trans P.out);replace G:=zh (G.out.trans (Vo.of K a8));replace r:=zh (r.out.below K);have oc: ∀b k,b<T.heap.size->((T.alloc (.cells #[.pointer (some ⟨j,i*4,none⟩)] 146)).drew).cell? ⟨b,k,none⟩=T.cell? ⟨b,k,none⟩:=λb k hb=>K.cell (p:=⟨b,k,none⟩) hb;rw[<-oc _ _ (by assumption)]at p4 U R u2 o0 o1;have s1:=K.size;have n2:=z6 m2 s1;have n3:=z6 m3 s1;have n4:=z6 m4 s1;have n6:=z6 m6 s1;clear oc K s1 hA m1 m2 m3 m4 m5 m6 p3 X a8 i0 i1 i2 a7;generalize(World.alloc _ _).drew=V at E P a3 G r p4 U R u2 o0 o1 n2 n3 n4 n6|-
 generalize T.heap.size=b7 at a3|-
 have p7:=y5 a3.out 0;have n7:=I7 a3.out
 go_upto_region 2 with(fail)
 have hA: ∀b k O,b<V.heap.size->(V.alloc O).cell? ⟨b,k,none⟩=V.cell? ⟨b,k,none⟩:=λb k O hb=>((y7 V.heap.size V).alloc (y6 _) O).cell (p:=⟨b,k,none⟩) hb;refine L4 (by kernel_rfl) [(0,36,.pointer (some ⟨b4,0,none⟩)),(1,37,.slice (some ⟨gf,0,none⟩) L.length cf),(2,38,.pointer (some ⟨j,i*4,none⟩)),(3,39,.pointer (some ⟨j,i*4,none⟩)),(4,40,.pointer (some ⟨j,i*4,none⟩)),(5,41,.int .i64 fn),(6,42,.pointer (some ⟨gf,fn*3,none⟩)),(7,43,.pointer (some ⟨gf,fn*3+2,none⟩)),(8,44,.slice (some ⟨go,0,none⟩) cd.J6.length co),(9,45,.pointer (some ⟨j,i*4,none⟩)),(10,46,.pointer (some ⟨j,i*4,none⟩)),(11,47,.pointer (some ⟨j,i*4+1,none⟩)),(12,48,.int .i64 Q),(13,49,.pointer (some ⟨go,Q*2,none⟩)),(14,50,.agg #[.int .i64 d,.int .i64 x]),(15,8,.pointer (some ⟨V.heap.size,0,none⟩))] [] _ _ rfl rfl [15,16] (λz=>match z with|0=>V.drew|1=>V.drew.alloc (.cells #[.int .i64 0,.int .i64 0] 74)|_=>V.drew.alloc (.cells #[.int .i64 d,.int .i64 x] 74)) [(0,0),(0,1),(1,0),(1,1),(2,0),(2,1),(3,0),(3,1),(4,0),(4,1),(5,0),(5,1),(6,0),(6,1),(7,0),(7,1),(8,0),(8,1),(9,0),(9,1),(10,0),(10,1),(11,0),(11,1),(12,0),(12,1),(13,0),(13,1),(14,0),(14,1),(15,0),(16,1)] (by kernel_rfl) (by kernel_rfl) (by rfl) rfl ?_ ?_
 ·generalize Y:J8 _ _=F
  simp[J8]at Y;subst Y
  repeat' (first|refine List.forall_mem_cons.2 ⟨?_,?_⟩|exact List.forall_mem_nil _)
  all_goals
   intro o' J;injection J with J
   subst J
  all_goals simp[X9,execOp,go_sem,hA,n2,n3,n4,n6,n7,p4,p7,U,R,u2,o0,o1,j0,j1,k0,k1]
 simp only[J8,B6,C0,List.append_nil,List.foldl];go_simp;have K:=((y7 V.heap.size V).alloc (y6 _) (.cells #[.int .i64 d,.int .i64 x] 74)).drew;have g3:Hid ((V.alloc (.cells #[.int .i64 d,.int .i64 x] 74)).drew.heap[V.heap.size]?=_):=zh (y9 V (.cells #[.int .i64 d,.int .i64 x] 74));have a8:=r.out.bd;have c4:Hid (NxL rb b3 b4 b7 V.heap.size j i (some ⟨gf,0,none⟩) L.length cf main d x (V.alloc (.cells #[.int .i64 d,.int .i64 x] 74)).drew):=zh ⟨(K.block b3 (I7 E.out)).trans E.out,(K.block b4 n6).trans P.out,(K.block b7 n7).trans a3.out,g3.out⟩;replace G:=zh (G.out.trans (Vo.of K a8));replace r:=zh (r.out.below K);clear K hA a8 n2 n3 n4 n6 n7 p4 p7 U R u2 o0 o1 j0 j1 k0 k1 E P a3 g3;generalize(World.alloc _ _).drew=w3 at c4 G r|-
 generalize V.heap.size=b8 at c4|-
 have e6:Hid (X8 Z B I t w rb b3 b4 b7 b8 j i (some ⟨gf,0,none⟩) L.length cf main d x value c (low++[(⟨fn,Q,vs,S0++xs⟩,.slice Av vs.length cv,.slice As (S0++xs).length cs)]) w3):=zh ⟨r.out,c4.out,G.out.qh D.out.le,D.out.J0 HI.out G.out⟩;have ep:IntKind.i64.wrap ((Q:Int)+1)=((Q+1:Nat):Int):=by rw[show((Q+1:Nat):Int)=(Q:Int)+1 by omega];exact IntWalk.i64_in _ (by omega)
 have HN:Hid (X8 Z B I t w rb b3 b4 b7 b8 j i (some ⟨gf,0,none⟩) L.length cf main d x value c (low++[(⟨fn,Q+1,vs,S0++xs⟩,.slice Av vs.length cv,.slice As (S0++xs).length cs)]) (w3.setCell ⟨j,i*4+1,none⟩ (.int .i64 ((Q+1:Nat):Int)))):=zh (yl C.out D.out e6.out (Q+1));obtain⟨⟨p3,p4,p7,q0,q1⟩,⟨U,R,d2,d3,z1,z3⟩,-⟩:=(X8.U0 C.out e6.out)
 go_upto_region 8 with(fail)
 clear p3 p4 p7 q0 q1 U R d2 d3 z1 z3 e6 r c4 G
 try rw[show(Q:Int)+1=((Q+1:Nat):Int) by omega]
 generalize World.setCell _ _ _=w4 at HN|-
 obtain⟨⟨p3,p4,p7,q0,q1⟩,⟨U,R,d2,d3,z1,z3⟩,c0,c1,X,f0,f1,f2⟩:=(X8.U0 C.out HN.out);obtain⟨g4,g5,j8,g6⟩:=g2.out;have a2:=i9.out;have c3:=j2.out;have a6:=j4.out;have a5:=j5.out
 try simp only at g4
 try simp only at g5
 try simp only at j8
 try simp only at g6
 rw[z9]at a6;have a1:=j3.out
 try simp only at a1
 clear g4 g5;subst a1
 ·obtain rfl:po=1:=by rw[<-a2];simp[J4]
  obtain⟨a,rfl⟩: ∃a,xs=[a]:=List.length_eq_one_iff.1 c3;have PP:=zh (jS C.out D.out HN.out (by simp at a6|-;omega))
  go_wp2_with fail
  clear p3 p4 p7 q0 q1 U R d2 d3 z1 z3 c0 c1 X f0 f1 f2;refine PP.out.mono ?_;rintro e w5 ⟨rfl,h5⟩;replace HN:=zh h5;clear h5 PP;obtain⟨⟨p3,p4,p7,q0,q1⟩,⟨U,R,d2,d3,z1,z3⟩,c0,c1,X,f0,f1,f2⟩:=(X8.U0 C.out HN.out);obtain⟨e7,e8⟩:=(HN.out.rf.below (J5 _)).pop;have a9:=(N9 HN.out.rf.T9.jq).1;rw[z9,List.length_singleton,C.out]at a9;rw[C.out]at e7 e8;have N:=zh (HN.out.vo D.out ((Vo.of (J5 w5) HN.out.rf.bd).trans e8) e7);have i0:(0:Int)<=(i:Int):=by omega
  have i1: ¬((i:Int)+1<=(i:Int)):=by omega
  have i2:wrap64 (i:Int)=(i:Int):=IntWalk.wrap64_in _ (by omega);have a7:IntKind.i64.wrap (i:Int)=(i:Int):=(IntWalk.i64_left _).trans i2;have i3:(i:Int)<=(c:Int):=Int.ofNat_le.2 (Nat.le_of_succ_le a9);have i4: ¬((c:Int)<(i:Int)):=Int.not_lt.2 i3;clear e7 e8 a9
  go_upto_region 34 with(fail)
  refine L4 (by kernel_rfl) [(0,147,.pointer (some ⟨rb,0,none⟩)),(1,148,.pointer (some ⟨rb,0,none⟩)),(2,149,.pointer (some ⟨rb,0,none⟩)),(3,150,.pointer (some ⟨rb,2,none⟩)),(4,151,.slice (some ⟨j,0,none⟩) (i+1) c),(5,152,.pointer (some ⟨rb,0,none⟩)),(6,153,.pointer (some ⟨rb,0,none⟩)),(7,154,.pointer (some ⟨rb,2,none⟩)),(8,155,.slice (some ⟨j,0,none⟩) (i+1) c),(9,156,.int .i64 (i+1)),(10,157,.int .i64 i),(11,158,.slice (some ⟨j,0,none⟩) i c),(12,159,.pointer (some ⟨rb,0,none⟩)),(13,160,.pointer (some ⟨rb,2,none⟩))] [] _ _ rfl rfl [14] (λz=>match z with|0=>w5.drew|_=>w5.drew.setCell ⟨rb,2,none⟩ (.slice (some ⟨j,0,none⟩) i c)) [(0,0),(1,0),(2,0),(3,0),(4,0),(5,0),(6,0),(7,0),(8,0),(9,0),(10,0),(11,0),(12,0),(13,0),(14,0)] (by kernel_rfl) (by kernel_rfl) (by rfl) rfl ?_ ?_
  ·generalize Y:J8 _ _=F
   simp[J8]at Y;subst Y
   repeat' (first|refine List.forall_mem_cons.2 ⟨?_,?_⟩|exact List.forall_mem_nil _)
   all_goals
    intro o' J;injection J with J
    subst J
   all_goals simp[X9,execOp,go_sem,p3,X,f2,i0,i1,i2,a7,i3,i4]
  simp only[J8,B6,C0,List.append_nil,List.foldl];go_simp;clear p3 p4 p7 q0 q1 U R d2 d3 z1 z3 c0 c1 X f0 f1 f2;clear i0 i1 i2 a7 i3 i4 HN;rw[show w5.drew.setCell ⟨rb,2,none⟩ (.slice (some ⟨j,0,none⟩) i c)=(w5.setCell ⟨rb,2,none⟩ (.slice (some ⟨j,0,none⟩) i c)).drew from rfl]at N;generalize(World.setCell _ _ _).drew=w6 at N|-
  obtain⟨p3,p4,p7,q0,q1⟩:=N.out.lo.cells;obtain⟨c0,c1,X,f0,f1,f2⟩:=qM N.out.rf;rw[C.out]at X
  rcases List.eq_nil_or_concat low with rfl|⟨d6,u,e⟩
  ·have en:((i:Int)==0)=true:=by rw[<-C.out];rfl
   obtain⟨g7,g8⟩:=(N.out.rf.below (J5 _)).stop 1 a;have b0:=(Vo.of (J5 w6) N.out.rf.bd).trans g8;have j9:=zh g7;have k2:=zh (N.out.q.trans (b0.qh D.out.le));have k3:=zh (D.out.J0 N.out.hi b0);clear g7 g8 b0
   go_upto_region 36 with(fail)
   have n3:b3≠rb:=λe=>by have h1:=N.out.lo.p3;rw[e,N.out.rf.K3]at h1;injection h1 with h1;injection h1 with _ h1;exact I2 h1 (by decide)
   refine L4 (by kernel_rfl) [(0,167,.pointer (some ⟨rb,0,none⟩)),(1,168,.pointer (some ⟨rb,0,none⟩)),(2,169,.pointer (some ⟨rb,0,none⟩)),(3,170,.int .i64 a),(4,171,.pointer (some ⟨rb,0,none⟩)),(5,172,.pointer (some ⟨rb,0,none⟩)),(7,173,.pointer (some ⟨rb,0,none⟩)),(8,174,.pointer (some ⟨rb,1,none⟩)),(10,175,.pointer (some ⟨rb,0,none⟩)),(11,176,.pointer (some ⟨rb,2,none⟩))] [] _ _ rfl rfl [6,9,12] (λz=>match z with|0=>w6.drew|1=>w6.drew.setCell ⟨rb,0,none⟩ (.int .i64 1)|2=>(w6.drew.setCell ⟨rb,0,none⟩ (.int .i64 1)).setCell ⟨rb,1,none⟩ (.int .i64 a)|_=>((w6.drew.setCell ⟨rb,0,none⟩ (.int .i64 1)).setCell ⟨rb,1,none⟩ (.int .i64 a)).setCell ⟨rb,2,none⟩ (.slice none 0 0)) [(0,0),(1,0),(1,1),(2,0),(2,1),(2,2),(3,0),(3,1),(4,0),(5,0),(6,0),(7,1),(8,1),(9,1),(10,2),(11,2),(12,2)] (by kernel_rfl) (by kernel_rfl) (by rfl) rfl ?_ ?_
   ·generalize Y:J8 _ _=F
    simp[J8]at Y;subst Y
    repeat' (first|refine List.forall_mem_cons.2 ⟨?_,?_⟩|exact List.forall_mem_nil _)
    all_goals
     intro o' J;injection J with J
     subst J
    all_goals simp[X9,execOp,go_sem,p3,n3,c0,c1,X,f0,f1,f2]
   simp only[J8,B6,C0,List.append_nil,List.foldl];go_simp;clear p3 p4 p7 q0 q1 c0 c1 X f0 f1 f2 n3 en
   go_wp2_with fail
   go_ret;exact .mk (M:=⟨1,a,[]⟩) (by simp[M8]) j9.out rfl k2.out (by rw[show t++Q9 (18,x) [a]=t by simp[Q9]];exact k3.out)
  ·rw[List.concat_eq_append]at e
   subst e;obtain⟨⟨k4,W,k5,e9⟩,v2,s2⟩:=u;have k6:=i8.out _ (List.mem_append_right _ (List.mem_singleton.2 rfl));simp only at k6;obtain⟨m,hm⟩: ∃m,d6.length=m:=⟨_,rfl⟩;have k7:i=m+1:=by rw[<-C.out,z9,List.length_singleton,hm]
   have c5:=zh hm;have e1:IntKind.i64.wrap ((i:Int)-1)=(m:Int):=by rw[show(i:Int)-1=m by omega];exact IntWalk.i64_in _ (by omega)
   have e2:wrap64 ((i:Int)-1)=(m:Int):=(IntWalk.i64_left _).symm.trans e1;have i0:(0:Int)<=(m:Int):=by omega
   have i1:(m:Int)<(i:Int):=by omega
   have en:((i:Int)==0)=false:=beq_eq_false_iff_ne.2 (by omega);clear hm k7
   go_upto_region 38 with(fail)
   go_quiet (fail)
   have HD:=J9 (y7 w6.heap.size w6) nq;replace N:=zh (N.out.vo D.out (Vo.of HD N.out.rf.bd) (N.out.rf.below HD));clear p3 p4 p7 q0 q1 c0 c1 X f0 f1 f2 i0 i1 en e1 e2 HD;generalize World.drewN _ _=w7 at N|-
   obtain⟨l9,k8,m0,m7,m8,m9,e2,-,-,rfl,rfl,U,R,d2,d3,z1,z3,h0⟩:=qw N.out.rf.T9;injection e2 with e2;injection e2 with e2
   subst e2;rw[c5.out]at d3;have J:=N.out.rf.T9.R9.yd.2.1;simp only at J d3;have CL:=zh (jo (F:=λ_=>True) (Y9 J λ_ _=>trivial) (by
    rcases(N9 J).2 with rfl|⟨g,rfl⟩
    ·rcases N8 J with⟨e,-⟩|⟨g9,c9,e,-⟩
     ·injection e with _ _ e;exact .inl ⟨rfl,e⟩
     ·injection e with e;cases e
    ·exact .inr ⟨_,_,rfl⟩) (by omega))
   clear J U R d2 z1 z3 h0
   go_wp2_with fail
   refine CL.out.mono ?_;rintro e w8 ⟨b1,A8,c8,rfl,f3⟩;have K:=(y7 w8.heap.size w8).alloc (y6 _) (.cells #[.int .i64 a] 3);have hX:K9 (w8.alloc (.cells #[.int .i64 a] 3)) (λ_=>True) (.slice (some ⟨w8.heap.size,0,none⟩) 1 1) [a]:=U1 (l:=[a]) (y9 w8 _) trivial;obtain⟨A9,c9,w9,r9,o9,g9,-⟩:=Z6 22 (K6 f3 K) hX (by simp;omega) (C4 b1.size K.size);have h2:=L8 (b1.trans (K.mono b1.size)) (K6 f3 K) (y6 _) (C4 b1.size K.size) g9;obtain⟨x3,y3,f4,f5⟩:=zdH N.out.rf h2 (S:=e9++[a]) (s':=.slice A9 (e9.length+1) c9) (by simpa using o9);rw[c5.out]at x3 y3 f4 f5;have H9:=zh (N.out.vo D.out f5 f4);simp only[List.length_singleton]at r9;clear b1 f3 K hX o9 g9 h2 f4 f5 CL d3
   go_upto_region 40 with(at_builtin;refine Lib.wpList_append_run _ rfl _ _ _ _ rfl _ _ rfl rfl _ _ r9 ?_)
   clear r9 x3 y3 N;generalize World.setCell _ _ _=n0 at H9|-
   obtain⟨n1,k9,n5,n8,n9,o2,e3,-,-,-,-,U,R,d2,d3,z1,z3,-⟩:=qw H9.out.rf.T9;injection e3 with e3;injection e3 with e3
   subst e3;rw[c5.out]at R z1;simp only at R;have ep:IntKind.i64.wrap ((W:Int)+1)=((W+1:Nat):Int):=by rw[show((W+1:Nat):Int)=(W:Int)+1 by omega];exact IntWalk.i64_in _ (by omega)
   obtain⟨b2,b5⟩:=zfX H9.out.rf (W+1);rw[c5.out]at b2 b5;have f6:=zh (H9.out.vo D.out b5 b2);clear U d2 d3 z3 b2 b5 H9
   go_wp2_with fail
   go_ret
   try rw[show(W:Int)+1=((W+1:Nat):Int) by omega]
   exact .mk (M:=⟨0,value,d6.map Prod.fst++[⟨k4,W+1,k5,e9++[a]⟩]⟩) (by simp[M8]) f6.out.rf (by simp) f6.out.q (by simpa[Q9]using f6.out.hi)
end
end Go.Proofs.YtalgmjmibamdfaaGreatDoor
