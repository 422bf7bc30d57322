/- Merged. -/
import Derived.Test.YtalgmjmibamdfaaGreatDoorCO21
set_option linter.all false
set_option maxHeartbeats 16000000
set_option maxRecDepth 100000
namespace Go.Proofs.YtalgmjmibamdfaaGreatDoor
open Go.Proofs.Tryz
open Go.RowKit Tw
section
variable {L:List Cf}{main:Nat}{Z:Nat}{B:Bd}{rb cf g:Nat}{Af:Option Addr}{value:Int}{hf:R4}{lb:Array Value}{I:World->(Nat->Prop)->List (Int×List Int)->Prop}
theorem zgo(hP:zk L main)(HH:zT Z B g lb hf I){c:Nat}{A:Option Addr}{low:List Fm}{f:Fq}{v s:Value}{w:World}{t:List (Int×List Int)}
 (h:qF w B rb 0 value A c (low++[(f,v,s)])) (hF:M3 w (.slice Af L.length cf) (L.map Cf.pf)) (hI:I w B.S t) (g3:Hid (t.length<1000000)) (hT:jC L f) (hR:FrR f) (j8:low.length+1<=32) (d7: ∀y∈low,y.1.I8.length<=600/\y.1.pc<=4000) (h4: ∀c∈L,c.J6.length<=4000) (d8: ∀o h,xw L f=some (o,h)->o.1=20):
 Calls prog 39 #[.pointer (some ⟨rb,0,none⟩),.agg #[.slice Af L.length cf,.int .i64 main],.func (.func g) #[] lb] w (NxO (R5 L hf value (low.map Prod.fst) f) Z B rb I (t++Y5 L f) w):=by
 obtain⟨cd,⟨d,x⟩,a4,b9,j9,g4,e4,c3⟩:=hT.jN hP;have a5:=d8 _ _ b9;have e1:R5 L hf value (low.map Prod.fst) f=M8 L hf value (low.map Prod.fst) f (d,x) (f.I8.take (f.I8.length-J4 (L.map (·.params)) (d,x))) (f.I8.drop (f.I8.length-J4 (L.map (·.params)) (d,x))):=by unfold R5;rw[b9];rfl
 have e2:Y5 L f=Q9 (d,x) (f.I8.drop (f.I8.length-J4 (L.map (·.params)) (d,x))):=by unfold Y5;rw[b9];rfl
 rw[e1,e2];clear e1 e2 b9 d8 hT;obtain⟨d9,a7,a8,-⟩:=j9;obtain⟨fn,E,N,st⟩:=f;simp only at a4 a7 a8 g4 e4 c3 hR a5|-
 obtain⟨po,a1⟩: ∃z,J4 (L.map (·.params)) (d,x)=z:=⟨_,rfl⟩;rw[a1]at a7 a8|-
 obtain⟨a,xs,rfl,a9,hS,hX⟩: ∃a xs,st=a++xs/\xs.length=po/\st.take (st.length-po)=a/\st.drop (st.length-po)=xs:=⟨_,_,(List.take_append_drop (st.length-po) st).symm,by rw[I6];omega,rfl,rfl⟩;rw[hS,hX];clear hS hX;have k2:po<=7:=by rw[<-a1];exact qL (λy hy=>by obtain⟨z,hz,rfl⟩:=List.mem_map.1 hy;exact(hP.yF z hz).params) _
 have c4:(a++xs).length<=300:=by omega
 clear k2;obtain⟨j,m9,Av,cv,R,cs,rfl,k3,g5,rfl,rfl,d0,d1,d2,d3,z1,z3,J⟩:=qw h.T9;obtain⟨c0,c1,c2,f0,f1,f2⟩:=qM h;rw[z9,List.length_singleton]at c2;obtain⟨i,e5⟩: ∃n,low.length=n:=⟨_,rfl⟩;have K:=zh e5;rw[e5]at c2 d0 d1 j8;clear e5;obtain⟨U,n0,vo,hv,-,g6,u0,u1,u2,e0⟩:=hF.at (zi a4);injection hv with k4 k5 k6
 clear k5;subst k4 k6;obtain⟨go,co,rfl,-,g7,g8⟩:=e0.at;obtain⟨o0,o1⟩:=g8 E (d,x) (by show(cd.J6.map Prod.fst)[E]?=_;rw[G3,c3];rfl);simp only[Cf.pf,D9]at u0 u1 u2 o0 o1;have n1:fn<L.length:=(List.getElem?_eq_some_iff.1 a4).1;have n5:E<cd.J6.length:=(List.getElem?_eq_some_iff.1 c3).1;have n8:E<=4000:=by have:=h4 cd (B7 a4);omega
 have l1:rb<w.heap.size:=I7 h.K3;have l2:j<w.heap.size:=I7 g5;have e6:=h.bd;have H:=zh h;have HF:=zh hF;have HI:=zh hI;have HP:=zh hP;have l:=zh HH;have n9:=zh d7;have h7:=zh d9;have k7:=zh a1;have k8:=zh a9;have HR:=zh hR;have o2:=zh a4;have o3:=zh e4;have k9:=zh a5;have l0:=zh c4;have l3:=zh a8;have l4: ∀(d:Int),1<=d->d<=20->True:=λ_ _ _=>trivial;have X3:=heap_alloc2_old w (.cells #[.pointer (some ⟨rb,0,none⟩)] 145) (.cells #[.slice (some ⟨U,0,none⟩) L.length cf,.int .i64 main] 26);have X4:=heap_alloc2_new w (.cells #[.pointer (some ⟨rb,0,none⟩)] 145) (.cells #[.slice (some ⟨U,0,none⟩) L.length cf,.int .i64 main] 26);have e7:=((y7 w.heap.size w).alloc (y6 _) (.cells #[.pointer (some ⟨rb,0,none⟩)] 145)).alloc (by simp) (.cells #[.slice (some ⟨U,0,none⟩) L.length cf,.int .i64 main] 26);have P:=zh X3;have V:=zh X4;have HB:=zh e7;have oc: ∀b k,b<w.heap.size->((w.alloc (.cells #[.pointer (some ⟨rb,0,none⟩)] 145)).alloc (.cells #[.slice (some ⟨U,0,none⟩) L.length cf,.int .i64 main] 26)).cell? ⟨b,k,none⟩=w.cell? ⟨b,k,none⟩:=λb k hb=>e7.cell (p:=⟨b,k,none⟩) hb;rw[<-oc _ _ (by assumption)]at c2 d0 d1 u2 o0 o1;have l5:=zh oc;clear l4 X3 X4 e7 oc h hF hI hP HH d7 d9 a1 a9 hR a4 e4 a5 c4 a8 c3 g8 e0 h4 g4 c0 c1 f0 f1 f2 d2 d3 z1 z3 u0 u1 J a7 g5 k3;have i0:(0:Int)<=(i:Int):=by omega
 have i1:(i:Int)<(i:Int)+1:=by omega
 have i2:wrap64 (i:Int)=(i:Int):=IntWalk.wrap64_in _ (by omega);have h8:IntKind.i64.wrap (i:Int)=(i:Int):=(IntWalk.i64_left _).trans i2;have j0:(0:Int)<=(fn:Int):=by omega
 have j1:(fn:Int)<(L.length:Int):=by omega
 have k0:(0:Int)<=(E:Int):=by omega
 have k1:(E:Int)<(cd.J6.length:Int):=by omega
 go_enter func39,ntmps39
 go_upto_region 1 with(fail)
 have m1:rb<(World.alloc _ _).heap.size:=z6 l1 HB.out.size;have m2:j<(World.alloc _ _).heap.size:=z6 l2 HB.out.size;have m3:U<(World.alloc _ _).heap.size:=z6 g6 HB.out.size;have m4:go<(World.alloc _ _).heap.size:=z6 g7 HB.out.size;have Q:=zh (Vo.of HB.out e6);have M:=zh (H.out.below HB.out);clear g6 g7 l1 l2 HB l5;generalize World.alloc (World.alloc _ _) _=X at P V Q M c2 d0 d1 u2 o0 o1 m1 m2 m3 m4|-
 obtain⟨b4,e8⟩: ∃b,w.heap.size+1=b:=⟨_,rfl⟩;rw[e8]at V;simp only[e8];clear e8;obtain⟨b3,e9⟩: ∃b,w.heap.size=b:=⟨_,rfl⟩;rw[e9]at P e6;simp only[e9];clear e9 e6;have p3:=y5 P.out 0;have p4:=y5 V.out 0;have m5:=I7 P.out;have m6:=I7 V.out;have hA: ∀b k O,b<X.heap.size->(X.alloc O).cell? ⟨b,k,none⟩=X.cell? ⟨b,k,none⟩:=λb k O hb=>((y7 X.heap.size X).alloc (y6 _) O).cell (p:=⟨b,k,none⟩) hb;refine L4 (by kernel_rfl) [(0,25,.pointer (some ⟨rb,0,none⟩)),(1,26,.pointer (some ⟨rb,0,none⟩)),(2,27,.pointer (some ⟨rb,2,none⟩)),(3,28,.slice (some ⟨j,0,none⟩) (i+1) c),(4,29,.pointer (some ⟨rb,0,none⟩)),(5,30,.pointer (some ⟨rb,0,none⟩)),(6,31,.pointer (some ⟨rb,2,none⟩)),(7,32,.slice (some ⟨j,0,none⟩) (i+1) c),(8,33,.int .i64 (i+1)),(9,34,.int .i64 i),(10,35,.pointer (some ⟨j,i*4,none⟩)),(11,7,.pointer (some ⟨X.heap.size,0,none⟩))] [] _ _ rfl rfl [11,12] (λz=>match z with|0=>X.drew|1=>X.drew.alloc (.cells #[.pointer none] 146)|_=>X.drew.alloc (.cells #[.pointer (some ⟨j,i*4,none⟩)] 146)) [(0,0),(0,1),(1,0),(1,1),(2,0),(2,1),(3,0),(3,1),(4,0),(4,1),(5,0),(5,1),(6,0),(6,1),(7,0),(7,1),(8,0),(8,1),(9,0),(9,1),(10,0),(10,1),(11,0),(12,1)] (by kernel_rfl) (by kernel_rfl) (by rfl) rfl ?_ ?_
 ·generalize hF:J8 _ _=F
  simp[J8]at hF;subst hF
  repeat' (first|refine List.forall_mem_cons.2 ⟨?_,?_⟩|exact List.forall_mem_nil _)
  all_goals
   intro o' G;injection G with G
   subst G
  all_goals simp[X9,execOp,go_sem,hA,m1,m5,p3,c2,i0,i1,i2,h8]
 simp only[J8,B6,C0,List.append_nil,List.foldl];go_simp;have ba:=((y7 X.heap.size X).alloc (y6 _) (.cells #[.pointer (some ⟨j,i*4,none⟩)] 146)).drew;have a6:Hid ((X.alloc (.cells #[.pointer (some ⟨j,i*4,none⟩)] 146)).drew.heap[X.heap.size]?=_):=zh (y9 X (.cells #[.pointer (some ⟨j,i*4,none⟩)] 146));have b0:=M.out.bd;replace P:=zh ((ba.block b3 m5).trans P.out);replace V:=zh ((ba.block b4 m6).trans V.out);replace Q:=zh (Q.out.trans (Vo.of ba b0));replace M:=zh (M.out.below ba);have oc: ∀b k,b<X.heap.size->((X.alloc (.cells #[.pointer (some ⟨j,i*4,none⟩)] 146)).drew).cell? ⟨b,k,none⟩=X.cell? ⟨b,k,none⟩:=λb k hb=>ba.cell (p:=⟨b,k,none⟩) hb;rw[<-oc _ _ (by assumption)]at p4 d0 d1 u2 o0 o1;have s1:=ba.size;have n2:=z6 m2 s1;have n3:=z6 m3 s1;have n4:=z6 m4 s1;have n6:=z6 m6 s1;clear oc ba s1 hA m1 m2 m3 m4 m5 m6 p3 c2 b0 i0 i1 i2 h8;generalize(World.alloc _ _).drew=Y at P V a6 Q M p4 d0 d1 u2 o0 o1 n2 n3 n4 n6|-
 generalize X.heap.size=b7 at a6|-
 have p7:=y5 a6.out 0;have n7:=I7 a6.out
 go_upto_region 2 with(fail)
 have hA: ∀b k O,b<Y.heap.size->(Y.alloc O).cell? ⟨b,k,none⟩=Y.cell? ⟨b,k,none⟩:=λb k O hb=>((y7 Y.heap.size Y).alloc (y6 _) O).cell (p:=⟨b,k,none⟩) hb;refine L4 (by kernel_rfl) [(0,36,.pointer (some ⟨b4,0,none⟩)),(1,37,.slice (some ⟨U,0,none⟩) L.length cf),(2,38,.pointer (some ⟨j,i*4,none⟩)),(3,39,.pointer (some ⟨j,i*4,none⟩)),(4,40,.pointer (some ⟨j,i*4,none⟩)),(5,41,.int .i64 fn),(6,42,.pointer (some ⟨U,fn*3,none⟩)),(7,43,.pointer (some ⟨U,fn*3+2,none⟩)),(8,44,.slice (some ⟨go,0,none⟩) cd.J6.length co),(9,45,.pointer (some ⟨j,i*4,none⟩)),(10,46,.pointer (some ⟨j,i*4,none⟩)),(11,47,.pointer (some ⟨j,i*4+1,none⟩)),(12,48,.int .i64 E),(13,49,.pointer (some ⟨go,E*2,none⟩)),(14,50,.agg #[.int .i64 d,.int .i64 x]),(15,8,.pointer (some ⟨Y.heap.size,0,none⟩))] [] _ _ rfl rfl [15,16] (λz=>match z with|0=>Y.drew|1=>Y.drew.alloc (.cells #[.int .i64 0,.int .i64 0] 74)|_=>Y.drew.alloc (.cells #[.int .i64 d,.int .i64 x] 74)) [(0,0),(0,1),(1,0),(1,1),(2,0),(2,1),(3,0),(3,1),(4,0),(4,1),(5,0),(5,1),(6,0),(6,1),(7,0),(7,1),(8,0),(8,1),(9,0),(9,1),(10,0),(10,1),(11,0),(11,1),(12,0),(12,1),(13,0),(13,1),(14,0),(14,1),(15,0),(16,1)] (by kernel_rfl) (by kernel_rfl) (by rfl) rfl ?_ ?_
 ·generalize hF:J8 _ _=F
  simp[J8]at hF;subst hF
  repeat' (first|refine List.forall_mem_cons.2 ⟨?_,?_⟩|exact List.forall_mem_nil _)
  all_goals
   intro o' G;injection G with G
   subst G
  all_goals simp[X9,execOp,go_sem,hA,n2,n3,n4,n6,n7,p4,p7,d0,d1,u2,o0,o1,j0,j1,k0,k1]
 simp only[J8,B6,C0,List.append_nil,List.foldl];go_simp;have ba:=((y7 Y.heap.size Y).alloc (y6 _) (.cells #[.int .i64 d,.int .i64 x] 74)).drew;have i8:Hid ((Y.alloc (.cells #[.int .i64 d,.int .i64 x] 74)).drew.heap[Y.heap.size]?=_):=zh (y9 Y (.cells #[.int .i64 d,.int .i64 x] 74));have b0:=M.out.bd;have c5:Hid (NxL rb b3 b4 b7 Y.heap.size j i (some ⟨U,0,none⟩) L.length cf main d x (Y.alloc (.cells #[.int .i64 d,.int .i64 x] 74)).drew):=zh ⟨(ba.block b3 (I7 P.out)).trans P.out,(ba.block b4 n6).trans V.out,(ba.block b7 n7).trans a6.out,i8.out⟩;replace Q:=zh (Q.out.trans (Vo.of ba b0));replace M:=zh (M.out.below ba);clear ba hA b0 n2 n3 n4 n6 n7 p4 p7 d0 d1 u2 o0 o1 j0 j1 k0 k1 P V a6 i8;generalize(World.alloc _ _).drew=w3 at c5 Q M|-
 generalize Y.heap.size=b8 at c5|-
 have f3:Hid (X8 Z B I t w rb b3 b4 b7 b8 j i (some ⟨U,0,none⟩) L.length cf main d x value c (low++[(⟨fn,E,N,a++xs⟩,.slice Av N.length cv,.slice R (a++xs).length cs)]) w3):=zh ⟨M.out,c5.out,Q.out.qh l.out.le,l.out.J0 HI.out Q.out⟩;have ep:IntKind.i64.wrap ((E:Int)+1)=((E+1:Nat):Int):=by rw[show((E+1:Nat):Int)=(E:Int)+1 by omega];exact IntWalk.i64_in _ (by omega)
 have HN:Hid (X8 Z B I t w rb b3 b4 b7 b8 j i (some ⟨U,0,none⟩) L.length cf main d x value c (low++[(⟨fn,E+1,N,a++xs⟩,.slice Av N.length cv,.slice R (a++xs).length cs)]) (w3.setCell ⟨j,i*4+1,none⟩ (.int .i64 ((E+1:Nat):Int)))):=zh (yl K.out l.out f3.out (E+1));obtain⟨⟨p3,p4,p7,q0,q1⟩,⟨d0,d1,d2,d3,z1,z3⟩,-⟩:=(X8.U0 K.out f3.out)
 go_upto_region 8 with(fail)
 clear p3 p4 p7 q0 q1 d0 d1 d2 d3 z1 z3 f3 M c5 Q
 try rw[show(E:Int)+1=((E+1:Nat):Int) by omega]
 generalize World.setCell _ _ _=w4 at HN|-
 obtain⟨⟨p3,p4,p7,q0,q1⟩,⟨d0,d1,d2,d3,z1,z3⟩,c0,c1,c2,f0,f1,f2⟩:=(X8.U0 K.out HN.out);obtain⟨i9,j2,f4,b1⟩:=h7.out;have a1:=k7.out;have a9:=k8.out;have c4:=l0.out;have a8:=l3.out
 try simp only at i9
 try simp only at j2
 try simp only at f4
 try simp only at b1
 rw[z9]at c4;have a5:=k9.out
 try simp only at a5
 clear i9 j2;subst a5
 ·obtain⟨c6,f5⟩:=f4 (by decide)
  simp[Y1]at c6 f5;have h6:x%8<=6:=b1 rfl;have l6:(xs.length:Int)=x%8:=by
   rw[a9,<-a1,show J4 (L.map (·.params)) (20,x)=(x%8).toNat by simp[J4]];omega
  obtain⟨r1,f6⟩: ∃r,(hf (x/8) xs).1=r:=⟨_,rfl⟩;obtain⟨r2,f7⟩: ∃r,(hf (x/8) xs).2=r:=⟨_,rfl⟩;have c7:Hid (M8 L hf value (low.map Prod.fst) ⟨fn,E,N,a++xs⟩ (20,x) a xs=if r2=0 then(⟨0,value,low.map Prod.fst++[⟨fn,E+1,N,a++[r1]⟩]⟩,false)else(yf r2,false)):=zh (by simp[M8,f6,f7]);have j3:Hid (Q9 (20,x) xs=[(x/8,xs)]):=zh (by simp[Q9]);have em:x.tmod 8=x%8:=Int.tmod_eq_emod_of_nonneg c6;obtain⟨nst,C⟩: ∃n,(a++xs).length=n:=⟨_,rfl⟩;have e3:nst=a.length+xs.length:=by rw[<-C,z9]
  rw[C]at d3;have ew:wrap64 ((nst:Int)-x.tmod 8)=(a.length:Int):=by rw[show(nst:Int)-x.tmod 8=a.length by omega];exact IntWalk.wrap64_in _ (by omega)
  have l7:IntKind.i64.wrap ((nst:Int)-x.tmod 8)=(a.length:Int):=by rw[show(nst:Int)-x.tmod 8=a.length by omega];exact IntWalk.i64_in _ (by omega)
  have HX:=zh (And.intro c6 f5);have f8:Hid (xs.length<=600):=zh (by omega);have c8:=zh (And.intro f6 f7);have f9:=zh e3;clear l6 h6 em a1 b1 f6 f7 f4 e3 a9 c6 f5
  go_upto_region 52 with(fail)
  go_quiet (fail)
  clear p3 p4 p7 q0 q1 d0 d1 d2 d3 z1 z3 c0 c1 c2 f0 f1 f2;clear ew l7;have HD:=J9 (y7 w4.heap.size w4) nq;replace HN:=zh (HN.out.vo l.out (Vo.of HD HN.out.rf.bd) (HN.out.rf.below HD));clear HD;generalize World.drewN _ _=w5 at HN|-
  go_upto_region 53 with(fail)
  go_cut[19,20] (λv1 v2 W=>v1=.int .i64 r1/\v2=.int .i64 r2/\ ∃S5:Nat->Prop,Hid (X8 Z ⟨B.n,S5⟩ I (t++[(x/8,xs)]) w rb b3 b4 b7 b8 j i (some ⟨U,0,none⟩) L.length cf main 20 x value c (low++[(⟨fn,E+1,N,a++xs⟩,.slice Av N.length cv,.slice R (a++xs).length cs)]) W))
  case first=>
   have G:=HN.out.rf.T9.R9.yd.2.1;simp only at G;have J:=(N9 G).1;have a3:=(N9 G).2;rw[C]at J;have a0:a.length<=nst:=by have:=f9.out;omega
   have ex:wrap64 (x.tdiv 8)=x/8:=(IntWalk.i64_left _).symm.trans (IntWalk.i64_quo x 8 (by have:=HX.out;omega));have j4:IntKind.i64.wrap (x.tdiv 8)=x/8:=IntWalk.i64_quo x 8 (by have:=HX.out;omega);have i0:(0:Int)<=(a.length:Int):=by omega
   have i2:(a.length:Int)<=(nst:Int):=by omega
   have i1: ¬((nst:Int)<(a.length:Int)):=Int.not_lt.2 i2;have i4:(nst:Int)<=(cs:Int):=Int.ofNat_le.2 J;have i3: ¬((cs:Int)<(nst:Int)):=Int.not_lt.2 i4;have i6:(a.length:Int)<=(cs:Int):=Int.ofNat_le.2 (C4 a0 J);have i5: ¬((cs:Int)<(a.length:Int)):=Int.not_lt.2 i6;have eg:=l.out.eg;have d4:0<=x/8/\x/8<=100:=by have:=HX.out;omega
   have d5:(a++xs).length-a.length=xs.length:=by simp
   have g0:(a++xs).drop a.length=xs:=by simp
   have d6: ∀(T:Option Addr)(ct:Nat),(R=none/\T=none/\ct=0\/ ∃g,R=some ⟨g,0,none⟩/\(T=some ⟨g,a.length,none⟩\/T=some ⟨g,0,none⟩/\(a++xs).length=a.length))-> ∀W,X8 Z B I t w rb b3 b4 b7 b8 j i (some ⟨U,0,none⟩) L.length cf main 20 x value c (low++[(⟨fn,E+1,N,a++xs⟩,.slice Av N.length cv,.slice R (a++xs).length cs)]) W->Calls prog 44 #[.slice T (nst-a.length) ct] W λe w'=>Below W.heap.size W w'/\ ∃A' c',e=.returned (.slice A' xs.length c')/\K9 w' (Ti w') (.slice A' xs.length c') xs:=λT ct hT W hW=>by
    have:=yv (m:=a.length) hW.rf.T9.R9.yd.2.1 (by show(a++xs).length<=100000;rw[C];have:=f9.out;have:=f8.out;omega) hT;simp only[d5,g0]at this;rw[<-C,d5];exact this.mono λe w' ⟨hb,A',c',he,G⟩=>⟨hb,A',c',he,ZT G⟩
   by_cases b2:cs=a.length
   ·have b5:=d6 R (cs-a.length) (by
     rcases a3 with rfl|⟨g9,rfl⟩
     ·exact .inl ⟨rfl,rfl,by omega⟩
     ·exact .inr ⟨g9,rfl,.inr ⟨rfl,by rw[C];exact Nat.le_antisymm (b2▸J) a0⟩⟩)
    have TC:=zh b5;have l8:nst-a.length=0:=Nat.sub_eq_zero_of_le (b2▸J);have l9:cs-a.length=0:=by omega
    clear d6 b5 d5 g0 G J a3 a0;refine W4 (D:=Value×World) (by kernel_rfl) [(0,279),(1,280),(2,281),(3,282),(4,283),(5,284),(6,285),(7,286),(8,287),(9,288),(10,289),(11,290),(12,278),(13,291),(14,292),(15,19),(16,20)] [10,11] [[],[10],[10,11]] (λ_ d=>[(0,279,.func (.func g) #[] lb),(1,280,.pointer (some ⟨b8,1,none⟩)),(2,281,.int .i64 x),(3,282,.int .i64 (x/8)),(4,283,.pointer (some ⟨j,i*4,none⟩)),(5,284,.pointer (some ⟨j,i*4,none⟩)),(6,285,.pointer (some ⟨j,i*4+3,none⟩)),(7,286,.slice R nst cs),(8,287,.int .i64 a.length),(9,288,.slice R (nst-a.length) (cs-a.length)),(10,289,d.1),(11,290,.tuple #[.int .i64 r1,.int .i64 r2]),(12,278,.tuple #[.int .i64 r1,.int .i64 r2]),(13,291,.int .i64 r1),(14,292,.int .i64 r2),(15,19,.int .i64 r1),(16,20,.int .i64 r2)]) (λ_ d=>d.2) (λj' d=>match j' with|0=>X8 Z B I t w rb b3 b4 b7 b8 j i (some ⟨U,0,none⟩) L.length cf main 20 x value c (low++[(⟨fn,E+1,N,a++xs⟩,.slice Av N.length cv,.slice R (a++xs).length cs)]) d.2|1=>X8 Z B I t w rb b3 b4 b7 b8 j i (some ⟨U,0,none⟩) L.length cf main 20 x value c (low++[(⟨fn,E+1,N,a++xs⟩,.slice Av N.length cv,.slice R (a++xs).length cs)]) d.2/\ ∃A c,d.1=.slice A xs.length c/\K9 d.2 (Ti d.2) d.1 xs|_=> ∃S5:Nat->Prop,X8 Z ⟨B.n,S5⟩ I (t++[(x/8,xs)]) w rb b3 b4 b7 b8 j i (some ⟨U,0,none⟩) L.length cf main 20 x value c (low++[(⟨fn,E+1,N,a++xs⟩,.slice Av N.length cv,.slice R (a++xs).length cs)]) d.2) [(0,0),(0,1),(1,0),(1,1),(2,0),(2,1),(3,0),(3,1),(4,0),(5,0),(6,0),(7,0),(8,0),(9,0),(10,0),(11,1),(12,2),(13,2),(14,2),(15,2),(16,2)] (by kernel_rfl) (by kernel_rfl) (λ_ _=>rfl) (by rfl) (undef,w5.drew) rfl (HN.out.drew l.out) rfl ?_ ?_
    ·repeat' (first|refine List.forall_mem_cons.2 ⟨?_,?_⟩|exact List.forall_mem_nil _)
     all_goals
      intro o' G;injection G with G
      subst G;rintro⟨cl,W⟩ u
     rotate_left 14
     ·have HG:=zh u
      refine .call 44 #[.slice R (nst-a.length) (cs-a.length)] (by simp[J8,execOp,go_sem]) ((TC.out W HG.out).mono ?_);rintro e w6 ⟨hb,A',c',rfl,hi⟩;exact⟨_,1,(.slice A' xs.length c',w6),rfl,.of (by decide) ⟨HG.out.vo l.out (Vo.of hb HG.out.rf.bd) (HG.out.rf.below hb),A',c',rfl,hi⟩ rfl rfl,rfl,rfl⟩
     ·obtain⟨u,A',c',he,hi⟩:=u
      simp only at he hi;subst he;have g1:=l.out.call (x/8) xs A' c' W t g3 u.hi hi f8.out d4.1 d4.2;refine .call g _ ?_ (g1.mono ?_)
      ·simp[J8,execOp,go_sem,eg]
      rintro e w6 ⟨rfl,⟨S6,b6,g2⟩,a2⟩;rw[c8.out.1,c8.out.2];exact⟨_,2,(.slice A' xs.length c',w6),rfl,.of (by decide) ⟨S6,u.rf.hk a2 (l.out.sz b6) g2,u.lo.hk a2,u.q.trans a2.qh,b6⟩ rfl rfl,rfl,rfl⟩
     all_goals
      first|have fc:=X8.U0 K.out u|have fc:=X8.U0 K.out u.1|(obtain⟨S5,u⟩:=u;have fc:=X8.U0 K.out u)
      rw[C]at fc;obtain⟨⟨p3,p4,p7,q0,q1⟩,⟨d0,d1,d2,d3,z1,z3⟩,c0,c1,c2,f0,f1,f2⟩:=fc;exact .xk rfl (by simp[J8,X9,execOp,go_sem,p7,d3,q1,ex,j4,i0,i1,i2,i3,i4,i5,i6,l8,l9,b2])
    ·rintro jj ⟨cl,W⟩ u hd
     have hj:=hd 11 (by decide) (by decide)
     match jj,u,hj with
     |0,_,h=>cases h
     |1,_,h=>cases h
     |2,u,_=>
      have H5:=zh u;clear hd u;simp only[J8,B6,C0,List.append_nil,List.foldl];go_simp
      go_wp2_with fail
      go_meet
      case rel=>
       obtain⟨S5,h5⟩:=H5.out;exact⟨rfl,rfl,S5,zh h5⟩
     |n+3,_,h=>cases h
   ·obtain⟨gs,rfl⟩: ∃gs,R=some ⟨gs,0,none⟩:=by
     rcases a3 with rfl|h
     ·rcases N8 G with⟨e,-⟩|⟨g9,c9,e,-⟩
      ·exfalso;injection e with h1 h2 h3;exact b2 (by have h4:nst=0:=Nat.le_zero.1 (h3▸J);rw[h3];exact(Nat.le_zero.1 (h4▸a0)).symm)
      ·injection e with e;cases e
     ·exact h
    have b5:=d6 (some ⟨gs,a.length,none⟩) (cs-a.length) (.inr ⟨gs,rfl,.inl rfl⟩);have TC:=zh b5;clear d6 b5 d5 g0 G J a3 a0;refine W4 (D:=Value×World) (by kernel_rfl) [(0,279),(1,280),(2,281),(3,282),(4,283),(5,284),(6,285),(7,286),(8,287),(9,288),(10,289),(11,290),(12,278),(13,291),(14,292),(15,19),(16,20)] [10,11] [[],[10],[10,11]] (λ_ d=>[(0,279,.func (.func g) #[] lb),(1,280,.pointer (some ⟨b8,1,none⟩)),(2,281,.int .i64 x),(3,282,.int .i64 (x/8)),(4,283,.pointer (some ⟨j,i*4,none⟩)),(5,284,.pointer (some ⟨j,i*4,none⟩)),(6,285,.pointer (some ⟨j,i*4+3,none⟩)),(7,286,.slice (some ⟨gs,0,none⟩) nst cs),(8,287,.int .i64 a.length),(9,288,.slice (some ⟨gs,a.length,none⟩) (nst-a.length) (cs-a.length)),(10,289,d.1),(11,290,.tuple #[.int .i64 r1,.int .i64 r2]),(12,278,.tuple #[.int .i64 r1,.int .i64 r2]),(13,291,.int .i64 r1),(14,292,.int .i64 r2),(15,19,.int .i64 r1),(16,20,.int .i64 r2)]) (λ_ d=>d.2) (λj' d=>match j' with|0=>X8 Z B I t w rb b3 b4 b7 b8 j i (some ⟨U,0,none⟩) L.length cf main 20 x value c (low++[(⟨fn,E+1,N,a++xs⟩,.slice Av N.length cv,.slice (some ⟨gs,0,none⟩) (a++xs).length cs)]) d.2|1=>X8 Z B I t w rb b3 b4 b7 b8 j i (some ⟨U,0,none⟩) L.length cf main 20 x value c (low++[(⟨fn,E+1,N,a++xs⟩,.slice Av N.length cv,.slice (some ⟨gs,0,none⟩) (a++xs).length cs)]) d.2/\ ∃A c,d.1=.slice A xs.length c/\K9 d.2 (Ti d.2) d.1 xs|_=> ∃S5:Nat->Prop,X8 Z ⟨B.n,S5⟩ I (t++[(x/8,xs)]) w rb b3 b4 b7 b8 j i (some ⟨U,0,none⟩) L.length cf main 20 x value c (low++[(⟨fn,E+1,N,a++xs⟩,.slice Av N.length cv,.slice (some ⟨gs,0,none⟩) (a++xs).length cs)]) d.2) [(0,0),(0,1),(1,0),(1,1),(2,0),(2,1),(3,0),(3,1),(4,0),(5,0),(6,0),(7,0),(8,0),(9,0),(10,0),(11,1),(12,2),(13,2),(14,2),(15,2),(16,2)] (by kernel_rfl) (by kernel_rfl) (λ_ _=>rfl) (by rfl) (undef,w5.drew) rfl (HN.out.drew l.out) rfl ?_ ?_
    ·repeat' (first|refine List.forall_mem_cons.2 ⟨?_,?_⟩|exact List.forall_mem_nil _)
     all_goals
      intro o' G;injection G with G
      subst G;rintro⟨cl,W⟩ u
     rotate_left 14
     ·have HG:=zh u
      refine .call 44 #[.slice (some ⟨gs,a.length,none⟩) (nst-a.length) (cs-a.length)] (by simp[J8,execOp,go_sem]) ((TC.out W HG.out).mono ?_);rintro e w6 ⟨hb,A',c',rfl,hi⟩;exact⟨_,1,(.slice A' xs.length c',w6),rfl,.of (by decide) ⟨HG.out.vo l.out (Vo.of hb HG.out.rf.bd) (HG.out.rf.below hb),A',c',rfl,hi⟩ rfl rfl,rfl,rfl⟩
     ·obtain⟨u,A',c',he,hi⟩:=u
      simp only at he hi;subst he;have g1:=l.out.call (x/8) xs A' c' W t g3 u.hi hi f8.out d4.1 d4.2;refine .call g _ ?_ (g1.mono ?_)
      ·simp[J8,execOp,go_sem,eg]
      rintro e w6 ⟨rfl,⟨S6,b6,g2⟩,a2⟩;rw[c8.out.1,c8.out.2];exact⟨_,2,(.slice A' xs.length c',w6),rfl,.of (by decide) ⟨S6,u.rf.hk a2 (l.out.sz b6) g2,u.lo.hk a2,u.q.trans a2.qh,b6⟩ rfl rfl,rfl,rfl⟩
     all_goals
      first|have fc:=X8.U0 K.out u|have fc:=X8.U0 K.out u.1|(obtain⟨S5,u⟩:=u;have fc:=X8.U0 K.out u)
      rw[C]at fc;obtain⟨⟨p3,p4,p7,q0,q1⟩,⟨d0,d1,d2,d3,z1,z3⟩,c0,c1,c2,f0,f1,f2⟩:=fc;exact .xk rfl (by simp[J8,X9,execOp,go_sem,p7,d3,q1,ex,j4,i0,i1,i2,i3,i4,i5,i6,b2])
    ·rintro jj ⟨cl,W⟩ u hd
     have hj:=hd 11 (by decide) (by decide)
     match jj,u,hj with
     |0,_,h=>cases h
     |1,_,h=>cases h
     |2,u,_=>
      have H5:=zh u;clear hd u;simp only[J8,B6,C0,List.append_nil,List.foldl];go_simp
      go_wp2_with fail
      go_meet
      case rel=>
       obtain⟨S5,h5⟩:=H5.out;exact⟨rfl,rfl,S5,zh h5⟩
     |n+3,_,h=>cases h
  case rest=>
   rename World=>w7
   obtain⟨rfl,rfl,S5,H7⟩:=hcut;clear HN
   by_cases h0:r2=0
   ·subst h0
    rw[E1 rfl]at c7;obtain⟨⟨p3,p4,p7,q0,q1⟩,⟨d0,d1,d2,d3,z1,z3⟩,c0,c1,c2,f0,f1,f2⟩:=(X8.U0 K.out H7.out);rw[C]at d3;have J:nst<=cs:=by have:=(N9 H7.out.rf.T9.R9.yd.2.1).1;rw[<-C];exact this
    have a0:a.length<=nst:=by have:=f9.out;omega
    have i0:(0:Int)<=(a.length:Int):=by omega
    have i2:(a.length:Int)<=(nst:Int):=by omega
    have i1: ¬((nst:Int)<(a.length:Int)):=Int.not_lt.2 i2;have i6:(a.length:Int)<=(cs:Int):=Int.ofNat_le.2 (C4 a0 J);have i5: ¬((cs:Int)<(a.length:Int)):=Int.not_lt.2 i6;have i7:wrap64 (a.length:Int)=(a.length:Int):=IntWalk.wrap64_in _ (by omega);have H8:=zh (zcC (B:=⟨B.n,S5⟩) K.out l.out (H7.out.drew l.out));clear J a0
    go_upto_region 57 with(fail)
    refine L4 (by kernel_rfl) [(0,298,.pointer (some ⟨j,i*4,none⟩)),(1,299,.pointer (some ⟨j,i*4,none⟩)),(2,300,.pointer (some ⟨j,i*4,none⟩)),(3,301,.pointer (some ⟨j,i*4+3,none⟩)),(4,302,.slice R nst cs),(5,303,.int .i64 a.length),(6,304,.slice R a.length cs),(7,305,.pointer (some ⟨j,i*4,none⟩)),(8,306,.pointer (some ⟨j,i*4+3,none⟩))] [] _ _ rfl rfl [9] (λz=>match z with|0=>w7.drew|_=>w7.drew.setCell ⟨j,i*4+3,none⟩ (.slice R a.length cs)) [(0,0),(1,0),(2,0),(3,0),(4,0),(5,0),(6,0),(7,0),(8,0),(9,0)] (by kernel_rfl) (by kernel_rfl) (by rfl) rfl ?_ ?_
    ·generalize hF:J8 _ _=F
     simp[J8]at hF;subst hF
     repeat' (first|refine List.forall_mem_cons.2 ⟨?_,?_⟩|exact List.forall_mem_nil _)
     all_goals
      intro o' G;injection G with G
      subst G
     all_goals simp[X9,execOp,go_sem,p7,d3,z3,i0,i1,i2,i5,i6,i7]
    simp only[J8,B6,C0,List.append_nil,List.foldl];go_simp;clear p3 p4 p7 q0 q1 d0 d1 d2 d3 z1 z3 c0 c1 c2 f0 f1 f2;clear i0 i1 i2 i5 i6 i7 H7;rw[show w7.drew.setCell ⟨j,i*4+3,none⟩ (.slice R a.length cs)=(w7.setCell ⟨j,i*4+3,none⟩ (.slice R a.length cs)).drew from rfl]at H8;generalize(World.setCell _ _ _).drew=w8 at H8|-
    have PC:=zh (xK (B:=⟨B.n,S5⟩) K.out l.out H8.out (by omega) r1)
    go_wp2_with fail
    refine PC.out.mono ?_;rintro e w9 ⟨rfl,s',h9⟩;have H9:=zh h9;clear h9 PC
    go_wp2_with fail
    go_ret;exact .mk c7.out H9.out.rf (by simp) H9.out.q (by rw[j3.out];exact H9.out.hi)
   ·rw[B5 h0]at c7
    have o4:(r2 !=0)=true:=bne_iff_ne.2 h0;have FC:=zh (Xr (B:=⟨B.n,S5⟩) l.out H7.out r2);clear h0
    go_wp2_with fail
    refine FC.out.mono ?_;rintro e w8 ⟨rfl,j5,j6,j7⟩;have m0:=zh j5;have m7:=zh j6;have m8:=zh j7;clear j5 j6 j7 FC
    go_wp2_with fail
    go_ret;exact .mk c7.out m0.out rfl m7.out (by rw[j3.out];exact m8.out)
end
section
variable {L:List Cf}{main:Nat}{Z:Nat}{B:Bd}{rb cf g:Nat}{Af:Option Addr}{value:Int}{hf:R4}{lb:Array Value}{I:World->(Nat->Prop)->List (Int×List Int)->Prop}
theorem zft(q:zk L main)(r:zT Z B g lb hf I){c:Nat}{A:Option Addr}{low:List Fm}{f:Fq}{v s:Value}{w:World}{t:List (Int×List Int)}
 (h:qF w B rb 0 value A c (low++[(f,v,s)])) (u:M3 w (.slice Af L.length cf) (L.map Cf.pf)) (x:I w B.S t) (E:Hid (t.length<1000000)) (z:jC L f) (C:FrR f) (d:low.length+1<=32) (a: ∀y∈low,y.1.I8.length<=600/\y.1.pc<=4000) (D: ∀c∈L,c.J6.length<=4000):
 Calls prog 39 #[.pointer (some ⟨rb,0,none⟩),.agg #[.slice Af L.length cf,.int .i64 main],.func (.func g) #[] lb] w (NxO (R5 L hf value (low.map Prod.fst) f) Z B rb I (t++Y5 L f) w):=by
 have Y0: ∀{o i:S3}{n j:Nat},xw L f=some (o,n)->xw L f=some (i,j)->i=o:=λe b=>by rw[e]at b;injection b with b;injection b with F _;exact F.symm
 by_cases k: ∃o n,xw L f=some (o,n)/\o.1=17
 ·obtain⟨o,n,e,l⟩:=k
  exact zhm q r h u x z C d a D λi j b=>by rw[Y0 e b];exact l
 by_cases m: ∃o n,xw L f=some (o,n)/\o.1=18
 ·obtain⟨o,n,e,l⟩:=m
  exact zha q r h u x z C d a D λi j b=>by rw[Y0 e b];exact l
 by_cases p: ∃o n,xw L f=some (o,n)/\o.1=20
 ·obtain⟨o,n,e,l⟩:=p
  exact zgo q r h u x E z C d a D λi j b=>by rw[Y0 e b];exact l
 exact zgn q r h u x z C d a D λi j b=>⟨λh=>k ⟨i,j,b,h⟩,λh=>m ⟨i,j,b,h⟩,λh=>p ⟨i,j,b,h⟩⟩
end
theorem qF.mono{w:World}{B a:Bd}{b c:Nat}{A:Option Addr}{mode value:Int}{l:List Fm}(h:qF w B b mode value A c l)(d:a.n<=B.n)(e:JP w a)(hs: ∀k,a.S k->k<B.n):qF w a b mode value A c l:=⟨C4 d h.lo,h.K3,h.T9.mono d e hs⟩
end Go.Proofs.YtalgmjmibamdfaaGreatDoor
