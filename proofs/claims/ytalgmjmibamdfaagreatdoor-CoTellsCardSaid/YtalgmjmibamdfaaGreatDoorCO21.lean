/- Merged. -/
import Derived.Test.YtalgmjmibamdfaaGreatDoorCO20b
set_option linter.all false
set_option maxHeartbeats 16000000
set_option maxRecDepth 100000
namespace Go.Proofs.YtalgmjmibamdfaaGreatDoor
open Go.Proofs.Tryz
open Go.RowKit Tw
section
variable {L:List Cf}{main:Nat}{Z:Nat}{B:Bd}{rb cf g:Nat}{Af:Option Addr}{value:Int}{hf:R4}{lb:Array Value}{I:World->(Nat->Prop)->List (Int×List Int)->Prop}
theorem zhm(hP:zk L main)(HH:zT Z B g lb hf I){c:Nat}{A:Option Addr}{low:List Fm}{f:Fq}{v s:Value}{w:World}{t:List (Int×List Int)}
 (h:qF w B rb 0 value A c (low++[(f,v,s)])) (hF:M3 w (.slice Af L.length cf) (L.map Cf.pf)) (hI:I w B.S t) (hT:jC L f) (hR:FrR f) (o3:low.length+1<=32) (f9: ∀y∈low,y.1.I8.length<=600/\y.1.pc<=4000) (h4: ∀c∈L,c.J6.length<=4000) (g0: ∀o h,xw L f=some (o,h)->o.1=17):
 Calls prog 39 #[.pointer (some ⟨rb,0,none⟩),.agg #[.slice Af L.length cf,.int .i64 main],.func (.func g) #[] lb] w (NxO (R5 L hf value (low.map Prod.fst) f) Z B rb I (t++Y5 L f) w):=by
 obtain⟨cd,⟨d,x⟩,b1,e3,o4,i9,g6,e4⟩:=hT.jN hP;have b2:=g0 _ _ e3;have e1:R5 L hf value (low.map Prod.fst) f=M8 L hf value (low.map Prod.fst) f (d,x) (f.I8.take (f.I8.length-J4 (L.map (·.params)) (d,x))) (f.I8.drop (f.I8.length-J4 (L.map (·.params)) (d,x))):=by unfold R5;rw[e3];rfl
 have e2:Y5 L f=Q9 (d,x) (f.I8.drop (f.I8.length-J4 (L.map (·.params)) (d,x))):=by unfold Y5;rw[e3];rfl
 rw[e1,e2];clear e1 e2 e3 g0 hT;obtain⟨g1,b9,c3,-⟩:=o4;obtain⟨fn,r,vs,st⟩:=f;simp only at b1 b9 c3 i9 g6 e4 hR b2|-
 obtain⟨po,a3⟩: ∃z,J4 (L.map (·.params)) (d,x)=z:=⟨_,rfl⟩;rw[a3]at b9 c3|-
 obtain⟨l,xs,rfl,c4,hS,hX⟩: ∃l xs,st=l++xs/\xs.length=po/\st.take (st.length-po)=l/\st.drop (st.length-po)=xs:=⟨_,_,(List.take_append_drop (st.length-po) st).symm,by rw[I6];omega,rfl,rfl⟩;rw[hS,hX];clear hS hX;have o5:po<=7:=by rw[<-a3];exact qL (λy hy=>by obtain⟨z,hz,rfl⟩:=List.mem_map.1 hy;exact(hP.yF z hz).params) _
 have e5:(l++xs).length<=300:=by omega
 clear o5;obtain⟨m,o6,Av,cv,As,cs,rfl,o7,j2,rfl,rfl,X,R,d2,d3,z1,z3,D⟩:=qw h.T9;obtain⟨c0,c1,Y,f0,f1,f2⟩:=qM h;rw[z9,List.length_singleton]at Y;obtain⟨i,g7⟩: ∃n,low.length=n:=⟨_,rfl⟩;have u:=zh g7;rw[g7]at Y X R o3;clear g7;obtain⟨gf,q9,vo,hv,-,j3,u0,u1,u2,a0⟩:=hF.at (zi b1);injection hv with a4 g8 h0
 clear g8;subst a4 h0;obtain⟨go,co,rfl,-,j4,j5⟩:=a0.at;obtain⟨o0,o1⟩:=j5 r (d,x) (by show(cd.J6.map Prod.fst)[r]?=_;rw[G3,e4];rfl);simp only[Cf.pf,D9]at u0 u1 u2 o0 o1;have r0:fn<L.length:=(List.getElem?_eq_some_iff.1 b1).1;have r1:r<cd.J6.length:=(List.getElem?_eq_some_iff.1 e4).1;have r2:r<=4000:=by have:=h4 cd (B7 b1);omega
 have l1:rb<w.heap.size:=I7 h.K3;have l2:m<w.heap.size:=I7 j2;have h5:=h.bd;have H:=zh h;have HF:=zh hF;have HI:=zh hI;have HP:=zh hP;have C:=zh HH;have r3:=zh f9;have j6:=zh g1;have o8:=zh a3;have o9:=zh c4;have HR:=zh hR;have r4:=zh b1;have r5:=zh g6;have p0:=zh b2;have p1:=zh e5;have p2:=zh c3;have p5: ∀(d:Int),1<=d->d<=20->True:=λ_ _ _=>trivial;have X3:=heap_alloc2_old w (.cells #[.pointer (some ⟨rb,0,none⟩)] 145) (.cells #[.slice (some ⟨gf,0,none⟩) L.length cf,.int .i64 main] 26);have X4:=heap_alloc2_new w (.cells #[.pointer (some ⟨rb,0,none⟩)] 145) (.cells #[.slice (some ⟨gf,0,none⟩) L.length cf,.int .i64 main] 26);have h6:=((y7 w.heap.size w).alloc (y6 _) (.cells #[.pointer (some ⟨rb,0,none⟩)] 145)).alloc (by simp) (.cells #[.slice (some ⟨gf,0,none⟩) L.length cf,.int .i64 main] 26);have K:=zh X3;have T:=zh X4;have HB:=zh h6;have oc: ∀b k,b<w.heap.size->((w.alloc (.cells #[.pointer (some ⟨rb,0,none⟩)] 145)).alloc (.cells #[.slice (some ⟨gf,0,none⟩) L.length cf,.int .i64 main] 26)).cell? ⟨b,k,none⟩=w.cell? ⟨b,k,none⟩:=λb k hb=>h6.cell (p:=⟨b,k,none⟩) hb;rw[<-oc _ _ (by assumption)]at Y X R u2 o0 o1;have p6:=zh oc;clear p5 X3 X4 h6 oc h hF hI hP HH f9 g1 a3 c4 hR b1 g6 b2 e5 c3 e4 j5 a0 h4 i9 c0 c1 f0 f1 f2 d2 d3 z1 z3 u0 u1 D b9 j2 o7;have i0:(0:Int)<=(i:Int):=by omega
 have i1:(i:Int)<(i:Int)+1:=by omega
 have i2:wrap64 (i:Int)=(i:Int):=IntWalk.wrap64_in _ (by omega);have j7:IntKind.i64.wrap (i:Int)=(i:Int):=(IntWalk.i64_left _).trans i2;have j0:(0:Int)<=(fn:Int):=by omega
 have j1:(fn:Int)<(L.length:Int):=by omega
 have k0:(0:Int)<=(r:Int):=by omega
 have k1:(r:Int)<(cd.J6.length:Int):=by omega
 go_enter func39,ntmps39
 go_upto_region 1 with(fail)
 have m1:rb<(World.alloc _ _).heap.size:=z6 l1 HB.out.size;have m2:m<(World.alloc _ _).heap.size:=z6 l2 HB.out.size;have m3:gf<(World.alloc _ _).heap.size:=z6 j3 HB.out.size;have m4:go<(World.alloc _ _).heap.size:=z6 j4 HB.out.size;have M:=zh (Vo.of HB.out h5);have J:=zh (H.out.below HB.out);clear j3 j4 l1 l2 HB p6;generalize World.alloc (World.alloc _ _) _=w1 at K T M J Y X R u2 o0 o1 m1 m2 m3 m4|-
 obtain⟨b4,h7⟩: ∃b,w.heap.size+1=b:=⟨_,rfl⟩;rw[h7]at T;simp only[h7];clear h7;obtain⟨b3,h8⟩: ∃b,w.heap.size=b:=⟨_,rfl⟩;rw[h8]at K h5;simp only[h8];clear h8 h5;have p3:=y5 K.out 0;have p4:=y5 T.out 0;have m5:=I7 K.out;have m6:=I7 T.out;have hA: ∀b k O,b<w1.heap.size->(w1.alloc O).cell? ⟨b,k,none⟩=w1.cell? ⟨b,k,none⟩:=λb k O hb=>((y7 w1.heap.size w1).alloc (y6 _) O).cell (p:=⟨b,k,none⟩) hb;refine L4 (by kernel_rfl) [(0,25,.pointer (some ⟨rb,0,none⟩)),(1,26,.pointer (some ⟨rb,0,none⟩)),(2,27,.pointer (some ⟨rb,2,none⟩)),(3,28,.slice (some ⟨m,0,none⟩) (i+1) c),(4,29,.pointer (some ⟨rb,0,none⟩)),(5,30,.pointer (some ⟨rb,0,none⟩)),(6,31,.pointer (some ⟨rb,2,none⟩)),(7,32,.slice (some ⟨m,0,none⟩) (i+1) c),(8,33,.int .i64 (i+1)),(9,34,.int .i64 i),(10,35,.pointer (some ⟨m,i*4,none⟩)),(11,7,.pointer (some ⟨w1.heap.size,0,none⟩))] [] _ _ rfl rfl [11,12] (λz=>match z with|0=>w1.drew|1=>w1.drew.alloc (.cells #[.pointer none] 146)|_=>w1.drew.alloc (.cells #[.pointer (some ⟨m,i*4,none⟩)] 146)) [(0,0),(0,1),(1,0),(1,1),(2,0),(2,1),(3,0),(3,1),(4,0),(4,1),(5,0),(5,1),(6,0),(6,1),(7,0),(7,1),(8,0),(8,1),(9,0),(9,1),(10,0),(10,1),(11,0),(12,1)] (by kernel_rfl) (by kernel_rfl) (by rfl) rfl ?_ ?_
 ·generalize hF:J8 _ _=F
  simp[J8]at hF;subst hF
  repeat' (first|refine List.forall_mem_cons.2 ⟨?_,?_⟩|exact List.forall_mem_nil _)
  all_goals
   intro o' G;injection G with G
   subst G
  all_goals simp[X9,execOp,go_sem,hA,m1,m5,p3,Y,i0,i1,i2,j7]
 simp only[J8,B6,C0,List.append_nil,List.foldl];go_simp;have ba:=((y7 w1.heap.size w1).alloc (y6 _) (.cells #[.pointer (some ⟨m,i*4,none⟩)] 146)).drew;have b5:Hid ((w1.alloc (.cells #[.pointer (some ⟨m,i*4,none⟩)] 146)).drew.heap[w1.heap.size]?=_):=zh (y9 w1 (.cells #[.pointer (some ⟨m,i*4,none⟩)] 146));have c5:=J.out.bd;replace K:=zh ((ba.block b3 m5).trans K.out);replace T:=zh ((ba.block b4 m6).trans T.out);replace M:=zh (M.out.trans (Vo.of ba c5));replace J:=zh (J.out.below ba);have oc: ∀b k,b<w1.heap.size->((w1.alloc (.cells #[.pointer (some ⟨m,i*4,none⟩)] 146)).drew).cell? ⟨b,k,none⟩=w1.cell? ⟨b,k,none⟩:=λb k hb=>ba.cell (p:=⟨b,k,none⟩) hb;rw[<-oc _ _ (by assumption)]at p4 X R u2 o0 o1;have s1:=ba.size;have n2:=z6 m2 s1;have n3:=z6 m3 s1;have n4:=z6 m4 s1;have n6:=z6 m6 s1;clear oc ba s1 hA m1 m2 m3 m4 m5 m6 p3 Y c5 i0 i1 i2 j7;generalize(World.alloc _ _).drew=w2 at K T b5 M J p4 X R u2 o0 o1 n2 n3 n4 n6|-
 generalize w1.heap.size=b7 at b5|-
 have p7:=y5 b5.out 0;have n7:=I7 b5.out
 go_upto_region 2 with(fail)
 have hA: ∀b k O,b<w2.heap.size->(w2.alloc O).cell? ⟨b,k,none⟩=w2.cell? ⟨b,k,none⟩:=λb k O hb=>((y7 w2.heap.size w2).alloc (y6 _) O).cell (p:=⟨b,k,none⟩) hb;refine L4 (by kernel_rfl) [(0,36,.pointer (some ⟨b4,0,none⟩)),(1,37,.slice (some ⟨gf,0,none⟩) L.length cf),(2,38,.pointer (some ⟨m,i*4,none⟩)),(3,39,.pointer (some ⟨m,i*4,none⟩)),(4,40,.pointer (some ⟨m,i*4,none⟩)),(5,41,.int .i64 fn),(6,42,.pointer (some ⟨gf,fn*3,none⟩)),(7,43,.pointer (some ⟨gf,fn*3+2,none⟩)),(8,44,.slice (some ⟨go,0,none⟩) cd.J6.length co),(9,45,.pointer (some ⟨m,i*4,none⟩)),(10,46,.pointer (some ⟨m,i*4,none⟩)),(11,47,.pointer (some ⟨m,i*4+1,none⟩)),(12,48,.int .i64 r),(13,49,.pointer (some ⟨go,r*2,none⟩)),(14,50,.agg #[.int .i64 d,.int .i64 x]),(15,8,.pointer (some ⟨w2.heap.size,0,none⟩))] [] _ _ rfl rfl [15,16] (λz=>match z with|0=>w2.drew|1=>w2.drew.alloc (.cells #[.int .i64 0,.int .i64 0] 74)|_=>w2.drew.alloc (.cells #[.int .i64 d,.int .i64 x] 74)) [(0,0),(0,1),(1,0),(1,1),(2,0),(2,1),(3,0),(3,1),(4,0),(4,1),(5,0),(5,1),(6,0),(6,1),(7,0),(7,1),(8,0),(8,1),(9,0),(9,1),(10,0),(10,1),(11,0),(11,1),(12,0),(12,1),(13,0),(13,1),(14,0),(14,1),(15,0),(16,1)] (by kernel_rfl) (by kernel_rfl) (by rfl) rfl ?_ ?_
 ·generalize hF:J8 _ _=F
  simp[J8]at hF;subst hF
  repeat' (first|refine List.forall_mem_cons.2 ⟨?_,?_⟩|exact List.forall_mem_nil _)
  all_goals
   intro o' G;injection G with G
   subst G
  all_goals simp[X9,execOp,go_sem,hA,n2,n3,n4,n6,n7,p4,p7,X,R,u2,o0,o1,j0,j1,k0,k1]
 simp only[J8,B6,C0,List.append_nil,List.foldl];go_simp;have ba:=((y7 w2.heap.size w2).alloc (y6 _) (.cells #[.int .i64 d,.int .i64 x] 74)).drew;have j8:Hid ((w2.alloc (.cells #[.int .i64 d,.int .i64 x] 74)).drew.heap[w2.heap.size]?=_):=zh (y9 w2 (.cells #[.int .i64 d,.int .i64 x] 74));have c5:=J.out.bd;have e6:Hid (NxL rb b3 b4 b7 w2.heap.size m i (some ⟨gf,0,none⟩) L.length cf main d x (w2.alloc (.cells #[.int .i64 d,.int .i64 x] 74)).drew):=zh ⟨(ba.block b3 (I7 K.out)).trans K.out,(ba.block b4 n6).trans T.out,(ba.block b7 n7).trans b5.out,j8.out⟩;replace M:=zh (M.out.trans (Vo.of ba c5));replace J:=zh (J.out.below ba);clear ba hA c5 n2 n3 n4 n6 n7 p4 p7 X R u2 o0 o1 j0 j1 k0 k1 K T b5 j8;generalize(World.alloc _ _).drew=w3 at e6 M J|-
 generalize w2.heap.size=b8 at e6|-
 have h9:Hid (X8 Z B I t w rb b3 b4 b7 b8 m i (some ⟨gf,0,none⟩) L.length cf main d x value c (low++[(⟨fn,r,vs,l++xs⟩,.slice Av vs.length cv,.slice As (l++xs).length cs)]) w3):=zh ⟨J.out,e6.out,M.out.qh C.out.le,C.out.J0 HI.out M.out⟩;have ep:IntKind.i64.wrap ((r:Int)+1)=((r+1:Nat):Int):=by rw[show((r+1:Nat):Int)=(r:Int)+1 by omega];exact IntWalk.i64_in _ (by omega)
 have HN:Hid (X8 Z B I t w rb b3 b4 b7 b8 m i (some ⟨gf,0,none⟩) L.length cf main d x value c (low++[(⟨fn,r+1,vs,l++xs⟩,.slice Av vs.length cv,.slice As (l++xs).length cs)]) (w3.setCell ⟨m,i*4+1,none⟩ (.int .i64 ((r+1:Nat):Int)))):=zh (yl u.out C.out h9.out (r+1));obtain⟨⟨p3,p4,p7,q0,q1⟩,⟨X,R,d2,d3,z1,z3⟩,-⟩:=(X8.U0 u.out h9.out)
 go_upto_region 8 with(fail)
 clear p3 p4 p7 q0 q1 X R d2 d3 z1 z3 h9 J e6 M
 try rw[show(r:Int)+1=((r+1:Nat):Int) by omega]
 generalize World.setCell _ _ _=w4 at HN|-
 obtain⟨⟨p3,p4,p7,q0,q1⟩,⟨X,R,d2,d3,z1,z3⟩,c0,c1,Y,f0,f1,f2⟩:=(X8.U0 u.out HN.out);obtain⟨j9,k2,k3,k4⟩:=j6.out;have a3:=o8.out;have c4:=o9.out;have e5:=p1.out;have c3:=p2.out
 try simp only at j9
 try simp only at k2
 try simp only at k3
 try simp only at k4
 rw[z9]at e5;have b2:=p0.out
 try simp only at b2
 clear j9 k2;subst b2
 ·obtain⟨p8,k5⟩:=k3 (by decide)
  simp[Y1]at p8 k5;obtain⟨j,rfl⟩: ∃j:Nat,x=j:=⟨x.toNat,by omega⟩;obtain⟨cg,a5⟩: ∃cg,L[j]?=some cg:=⟨_,y8 (by omega)⟩;have i5:xs.length=cg.params:=by rw[c4,<-a3];have:=zbh a5;simpa[J4]using this
  have k6:=(HP.out.yF cg (B7 a5)).vars;have r6:=zh a5
  by_cases a6:i+1=32
  ·have FC:=zh (Xr C.out HN.out 6)
   have b0:(32:Int)<=(i:Int)+1:=by omega
   have e7:Hid (M8 L hf value (low.map Prod.fst) ⟨fn,r,vs,l++xs⟩ (17,(j:Int)) l xs=(yf 6,false)):=zh (by simp[M8,u.out,a6]);clear k5 i5 k6 a3 c4 a5
   go_wp2_with fail
   refine FC.out.mono ?_;rintro e w8 ⟨rfl,k7,k8,k9⟩;have p9:=zh k7;have q2:=zh k8;have q3:=zh k9;clear k7 k8 k9 FC;clear p3 p4 p7 q0 q1 X R d2 d3 z1 z3 c0 c1 Y f0 f1 f2
   go_wp2_with fail
   go_ret;exact .mk e7.out p9.out rfl q2.out (by simpa[Q9]using q3.out)
  ·have b0: ¬((32:Int)<=(i:Int)+1):=by omega
   obtain⟨r7,r8,vo,hv,-,l0,u0,u1,u2,a0⟩:=(HF.out.J0 HN.out.q.q).at (zi a5);injection hv with a4 g8 h0
   clear g8;injection a4 with a4;injection a4 with a4
   subst a4 h0;obtain⟨l4,l5,rfl,-,-,-⟩:=a0.at;simp only[Cf.pf]at u0 u1 u2;obtain⟨g3,c6⟩: ∃n,(cg.J6.map Prod.fst).length=n:=⟨_,rfl⟩;rw[c6]at u2;have j0:(0:Int)<=(j:Int):=by omega
   have j1:(j:Int)<(L.length:Int):=by omega
   have P:=zh (y9 w4 (.cells #[.int .i64 cg.params,.int .i64 cg.vars,.slice (some ⟨l4,0,none⟩) g3 l5] 40));have ba:=(y7 w4.heap.size w4).alloc (y6 _) (.cells #[.int .i64 cg.params,.int .i64 cg.vars,.slice (some ⟨l4,0,none⟩) g3 l5] 40);have E:=zh (HN.out.vo C.out (Vo.of ba HN.out.rf.bd) (HN.out.rf.below ba));have e7:Hid (M8 L hf value (low.map Prod.fst) ⟨fn,r,vs,l++xs⟩ (17,(j:Int)) l xs=(⟨0,value,low.map Prod.fst++[⟨fn,r,vs,l⟩]++[⟨j,0,xs++List.replicate (cg.vars-xs.length) 0,[]⟩]⟩,false)):=zh (by simp[M8,u.out,a6,a5]);clear ba a0 c6 a5 a6
   go_upto_region 46 with(fail)
   clear p3 p4 p7 q0 q1 X R d2 d3 z1 z3 c0 c1 Y f0 f1 f2;clear u0 u1 u2 l0 j0 j1 b0 HN;generalize World.alloc _ _=w5 at P E|-
   generalize w4.heap.size=l6 at P|-
   obtain⟨np,i6⟩: ∃n,cg.params=n:=⟨_,rfl⟩;obtain⟨nv,e8⟩: ∃n,cg.vars=n:=⟨_,rfl⟩;rw[i6,e8]at P k6;rw[i6]at i5;rw[e8]at e7;have r9:=zh e8;clear i6 e8;obtain⟨wm,l7,g4,e9,-⟩:=XE w5 nv (by omega);have y1:=y5 P.out 1;have U:=zh g4;have i7:=zh e9;have b6:=zh (E.out.vo C.out (Vo.of e9 E.out.rf.bd) (E.out.rf.below e9));clear g4 e9
   go_upto_region 47 with(fail)
   clear l7 y1;obtain⟨nst,a1⟩: ∃n,(l++xs).length=n:=⟨_,rfl⟩;have l8:nst=l.length+np:=by rw[<-a1,z9];omega
   have y0:wm.cell? ⟨l6,0,none⟩=some (.int .i64 np):=(i7.out.cell (p:=⟨l6,0,none⟩) (I7 P.out)).trans (y5 P.out 0);obtain⟨⟨p3,p4,p7,q0,q1⟩,⟨X,R,d2,d3,z1,z3⟩,c0,c1,Y,f0,f1,f2⟩:=(X8.U0 u.out b6.out);rw[a1]at d3;have ew:wrap64 ((nst:Int)-(np:Int))=(l.length:Int):=by rw[show(nst:Int)-np=l.length by omega];exact IntWalk.wrap64_in _ (by omega)
   have q4:IntKind.i64.wrap ((nst:Int)-(np:Int))=(l.length:Int):=by rw[show(nst:Int)-np=l.length by omega];exact IntWalk.i64_in _ (by omega)
   go_quiet (fail)
   clear y0 ew q4;clear p3 p4 p7 q0 q1 X R d2 d3 z1 z3 c0 c1 Y f0 f1 f2;have l9:=J9 i7.out nq;have a7:=zh l9;replace U:Hid ((wm.drewN nq).heap[w5.heap.size]?=_):=U;clear l9 i7 b6;generalize World.drewN _ _=w6 at U a7|-
   have b6:=zh (E.out.vo C.out (Vo.of a7.out E.out.rf.bd) (E.out.rf.below a7.out));obtain⟨⟨p3,p4,p7,q0,q1⟩,⟨X,R,d2,d3,z1,z3⟩,c0,c1,Y,f0,f1,f2⟩:=(X8.U0 u.out b6.out);have G:=b6.out.rf.T9.R9.yd.2.1;simp only at G;have D:=(N9 G).1;rw[a1]at d3 D;obtain⟨gv,f3⟩: ∃b,w5.heap.size=b:=⟨_,rfl⟩;have m0:=zh f3;rw[f3]at U;simp only[f3];clear f3;have i0:(0:Int)<=(l.length:Int):=by omega
   have i1:(l.length:Int)<=(nst:Int):=by omega
   have c7:l.length<=nst:=by omega
   have i2:(l.length:Int)<=(cs:Int):=Int.ofNat_le.2 (C4 c7 D);have c8: ∀k v,(iC xs)[k]?=some v-> ∃gs,As=some ⟨gs,0,none⟩/\w6.cell? ⟨gs,l.length+k,none⟩=some v:=λk v hk=>by
    unfold iC at hk;rw[G3]at hk;obtain⟨y,hy,rfl⟩:=Option.map_eq_some_iff.1 hk;exact qI G (k:=l.length+k) (a:=y) (by rw[List.getElem?_append_right (by omega),Nat.add_sub_cancel_left];exact hy)
   have q7:=zh c8;have q5:=zh D;have a9:=(N9 G).2;have q6:Hid (w5.heap.size=gv):=m0
   go_upto_region 48 with(fail)
   go_cut[] (λW=>Hid (W.heap[gv]?=some (.cells (U5 (xs++List.replicate (nv-xs.length) 0)) 3 (0,0)))/\Hid (Below w5.heap.size w5 W))
   case first=>
    by_cases m7:cs=l.length
    ·have d4:np=0:=Nat.le_zero.1 (Nat.le_of_add_le_add_left (a:=l.length) (b:=np) (c:=0) (by rw[<-l8,Nat.add_zero,<-m7];exact D))
     have m8:xs=[]:=List.length_eq_zero_iff.1 (by rw[i5,d4]);have RC: ∀sp sc,(Builtin.copy_ #[22,22] 3 #[.slice (some ⟨gv,0,none⟩) nv nv,.slice sp np sc]).run prog w6=.ok (goInt 0) w6:=λsp sc=>run_copy_none w6 _ _ _ 3 _ _ _ _ _ _ underlying22 (by kernel_rfl) (by rw[d4];exact Nat.zero_min _);have V:Hid (w6.heap[gv]?=some (.cells (U5 (xs++List.replicate (nv-xs.length) 0)) 3 (0,0))):=zh (by rw[m8];simpa using U.out);clear c8 G a9 m8 U d4 D c7
     go_wp2_with fail
     go_meet
     case rel=>exact⟨V,a7⟩
    ·obtain⟨gs,rfl⟩: ∃gs,As=some ⟨gs,0,none⟩:=by
      rcases a9 with rfl|h
      ·rcases N8 G with⟨e,-⟩|⟨g9,c9,e,-⟩
       ·exfalso;injection e with h1 h2 h3;exact m7 (by have h4:nst=0:=Nat.le_zero.1 (h3▸D);rw[h3];exact(Nat.le_zero.1 (h4▸c7)).symm)
       ·injection e with e;cases e
      ·exact h
     obtain⟨w7,rc,m9,n0⟩:=zeB (xs:=xs) (n:=nv) (sl:=np) (sc:=cs-l.length) (sp:=some ⟨gs,l.length,none⟩) U.out (by omega) (by omega) (λk v hk=>by
      obtain⟨s0,e,hc⟩:=c8 k v hk;injection e with e;injection e with e;subst e
      exact⟨_,rfl,by rw[Addr.add_lit];exact hc⟩)
     have V:=zh m9;have a8:Hid (Below w5.heap.size w5 w7):=zh (by rw[q6.out]at a7|-;exact a7.out.trans n0);clear c8 G a9 m9 n0 U D c7
     go_wp2_with fail
     go_meet
     case rel=>exact⟨V,a8⟩
   case rest=>
    rename World=>w7
    obtain⟨V,a8⟩:=hcut;clear p3 p4 p7 q0 q1 X R d2 d3 z1 z3 c0 c1 Y f0 f1 f2;clear b6 a7 q5 c8 G a9 U i0 i1 i2;have d5:=zh (E.out.vo C.out (Vo.of a8.out E.out.rf.bd) (E.out.rf.below a8.out));have H8:=zcC u.out C.out (d5.out.drew C.out);have H9:=zh (yl u.out C.out H8 r);obtain⟨gx,o6,-,-,-,-,e2,-,a2,-⟩:=qw d5.out.rf.T9;injection e2 with e2;injection e2 with e2
    subst e2;have gr:=(J2 w7.drew m (i*4+3) (.slice As l.length cs));have d6:=z5 w7.drew m (i*4+3) _ _ (.slice As l.length cs) a2;have f4:Hid (IK w5 ((w7.drew.setCell ⟨m,i*4+3,none⟩ (.slice As l.length cs)).setCell ⟨m,i*4+1,none⟩ (.int .i64 r))):=zh ((IK.below a8.out).trans ((IK.set (w:=w7.drew) a2 (by decide) _ _).trans (IK.set d6 (by decide) _ _)));have f5:Hid (((w7.drew.setCell ⟨m,i*4+3,none⟩ (.slice As l.length cs)).setCell ⟨m,i*4+1,none⟩ (.int .i64 r)).heap[gv]?=_):=zh ((IK.set d6 (by decide) _ _ gv _ ((IK.set (w:=w7.drew) a2 (by decide) _ _ gv _ V.out).trans V.out)).trans ((IK.set (w:=w7.drew) a2 (by decide) _ _ gv _ V.out).trans V.out));have f6:Hid (w5.heap.size<=((w7.drew.setCell ⟨m,i*4+3,none⟩ (.slice As l.length cs)).setCell ⟨m,i*4+1,none⟩ (.int .i64 r)).heap.size):=zh (by have:=a8.out.size;simpa using this);obtain⟨⟨p3,p4,p7,q0,q1⟩,⟨X,R,d2,d3,z1,z3⟩,c0,c1,Y,f0,f1,f2⟩:=(X8.U0 u.out d5.out);rw[a1]at d3;have i0:(0:Int)<=(l.length:Int):=by omega
    have i1: ¬((nst:Int)<(l.length:Int)):=by omega
    have D:nst<=cs:=by have:=(N9 d5.out.rf.T9.R9.yd.2.1).1;rw[<-a1];exact this
    have i3:(l.length:Int)<=(cs:Int):=Int.ofNat_le.2 (C4 c7 D);have i2: ¬((cs:Int)<(l.length:Int)):=Int.not_lt.2 i3;have i4:wrap64 (l.length:Int)=(l.length:Int):=IntWalk.wrap64_in _ (by omega);clear H8 gr d6 V a8 a2 D
    go_upto_region 49 with(fail)
    refine L4 (by kernel_rfl) [(0,241,.pointer (some ⟨m,i*4,none⟩)),(1,242,.pointer (some ⟨m,i*4,none⟩)),(2,243,.pointer (some ⟨m,i*4,none⟩)),(3,244,.pointer (some ⟨m,i*4,none⟩)),(4,245,.pointer (some ⟨m,i*4+3,none⟩)),(5,246,.slice As nst cs),(6,247,.int .i64 l.length),(7,248,.slice As l.length cs),(8,249,.int .i64 r),(9,250,.pointer (some ⟨m,i*4,none⟩)),(10,251,.pointer (some ⟨m,i*4+3,none⟩)),(12,252,.pointer (some ⟨m,i*4,none⟩)),(13,253,.pointer (some ⟨m,i*4+1,none⟩))] [] _ _ rfl rfl [11,14] (λz=>match z with|0=>w7.drew|1=>w7.drew.setCell ⟨m,i*4+3,none⟩ (.slice As l.length cs)|_=>(w7.drew.setCell ⟨m,i*4+3,none⟩ (.slice As l.length cs)).setCell ⟨m,i*4+1,none⟩ (.int .i64 r)) [(0,0),(1,0),(1,1),(2,0),(3,0),(4,0),(5,0),(6,0),(7,0),(8,0),(8,1),(9,0),(10,0),(11,0),(12,1),(13,1),(14,1)] (by kernel_rfl) (by kernel_rfl) (by rfl) rfl ?_ ?_
    ·generalize hF:J8 _ _=F
     simp[J8]at hF;subst hF
     repeat' (first|refine List.forall_mem_cons.2 ⟨?_,?_⟩|exact List.forall_mem_nil _)
     all_goals
      intro o' G;injection G with G
      subst G
     all_goals simp[X9,execOp,go_sem,p7,R,d3,z1,z3,i0,i1,i2,i3,i4]
    simp only[J8,B6,C0,List.append_nil,List.foldl];go_simp;clear p3 p4 p7 q0 q1 X R d2 d3 z1 z3 c0 c1 Y f0 f1 f2;clear i0 i1 i2 i3 i4 d5;rw[show(w7.drew.setCell ⟨m,i*4+3,none⟩ (.slice As l.length cs)).setCell ⟨m,i*4+1,none⟩ (.int .i64 r)=((w7.setCell ⟨m,i*4+3,none⟩ (.slice As l.length cs)).setCell ⟨m,i*4+1,none⟩ (.int .i64 r)).drew from rfl]at H9 f4 f5 f6;generalize(World.setCell (World.setCell _ _ _) _ _).drew=w9 at H9 f4 f5 f6|-
    go_upto_region 50 with(fail)
    have N:=H9.out.drew C.out;have hv:=QP (base:=w5.heap.size) (w:=w9.drew) f5.out (Nat.le_of_eq m0.out) (by simp;omega);have i8:(xs++List.replicate (nv-xs.length) (0:Int)).length=nv:=by simp;omega
    obtain⟨A2,d7,d8,f7,f8,n1,d9⟩:=XG zdi (by decide) (λ_=>by simp[xm]) N.rf.T9 (E.out.rf.T9.R9.cut (f:=⟨fn,r,vs,l⟩) rfl rfl (by simp) (by simp)) f4.out f6.out E.out.rf.bd ⟨j,0,xs++List.replicate (nv-xs.length) 0,[]⟩ hv (G5 w9.drew w5.heap.size _ 1) (λg _ e=>by cases e) (by rw[z9,List.length_singleton,u.out];omega);simp only[z9,List.length_singleton,B1,u.out]at f7 f8;simp only[z9]at i8;rw[i8]at f7 f8;have Q:=(d9 rb _ _ _ N.rf.K3 (by decide)).trans N.rf.K3;have g5:qF (d8.setCell ⟨rb,2,none⟩ (.slice A2 (i+1+1) d7)) B rb 0 value A2 d7 (low++[(⟨fn,r,vs,l⟩,.slice Av vs.length cv,.slice As l.length cs)]++[(⟨j,0,xs++List.replicate (nv-xs.length) 0,[]⟩,.slice (some ⟨gv,0,none⟩) nv nv,.slice none 0 0)]):=⟨N.rf.lo,by rw[z5 d8 rb 2 _ _ _ Q];simp[u.out],f8.else Q (by decide) (by decide) 2 _⟩;have e0:=n1.trans (Vo.set Q N.rf.lo (by simp[xm]) 2 (.slice A2 (i+1+1) d7));have n5:=zh g5;have n8:=zh (N.q.trans (e0.qh C.out.le));have n9:=zh (C.out.J0 N.hi e0);obtain⟨⟨p3,p4,p7,q0,q1⟩,-,c0,c1,Y,f0,f1,f2⟩:=(X8.U0 u.out H9.out);have l3:=I7 H9.out.lo.p3;have o2:=I7 H9.out.rf.K3;have hA: ∀b k O,b<w9.heap.size->(w9.alloc O).cell? ⟨b,k,none⟩=w9.cell? ⟨b,k,none⟩:=λb k O hb=>((y7 w9.heap.size w9).alloc (y6 _) O).cell (p:=⟨b,k,none⟩) hb;have y2:=y5 Q 2;have g2:=B4 Q 2;have y3:d8.cell? ⟨b3,0,none⟩=some (.pointer (some ⟨rb,0,none⟩)):=y5 ((d9 b3 _ _ _ N.lo.p3 (by decide)).trans N.lo.p3) 0;clear N hv i8 f8 n1 d9 Q g5 e0 f4 f5 f6;refine L4 (by kernel_rfl) [(0,254,.pointer (some ⟨rb,0,none⟩)),(1,255,.pointer (some ⟨rb,0,none⟩)),(2,256,.pointer (some ⟨rb,0,none⟩)),(3,257,.pointer (some ⟨rb,2,none⟩)),(4,258,.slice (some ⟨m,0,none⟩) (i+1) c),(5,259,.pointer (some ⟨b8,1,none⟩)),(6,260,.int .i64 j),(7,261,.slice (some ⟨gv,0,none⟩) nv nv),(8,262,.agg #[.int .i64 j,.int .i64 0,.slice (some ⟨gv,0,none⟩) nv nv,.slice none 0 0]),(9,263,.slice (some ⟨w9.drew.heap.size,0,none⟩) 1 1),(10,264,.slice A2 (i+1+1) d7),(11,265,.pointer (some ⟨rb,0,none⟩)),(12,266,.pointer (some ⟨rb,2,none⟩))] [] _ _ rfl rfl [9,10,13] (λz=>match z with|0=>w9.drew|1=>w9.drew.alloc (.cells #[.int .i64 j,.int .i64 ((0:Nat):Int),.slice (some ⟨gv,0,none⟩) nv nv,.slice none 0 0] 42)|2=>d8|_=>d8.setCell ⟨rb,2,none⟩ (.slice A2 (i+1+1) d7)) [(0,0),(0,1),(0,2),(1,0),(1,1),(2,0),(2,1),(3,0),(3,1),(4,0),(4,1),(5,0),(6,0),(7,0),(8,0),(9,0),(10,1),(11,2),(12,2),(13,2)] (by kernel_rfl) (by kernel_rfl) (by rfl) rfl ?_ ?_
    ·generalize hF:J8 _ _=F
     simp[J8]at hF;subst hF
     repeat' (first|refine List.forall_mem_cons.2 ⟨?_,?_⟩|exact List.forall_mem_nil _)
     all_goals
      intro o' G;injection G with G
      subst G
     rotate_left 16
     ·exact O4 rfl rfl rfl f7
     all_goals simp[X9,execOp,go_sem,hA,l3,o2,p3,q1,Y,y2,g2,y3]
    simp only[J8,B6,C0,List.append_nil,List.foldl];go_simp;clear p3 p4 p7 q0 q1 c0 c1 Y f0 f1 f2 l3 o2 hA y2 g2 y3 f7
    go_wp2_with fail
    go_ret;exact .mk e7.out n5.out (by simp) n8.out (by simpa[Q9]using n9.out)
end
end Go.Proofs.YtalgmjmibamdfaaGreatDoor
