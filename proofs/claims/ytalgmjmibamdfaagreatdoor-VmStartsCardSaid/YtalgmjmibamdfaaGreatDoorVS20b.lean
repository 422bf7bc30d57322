/- Merged. -/
import Derived.Test.YtalgmjmibamdfaaGreatDoorVS20
set_option linter.all false
set_option maxHeartbeats 16000000
set_option maxRecDepth 100000
namespace Go.Proofs.YtalgmjmibamdfaaGreatDoor
open Go.Proofs.Tryz
open Go.RowKit Tw
section
variable {L:List Cf}{main:Nat}{Z B rb cf g:Nat}{Af:Option Addr}{value:Int}{hf:T0}{lb:Array Value}{I:World->List (Int×List Int)->Prop}
theorem ze4(hP:Z3 L main)(HH:zD Z B g lb hf I){c:Nat}{A:Option Addr}{low:List Fm}{f:Fq}{v s:Value}{w:World}{t:List (Int×List Int)}
 (h:zY w B rb 0 value A c (low++[(f,v,s)])) (hF:L4 w (.slice Af L.length cf) (L.map Cf.pf)) (hI:I w t) (hT:qS L f) (hR:FrR f) (j4:low.length+1<=32) (d5: ∀y∈low,y.1.I1.length<=600/\y.1.pc<=4000) (h4: ∀c∈L,c.I9.length<=4000) (d6: ∀o h,jP L f=some (o,h)->o.1=20):
 Calls prog 39 #[.pointer (some ⟨rb,0,none⟩),.agg #[.slice Af L.length cf,.int .i64 main],.func (.func g) #[] lb] w (NxO (Q1 L hf value (low.map Prod.fst) f) Z B rb I (t++Y0 L f) w):=by
 obtain⟨cd,⟨d,x⟩,a3,b5,j5,g1,e0,b6⟩:=hT.ji hP;have a4:=d6 _ _ b5;have e1:Q1 L hf value (low.map Prod.fst) f=M1 L hf value (low.map Prod.fst) f (d,x) (f.I1.take (f.I1.length-I6 (L.map (·.params)) (d,x))) (f.I1.drop (f.I1.length-I6 (L.map (·.params)) (d,x))):=by unfold Q1;rw[b5];rfl
 have e2:Y0 L f=P7 (d,x) (f.I1.drop (f.I1.length-I6 (L.map (·.params)) (d,x))):=by unfold Y0;rw[b5];rfl
 rw[e1,e2];clear e1 e2 b5 d6 hT;obtain⟨d7,a6,a7,-⟩:=j5;obtain⟨fn,E,M,st⟩:=f;simp only at a3 a6 a7 g1 e0 b6 hR a4|-
 obtain⟨po,a0⟩: ∃z,I6 (L.map (·.params)) (d,x)=z:=⟨_,rfl⟩;rw[a0]at a6 a7|-
 obtain⟨a,xs,rfl,a8,hS,hX⟩: ∃a xs,st=a++xs/\xs.length=po/\st.take (st.length-po)=a/\st.drop (st.length-po)=xs:=⟨_,_,(List.take_append_drop (st.length-po) st).symm,by rw[G9];omega,rfl,rfl⟩;rw[hS,hX];clear hS hX;have j6:po<=7:=by rw[<-a0];exact qi (λy hy=>by obtain⟨z,hz,rfl⟩:=List.mem_map.1 hy;exact(hP.xQ z hz).params) _
 have b9:(a++xs).length<=300:=by omega
 clear j6;obtain⟨j,l9,Av,cv,R,cs,rfl,j7,g2,rfl,rfl,d0,d1,d2,d3,z1,z3,J⟩:=zM h.T7;obtain⟨c0,c1,c2,f0,f1,f2⟩:=qj h;rw[y7,List.length_singleton]at c2;obtain⟨i,e3⟩: ∃n,low.length=n:=⟨_,rfl⟩;have N:=zh e3;rw[e3]at c2 d0 d1 j4;clear e3;obtain⟨S,m0,vo,hv,-,g3,u0,u1,u2,d8⟩:=hF.at (X9 a3);injection hv with j8 j9 k2
 clear j9;subst j8 k2;obtain⟨go,co,rfl,-,g4,g5⟩:=d8.at;obtain⟨o0,o1⟩:=g5 E (d,x) (by show(cd.I9.map Prod.fst)[E]?=_;rw[F6,b6];rfl);simp only[Cf.pf,C0]at u0 u1 u2 o0 o1;have m7:fn<L.length:=(List.getElem?_eq_some_iff.1 a3).1;have m8:E<cd.I9.length:=(List.getElem?_eq_some_iff.1 b6).1;have m9:E<=4000:=by have:=h4 cd (B0 a3);omega
 have l1:rb<w.heap.size:=I0 h.J7;have l2:j<w.heap.size:=I0 g2;have e4:=h.bd;have H:=zh h;have HF:=zh hF;have HI:=zh hI;have HP:=zh hP;have u:=zh HH;have n0:=zh d5;have g6:=zh d7;have k3:=zh a0;have k4:=zh a8;have HR:=zh hR;have n1:=zh a3;have n5:=zh e0;have k5:=zh a4;have k6:=zh b9;have k7:=zh a7;have k8: ∀(d:Int),1<=d->d<=20->True:=λ_ _ _=>trivial;have X3:=heap_alloc2_old w (.cells #[.pointer (some ⟨rb,0,none⟩)] 145) (.cells #[.slice (some ⟨S,0,none⟩) L.length cf,.int .i64 main] 26);have X4:=heap_alloc2_new w (.cells #[.pointer (some ⟨rb,0,none⟩)] 145) (.cells #[.slice (some ⟨S,0,none⟩) L.length cf,.int .i64 main] 26);have e5:=((x7 w.heap.size w).alloc (x6 _) (.cells #[.pointer (some ⟨rb,0,none⟩)] 145)).alloc (by simp) (.cells #[.slice (some ⟨S,0,none⟩) L.length cf,.int .i64 main] 26);have P:=zh X3;have U:=zh X4;have HB:=zh e5;have oc: ∀b k,b<w.heap.size->((w.alloc (.cells #[.pointer (some ⟨rb,0,none⟩)] 145)).alloc (.cells #[.slice (some ⟨S,0,none⟩) L.length cf,.int .i64 main] 26)).cell? ⟨b,k,none⟩=w.cell? ⟨b,k,none⟩:=λb k hb=>e5.cell (p:=⟨b,k,none⟩) hb;rw[<-oc _ _ (by assumption)]at c2 d0 d1 u2 o0 o1;have k9:=zh oc;clear k8 X3 X4 e5 oc h hF hI hP HH d5 d7 a0 a8 hR a3 e0 a4 b9 a7 b6 g5 d8 h4 g1 c0 c1 f0 f1 f2 d2 d3 z1 z3 u0 u1 J a6 g2 j7;have i0:(0:Int)<=(i:Int):=by omega
 have i1:(i:Int)<(i:Int)+1:=by omega
 have i2:wrap64 (i:Int)=(i:Int):=IntWalk.wrap64_in _ (by omega);have g7:IntKind.i64.wrap (i:Int)=(i:Int):=(IntWalk.i64_left _).trans i2;have j0:(0:Int)<=(fn:Int):=by omega
 have j1:(fn:Int)<(L.length:Int):=by omega
 have k0:(0:Int)<=(E:Int):=by omega
 have k1:(E:Int)<(cd.I9.length:Int):=by omega
 go_enter func39,ntmps39
 go_upto_region 1 with(fail)
 have m1:rb<(World.alloc _ _).heap.size:=y5 l1 HB.out.size;have m2:j<(World.alloc _ _).heap.size:=y5 l2 HB.out.size;have m3:S<(World.alloc _ _).heap.size:=y5 g3 HB.out.size;have m4:go<(World.alloc _ _).heap.size:=y5 g4 HB.out.size;have Q:=zh (Vo.of HB.out e4);have K:=zh (H.out.below HB.out);clear g3 g4 l1 l2 HB k9;generalize World.alloc (World.alloc _ _) _=V at P U Q K c2 d0 d1 u2 o0 o1 m1 m2 m3 m4|-
 obtain⟨b4,e6⟩: ∃b,w.heap.size+1=b:=⟨_,rfl⟩;rw[e6]at U;simp only[e6];clear e6;obtain⟨b3,e7⟩: ∃b,w.heap.size=b:=⟨_,rfl⟩;rw[e7]at P e4;simp only[e7];clear e7 e4;have p3:=x5 P.out 0;have p4:=x5 U.out 0;have m5:=I0 P.out;have m6:=I0 U.out;have hA: ∀b k O,b<V.heap.size->(V.alloc O).cell? ⟨b,k,none⟩=V.cell? ⟨b,k,none⟩:=λb k O hb=>((x7 V.heap.size V).alloc (x6 _) O).cell (p:=⟨b,k,none⟩) hb;refine L0 (by kernel_rfl) [(0,25,.pointer (some ⟨rb,0,none⟩)),(1,26,.pointer (some ⟨rb,0,none⟩)),(2,27,.pointer (some ⟨rb,2,none⟩)),(3,28,.slice (some ⟨j,0,none⟩) (i+1) c),(4,29,.pointer (some ⟨rb,0,none⟩)),(5,30,.pointer (some ⟨rb,0,none⟩)),(6,31,.pointer (some ⟨rb,2,none⟩)),(7,32,.slice (some ⟨j,0,none⟩) (i+1) c),(8,33,.int .i64 (i+1)),(9,34,.int .i64 i),(10,35,.pointer (some ⟨j,i*4,none⟩)),(11,7,.pointer (some ⟨V.heap.size,0,none⟩))] [] _ _ rfl rfl [11,12] (λz=>match z with|0=>V.drew|1=>V.drew.alloc (.cells #[.pointer none] 146)|_=>V.drew.alloc (.cells #[.pointer (some ⟨j,i*4,none⟩)] 146)) [(0,0),(0,1),(1,0),(1,1),(2,0),(2,1),(3,0),(3,1),(4,0),(4,1),(5,0),(5,1),(6,0),(6,1),(7,0),(7,1),(8,0),(8,1),(9,0),(9,1),(10,0),(10,1),(11,0),(12,1)] (by kernel_rfl) (by kernel_rfl) (by rfl) rfl ?_ ?_
 ·generalize hF:J2 _ _=F
  simp[J2]at hF;subst hF
  repeat' (first|refine List.forall_mem_cons.2 ⟨?_,?_⟩|exact List.forall_mem_nil _)
  all_goals
   intro o' G;injection G with G
   subst G
  all_goals simp[Y7,execOp,go_sem,hA,m1,m5,p3,c2,i0,i1,i2,g7]
 simp only[J2,z9,B4,List.append_nil,List.foldl];go_simp;have ba:=((x7 V.heap.size V).alloc (x6 _) (.cells #[.pointer (some ⟨j,i*4,none⟩)] 146)).drew;have a5:Hid ((V.alloc (.cells #[.pointer (some ⟨j,i*4,none⟩)] 146)).drew.heap[V.heap.size]?=_):=zh (x9 V (.cells #[.pointer (some ⟨j,i*4,none⟩)] 146));have a9:=K.out.bd;replace P:=zh ((ba.block b3 m5).trans P.out);replace U:=zh ((ba.block b4 m6).trans U.out);replace Q:=zh (Q.out.trans (Vo.of ba a9));replace K:=zh (K.out.below ba);have oc: ∀b k,b<V.heap.size->((V.alloc (.cells #[.pointer (some ⟨j,i*4,none⟩)] 146)).drew).cell? ⟨b,k,none⟩=V.cell? ⟨b,k,none⟩:=λb k hb=>ba.cell (p:=⟨b,k,none⟩) hb;rw[<-oc _ _ (by assumption)]at p4 d0 d1 u2 o0 o1;have s1:=ba.size;have n2:=y5 m2 s1;have n3:=y5 m3 s1;have n4:=y5 m4 s1;have n6:=y5 m6 s1;clear oc ba s1 hA m1 m2 m3 m4 m5 m6 p3 c2 a9 i0 i1 i2 g7;generalize(World.alloc _ _).drew=X at P U a5 Q K p4 d0 d1 u2 o0 o1 n2 n3 n4 n6|-
 generalize V.heap.size=b7 at a5|-
 have p7:=x5 a5.out 0;have n7:=I0 a5.out
 go_upto_region 2 with(fail)
 have hA: ∀b k O,b<X.heap.size->(X.alloc O).cell? ⟨b,k,none⟩=X.cell? ⟨b,k,none⟩:=λb k O hb=>((x7 X.heap.size X).alloc (x6 _) O).cell (p:=⟨b,k,none⟩) hb;refine L0 (by kernel_rfl) [(0,36,.pointer (some ⟨b4,0,none⟩)),(1,37,.slice (some ⟨S,0,none⟩) L.length cf),(2,38,.pointer (some ⟨j,i*4,none⟩)),(3,39,.pointer (some ⟨j,i*4,none⟩)),(4,40,.pointer (some ⟨j,i*4,none⟩)),(5,41,.int .i64 fn),(6,42,.pointer (some ⟨S,fn*3,none⟩)),(7,43,.pointer (some ⟨S,fn*3+2,none⟩)),(8,44,.slice (some ⟨go,0,none⟩) cd.I9.length co),(9,45,.pointer (some ⟨j,i*4,none⟩)),(10,46,.pointer (some ⟨j,i*4,none⟩)),(11,47,.pointer (some ⟨j,i*4+1,none⟩)),(12,48,.int .i64 E),(13,49,.pointer (some ⟨go,E*2,none⟩)),(14,50,.agg #[.int .i64 d,.int .i64 x]),(15,8,.pointer (some ⟨X.heap.size,0,none⟩))] [] _ _ rfl rfl [15,16] (λz=>match z with|0=>X.drew|1=>X.drew.alloc (.cells #[.int .i64 0,.int .i64 0] 74)|_=>X.drew.alloc (.cells #[.int .i64 d,.int .i64 x] 74)) [(0,0),(0,1),(1,0),(1,1),(2,0),(2,1),(3,0),(3,1),(4,0),(4,1),(5,0),(5,1),(6,0),(6,1),(7,0),(7,1),(8,0),(8,1),(9,0),(9,1),(10,0),(10,1),(11,0),(11,1),(12,0),(12,1),(13,0),(13,1),(14,0),(14,1),(15,0),(16,1)] (by kernel_rfl) (by kernel_rfl) (by rfl) rfl ?_ ?_
 ·generalize hF:J2 _ _=F
  simp[J2]at hF;subst hF
  repeat' (first|refine List.forall_mem_cons.2 ⟨?_,?_⟩|exact List.forall_mem_nil _)
  all_goals
   intro o' G;injection G with G
   subst G
  all_goals simp[Y7,execOp,go_sem,hA,n2,n3,n4,n6,n7,p4,p7,d0,d1,u2,o0,o1,j0,j1,k0,k1]
 simp only[J2,z9,B4,List.append_nil,List.foldl];go_simp;have ba:=((x7 X.heap.size X).alloc (x6 _) (.cells #[.int .i64 d,.int .i64 x] 74)).drew;have g8:Hid ((X.alloc (.cells #[.int .i64 d,.int .i64 x] 74)).drew.heap[X.heap.size]?=_):=zh (x9 X (.cells #[.int .i64 d,.int .i64 x] 74));have a9:=K.out.bd;have c3:Hid (Yb rb b3 b4 b7 X.heap.size j i (some ⟨S,0,none⟩) L.length cf main d x (X.alloc (.cells #[.int .i64 d,.int .i64 x] 74)).drew):=zh ⟨(ba.block b3 (I0 P.out)).trans P.out,(ba.block b4 n6).trans U.out,(ba.block b7 n7).trans a5.out,g8.out⟩;replace Q:=zh (Q.out.trans (Vo.of ba a9));replace K:=zh (K.out.below ba);clear ba hA a9 n2 n3 n4 n6 n7 p4 p7 d0 d1 u2 o0 o1 j0 j1 k0 k1 P U a5 g8;generalize(World.alloc _ _).drew=w3 at c3 Q K|-
 generalize X.heap.size=b8 at c3|-
 have e8:Hid (U9 Z B I t w rb b3 b4 b7 b8 j i (some ⟨S,0,none⟩) L.length cf main d x value c (low++[(⟨fn,E,M,a++xs⟩,.slice Av M.length cv,.slice R (a++xs).length cs)]) w3):=zh ⟨K.out,c3.out,Q.out.qh u.out.le,u.out.I5 HI.out Q.out⟩;have ep:IntKind.i64.wrap ((E:Int)+1)=((E+1:Nat):Int):=by rw[show((E+1:Nat):Int)=(E:Int)+1 by omega];exact IntWalk.i64_in _ (by omega)
 have HN:Hid (U9 Z B I t w rb b3 b4 b7 b8 j i (some ⟨S,0,none⟩) L.length cf main d x value c (low++[(⟨fn,E+1,M,a++xs⟩,.slice Av M.length cv,.slice R (a++xs).length cs)]) (w3.setCell ⟨j,i*4+1,none⟩ (.int .i64 ((E+1:Nat):Int)))):=zh (xK N.out u.out e8.out (E+1));obtain⟨⟨p3,p4,p7,q0,q1⟩,⟨d0,d1,d2,d3,z1,z3⟩,-⟩:=(U9.T5 N.out e8.out)
 go_upto_region 8 with(fail)
 clear p3 p4 p7 q0 q1 d0 d1 d2 d3 z1 z3 e8 K c3 Q
 try rw[show(E:Int)+1=((E+1:Nat):Int) by omega]
 generalize World.setCell _ _ _=w4 at HN|-
 obtain⟨⟨p3,p4,p7,q0,q1⟩,⟨d0,d1,d2,d3,z1,z3⟩,c0,c1,c2,f0,f1,f2⟩:=(U9.T5 N.out HN.out);obtain⟨h5,h7,e9,b0⟩:=g6.out;have a0:=k3.out;have a8:=k4.out;have b9:=k6.out;have a7:=k7.out
 try simp only at h5
 try simp only at h7
 try simp only at e9
 try simp only at b0
 rw[y7]at b9;have a4:=k5.out
 try simp only at a4
 clear h5 h7;subst a4
 ·obtain⟨c4,f3⟩:=e9 (by decide)
  simp[U6]at c4 f3;have h6:x%8<=6:=b0 rfl;have l0:(xs.length:Int)=x%8:=by
   rw[a8,<-a0,show I6 (L.map (·.params)) (20,x)=(x%8).toNat by simp[I6]];omega
  obtain⟨r1,f4⟩: ∃r,(hf (x/8) xs).1=r:=⟨_,rfl⟩;obtain⟨r2,f5⟩: ∃r,(hf (x/8) xs).2=r:=⟨_,rfl⟩;have c5:Hid (M1 L hf value (low.map Prod.fst) ⟨fn,E,M,a++xs⟩ (20,x) a xs=if r2=0 then(⟨0,value,low.map Prod.fst++[⟨fn,E+1,M,a++[r1]⟩]⟩,false)else(xw r2,false)):=zh (by simp[M1,f4,f5]);have h8:Hid (P7 (20,x) xs=[(x/8,xs)]):=zh (by simp[P7]);have em:x.tmod 8=x%8:=Int.tmod_eq_emod_of_nonneg c4;obtain⟨nst,l⟩: ∃n,(a++xs).length=n:=⟨_,rfl⟩;have d9:nst=a.length+xs.length:=by rw[<-l,y7]
  rw[l]at d3;have ew:wrap64 ((nst:Int)-x.tmod 8)=(a.length:Int):=by rw[show(nst:Int)-x.tmod 8=a.length by omega];exact IntWalk.wrap64_in _ (by omega)
  have l3:IntKind.i64.wrap ((nst:Int)-x.tmod 8)=(a.length:Int):=by rw[show(nst:Int)-x.tmod 8=a.length by omega];exact IntWalk.i64_in _ (by omega)
  have HX:=zh (And.intro c4 f3);have f6:Hid (xs.length<=600):=zh (by omega);have c6:=zh (And.intro f4 f5);have f7:=zh d9;clear l0 h6 em a0 b0 f4 f5 e9 d9 a8 c4 f3
  go_upto_region 52 with(fail)
  go_quiet (fail)
  clear p3 p4 p7 q0 q1 d0 d1 d2 d3 z1 z3 c0 c1 c2 f0 f1 f2;clear ew l3;have HD:=J1 (x7 w4.heap.size w4) nq;replace HN:=zh (HN.out.vo u.out (Vo.of HD HN.out.rf.bd) (HN.out.rf.below HD));clear HD;generalize World.drewN _ _=w5 at HN|-
  go_upto_region 53 with(fail)
  go_cut[19,20] (λv1 v2 W=>v1=.int .i64 r1/\v2=.int .i64 r2/\Hid (U9 Z B I (t++[(x/8,xs)]) w rb b3 b4 b7 b8 j i (some ⟨S,0,none⟩) L.length cf main 20 x value c (low++[(⟨fn,E+1,M,a++xs⟩,.slice Av M.length cv,.slice R (a++xs).length cs)]) W))
  case first=>
   have G:=HN.out.rf.T7.T6.xt.2.1;simp only at G;have J:=(O3 G).1;have a2:=(O3 G).2;rw[l]at J;have Y:a.length<=nst:=by have:=f7.out;omega
   have ex:wrap64 (x.tdiv 8)=x/8:=(IntWalk.i64_left _).symm.trans (IntWalk.i64_quo x 8 (by have:=HX.out;omega));have i8:IntKind.i64.wrap (x.tdiv 8)=x/8:=IntWalk.i64_quo x 8 (by have:=HX.out;omega);have i0:(0:Int)<=(a.length:Int):=by omega
   have i2:(a.length:Int)<=(nst:Int):=by omega
   have i1: ¬((nst:Int)<(a.length:Int)):=Int.not_lt.2 i2;have i4:(nst:Int)<=(cs:Int):=Int.ofNat_le.2 J;have i3: ¬((cs:Int)<(nst:Int)):=Int.not_lt.2 i4;have i6:(a.length:Int)<=(cs:Int):=Int.ofNat_le.2 (B5 Y J);have i5: ¬((cs:Int)<(a.length:Int)):=Int.not_lt.2 i6;have eg:=u.out.eg;have c7:0<=x/8/\x/8<=100:=by have:=HX.out;omega
   have c8:(a++xs).length-a.length=xs.length:=by simp
   have f8:(a++xs).drop a.length=xs:=by simp
   have d4: ∀(T:Option Addr)(ct:Nat),(R=none/\T=none/\ct=0\/ ∃g,R=some ⟨g,0,none⟩/\(T=some ⟨g,a.length,none⟩\/T=some ⟨g,0,none⟩/\(a++xs).length=a.length))-> ∀W,U9 Z B I t w rb b3 b4 b7 b8 j i (some ⟨S,0,none⟩) L.length cf main 20 x value c (low++[(⟨fn,E+1,M,a++xs⟩,.slice Av M.length cv,.slice R (a++xs).length cs)]) W->Calls prog 44 #[.slice T (nst-a.length) ct] W λe w'=>Below W.heap.size W w'/\ ∃A' c',e=.returned (.slice A' xs.length c')/\J8 w' (λ_=>True) (.slice A' xs.length c') xs:=λT ct hT W hW=>by
    have:=xI (m:=a.length) hW.rf.T7.T6.xt.2.1 (by show(a++xs).length<=100000;rw[l];have:=f7.out;have:=f6.out;omega) hT;simp only[c8,f8]at this;rw[<-l,c8];exact this.mono λe w' ⟨hb,A',c',he,G⟩=>⟨hb,A',c',he,S6 G λ_ _=>trivial⟩
   by_cases b1:cs=a.length
   ·have b2:=d4 R (cs-a.length) (by
     rcases a2 with rfl|⟨g9,rfl⟩
     ·exact .inl ⟨rfl,rfl,by omega⟩
     ·exact .inr ⟨g9,rfl,.inr ⟨rfl,by rw[l];exact Nat.le_antisymm (b1▸J) Y⟩⟩)
    have TC:=zh b2;have l4:nst-a.length=0:=Nat.sub_eq_zero_of_le (b1▸J);have l5:cs-a.length=0:=by omega
    clear d4 b2 c8 f8 G J a2 Y;refine P5 (D:=Value×World) (by kernel_rfl) [(0,279),(1,280),(2,281),(3,282),(4,283),(5,284),(6,285),(7,286),(8,287),(9,288),(10,289),(11,290),(12,278),(13,291),(14,292),(15,19),(16,20)] [10,11] [[],[10],[10,11]] (λ_ d=>[(0,279,.func (.func g) #[] lb),(1,280,.pointer (some ⟨b8,1,none⟩)),(2,281,.int .i64 x),(3,282,.int .i64 (x/8)),(4,283,.pointer (some ⟨j,i*4,none⟩)),(5,284,.pointer (some ⟨j,i*4,none⟩)),(6,285,.pointer (some ⟨j,i*4+3,none⟩)),(7,286,.slice R nst cs),(8,287,.int .i64 a.length),(9,288,.slice R (nst-a.length) (cs-a.length)),(10,289,d.1),(11,290,.tuple #[.int .i64 r1,.int .i64 r2]),(12,278,.tuple #[.int .i64 r1,.int .i64 r2]),(13,291,.int .i64 r1),(14,292,.int .i64 r2),(15,19,.int .i64 r1),(16,20,.int .i64 r2)]) (λ_ d=>d.2) (λj' d=>match j' with|0=>U9 Z B I t w rb b3 b4 b7 b8 j i (some ⟨S,0,none⟩) L.length cf main 20 x value c (low++[(⟨fn,E+1,M,a++xs⟩,.slice Av M.length cv,.slice R (a++xs).length cs)]) d.2|1=>U9 Z B I t w rb b3 b4 b7 b8 j i (some ⟨S,0,none⟩) L.length cf main 20 x value c (low++[(⟨fn,E+1,M,a++xs⟩,.slice Av M.length cv,.slice R (a++xs).length cs)]) d.2/\ ∃A c,d.1=.slice A xs.length c/\J8 d.2 (λ_=>True) d.1 xs|_=>U9 Z B I (t++[(x/8,xs)]) w rb b3 b4 b7 b8 j i (some ⟨S,0,none⟩) L.length cf main 20 x value c (low++[(⟨fn,E+1,M,a++xs⟩,.slice Av M.length cv,.slice R (a++xs).length cs)]) d.2) [(0,0),(0,1),(1,0),(1,1),(2,0),(2,1),(3,0),(3,1),(4,0),(5,0),(6,0),(7,0),(8,0),(9,0),(10,0),(11,1),(12,2),(13,2),(14,2),(15,2),(16,2)] (by kernel_rfl) (by kernel_rfl) (λ_ _=>rfl) (by rfl) (undef,w5.drew) rfl (HN.out.drew u.out) rfl ?_ ?_
    ·repeat' (first|refine List.forall_mem_cons.2 ⟨?_,?_⟩|exact List.forall_mem_nil _)
     all_goals
      intro o' G;injection G with G
      subst G;rintro⟨cl,W⟩ C
     rotate_left 14
     ·have HG:=zh C
      refine .call 44 #[.slice R (nst-a.length) (cs-a.length)] (by simp[J2,execOp,go_sem]) ((TC.out W HG.out).mono ?_);rintro e w6 ⟨hb,A',c',rfl,hi⟩;exact⟨_,1,(.slice A' xs.length c',w6),rfl,.of (by decide) ⟨HG.out.vo u.out (Vo.of hb HG.out.rf.bd) (HG.out.rf.below hb),A',c',rfl,hi⟩ rfl rfl,rfl,rfl⟩
     ·obtain⟨C,A',c',he,hi⟩:=C
      simp only at he hi;subst he;have f9:=u.out.call (x/8) xs A' c' W t C.hi hi f6.out c7.1 c7.2;refine .call g _ ?_ (f9.mono ?_)
      ·simp[J2,execOp,go_sem,eg]
      rintro e w6 ⟨rfl,g0,a1⟩;rw[c6.out.1,c6.out.2];exact⟨_,2,(.slice A' xs.length c',w6),rfl,.of (by decide) ⟨C.rf.hk a1,C.lo.hk a1,C.q.trans a1.qh,g0⟩ rfl rfl,rfl,rfl⟩
     all_goals
      first|have fc:=U9.T5 N.out C|have fc:=U9.T5 N.out C.1
      rw[l]at fc;obtain⟨⟨p3,p4,p7,q0,q1⟩,⟨d0,d1,d2,d3,z1,z3⟩,c0,c1,c2,f0,f1,f2⟩:=fc;exact .jd rfl (by simp[J2,Y7,execOp,go_sem,p7,d3,q1,ex,i8,i0,i1,i2,i3,i4,i5,i6,l4,l5,b1])
    ·rintro jj ⟨cl,W⟩ C hd
     have hj:=hd 11 (by decide) (by decide)
     match jj,C,hj with
     |0,_,h=>cases h
     |1,_,h=>cases h
     |2,C,_=>
      have H5:=zh C;clear hd C;simp only[J2,z9,B4,List.append_nil,List.foldl];go_simp
      go_wp2_with fail
      go_meet
      case rel=>exact⟨rfl,rfl,H5⟩
     |n+3,_,h=>cases h
   ·obtain⟨gs,rfl⟩: ∃gs,R=some ⟨gs,0,none⟩:=by
     rcases a2 with rfl|h
     ·rcases O5 G with⟨e,-⟩|⟨g9,c9,e,-⟩
      ·exfalso;injection e with h1 h2 h3;exact b1 (by have h4:nst=0:=Nat.le_zero.1 (h3▸J);rw[h3];exact(Nat.le_zero.1 (h4▸Y)).symm)
      ·injection e with e;cases e
     ·exact h
    have b2:=d4 (some ⟨gs,a.length,none⟩) (cs-a.length) (.inr ⟨gs,rfl,.inl rfl⟩);have TC:=zh b2;clear d4 b2 c8 f8 G J a2 Y;refine P5 (D:=Value×World) (by kernel_rfl) [(0,279),(1,280),(2,281),(3,282),(4,283),(5,284),(6,285),(7,286),(8,287),(9,288),(10,289),(11,290),(12,278),(13,291),(14,292),(15,19),(16,20)] [10,11] [[],[10],[10,11]] (λ_ d=>[(0,279,.func (.func g) #[] lb),(1,280,.pointer (some ⟨b8,1,none⟩)),(2,281,.int .i64 x),(3,282,.int .i64 (x/8)),(4,283,.pointer (some ⟨j,i*4,none⟩)),(5,284,.pointer (some ⟨j,i*4,none⟩)),(6,285,.pointer (some ⟨j,i*4+3,none⟩)),(7,286,.slice (some ⟨gs,0,none⟩) nst cs),(8,287,.int .i64 a.length),(9,288,.slice (some ⟨gs,a.length,none⟩) (nst-a.length) (cs-a.length)),(10,289,d.1),(11,290,.tuple #[.int .i64 r1,.int .i64 r2]),(12,278,.tuple #[.int .i64 r1,.int .i64 r2]),(13,291,.int .i64 r1),(14,292,.int .i64 r2),(15,19,.int .i64 r1),(16,20,.int .i64 r2)]) (λ_ d=>d.2) (λj' d=>match j' with|0=>U9 Z B I t w rb b3 b4 b7 b8 j i (some ⟨S,0,none⟩) L.length cf main 20 x value c (low++[(⟨fn,E+1,M,a++xs⟩,.slice Av M.length cv,.slice (some ⟨gs,0,none⟩) (a++xs).length cs)]) d.2|1=>U9 Z B I t w rb b3 b4 b7 b8 j i (some ⟨S,0,none⟩) L.length cf main 20 x value c (low++[(⟨fn,E+1,M,a++xs⟩,.slice Av M.length cv,.slice (some ⟨gs,0,none⟩) (a++xs).length cs)]) d.2/\ ∃A c,d.1=.slice A xs.length c/\J8 d.2 (λ_=>True) d.1 xs|_=>U9 Z B I (t++[(x/8,xs)]) w rb b3 b4 b7 b8 j i (some ⟨S,0,none⟩) L.length cf main 20 x value c (low++[(⟨fn,E+1,M,a++xs⟩,.slice Av M.length cv,.slice (some ⟨gs,0,none⟩) (a++xs).length cs)]) d.2) [(0,0),(0,1),(1,0),(1,1),(2,0),(2,1),(3,0),(3,1),(4,0),(5,0),(6,0),(7,0),(8,0),(9,0),(10,0),(11,1),(12,2),(13,2),(14,2),(15,2),(16,2)] (by kernel_rfl) (by kernel_rfl) (λ_ _=>rfl) (by rfl) (undef,w5.drew) rfl (HN.out.drew u.out) rfl ?_ ?_
    ·repeat' (first|refine List.forall_mem_cons.2 ⟨?_,?_⟩|exact List.forall_mem_nil _)
     all_goals
      intro o' G;injection G with G
      subst G;rintro⟨cl,W⟩ C
     rotate_left 14
     ·have HG:=zh C
      refine .call 44 #[.slice (some ⟨gs,a.length,none⟩) (nst-a.length) (cs-a.length)] (by simp[J2,execOp,go_sem]) ((TC.out W HG.out).mono ?_);rintro e w6 ⟨hb,A',c',rfl,hi⟩;exact⟨_,1,(.slice A' xs.length c',w6),rfl,.of (by decide) ⟨HG.out.vo u.out (Vo.of hb HG.out.rf.bd) (HG.out.rf.below hb),A',c',rfl,hi⟩ rfl rfl,rfl,rfl⟩
     ·obtain⟨C,A',c',he,hi⟩:=C
      simp only at he hi;subst he;have f9:=u.out.call (x/8) xs A' c' W t C.hi hi f6.out c7.1 c7.2;refine .call g _ ?_ (f9.mono ?_)
      ·simp[J2,execOp,go_sem,eg]
      rintro e w6 ⟨rfl,g0,a1⟩;rw[c6.out.1,c6.out.2];exact⟨_,2,(.slice A' xs.length c',w6),rfl,.of (by decide) ⟨C.rf.hk a1,C.lo.hk a1,C.q.trans a1.qh,g0⟩ rfl rfl,rfl,rfl⟩
     all_goals
      first|have fc:=U9.T5 N.out C|have fc:=U9.T5 N.out C.1
      rw[l]at fc;obtain⟨⟨p3,p4,p7,q0,q1⟩,⟨d0,d1,d2,d3,z1,z3⟩,c0,c1,c2,f0,f1,f2⟩:=fc;exact .jd rfl (by simp[J2,Y7,execOp,go_sem,p7,d3,q1,ex,i8,i0,i1,i2,i3,i4,i5,i6,b1])
    ·rintro jj ⟨cl,W⟩ C hd
     have hj:=hd 11 (by decide) (by decide)
     match jj,C,hj with
     |0,_,h=>cases h
     |1,_,h=>cases h
     |2,C,_=>
      have H5:=zh C;clear hd C;simp only[J2,z9,B4,List.append_nil,List.foldl];go_simp
      go_wp2_with fail
      go_meet
      case rel=>exact⟨rfl,rfl,H5⟩
     |n+3,_,h=>cases h
  case rest=>
   rename World=>w7
   obtain⟨rfl,rfl,H7⟩:=hcut;clear HN
   by_cases h0:r2=0
   ·subst h0
    rw[C5 rfl]at c5;obtain⟨⟨p3,p4,p7,q0,q1⟩,⟨d0,d1,d2,d3,z1,z3⟩,c0,c1,c2,f0,f1,f2⟩:=(U9.T5 N.out H7.out);rw[l]at d3;have J:nst<=cs:=by have:=(O3 H7.out.rf.T7.T6.xt.2.1).1;rw[<-l];exact this
    have Y:a.length<=nst:=by have:=f7.out;omega
    have i0:(0:Int)<=(a.length:Int):=by omega
    have i2:(a.length:Int)<=(nst:Int):=by omega
    have i1: ¬((nst:Int)<(a.length:Int)):=Int.not_lt.2 i2;have i6:(a.length:Int)<=(cs:Int):=Int.ofNat_le.2 (B5 Y J);have i5: ¬((cs:Int)<(a.length:Int)):=Int.not_lt.2 i6;have i7:wrap64 (a.length:Int)=(a.length:Int):=IntWalk.wrap64_in _ (by omega);have H8:=zh (zci N.out u.out (H7.out.drew u.out));clear J Y
    go_upto_region 57 with(fail)
    refine L0 (by kernel_rfl) [(0,298,.pointer (some ⟨j,i*4,none⟩)),(1,299,.pointer (some ⟨j,i*4,none⟩)),(2,300,.pointer (some ⟨j,i*4,none⟩)),(3,301,.pointer (some ⟨j,i*4+3,none⟩)),(4,302,.slice R nst cs),(5,303,.int .i64 a.length),(6,304,.slice R a.length cs),(7,305,.pointer (some ⟨j,i*4,none⟩)),(8,306,.pointer (some ⟨j,i*4+3,none⟩))] [] _ _ rfl rfl [9] (λz=>match z with|0=>w7.drew|_=>w7.drew.setCell ⟨j,i*4+3,none⟩ (.slice R a.length cs)) [(0,0),(1,0),(2,0),(3,0),(4,0),(5,0),(6,0),(7,0),(8,0),(9,0)] (by kernel_rfl) (by kernel_rfl) (by rfl) rfl ?_ ?_
    ·generalize hF:J2 _ _=F
     simp[J2]at hF;subst hF
     repeat' (first|refine List.forall_mem_cons.2 ⟨?_,?_⟩|exact List.forall_mem_nil _)
     all_goals
      intro o' G;injection G with G
      subst G
     all_goals simp[Y7,execOp,go_sem,p7,d3,z3,i0,i1,i2,i5,i6,i7]
    simp only[J2,z9,B4,List.append_nil,List.foldl];go_simp;clear p3 p4 p7 q0 q1 d0 d1 d2 d3 z1 z3 c0 c1 c2 f0 f1 f2;clear i0 i1 i2 i5 i6 i7 H7;rw[show w7.drew.setCell ⟨j,i*4+3,none⟩ (.slice R a.length cs)=(w7.setCell ⟨j,i*4+3,none⟩ (.slice R a.length cs)).drew from rfl]at H8;generalize(World.setCell _ _ _).drew=w8 at H8|-
    have PC:=zh (xj N.out u.out H8.out (by omega) r1)
    go_wp2_with fail
    refine PC.out.mono ?_;rintro e w9 ⟨rfl,s',h9⟩;have H9:=zh h9;clear h9 PC
    go_wp2_with fail
    go_ret;exact .mk c5.out H9.out.rf (by simp) H9.out.q (by rw[h8.out];exact H9.out.hi)
   ·rw[z7 h0]at c5
    have n8:(r2 !=0)=true:=bne_iff_ne.2 h0;have FC:=zh (JU u.out H7.out r2);clear h0
    go_wp2_with fail
    refine FC.out.mono ?_;rintro e w8 ⟨rfl,i9,j2,j3⟩;have l6:=zh i9;have l7:=zh j2;have l8:=zh j3;clear i9 j2 j3 FC
    go_wp2_with fail
    go_ret;exact .mk c5.out l6.out rfl l7.out (by rw[h8.out];exact l8.out)
end
section
variable {L:List Cf}{main:Nat}{Z B rb cf g:Nat}{Af:Option Addr}{value:Int}{hf:T0}{lb:Array Value}{I:World->List (Int×List Int)->Prop}
theorem zeb(q:Z3 L main)(r:zD Z B g lb hf I){c:Nat}{A:Option Addr}{low:List Fm}{f:Fq}{v s:Value}{w:World}{t:List (Int×List Int)}
 (h:zY w B rb 0 value A c (low++[(f,v,s)])) (u:L4 w (.slice Af L.length cf) (L.map Cf.pf)) (x:I w t) (z:qS L f) (C:FrR f) (d:low.length+1<=32) (a: ∀y∈low,y.1.I1.length<=600/\y.1.pc<=4000) (D: ∀c∈L,c.I9.length<=4000):
 Calls prog 39 #[.pointer (some ⟨rb,0,none⟩),.agg #[.slice Af L.length cf,.int .i64 main],.func (.func g) #[] lb] w (NxO (Q1 L hf value (low.map Prod.fst) f) Z B rb I (t++Y0 L f) w):=by
 have V0: ∀{o i:Q2}{n j:Nat},jP L f=some (o,n)->jP L f=some (i,j)->i=o:=λe b=>by rw[e]at b;injection b with b;injection b with E _;exact E.symm
 by_cases k: ∃o n,jP L f=some (o,n)/\o.1=17
 ·obtain⟨o,n,e,l⟩:=k
  exact zgp q r h u x z C d a D λi j b=>by rw[V0 e b];exact l
 by_cases m: ∃o n,jP L f=some (o,n)/\o.1=18
 ·obtain⟨o,n,e,l⟩:=m
  exact zgo q r h u x z C d a D λi j b=>by rw[V0 e b];exact l
 by_cases p: ∃o n,jP L f=some (o,n)/\o.1=20
 ·obtain⟨o,n,e,l⟩:=p
  exact ze4 q r h u x z C d a D λi j b=>by rw[V0 e b];exact l
 exact zfx q r h u x z C d a D λi j b=>⟨λh=>k ⟨i,j,b,h⟩,λh=>m ⟨i,j,b,h⟩,λh=>p ⟨i,j,b,h⟩⟩
end
theorem zY.mono{w:World}{B a b c:Nat}{A:Option Addr}{mode value:Int}{l:List Fm}(h:zY w B b mode value A c l)(d:a<=B):zY w a b mode value A c l:=⟨B5 d h.lo,h.J7,h.T7.mono d⟩
end Go.Proofs.YtalgmjmibamdfaaGreatDoor
