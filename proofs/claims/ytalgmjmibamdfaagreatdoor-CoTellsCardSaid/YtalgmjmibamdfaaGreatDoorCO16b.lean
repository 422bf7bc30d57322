/- Merged. -/
import Derived.Test.YtalgmjmibamdfaaGreatDoorCO16
set_option linter.all false
set_option maxHeartbeats 16000000
set_option maxRecDepth 100000
namespace Go.Proofs.YtalgmjmibamdfaaGreatDoor
open Go.Proofs.Tryz
open Go.RowKit Tw
section
variable {L:List Cf}{main:Nat}{Z:Nat}{B:Bd}{mb cf g:Nat}{Af:Option Addr}{value:Int}{hf:R4}{lb:Array Value}{I:World->(Nat->Prop)->List (Int×List Int)->Prop}
theorem zhK(hP:zk L main)(e9:L.length<=16)(HH:zT Z B g lb hf I){c:Nat}{A:Option Addr}{low:List Fm}{f:Fq}{v s:Value}{w:World}{t:List (Int×List Int)}
 (h:zA w B mb Af L.length cf main 0 value A c (low++[(f,v,s)])) (hF:M3 w (.slice Af L.length cf) (L.map Cf.pf)) (hI:I w B.S t) (hT:jC L f) (m6:low.length+1<=32) (e5: ∀y∈low,y.1.I8.length<=600/\y.1.pc<=4000) (h4: ∀c∈L,c.J6.length<=4000) (e6: ∀o h,xw L f=some (o,h)->o.1≠17/\o.1≠18/\o.1≠20):
 Calls prog 49 #[.pointer (some ⟨mb,0,none⟩),.func (.func g) #[] lb] w (StV L main Z B mb Af cf value hf I t (low.map Prod.fst) f w):=by
 obtain⟨cd,⟨d,x⟩,a8,a9,g6,k4,m7,f0⟩:=hT.jN hP;have g7:=zh (e6 _ _ a9);clear e6;have E:StV L main Z B mb Af cf value hf I t (low.map Prod.fst) f w=StO (M8 L hf value (low.map Prod.fst) f (d,x) (f.I8.take (f.I8.length-J4 (L.map (·.params)) (d,x))) (f.I8.drop (f.I8.length-J4 (L.map (·.params)) (d,x)))) Z B mb Af L.length cf main I (t++Q9 (d,x) (f.I8.drop (f.I8.length-J4 (L.map (·.params)) (d,x)))) w:=by
  funext e w'
  have h1:R5 L hf value (low.map Prod.fst) f=M8 L hf value (low.map Prod.fst) f (d,x) (f.I8.take (f.I8.length-J4 (L.map (·.params)) (d,x))) (f.I8.drop (f.I8.length-J4 (L.map (·.params)) (d,x))):=by unfold R5;rw[a9];rfl
  have h2:Y5 L f=Q9 (d,x) (f.I8.drop (f.I8.length-J4 (L.map (·.params)) (d,x))):=by unfold Y5;rw[a9];rfl
  unfold StV StO;rw[h1,h2]
 rw[E];clear E;obtain⟨po,b0⟩: ∃z,J4 (L.map (·.params)) (d,x)=z:=⟨_,rfl⟩;obtain⟨m,hm⟩: ∃m,f.I8.length-po=m:=⟨_,rfl⟩;obtain⟨xs,f1⟩: ∃z,f.I8.drop m=z:=⟨_,rfl⟩;obtain⟨S0,f5⟩: ∃z,f.I8.take m=z:=⟨_,rfl⟩;rw[b0,hm,f1,f5];have d4:=zh b0;have HM:=zh hm;have g8:=zh f1;have h5:=zh f5;clear b0 hm f1 f5;obtain⟨Q,Av,cv,As,cs,rfl,rfl,rfl,d0,d1,d2,U,z1,z3,m8⟩:=Z5 h;obtain⟨⟨c0,c1,c2,c3,c4⟩,f2,f3,f4⟩:=zv h;rw[z9,List.length_singleton]at c4;obtain⟨gf,m9,vo,hv,-,h6,u0,u1,u2,e7⟩:=hF.at (zi a8);injection hv with f6 k5 f7
 clear k5;subst f6 f7;obtain⟨go,co,rfl,-,h7,h8⟩:=e7.at;obtain⟨o0,o1⟩:=h8 f.pc (d,x) (by show(cd.J6.map Prod.fst)[f.pc]?=_;rw[G3,f0];rfl);simp only[Cf.pf,D9]at u0 u1 u2 o0 o1;have n0:f.fn<L.length:=(List.getElem?_eq_some_iff.1 a8).1;have n5:f.pc<cd.J6.length:=(List.getElem?_eq_some_iff.1 f0).1;have n6:f.pc<=4000:=by have:=h4 cd (B7 a8);omega
 have e0:((low.length+1:Nat):Int)=(low.length:Int)+1:=by omega
 have e1:IntKind.i64.wrap ((low.length:Int)+1-1)=(low.length:Int):=by rw[show(low.length:Int)+1-1=low.length by omega];exact IntWalk.i64_in _ (by omega)
 have i0:(0:Int)<=(low.length:Int):=by omega
 have i1:(low.length:Int)<(low.length:Int)+1:=by omega
 have j0:(0:Int)<=(f.fn:Int):=by omega
 have j1:(f.fn:Int)<(L.length:Int):=by omega
 have k0:(0:Int)<=(f.pc:Int):=by omega
 have k1:(f.pc:Int)<(cd.J6.length:Int):=by omega
 have H:=zh h;have HF:=zh hF;have HI:=zh hI;have HP:=zh hP;have C:=zh HH;have HL:=zh e5;have n7:=zh a9;have b1:=zh g6;have n8:=zh a8;have D:=zh (y9 w (.cells #[.int .i64 d,.int .i64 x] 74));have k6:=zh ((y7 w.heap.size w).alloc (y6 _) (.cells #[.int .i64 d,.int .i64 x] 74));clear h hF hI hP HH e5 a9 g6 hT f0 h8 e7 h4 a8 k4
 go_enter func49,ntmps49
 go_upto_region 1 with(fail)
 go_quiet (fail)
 have HD:=J9 (y7 w.heap.size w) nq;replace H:=zh (H.out.below HD);have HV:=zh (Vo.of HD (C4 H.out.lo (I0 (by have:=I7 H.out.K3;exact this))));have h9: ∀a,(w.drewN nq).cell? a=w.cell? a:=λ_=>rfl;rw[<-h9]at c0 c1 c2 c3 c4 d0 d1 d2 U u0 u1 u2 o0 o1;have b2:gf<(w.drewN nq).heap.size:=h6;have b3:go<(w.drewN nq).heap.size:=h7;have a4:mb<(w.drewN nq).heap.size:=I7 H.out.K3;have b4:Q<(w.drewN nq).heap.size:=by obtain⟨gx,cx,e,-,hx,-⟩:=H.out.T9.at (i:=low.length) (x:=(f,.slice Av f.vars.length cv,.slice As f.I8.length cs)) (by simp);injection e with e;injection e with e;subst e;exact I7 hx
 clear HD h9 h6 h7 D k6;generalize World.drewN _ _=w1 at H HV c0 c1 c2 c3 c4 d0 d1 d2 U u0 u1 u2 o0 o1 b2 b3 a4 b4|-
 go_upto_region 2 with(fail)
 have hA: ∀b k,b<w1.heap.size->(w1.alloc (.cells #[.int .i64 0,.int .i64 0] 74)).cell? ⟨b,k,none⟩=w1.cell? ⟨b,k,none⟩:=λb k hb=>((y7 w1.heap.size w1).alloc (y6 _) _).cell (p:=⟨b,k,none⟩) hb;refine L4 (by kernel_rfl) [(0,25,.pointer (some ⟨mb,0,none⟩)),(1,26,.pointer (some ⟨mb,0,none⟩)),(2,27,.pointer (some ⟨mb,0,none⟩)),(3,28,.pointer (some ⟨mb,0,none⟩)),(4,29,.slice (some ⟨gf,0,none⟩) L.length cf),(5,30,.pointer (some ⟨Q,low.length*4,none⟩)),(6,31,.pointer (some ⟨Q,low.length*4,none⟩)),(7,32,.pointer (some ⟨Q,low.length*4,none⟩)),(8,33,.int .i64 f.fn),(9,34,.pointer (some ⟨gf,f.fn*3,none⟩)),(10,35,.pointer (some ⟨gf,f.fn*3+2,none⟩)),(11,36,.slice (some ⟨go,0,none⟩) cd.J6.length co),(12,37,.pointer (some ⟨Q,low.length*4,none⟩)),(13,38,.pointer (some ⟨Q,low.length*4,none⟩)),(14,39,.pointer (some ⟨Q,low.length*4+1,none⟩)),(15,40,.int .i64 f.pc),(16,41,.pointer (some ⟨go,f.pc*2,none⟩)),(17,42,.agg #[.int .i64 d,.int .i64 x]),(18,6,.pointer (some ⟨w1.heap.size,0,none⟩))] [] _ _ rfl rfl [18,19] (λj=>match j with|0=>w1.drew|1=>w1.drew.alloc (.cells #[.int .i64 0,.int .i64 0] 74)|_=>w1.drew.alloc (.cells #[.int .i64 d,.int .i64 x] 74)) [(0,0),(0,1),(1,0),(1,1),(2,0),(2,1),(3,0),(3,1),(4,0),(4,1),(5,0),(5,1),(6,0),(6,1),(7,0),(7,1),(8,0),(8,1),(9,0),(9,1),(10,0),(10,1),(11,0),(11,1),(12,0),(12,1),(13,0),(13,1),(14,0),(14,1),(15,0),(15,1),(16,0),(16,1),(17,0),(17,1),(18,0),(19,1)] (by kernel_rfl) (by kernel_rfl) (by rfl) rfl ?_ ?_
 ·generalize hF:J8 _ _=F
  simp[J8]at hF;subst hF
  repeat' (first|refine List.forall_mem_cons.2 ⟨?_,?_⟩|exact List.forall_mem_nil _)
  all_goals
   intro o V;injection V with V
   subst V
  all_goals simp[X9,execOp,go_sem,hA,b2,b3,a4,b4,c0,d0,d1,u2,o0,o1,j0,j1,k0,k1]
 have ba:=((y7 w1.heap.size w1).alloc (y6 _) (.cells #[.int .i64 d,.int .i64 x] 74)).drew;have D:Hid ((w1.alloc (.cells #[.int .i64 d,.int .i64 x] 74)).drew.heap[w1.heap.size]?=_):=zh (y9 w1 (.cells #[.int .i64 d,.int .i64 x] 74));have k7:B<=w1.heap.size:=C4 H.out.lo (I0 a4);replace H:=zh (H.out.below ba);replace HV:=zh (HV.out.trans (Vo.of ba k7));clear ba hA c0 c1 c2 c3 c4 d0 d1 d2 U u0 u1 u2 o0 o1 b2 b3 a4 b4 j0 j1 k0 k1 i0 i1 z1 z3 f2 f3 f4 e1;simp only[J8,B6,C0,List.append_nil,List.foldl];go_simp;generalize(World.alloc _ _).drew=w2 at H HV D|-
 generalize w1.heap.size=bo at D|-
 obtain⟨⟨c0,c1,c2,c3,c4⟩,f2,f3,f4⟩:=zv H.out;have q0:=y5 D.out 0;have q1:=y5 D.out 1;have e8:jb (L.map Cf.pf).length cd.vars cd.J6.length (d,x):=by
  have:=b1.out.1;rw[D9]at this|-
  exact this
 have HQ:Hid (Y2 w w2):=zh HV.out.xi;have TC:=zh (Xd (L.map Cf.pf) (some ⟨gf,0,none⟩) cf main cd.vars cd.J6.length d x w2.drew e8 (by rw[D9];exact(HF.out.J0 HQ.out).J0 (.of (J5 w2))));rw[D9]at TC;obtain⟨b5,b6,-,-⟩:=b1.out;have i3:=jE L;have i4:J4 (L.map (·.params)) (d,x)<=7:=qL (λy hy=>by obtain⟨z,hz,rfl⟩:=List.mem_map.1 hy;exact(HP.out.yF z hz).params) (d,x);have X:J4 ((L.map Cf.pf).map Pf.params) (d,x)=po:=by rw[i3];exact d4.out
 rw[X]at TC;rw[d4.out]at b6 i4;clear X e8 i3
 go_upto_region 3 with(fail)
 go_cut[7] (λp W=>p=.int .i64 po/\Hid (Below w2.heap.size w2 W))
 case first=>
  go_region_law(go_simp;go_at_call 80;refine TC.out.mono ?_;rintro e w' ⟨rfl,hb⟩)
  all_goals
   go_wp2_with fail
   go_meet
   case rel=>exact⟨rfl,zh ((J5 w2).trans hb)⟩
 case rest=>
  rename World=>w3
  obtain⟨rfl,d5⟩:=hcut;have i5:B<=w2.heap.size:=C4 H.out.lo (I0 (I7 H.out.K3));replace H:=zh (H.out.below d5.out);replace HV:=zh (HV.out.trans (Vo.of d5.out i5));replace D:=zh ((d5.out.block bo (I7 D.out)).trans D.out);clear TC HQ c0 c1 c2 c3 c4 f2 f3 f4 q0 q1 i5 d5;obtain⟨k8,n9,o2,o3,o4,e2,-,-,d0,d1,d2,U,z1,z3,-⟩:=Z5 H.out;injection e2 with e2;injection e2 with e2
  subst e2;have hm:=HM.out;have k9:po<=f.I8.length:=b6;have f8:f.I8.length-m=po:=by omega
  have H3:=H;have l0:f.I8.length<=600:=by
   have h1:f.I8.length-J4 (L.map (·.params)) (d,x)+L3 (d,x)<=256:=b1.out.2.2.1;rw[d4.out]at h1;omega
  have em:IntKind.i64.wrap ((f.I8.length:Int)-(po:Int))=(m:Int):=by rw[show(f.I8.length:Int)-po=m by omega];exact IntWalk.i64_in _ (by omega)
  have a1:=H.out.T9.R9.yd.2.1;simp only at a1;have i0:(0:Int)<=(m:Int):=by omega
  have i1:(m:Int)<=(f.I8.length:Int):=by omega
  have i2:m<=f.I8.length:=by omega
  go_upto_region 5 with(fail)
  go_cut[10] (λp W=> ∃A2 c2,p=.slice A2 po c2/\Hid (W.ownsRow w3.heap.size 3 1 (.slice A2 po c2) po (iC (f.I8.drop m)))/\Hid (Below w3.heap.size w3 W))
  case first=>
   rcases(N9 a1).2 with rfl|⟨gs,rfl⟩
   ·have l1:cs=0:=by
     rcases N8 a1 with⟨e,-⟩|⟨g9,c9,e,-⟩
     ·injection e
     ·injection e with e;cases e
    have T:=yv (m:=m) (A':=none) (c':=cs-m) a1 (by omega) (.inl ⟨rfl,rfl,by omega⟩);rw[f8]at T;replace T:=zh T;clear l1
    go_wp2_with fail
    refine T.out.mono ?_;rintro e w' ⟨hb,A2,c2,rfl,V⟩
    go_wp2_with fail
    go_meet
    case rel=>exact⟨A2,c2,rfl,zh V,zh hb⟩
   ·by_cases o5:cs=m
    ·have hl:f.I8.length=m:=by have:=(N9 a1).1;omega
     have T:=yv (m:=m) (A':=some ⟨gs,0,none⟩) (c':=0) a1 (by omega) (.inr ⟨gs,rfl,.inr ⟨rfl,hl⟩⟩);rw[f8]at T;replace T:=zh T;clear hl
     go_wp2_with fail
     refine T.out.mono ?_;rintro e w' ⟨hb,A2,c2,rfl,V⟩
     go_wp2_with fail
     go_meet
     case rel=>exact⟨A2,c2,rfl,zh V,zh hb⟩
    ·have T:=yv (m:=m) (A':=some ⟨gs,m,none⟩) (c':=cs-m) a1 (by omega) (.inr ⟨gs,rfl,.inl rfl⟩)
     rw[f8]at T;replace T:=zh T
     go_wp2_with fail
     refine T.out.mono ?_;rintro e w' ⟨hb,A2,c2,rfl,V⟩
     go_wp2_with fail
     go_meet
     case rel=>exact⟨A2,c2,rfl,zh V,zh hb⟩
  case rest=>
   rename World=>w4
   obtain⟨Aa,ca,rfl,HA,a6⟩:=hcut;have l2:B<=w3.heap.size:=C4 H.out.lo (I0 (I7 H.out.K3));replace H:=zh (H.out.below a6.out);replace HV:=zh (HV.out.trans (Vo.of a6.out l2));replace D:=zh ((a6.out.block bo (I7 D.out)).trans D.out);have l3:=zh (IK.below a6.out);have o6:=a6.out.size;clear d0 d1 d2 U z1 z3 a6 a1 em i0 i1;have q0:=y5 D.out 0;have q1:=y5 D.out 1;have m3:B<=w4.heap.size:=C4 H.out.lo (I0 (I7 H.out.K3));have i6:=C.out.J0 HI.out HV.out;have i7:=zh i6;have l4:=zh (HF.out.J0 HV.out.xi);obtain⟨⟨c0,c1,c2,c3,c4⟩,f2,f3,f4⟩:=zv H.out;rw[z9,List.length_singleton]at c4;clear i6;rw[g8.out]at HA;have d6:xs.length=po:=by rw[<-g8.out,I6];omega
   go_upto_region 7 with(fail)
   clear q0;obtain⟨l5,l6,i8⟩:d≠17/\d≠18/\d≠20:=g7.out;have o7:(d==17)=false:=beq_eq_false_iff_ne.2 l5;have o8:(d==18)=false:=beq_eq_false_iff_ne.2 l6;obtain⟨a7,i9,u,-,R⟩:=H.out.ya;injection u with u;injection u with u
   subst u;obtain⟨k8,d7,d8,d9,e4,e2,ev,es,d0,d1,d2,U,z1,z3,m4⟩:=Z5 H.out;injection e2 with e2;injection e2 with e2
   injection ev with f6 f7 l7
   injection es with l8 l9 m0
   clear f7 l9;subst e2 f6 l7 l8 m0;have k1: ¬((cs:Int)<(m:Int)):=by omega
   have k2:(m:Int)<=(cs:Int):=by omega
   have o9:(d==20)=false:=beq_eq_false_iff_ne.2 i8;obtain⟨j2,f9⟩:=zdS H.out m i2;have b7:=zh j2;have g0:=zh f9;have g1:=zh (X6 HA.out R (by decide) (low.length*4+3) (.slice As m cs));have a5:=zh ((f9.xi.K3 bo _ _ _ D.out (.inl rfl)).trans D.out);clear j2 f9 q1 c0 c1 c2 c3 c4 f2 f3 f4 R
   go_upto_region 27 with(fail)
   clear d0 d1 d2 U z1 z3 k1 k2;generalize World.setCell _ _ _=w5 at b7 g0 g1 a5|-
   obtain⟨a7,i9,u,-,R⟩:=b7.out.ya;injection u with u;injection u with u
   subst u;obtain⟨a7,d7,d8,d9,e4,u,-,-,d0,d1,d2,U,z1,z3,-⟩:=Z5 b7.out;injection u with u;injection u with u
   subst u;have ep:IntKind.i64.wrap ((f.pc:Int)+1)=((f.pc+1:Nat):Int):=by rw[show((f.pc+1:Nat):Int)=(f.pc:Int)+1 by omega];exact IntWalk.i64_in _ (by omega)
   simp only at d1;obtain⟨j3,g2⟩:=Yk b7.out (f.pc+1);have n:=zh j3;have g3:=zh (g0.out.trans g2);have b8:=zh (X6 g1.out R (by decide) (low.length*4+1) (.int .i64 ((f.pc+1:Nat):Int)));have b9:=zh ((g2.xi.K3 bo _ _ _ a5.out (.inl rfl)).trans a5.out);clear j3 g2 R d0 d2 U z3
   go_upto_region 28 with(fail)
   rw[show(f.pc:Int)+1=((f.pc+1:Nat):Int) by omega];clear d1 z1 ep b7 g0 g1 a5;generalize World.setCell _ _ _=w6 at n g3 b8 b9|-
   have j4:S0.length=m:=by rw[<-h5.out,I5];omega
   rw[h5.out]at n;rw[<-j4]at n;have m5:S0.length<=600:=by omega
   clear j4;have N:=zh (C.out.J0 i7.out g3.out);have O:=zh ((HV.out.qh C.out.le).trans (g3.out.qh C.out.le));have q0:=y5 b9.out 0;have q1:=y5 b9.out 1;have Y:Hid (Q9 (d,x) xs=[]):=zh (by simp[Q9,i8]);clear H3 H HV HF HI i7 l4 D HA l3;obtain⟨a7,d7,d8,d9,e4,u,-,-,d0,d1,d2,U,z1,z3,-⟩:=Z5 n.out;injection u with u;injection u with u
   subst u;simp only at d0 d1 d2 U;obtain⟨a7,i9,u,-,R⟩:=n.out.ya;injection u with u;injection u with u
   subst u;have j5:=I7 R;clear R d0 d1;have a2:=b5.2.2.1;have X:=d4.out;clear b5 b6 i4
   by_cases h1:d=1
   ·
    subst h1
    go_upto_region 31 with(fail)
    obtain⟨A',c',w9,r4,x3,y3,q,r⟩:=Xh (n.out.below (J5 w6)) x (by simp only;omega);have P:=zh q;have G:=(Vo.of (J5 w6) (C4 n.out.lo (I0 (I7 n.out.K3)))).trans r;have J:=zh (C.out.J0 N.out G);have K:=zh (O.out.trans (G.qh C.out.le));have c5:=(((y7 w6.heap.size w6).alloc (y6 _) (.cells #[.int .i64 x] 3)).cell (p:=⟨Q,low.length*4+3,none⟩) j5).trans U;simp only at r4 x3;clear q r G n N O;refine L4 (by kernel_rfl) [(0,183,.pointer (some ⟨Q,low.length*4,none⟩)),(1,184,.pointer (some ⟨Q,low.length*4,none⟩)),(2,185,.pointer (some ⟨Q,low.length*4,none⟩)),(3,186,.pointer (some ⟨Q,low.length*4+3,none⟩)),(4,187,.slice As S0.length cs),(5,188,.pointer (some ⟨bo,1,none⟩)),(6,189,.int .i64 x),(7,190,.slice (some ⟨w6.drew.heap.size,0,none⟩) 1 1),(8,191,.slice A' (S0.length+1) c'),(9,192,.pointer (some ⟨Q,low.length*4,none⟩)),(10,193,.pointer (some ⟨Q,low.length*4+3,none⟩))] [] _ _ rfl rfl [7,8,11] (λz=>match z with|0=>w6.drew|1=>w6.drew.alloc (.cells #[.int .i64 x] 3)|2=>w9|_=>w9.setCell ⟨Q,low.length*4+3,none⟩ (.slice A' (S0.length+1) c')) [(0,0),(0,1),(0,2),(1,0),(1,1),(2,0),(2,1),(3,0),(3,1),(4,0),(4,1),(5,0),(6,0),(7,0),(8,1),(9,2),(10,2),(11,2)] (by kernel_rfl) (by kernel_rfl) (by rfl) rfl ?_ ?_
    ·generalize hF:J8 _ _=F
     simp[J8]at hF;subst hF
     repeat' (first|refine List.forall_mem_cons.2 ⟨?_,?_⟩|exact List.forall_mem_nil _)
     all_goals
      intro o V;injection V with V
      subst V
     rotate_left 14
     ·exact O4 rfl rfl rfl r4
     all_goals simp[X9,execOp,go_sem,U,c5,q1,x3,y3]
    clear r4 x3 y3 U c5 q1;simp only[J8,B6,C0,List.append_nil,List.foldl];go_simp;clear a2 X;generalize World.setCell _ _ _=m1 at P K J|-
    go_wp2_with fail
    go_ret;exact .mk (M:=⟨0,value,low.map Prod.fst++[⟨f.fn,f.pc+1,f.vars,S0++[x]⟩]⟩) (by simp[M8]) P.out (by simp) K.out (by rw[Y.out,List.append_nil];exact J.out)
   by_cases h2:d=2
   ·
    subst h2
    go_upto_region 33 with(fail)
    obtain⟨a3,g4⟩:=a2 (by simp);simp[Y1]at a3 g4;obtain⟨j,rfl⟩: ∃j:Nat,x=j:=⟨x.toNat,by omega⟩;obtain⟨y,hy⟩: ∃y,f.vars[j]?=some y:=⟨_,y8 (by omega)⟩;obtain⟨gv,rfl,v0⟩:=qI n.out.T9.R9.yd.1 (k:=j) (a:=y) hy;obtain⟨A',c',w9,r4,x3,y3,q,r⟩:=Xh (n.out.below (J5 w6)) y (by simp only;omega);have P:=zh q;have G:=(Vo.of (J5 w6) (C4 n.out.lo (I0 (I7 n.out.K3)))).trans r;have J:=zh (C.out.J0 N.out G);have K:=zh (O.out.trans (G.qh C.out.le));have c5:=(((y7 w6.heap.size w6).alloc (y6 _) (.cells #[.int .i64 y] 3)).cell (p:=⟨Q,low.length*4+3,none⟩) j5).trans U;have j0:(0:Int)<=(j:Int):=by omega
    have j1:(j:Int)<(f.vars.length:Int):=by omega
    have c6:Hid (M8 L hf value (low.map Prod.fst) f (2,(j:Int)) S0 xs=(⟨0,value,low.map Prod.fst++[⟨f.fn,f.pc+1,f.vars,S0++[y]⟩]⟩,false)):=zh (by simp[M8,hy]);simp only at r4 x3;clear q r G n N O hy;refine L4 (by kernel_rfl) [(0,196,.pointer (some ⟨Q,low.length*4,none⟩)),(1,197,.pointer (some ⟨Q,low.length*4,none⟩)),(2,198,.pointer (some ⟨Q,low.length*4,none⟩)),(3,199,.pointer (some ⟨Q,low.length*4+3,none⟩)),(4,200,.slice As S0.length cs),(5,201,.pointer (some ⟨Q,low.length*4,none⟩)),(6,202,.pointer (some ⟨Q,low.length*4,none⟩)),(7,203,.pointer (some ⟨Q,low.length*4+2,none⟩)),(8,204,.slice (some ⟨gv,0,none⟩) f.vars.length cv),(9,205,.pointer (some ⟨bo,1,none⟩)),(10,206,.int .i64 j),(11,207,.pointer (some ⟨gv,j,none⟩)),(12,208,.int .i64 y),(13,209,.slice (some ⟨w6.drew.heap.size,0,none⟩) 1 1),(14,210,.slice A' (S0.length+1) c'),(15,211,.pointer (some ⟨Q,low.length*4,none⟩)),(16,212,.pointer (some ⟨Q,low.length*4+3,none⟩))] [] _ _ rfl rfl [13,14,17] (λz=>match z with|0=>w6.drew|1=>w6.drew.alloc (.cells #[.int .i64 y] 3)|2=>w9|_=>w9.setCell ⟨Q,low.length*4+3,none⟩ (.slice A' (S0.length+1) c')) [(0,0),(0,1),(0,2),(1,0),(1,1),(2,0),(2,1),(3,0),(3,1),(4,0),(4,1),(5,0),(6,0),(7,0),(8,0),(9,0),(10,0),(11,0),(12,0),(13,0),(14,1),(15,2),(16,2),(17,2)] (by kernel_rfl) (by kernel_rfl) (by rfl) rfl ?_ ?_
    ·generalize hF:J8 _ _=F
     simp[J8]at hF;subst hF
     repeat' (first|refine List.forall_mem_cons.2 ⟨?_,?_⟩|exact List.forall_mem_nil _)
     all_goals
      intro o V;injection V with V
      subst V
     rotate_left 20
     ·exact O4 rfl rfl rfl r4
     all_goals simp[X9,execOp,go_sem,d2,U,c5,q1,v0,j0,j1,x3,y3]
    clear r4 x3 y3 d2 U c5 q1 v0;simp only[J8,B6,C0,List.append_nil,List.foldl];go_simp;clear a2 X;generalize World.setCell _ _ _=m1 at P K J|-
    go_wp2_with fail
    go_ret;exact .mk c6.out P.out (by simp) K.out (by rw[Y.out,List.append_nil];exact J.out)
   by_cases h3:d=3
   ·
    subst h3;obtain⟨a3,g4⟩:=a2 (by simp);simp[Y1]at a3 g4;obtain⟨j,rfl⟩: ∃j:Nat,x=j:=⟨x.toNat,by omega⟩;have c7:po=1:=by rw[<-X];simp[J4]
    obtain⟨a,rfl⟩: ∃a,xs=[a]:=List.length_eq_one_iff.1 (by omega);obtain⟨ga,rfl,a0⟩:=qI b8.out (k:=0) (a:=a) rfl;subst c7;obtain⟨y,hy⟩: ∃y,f.vars[j]?=some y:=⟨_,y8 (by omega)⟩;obtain⟨gv,rfl,v0⟩:=qI n.out.T9.R9.yd.1 (k:=j) (a:=y) hy;have vf:=(n.out.T9.R9.yd.1).frozenAt j;obtain⟨q,r⟩:=zgI (n.out.below (J5 w6)) j a;have P:=zh q;have G:=(Vo.of (J5 w6) (C4 n.out.lo (I0 (I7 n.out.K3)))).trans r;have J:=zh (C.out.J0 N.out G);have K:=zh (O.out.trans (G.qh C.out.le));have j0:(0:Int)<=(j:Int):=by omega
    have j1:(j:Int)<(f.vars.length:Int):=by omega
    clear q r G n N O hy
    go_upto_region 35 with(fail)
    refine L4 (by kernel_rfl) [(0,215,.pointer (some ⟨Q,low.length*4,none⟩)),(1,216,.pointer (some ⟨Q,low.length*4,none⟩)),(2,217,.pointer (some ⟨Q,low.length*4+2,none⟩)),(3,218,.slice (some ⟨gv,0,none⟩) f.vars.length cv),(4,219,.pointer (some ⟨bo,1,none⟩)),(5,220,.int .i64 j),(6,221,.slice (some ⟨ga,0,none⟩) 1 ca),(7,222,.pointer (some ⟨ga,0,none⟩)),(8,223,.int .i64 a),(9,224,.pointer (some ⟨gv,j,none⟩))] [] _ _ rfl rfl [10] (λz=>match z with|0=>w6.drew|_=>w6.drew.setCell ⟨gv,j,none⟩ (.int .i64 a)) [(0,0),(1,0),(2,0),(3,0),(4,0),(5,0),(6,0),(7,0),(8,0),(9,0),(10,0)] (by kernel_rfl) (by kernel_rfl) (by rfl) rfl ?_ ?_
    ·generalize hF:J8 _ _=F
     simp[J8]at hF;subst hF
     repeat' (first|refine List.forall_mem_cons.2 ⟨?_,?_⟩|exact List.forall_mem_nil _)
     all_goals
      intro o V;injection V with V
      subst V
     all_goals simp[X9,execOp,go_sem,d2,q1,v0,vf,a0,j0,j1]
    clear d2 U q1 v0 vf a0;simp only[J8,B6,C0,List.append_nil,List.foldl];go_simp
    go_wp2_with fail
    go_ret;exact .mk (M:=⟨0,value,low.map Prod.fst++[⟨f.fn,f.pc+1,f.vars.set j a,S0⟩]⟩) (by simp[M8]) P.out (by simp) K.out (by rw[Y.out,List.append_nil];exact J.out)
   have n1:(d==1)=false:=beq_eq_false_iff_ne.2 h1;have n2:(d==2)=false:=beq_eq_false_iff_ne.2 h2;have n3:(d==3)=false:=beq_eq_false_iff_ne.2 h3;clear d2 U z3
   by_cases j6:d=15
   ·
    subst j6;obtain⟨a3,-⟩:=a2 (by simp);obtain⟨j,rfl⟩: ∃j:Nat,x=j:=⟨x.toNat,by simp only at a3;omega⟩;obtain⟨q,r⟩:=Yk n.out j;have P:=zh q;have J:=zh (C.out.J0 N.out r);have K:=zh (O.out.trans (r.qh C.out.le));clear q r N O;obtain⟨a7,d7,d8,d9,e4,u,-,-,d0,d1,d2,U,z1,z3,-⟩:=Z5 n.out;injection u with u;injection u with u
    subst u;clear d0 d2 U z3 n
    go_wp2_with fail
    go_ret;exact .mk (M:=⟨0,value,low.map Prod.fst++[⟨f.fn,j,f.vars,S0⟩]⟩) (by simp[M8]) P.out (by simp) K.out (by rw[Y.out,List.append_nil];exact J.out)
   have p0:(d==15)=false:=beq_eq_false_iff_ne.2 j6
   by_cases e9:d=16
   ·
    subst e9;obtain⟨a3,-⟩:=a2 (by simp);obtain⟨j,rfl⟩: ∃j:Nat,x=j:=⟨x.toNat,by simp only at a3;omega⟩;have c7:po=1:=by rw[<-X];simp[J4]
    obtain⟨a,rfl⟩: ∃a,xs=[a]:=List.length_eq_one_iff.1 (by omega);obtain⟨ga,rfl,a0⟩:=qI b8.out (k:=0) (a:=a) rfl;subst c7
    by_cases h0:a=0
    ·subst h0
     obtain⟨q,r⟩:=Yk n.out j;have P:=zh q;have J:=zh (C.out.J0 N.out r);have K:=zh (O.out.trans (r.qh C.out.le));clear q r N O;obtain⟨a7,d7,d8,d9,e4,u,-,-,d0,d1,d2,U,z1,z3,-⟩:=Z5 n.out;injection u with u;injection u with u
     subst u;clear d0 d2 U z3 n
     go_wp2_with fail
     go_ret;exact .mk (M:=⟨0,value,low.map Prod.fst++[⟨f.fn,j,f.vars,S0⟩]⟩) (by simp[M8]) P.out (by simp) K.out (by rw[Y.out,List.append_nil];exact J.out)
    ·have p1:(a==0)=false:=beq_eq_false_iff_ne.2 h0
     have c6:Hid (M8 L hf value (low.map Prod.fst) f (16,(j:Int)) S0 [a]=(⟨0,value,low.map Prod.fst++[⟨f.fn,f.pc+1,f.vars,S0⟩]⟩,false)):=zh (by simp[M8,h0])
     go_wp2_with fail
     go_ret;exact .mk c6.out n.out (by simp) O.out (by rw[Y.out,List.append_nil];exact N.out)
   have p2:(d==16)=false:=beq_eq_false_iff_ne.2 e9
   by_cases j7:d=19
   ·
    subst j7;have c7:po=1:=by rw[<-X];simp[J4]
    obtain⟨a,rfl⟩: ∃a,xs=[a]:=List.length_eq_one_iff.1 (by omega);obtain⟨ga,rfl,a0⟩:=qI b8.out (k:=0) (a:=a) rfl;subst c7;have r:=(n.out.cell 3 (.int .i64 a)).2.2;have P:=zh (n.out.yld a);have J:=zh (C.out.J0 N.out r);have K:=zh (O.out.trans (r.qh C.out.le));obtain⟨⟨c0,c1,c2,c3,c4⟩,f2,f3,f4⟩:=zv n.out;clear r N O n c0 c1 c2 c4 f2 f4
    go_wp2_with fail
    go_ret;exact .mk (M:=⟨0,a,low.map Prod.fst++[⟨f.fn,f.pc+1,f.vars,S0⟩]⟩) (by simp[M8]) P.out (by simp) K.out (by rw[Y.out,List.append_nil];exact J.out)
   have p3:(d==19)=false:=beq_eq_false_iff_ne.2 j7
   by_cases h4:d=4
   ·
    subst h4
    go_wp2_with fail
    go_ret;exact .mk (M:=⟨0,value,low.map Prod.fst++[⟨f.fn,f.pc+1,f.vars,S0⟩]⟩) (by simp[M8]) n.out (by simp) O.out (by rw[Y.out,List.append_nil];exact N.out)
   have n4:(d==4)=false:=beq_eq_false_iff_ne.2 h4;have j8:=b1.out.1.1;have j9:=b1.out.1.2.1;simp only at j8 j9;have g5:5<=d:=by omega
   have c8:d<=14:=by omega
   have k3:xs.length=if d=5\/d=6 then 1 else 2:=by rw[d6,<-X];exact zbf g5 c8
   have RC:=zh (zcO n.out (by simp only;omega) d g5 c8 xs Aa ca (by have:=Y9 (F:=λ_=>True) (d6▸b8.out) (λ_ _=>trivial);exact d6.symm▸this) k3);rw[d6]at RC;have m2:=zh (Yq (L:=L) (hf:=hf) (v:=value) (fs:=low.map Prod.fst) (f:=f) (x:=x) (l:=S0) (xs:=xs) g5 c8);clear j8 j9 k3 a2 X
   go_wp2_with fail
   refine RC.out.mono ?_;rintro e w9 ⟨rfl,r,q⟩;have P:=zh q;have J:=zh (C.out.J0 N.out r);have K:=zh (O.out.trans (r.qh C.out.le));clear r q
   go_wp2_with fail
   go_ret;have q:=P.out;have hr:=m2.out;cases hk:rkM d xs with
   |none=>rw[hk]at q hr;exact .mk hr q rfl K.out (by rw[Y.out,List.append_nil];exact J.out)
   |some y=>
    rw[hk]at q hr;obtain⟨s',q⟩:=q;exact .mk hr q (by simp) K.out (by rw[Y.out,List.append_nil];exact J.out)
theorem zgK(p:zk L main)(d:L.length<=16)(q:zT Z B g lb hf I){c:Nat}{A:Option Addr}{low:List Fm}{f:Fq}{v s:Value}{w:World}{t:List (Int×List Int)}
 (h:zA w B mb Af L.length cf main 0 value A c (low++[(f,v,s)])) (r:M3 w (.slice Af L.length cf) (L.map Cf.pf)) (u:I w B.S t) (m:Hid (t.length<1000000)) (x:jC L f) (i:low.length+1<=32) (a: ∀y∈low,y.1.I8.length<=600/\y.1.pc<=4000) (z: ∀c∈L,c.J6.length<=4000):
 Calls prog 49 #[.pointer (some ⟨mb,0,none⟩),.func (.func g) #[] lb] w (StV L main Z B mb Af cf value hf I t (low.map Prod.fst) f w):=by
 by_cases j: ∃o n,xw L f=some (o,n)/\(o.1=17\/o.1=18\/o.1=20)
 ·obtain⟨o,n,e,C⟩:=j
  exact zhr p d q h r u m x i a z λk l b=>by rw[e]at b;injection b with b;injection b with D E;subst D;exact C
 ·exact zhK p d q h r u x i a z λk l b=>⟨λh=>j ⟨k,l,b,.inl h⟩,λh=>j ⟨k,l,b,.inr (.inl h)⟩,λh=>j ⟨k,l,b,.inr (.inr h)⟩⟩
end
theorem zec(L:List Cf)(main:Nat)(s:zk L main)(n:L.length<=16)(t: ∀c∈L,c.J6.length<=4000)(A:Option Addr)(cp:Nat)(w:World)(u:M3 w (.slice A L.length cp) (L.map Cf.pf)){M:Mc}(x:jJ L main M){y:Option Addr}{z:Nat}(B:yE w y z (K4 M)):
 Calls prog 38 #[.agg #[.slice A L.length cp,.int .i64 main],.slice y (K4 M).length z] w λe w'=>e=.returned (.int .i64 0)/\Below w.heap.size w w':=by
 have d:=(y7 w.heap.size w).alloc (y6 _) (.cells #[.slice A L.length cp,.int .i64 main] 26);have b:=zh (y9 w (.cells #[.slice A L.length cp,.int .i64 main] 26));have h:=zh (u.J0 (.of d));have I:=zh B;have J:=zh x;have f:=zh d;have C:=zh s;have D:=zh t;clear d u s t B x
 go_enter func38,ntmps38
 go_upto_region 1 with(fail)
 generalize World.alloc _ _=K at b f h|-
 generalize i:w.heap.size=E at b f|-
 have g:=zh i;clear i;have o:=y5 b.out 0;have p:=y5 b.out 1;have F:=zh (QM L main C.out n D.out A cp K h.out)
 go_wp2_with fail
 refine F.out.mono ?_;rintro e G ⟨m,v,xE,rfl,j,k⟩;have a:=I7 b.out;replace b:=zh ((m.block E a).trans b.out);replace h:=zh (h.out.J0 (.of m));replace f:Hid (Below E w G):=zh (f.out.trans (m.mono (I0 a)));have H:=zh (zdV L main C.out D.out A cp G h.out j k J.out (I.out.low (by rw[g.out];exact f.out)));clear m o p F a j k;have o:=y5 b.out 0;have p:=y5 b.out 1
 go_wp2_with fail
 refine H.out.mono ?_;rintro e N ⟨l,O,P,Q,R,rfl,-,-⟩;have q:=f.out.size;rw[g.out]at q;have r:=zh (f.out.trans (l.mono q));clear l H o p q
 go_wp2_with fail
 go_ret;exact⟨rfl,by rw[g.out];exact r.out⟩
theorem S8.mono{w:World}{B d:Bd}{o c:Nat}{A:Option Addr}{l:List Fm}(h:S8 w B o A c l)(f:d.n<=B.n)(p:JP w d)(hs: ∀k,d.S k->k<B.n):S8 w d o A c l:=by
 refine⟨h.jq.mono f,p,?_⟩;obtain⟨-,j,a⟩:=h.R9;exact⟨j,λi x b=>⟨(a i x b).v.mono f,(a i x b).s.mono f,(a i x b).lv,(a i x b).ls,λg e m=>by have:=((a i x b).v.lt g e).1;have:=hs g m;omega,λg e m=>by have:=((a i x b).s.lt g e).1;have:=hs g m;omega⟩⟩
theorem zA.mono{w:World}{B a:Bd}{b d e c:Nat}{f A:Option Addr}{main mode value:Int}{l:List Fm}(h:zA w B b f d e main mode value A c l)(g:a.n<=B.n)(i:JP w a)(hs: ∀k,a.S k->k<B.n):zA w a b f d e main mode value A c l:=⟨C4 g h.lo,h.K3,h.T9.mono g i hs⟩
def qt(P:List Cf)(host:R4):Nat->Mc->List (Int×List Int)
 |fuel,M=>
  if M.mode≠0 then[]else
  match fuel,M.P0.getLast? with
  |0,_=>[]
  |_,none=>[]
  |fuel+1,some f=>
   let r:=R5 P host M.value M.P0.dropLast f
   Y5 P f++(if r.2 then[]else qt P host fuel r.1)
end Go.Proofs.YtalgmjmibamdfaaGreatDoor
