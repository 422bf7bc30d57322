/- Merged. -/
import Derived.Test.YtalgmjmibamdfaaGreatDoorCO15
set_option linter.all false
set_option maxHeartbeats 16000000
set_option maxRecDepth 100000
namespace Go.Proofs.YtalgmjmibamdfaaGreatDoor
open Go.Proofs.Tryz
open Go.RowKit Tw
def Q9(o:S3)(args:List Int):List (Int×List Int):=if o.1=20 then[(o.2/8,args)]else[]
def Y5(P:List Cf)(f:Fq):List (Int×List Int):=match xw P f with
 |none=>[]
 |some (o,_)=>Q9 o (f.I8.drop (f.I8.length-zeV P o))
structure Qh(Z B:Nat)(w w':World):Prop where
 os:w'.os=w.os
 tape:w'.tape=w.tape
 output:w'.output=w.output
 low: ∀k,k<Z->w'.heap[k]?=w.heap[k]?
 q:Y2 w w'
 size:w.heap.size<=w'.heap.size
 K3: ∀(k:Nat)(cs:Array Value)(t:Nat)(fr:Nat×Nat),k<B->w.heap[k]?=some (.cells cs t fr)-> ¬xo t->w'.heap[k]?=w.heap[k]?
 vh: ∀(k:Nat)(cs:Array Value)(t:Nat)(fr:Nat×Nat),w.heap[k]?=some (.cells cs t fr)-> ¬Vt0 t-> ¬xo t->w'.heap[k]?=w.heap[k]?
theorem Qh.trans{Z B:Nat}{w w' w2:World}(h:Qh Z B w w')(b:Qh Z B w' w2):Qh Z B w w2:=⟨b.os.trans h.os,b.tape.trans h.tape,b.output.trans h.output,λk a=>(b.low k a).trans (h.low k a),h.q.trans b.q,C4 h.size b.size,λk c t d a e f=>(b.K3 k c t d a ((h.K3 k c t d a e f).trans e) f).trans (h.K3 k c t d a e f),λk c t d a i j=>(b.vh k c t d ((h.vh k c t d a i j).trans a) i j).trans (h.vh k c t d a i j)⟩
theorem Vo.qh{Z:Nat}{B:Bd}{w w':World}(h:Vo B w w')(e:Z<=B):Qh Z B w w':=⟨h.O7.os,h.O7.tape,h.O7.output,λk a=>h.O7.block k (by omega),h.xi,h.O7.size,λk _ _ _ a _ _=>h.O7.block k a,λk b t c a d _=>h.K3 k b t c a λh=>d h.t0⟩
theorem Hk.xi{Z:Nat}{w w':World}(h:Hk Z w w'):Y2 w w':=⟨λg a t b c d=>h.K3 g a t b c (by unfold xo;rcases d with rfl|rfl<;>decide)⟩
theorem Hk.qh{Z B:Nat}{w w':World}(h:Hk Z w w'):Qh Z B w w':=⟨h.os,h.tape,h.output,h.low,h.xi,h.size,λk a t b _ c d=>h.K3 k a t b c d,λk a t b e _ f=>h.K3 k a t b e f⟩
theorem Qh.prog{Z B b:Nat}{w w':World}{a:Array Value}{c:Nat×Nat}(h:Qh Z B w w')(d:w.heap[b]?=some (.cells a 26 c)):w'.heap[b]?=some (.cells a 26 c):=(h.vh b _ _ _ d (by simp[Vt0]) (by unfold xo;decide)).trans d
section
variable {L:List Cf}{main:Nat}{Z:Nat}{B:Bd}{mb cf g:Nat}{Af:Option Addr}{value:Int}{hf:R4}{lb:Array Value}{I:World->(Nat->Prop)->List (Int×List Int)->Prop}
def StV(L:List Cf)(main Z B mb:Nat)(Af:Option Addr)(cf:Nat)(value:Int)(hf:R4)(I:World->(Nat->Prop)->List (Int×List Int)->Prop)(t:List (Int×List Int))(fs:List Fq)(f:Fq)(w:World)(e:Ending)(w':World):Prop:=
 e=.returned (.bool (R5 L hf value fs f).2)/\ ∃S,(∃A c l,zA w' ⟨B,S⟩ mb Af L.length cf main (R5 L hf value fs f).1.mode (R5 L hf value fs f).1.value A c l/\l.map Prod.fst=(R5 L hf value fs f).1.P0)/\Qh Z B w w'/\I w' S (t++Y5 L f)
theorem zbf{ps:List Nat}{d x:Int}(a:5<=d)(b:d<=14):J4 ps (d,x)=if d=5\/d=6 then 1 else 2:=by
 have:d=5\/d=6\/d=7\/d=8\/d=9\/d=10\/d=11\/d=12\/d=13\/d=14:=by omega
 rcases this with rfl|rfl|rfl|rfl|rfl|rfl|rfl|rfl|rfl|rfl<;>simp[J4]
theorem Yq{L:List Cf}{hf:R4}{v:Int}{fs:List Fq}{f:Fq}{d x:Int}{l xs:List Int}(a:5<=d)(b:d<=14):
 M8 L hf v fs f (d,x) l xs=match rkM d xs with|some y=>(⟨0,v,fs++[⟨f.fn,f.pc+1,f.vars,l++[y]⟩]⟩,false)|none=>(yf 17,false):=by
 have:d=5\/d=6\/d=7\/d=8\/d=9\/d=10\/d=11\/d=12\/d=13\/d=14:=by omega
 rcases this with rfl|rfl|rfl|rfl|rfl|rfl|rfl|rfl|rfl|rfl<;>simp only[M8,rkM,Int.reduceEq,if_true,if_false]<;>(try rfl)<;>(try(split<;>simp_all))
def StO(r:Mc×Bool)(Z B mb:Nat)(Af:Option Addr)(a cf main:Nat)(I:World->(Nat->Prop)->List (Int×List Int)->Prop)(t:List (Int×List Int))(w:World)(e:Ending)(w':World):Prop:=
 e=.returned (.bool r.2)/\ ∃S,(∃A c l,zA w' ⟨B,S⟩ mb Af a cf main r.1.mode r.1.value A c l/\l.map Prod.fst=r.1.P0)/\Qh Z B w w'/\I w' S t
theorem StO.mk{r:Mc×Bool}{n a c:Nat}{S:Nat->Prop}{A:Option Addr}{l:List Fm}{b:Bool}{M:Mc}{t:List (Int×List Int)}{w w':World}(d:r=(M,b))(h:zA w' ⟨n,S⟩ mb Af a cf main M.mode M.value A c l)(e:l.map Prod.fst=M.P0)(f:Qh Z n w w')(i:I w' S t):StO r Z n mb Af a cf main I t w (.returned (.bool b)) w':=by
 subst d;exact⟨rfl,S,⟨A,c,l,h,e⟩,f,i⟩
theorem zhr(hP:zk L main)(p0:L.length<=16)(HH:zT Z B g lb hf I){c:Nat}{A:Option Addr}{low:List Fm}{f:Fq}{v s:Value}{w:World}{t:List (Int×List Int)}
 (h:zA w B mb Af L.length cf main 0 value A c (low++[(f,v,s)])) (hF:M3 w (.slice Af L.length cf) (L.map Cf.pf)) (hI:I w B.S t) (m7:Hid (t.length<1000000)) (hT:jC L f) (p1:low.length+1<=32) (f8: ∀y∈low,y.1.I8.length<=600/\y.1.pc<=4000) (h4: ∀c∈L,c.J6.length<=4000) (f9: ∀o h,xw L f=some (o,h)->o.1=17\/o.1=18\/o.1=20):
 Calls prog 49 #[.pointer (some ⟨mb,0,none⟩),.func (.func g) #[] lb] w (StV L main Z B mb Af cf value hf I t (low.map Prod.fst) f w):=by
 obtain⟨cd,⟨d,x⟩,a9,b0,j8,m8,p2,g6⟩:=hT.jN hP;have j9:=zh (f9 _ _ b0);clear f9;have E:StV L main Z B mb Af cf value hf I t (low.map Prod.fst) f w=StO (M8 L hf value (low.map Prod.fst) f (d,x) (f.I8.take (f.I8.length-J4 (L.map (·.params)) (d,x))) (f.I8.drop (f.I8.length-J4 (L.map (·.params)) (d,x)))) Z B mb Af L.length cf main I (t++Q9 (d,x) (f.I8.drop (f.I8.length-J4 (L.map (·.params)) (d,x)))) w:=by
  funext e w'
  have h1:R5 L hf value (low.map Prod.fst) f=M8 L hf value (low.map Prod.fst) f (d,x) (f.I8.take (f.I8.length-J4 (L.map (·.params)) (d,x))) (f.I8.drop (f.I8.length-J4 (L.map (·.params)) (d,x))):=by unfold R5;rw[b0];rfl
  have h2:Y5 L f=Q9 (d,x) (f.I8.drop (f.I8.length-J4 (L.map (·.params)) (d,x))):=by unfold Y5;rw[b0];rfl
  unfold StV StO;rw[h1,h2]
 rw[E];clear E;obtain⟨po,b1⟩: ∃z,J4 (L.map (·.params)) (d,x)=z:=⟨_,rfl⟩;obtain⟨m,hm⟩: ∃m,f.I8.length-po=m:=⟨_,rfl⟩;obtain⟨xs,g8⟩: ∃z,f.I8.drop m=z:=⟨_,rfl⟩;obtain⟨S0,h3⟩: ∃z,f.I8.take m=z:=⟨_,rfl⟩;rw[b1,hm,g8,h3];have b2:=zh b1;have HM:=zh hm;have k3:=zh g8;have h5:=zh h3;clear b1 hm g8 h3;obtain⟨gc,Av,cv,As,R,rfl,rfl,rfl,d0,d1,d2,d3,z1,z3,p3⟩:=Z5 h;obtain⟨⟨c0,c1,N,c3,c4⟩,f2,f3,f4⟩:=zv h;rw[z9,List.length_singleton]at c4;obtain⟨gf,p4,vo,hv,-,k4,u0,u1,u2,g0⟩:=hF.at (zi a9);injection hv with C h6 O
 clear h6;subst C O;obtain⟨go,co,rfl,-,k5,k6⟩:=g0.at;obtain⟨o0,o1⟩:=k6 f.pc (d,x) (by show(cd.J6.map Prod.fst)[f.pc]?=_;rw[G3,g6];rfl);simp only[Cf.pf,D9]at u0 u1 u2 o0 o1;have p5:f.fn<L.length:=(List.getElem?_eq_some_iff.1 a9).1;have p6:f.pc<cd.J6.length:=(List.getElem?_eq_some_iff.1 g6).1;have p7:f.pc<=4000:=by have:=h4 cd (B7 a9);omega
 have e0:((low.length+1:Nat):Int)=(low.length:Int)+1:=by omega
 have e1:IntKind.i64.wrap ((low.length:Int)+1-1)=(low.length:Int):=by rw[show(low.length:Int)+1-1=low.length by omega];exact IntWalk.i64_in _ (by omega)
 have i0:(0:Int)<=(low.length:Int):=by omega
 have i1:(low.length:Int)<(low.length:Int)+1:=by omega
 have j0:(0:Int)<=(f.fn:Int):=by omega
 have j1:(f.fn:Int)<(L.length:Int):=by omega
 have k0:(0:Int)<=(f.pc:Int):=by omega
 have k1:(f.pc:Int)<(cd.J6.length:Int):=by omega
 have H:=zh h;have HF:=zh hF;have HI:=zh hI;have HP:=zh hP;have n:=zh HH;have HL:=zh f8;have p8:=zh b0;have h7:=zh j8;have p9:=zh a9;have l:=zh (y9 w (.cells #[.int .i64 d,.int .i64 x] 74));have m9:=zh ((y7 w.heap.size w).alloc (y6 _) (.cells #[.int .i64 d,.int .i64 x] 74));clear h hF hI hP HH f8 b0 j8 hT g6 k6 g0 h4 a9 m8
 go_enter func49,ntmps49
 go_upto_region 1 with(fail)
 go_quiet (fail)
 have HD:=J9 (y7 w.heap.size w) nq;replace H:=zh (H.out.below HD);have P:=zh (Vo.of HD (C4 H.out.lo (I0 (by have:=I7 H.out.K3;exact this))));have k7: ∀a,(w.drewN nq).cell? a=w.cell? a:=λ_=>rfl;rw[<-k7]at c0 c1 N c3 c4 d0 d1 d2 d3 u0 u1 u2 o0 o1;have K:gf<(w.drewN nq).heap.size:=k4;have b3:go<(w.drewN nq).heap.size:=k5;have a7:mb<(w.drewN nq).heap.size:=I7 H.out.K3;have b4:gc<(w.drewN nq).heap.size:=by obtain⟨gx,cx,e,-,hx,-⟩:=H.out.T9.at (i:=low.length) (x:=(f,.slice Av f.vars.length cv,.slice As f.I8.length R)) (by simp);injection e with e;injection e with e;subst e;exact I7 hx
 clear HD k7 k4 k5 l m9;generalize World.drewN _ _=w1 at H P c0 c1 N c3 c4 d0 d1 d2 d3 u0 u1 u2 o0 o1 K b3 a7 b4|-
 go_upto_region 2 with(fail)
 have hA: ∀b k,b<w1.heap.size->(w1.alloc (.cells #[.int .i64 0,.int .i64 0] 74)).cell? ⟨b,k,none⟩=w1.cell? ⟨b,k,none⟩:=λb k U=>((y7 w1.heap.size w1).alloc (y6 _) _).cell (p:=⟨b,k,none⟩) U;refine L4 (by kernel_rfl) [(0,25,.pointer (some ⟨mb,0,none⟩)),(1,26,.pointer (some ⟨mb,0,none⟩)),(2,27,.pointer (some ⟨mb,0,none⟩)),(3,28,.pointer (some ⟨mb,0,none⟩)),(4,29,.slice (some ⟨gf,0,none⟩) L.length cf),(5,30,.pointer (some ⟨gc,low.length*4,none⟩)),(6,31,.pointer (some ⟨gc,low.length*4,none⟩)),(7,32,.pointer (some ⟨gc,low.length*4,none⟩)),(8,33,.int .i64 f.fn),(9,34,.pointer (some ⟨gf,f.fn*3,none⟩)),(10,35,.pointer (some ⟨gf,f.fn*3+2,none⟩)),(11,36,.slice (some ⟨go,0,none⟩) cd.J6.length co),(12,37,.pointer (some ⟨gc,low.length*4,none⟩)),(13,38,.pointer (some ⟨gc,low.length*4,none⟩)),(14,39,.pointer (some ⟨gc,low.length*4+1,none⟩)),(15,40,.int .i64 f.pc),(16,41,.pointer (some ⟨go,f.pc*2,none⟩)),(17,42,.agg #[.int .i64 d,.int .i64 x]),(18,6,.pointer (some ⟨w1.heap.size,0,none⟩))] [] _ _ rfl rfl [18,19] (λj=>match j with|0=>w1.drew|1=>w1.drew.alloc (.cells #[.int .i64 0,.int .i64 0] 74)|_=>w1.drew.alloc (.cells #[.int .i64 d,.int .i64 x] 74)) [(0,0),(0,1),(1,0),(1,1),(2,0),(2,1),(3,0),(3,1),(4,0),(4,1),(5,0),(5,1),(6,0),(6,1),(7,0),(7,1),(8,0),(8,1),(9,0),(9,1),(10,0),(10,1),(11,0),(11,1),(12,0),(12,1),(13,0),(13,1),(14,0),(14,1),(15,0),(15,1),(16,0),(16,1),(17,0),(17,1),(18,0),(19,1)] (by kernel_rfl) (by kernel_rfl) (by rfl) rfl ?_ ?_
 ·generalize hF:J8 _ _=F
  simp[J8]at hF;subst hF
  repeat' (first|refine List.forall_mem_cons.2 ⟨?_,?_⟩|exact List.forall_mem_nil _)
  all_goals
   intro o V;injection V with V
   subst V
  all_goals simp[X9,execOp,go_sem,hA,K,b3,a7,b4,c0,d0,d1,u2,o0,o1,j0,j1,k0,k1]
 have ba:=((y7 w1.heap.size w1).alloc (y6 _) (.cells #[.int .i64 d,.int .i64 x] 74)).drew;have l:Hid ((w1.alloc (.cells #[.int .i64 d,.int .i64 x] 74)).drew.heap[w1.heap.size]?=_):=zh (y9 w1 (.cells #[.int .i64 d,.int .i64 x] 74));have n0:B<=w1.heap.size:=C4 H.out.lo (I0 a7);replace H:=zh (H.out.below ba);replace P:=zh (P.out.trans (Vo.of ba n0));clear ba hA c0 c1 N c3 c4 d0 d1 d2 d3 u0 u1 u2 o0 o1 K b3 a7 b4 j0 j1 k0 k1 i0 i1 z1 z3 f2 f3 f4 e1;simp only[J8,B6,C0,List.append_nil,List.foldl];go_simp;generalize(World.alloc _ _).drew=w2 at H P l|-
 generalize w1.heap.size=bo at l|-
 obtain⟨⟨c0,c1,N,c3,c4⟩,f2,f3,f4⟩:=zv H.out;have q0:=y5 l.out 0;have q1:=y5 l.out 1;have g1:jb (L.map Cf.pf).length cd.vars cd.J6.length (d,x):=by
  have:=h7.out.1;rw[D9]at this|-
  exact this
 have HQ:Hid (Y2 w w2):=zh P.out.xi;have TC:=zh (Xd (L.map Cf.pf) (some ⟨gf,0,none⟩) cf main cd.vars cd.J6.length d x w2.drew g1 (by rw[D9];exact(HF.out.J0 HQ.out).J0 (.of (J5 w2))));rw[D9]at TC;obtain⟨D,X,-,-⟩:=h7.out;have k8:=jE L;have e4:J4 (L.map (·.params)) (d,x)<=7:=qL (λy hy=>by obtain⟨z,hz,rfl⟩:=List.mem_map.1 hy;exact(HP.out.yF z hz).params) (d,x);have k9:J4 ((L.map Cf.pf).map Pf.params) (d,x)=po:=by rw[k8];exact b2.out
 rw[k9]at TC;rw[b2.out]at X e4;clear k9 g1 k8
 go_upto_region 3 with(fail)
 go_cut[7] (λp W=>p=.int .i64 po/\Hid (Below w2.heap.size w2 W))
 case first=>
  go_region_law(go_simp;go_at_call 80;refine TC.out.mono ?_;rintro e w' ⟨rfl,U⟩)
  all_goals
   go_wp2_with fail
   go_meet
   case rel=>exact⟨rfl,zh ((J5 w2).trans U)⟩
 case rest=>
  rename World=>w3
  obtain⟨rfl,e5⟩:=hcut;have l0:B<=w2.heap.size:=C4 H.out.lo (I0 (I7 H.out.K3));replace H:=zh (H.out.below e5.out);replace P:=zh (P.out.trans (Vo.of e5.out l0));replace l:=zh ((e5.out.block bo (I7 l.out)).trans l.out);clear TC HQ c0 c1 N c3 c4 f2 f3 f4 q0 q1 l0 e5;obtain⟨h8,q2,q3,q4,q5,G,-,-,d0,d1,d2,d3,z1,z3,-⟩:=Z5 H.out;injection G with G;injection G with G
  subst G;have hm:=HM.out;have n1:po<=f.I8.length:=X;have h9:f.I8.length-m=po:=by omega
  have H3:=H;have n2:f.I8.length<=600:=by
   have h1:f.I8.length-J4 (L.map (·.params)) (d,x)+L3 (d,x)<=256:=h7.out.2.2.1;rw[b2.out]at h1;omega
  have em:IntKind.i64.wrap ((f.I8.length:Int)-(po:Int))=(m:Int):=by rw[show(f.I8.length:Int)-po=m by omega];exact IntWalk.i64_in _ (by omega)
  have Y:=H.out.T9.R9.yd.2.1;simp only at Y;have i0:(0:Int)<=(m:Int):=by omega
  have i1:(m:Int)<=(f.I8.length:Int):=by omega
  have i2:m<=f.I8.length:=by omega
  go_upto_region 5 with(fail)
  go_cut[10] (λp W=> ∃A2 N,p=.slice A2 po N/\Hid (W.ownsRow w3.heap.size 3 1 (.slice A2 po N) po (iC (f.I8.drop m)))/\Hid (Below w3.heap.size w3 W))
  case first=>
   rcases(N9 Y).2 with rfl|⟨gs,rfl⟩
   ·have n3:R=0:=by
     rcases N8 Y with⟨e,-⟩|⟨g9,c9,e,-⟩
     ·injection e
     ·injection e with e;cases e
    have T:=yv (m:=m) (A':=none) (c':=R-m) Y (by omega) (.inl ⟨rfl,rfl,by omega⟩);rw[h9]at T;replace T:=zh T;clear n3
    go_wp2_with fail
    refine T.out.mono ?_;rintro e w' ⟨U,A2,N,rfl,V⟩
    go_wp2_with fail
    go_meet
    case rel=>exact⟨A2,N,rfl,zh V,zh U⟩
   ·by_cases q6:R=m
    ·have hl:f.I8.length=m:=by have:=(N9 Y).1;omega
     have T:=yv (m:=m) (A':=some ⟨gs,0,none⟩) (c':=0) Y (by omega) (.inr ⟨gs,rfl,.inr ⟨rfl,hl⟩⟩);rw[h9]at T;replace T:=zh T;clear hl
     go_wp2_with fail
     refine T.out.mono ?_;rintro e w' ⟨U,A2,N,rfl,V⟩
     go_wp2_with fail
     go_meet
     case rel=>exact⟨A2,N,rfl,zh V,zh U⟩
    ·have T:=yv (m:=m) (A':=some ⟨gs,m,none⟩) (c':=R-m) Y (by omega) (.inr ⟨gs,rfl,.inl rfl⟩)
     rw[h9]at T;replace T:=zh T
     go_wp2_with fail
     refine T.out.mono ?_;rintro e w' ⟨U,A2,N,rfl,V⟩
     go_wp2_with fail
     go_meet
     case rel=>exact⟨A2,N,rfl,zh V,zh U⟩
  case rest=>
   rename World=>w4
   obtain⟨Aa,ca,rfl,HA,a8⟩:=hcut;have n4:B<=w3.heap.size:=C4 H.out.lo (I0 (I7 H.out.K3));replace H:=zh (H.out.below a8.out);replace P:=zh (P.out.trans (Vo.of a8.out n4));replace l:=zh ((a8.out.block bo (I7 l.out)).trans l.out);have b5:=zh (IK.below a8.out);have b6:=a8.out.size;clear d0 d1 d2 d3 z1 z3 a8 Y em i0 i1;have q0:=y5 l.out 0;have q1:=y5 l.out 1;have g2:B<=w4.heap.size:=C4 H.out.lo (I0 (I7 H.out.K3));have l1:=n.out.J0 HI.out P.out;have e6:=zh l1;have l2:=zh (HF.out.J0 P.out.xi);obtain⟨⟨c0,c1,N,c3,c4⟩,f2,f3,f4⟩:=zv H.out;rw[z9,List.length_singleton]at c4;clear l1;rw[k3.out]at HA;have e7:xs.length=po:=by rw[<-k3.out,I6];omega
   go_upto_region 7 with(fail)
   clear q0
   by_cases i3:d=17
   ·
    subst i3;obtain⟨b7,b8⟩:=D.2.2.1 (by simp);obtain⟨j,rfl⟩: ∃j:Nat,x=j:=⟨x.toNat,by simp only at b7;omega⟩;have n5:j<L.length:=by simp[Y1]at b8;omega
    obtain⟨cg,e8⟩: ∃cg,L[j]?=some cg:=⟨_,y8 n5⟩;have n6:po=cg.params:=by rw[<-b2.out];have:=zbh e8;simpa[J4]using this
    subst n6;have b9:=HP.out.yF cg (B7 e8);have q7:=b9.vars;have q8:=b9.params;clear D X e4 b7 b8 b9
    by_cases c5:low.length+1=32
    ·have n7:((low.length:Int)+1==32)=true:=beq_iff_eq.2 (by omega)
     have HS:Hid (M8 L hf value (low.map Prod.fst) f (17,(j:Int)) S0 xs=(yf 6,false)):=zh (by simp[M8,c5]);have FC:=zh (zap H.out 6)
     go_wp2_with fail
     refine FC.out.mono ?_;rintro e w5 ⟨rfl,r,a4⟩;have a5:=zh r;have e9:=zh (P.out.trans a4);have a6:=zh (n.out.J0 e6.out a4);clear r a4
     go_wp2_with fail
     go_ret;exact .mk HS.out a5.out rfl (e9.out.qh n.out.le) (by simpa[Q9]using a6.out)
    ·have n7:((low.length:Int)+1==32)=false:=beq_eq_false_iff_ne.2 (by omega)
     go_upto_region 11 with(fail)
     obtain⟨q9,r0,r1,n8,-,K,u0,u1,u2,l3⟩:=l2.out.at (zi e8);injection n8 with C h6 O
     clear h6;injection C with C;injection C with C
     subst C O;simp only[Cf.pf]at u0 u1 u2;obtain⟨c6,c7,rfl,-⟩:=l3.at;have i4:=I7 l.out;have l4:=I7 H.out.K3;have hA: ∀b k,b<w4.heap.size->(w4.alloc (.cells #[.int .i64 0,.int .i64 0,.slice none 0 0] 40)).cell? ⟨b,k,none⟩=w4.cell? ⟨b,k,none⟩:=λb k U=>((y7 w4.heap.size w4).alloc (y6 _) _).cell (p:=⟨b,k,none⟩) U;have j0:(0:Int)<=(j:Int):=by omega
     have j1:(j:Int)<(L.length:Int):=by omega
     refine L4 (by kernel_rfl) [(0,78,.pointer (some ⟨mb,0,none⟩)),(1,79,.pointer (some ⟨mb,0,none⟩)),(2,80,.pointer (some ⟨mb,0,none⟩)),(3,81,.pointer (some ⟨mb,0,none⟩)),(4,82,.slice (some ⟨gf,0,none⟩) L.length cf),(5,83,.pointer (some ⟨bo,1,none⟩)),(6,84,.int .i64 j),(7,85,.pointer (some ⟨gf,j*3,none⟩)),(8,86,.agg #[.int .i64 cg.params,.int .i64 cg.vars,(.slice (some ⟨c6,0,none⟩) cg.pf.ops.length c7)]),(9,11,.pointer (some ⟨w4.heap.size,0,none⟩))] [] _ _ rfl rfl [9,10] (λj=>match j with|0=>w4.drew|1=>w4.drew.alloc (.cells #[.int .i64 0,.int .i64 0,.slice none 0 0] 40)|_=>w4.drew.alloc (.cells #[.int .i64 cg.params,.int .i64 cg.vars,(.slice (some ⟨c6,0,none⟩) cg.pf.ops.length c7)] 40)) [(0,0),(0,1),(1,0),(1,1),(2,0),(2,1),(3,0),(3,1),(4,0),(4,1),(5,0),(5,1),(6,0),(6,1),(7,0),(7,1),(8,0),(8,1),(9,0),(10,1)] (by kernel_rfl) (by kernel_rfl) (by rfl) rfl ?_ ?_
     ·generalize hF:J8 _ _=F
      simp[J8]at hF;subst hF
      repeat' (first|refine List.forall_mem_cons.2 ⟨?_,?_⟩|exact List.forall_mem_nil _)
      all_goals
       intro o V;injection V with V
       subst V
      all_goals simp[X9,execOp,go_sem,hA,K,i4,l4,c0,q1,u0,u1,u2,j0,j1]
     have ba:=((y7 w4.heap.size w4).alloc (y6 _) (.cells #[.int .i64 cg.params,.int .i64 cg.vars,(.slice (some ⟨c6,0,none⟩) cg.pf.ops.length c7)] 40)).drew;have f0:Hid ((w4.alloc (.cells #[.int .i64 cg.params,.int .i64 cg.vars,(.slice (some ⟨c6,0,none⟩) cg.pf.ops.length c7)] 40)).drew.heap[w4.heap.size]?=_):=zh (y9 w4 (.cells #[.int .i64 cg.params,.int .i64 cg.vars,(.slice (some ⟨c6,0,none⟩) cg.pf.ops.length c7)] 40));replace H:=zh (H.out.below ba);replace P:=zh (P.out.trans (Vo.of ba g2));replace HA:=zh (K6 HA.out ba);replace b5:=zh (b5.out.trans (.below ba));replace l:=zh ((ba.block bo i4).trans l.out);replace b6:=C4 b6 ba.size;clear ba hA c0 c1 N c3 c4 f2 f3 f4 q1 u0 u1 u2 K i4 l4 g2 e6 l2;simp only[J8,B6,C0,List.append_nil,List.foldl];go_simp;generalize(World.alloc _ _).drew=w5 at H P l f0 HA b5 b6|-
     generalize w4.heap.size=bg at f0|-
     obtain⟨h8,i5,i6,i7,i8,G,ev,es,d0,d1,d2,d3,z1,z3,l5⟩:=Z5 H.out;injection G with G;injection G with G
     injection ev with C O c8
     injection es with d4 d5 d6
     clear O d5;subst G C c8 d4 d6;obtain⟨Q,J⟩:=zdS H.out m i2;rw[h5.out]at Q;have q:=zh Q;have l6:=zh (P.out.trans J);obtain⟨l7,n9,e3,-,a1⟩:=H.out.ya;injection e3 with e3;injection e3 with e3
     subst e3;have f1:=zh (X6 HA.out a1 (by decide) (low.length*4+3) (.slice As m R));have g3:=zh (b5.out.trans (.set a1 (by decide) (low.length*4+3) (.slice As m R)));have ne: ∀{b t:Nat}{l8:Array Value}{fr:Nat×Nat},w5.heap[b]?=some (.cells l8 t fr)->t≠95->(w5.setCell ⟨gc,low.length*4+3,none⟩ (.slice As m R)).heap[b]?=some (.cells l8 t fr):=λU ht=>by
      rw[(J2 w5 gc (low.length*4+3) (.slice As m R)).block _ (I7 U) (λe=>by injection e with e;subst e;rw[a1]at U;injection U with U;injection U with _ e;exact ht e.symm)];exact U
     have a2:=zh (ne l.out (by decide));have d7:=zh (ne f0.out (by decide));have g4:w3.heap.size<=(w5.setCell ⟨gc,low.length*4+3,none⟩ (.slice As m R)).heap.size:=by simpa using b6
     have k1: ¬((R:Int)<(m:Int)):=by omega
     have k2:(m:Int)<=(R:Int):=by omega
     clear Q J a1 H P HA b5 l f0 ne b6
     go_upto_region 13 with(fail)
     clear d0 d1 d2 d3 z1 z3 k1 k2;generalize World.setCell _ _ _=w6 at q l6 f1 g3 a2 d7 g4|-
     replace q:=zh (q.out.below (J5 w6));have l9:Rows w3 B (low++[({f with I8:=S0},.slice Av f.vars.length cv,.slice As m R)]):=by
      have:=H3.out.T9.R9.cut (f:={f with I8:=f.I8.take m}) rfl rfl i2 rfl;rw[h5.out]at this;exact this
     obtain⟨k,hk⟩: ∃k,cg.vars-cg.params=k:=⟨_,rfl⟩;obtain⟨A1,c1,w7,A2,N,w8,r7,g7,r8,t4,f4,i9,j2⟩:=zeH q.out l9 (λg R hg=>g3.out g R hg) g4 (C4 H3.out.lo (I0 (I7 H3.out.K3))) f1.out.drew k j (by omega) (by simp;omega);have o2:(low++[(({f with I8:=S0}:Fq),Value.slice Av f.vars.length cv,Value.slice As m R)]).length=low.length+1:=by simp
     rw[o2]at r8 t4 i9 j2;have o3:=zh i9;have m0:=zh ((l6.out.trans (Vo.of (J5 w6) (C4 q.out.lo (I0 (I7 q.out.K3))))).trans j2);have f5:=I7 q.out.K3;have g5:=(g7.block bo (I7 a2.out) (λe=>L9 f1.out a2.out (by decide) e.symm)).trans a2.out;have a3:=(g7.block mb (I7 q.out.K3) (λe=>L9 f1.out.drew q.out.K3 (by decide) e.symm)).trans q.out.K3;have ba:=(y7 w7.heap.size w7).alloc (y6 _) (.cells #[.int .i64 j,.int .i64 0,.slice A1 (cg.params+k) c1,.slice none 0 0] 95);have d8:=(ba.block mb (I7 a3)).trans a3;rw[z9,List.length_singleton]at a3 d8;have c4:=y5 q.out.K3 4;rw[z9,List.length_singleton]at c4;have m1:=y5 a3 4;have m2:=y5 d8 4;have q1:=y5 a2.out 1;have m3:=y5 g5 1;have u0:=y5 d7.out 0;have u1:=y5 d7.out 1;have ek:IntKind.i64.wrap ((cg.vars:Int)-(cg.params:Int))=(k:Int):=by rw[show(cg.vars:Int)-cg.params=k by omega];exact IntWalk.i64_in _ (by omega)
     clear i9 j2 a3 d8 g5 ba l9 g7 f5;refine L4 (by kernel_rfl) [(0,96,.pointer (some ⟨mb,0,none⟩)),(1,97,.pointer (some ⟨mb,0,none⟩)),(2,98,.pointer (some ⟨mb,0,none⟩)),(3,99,.pointer (some ⟨mb,4,none⟩)),(4,100,.slice (some ⟨gc,0,none⟩) (low.length+1) c),(5,101,.pointer (some ⟨bo,1,none⟩)),(6,102,.int .i64 j),(7,103,.slice Aa cg.params ca),(8,104,.pointer (some ⟨bg,1,none⟩)),(9,105,.int .i64 cg.vars),(10,106,.pointer (some ⟨bg,0,none⟩)),(11,107,.int .i64 cg.params),(12,108,.int .i64 k),(13,109,.slice A1 (cg.params+k) c1),(14,110,.agg #[.int .i64 j,.int .i64 0,.slice A1 (cg.params+k) c1,.slice none 0 0]),(15,111,.slice (some ⟨w7.heap.size,0,none⟩) 1 1),(16,112,.slice A2 (low.length+1+1) N),(17,113,.pointer (some ⟨mb,0,none⟩)),(18,114,.pointer (some ⟨mb,4,none⟩))] [] _ _ rfl rfl [13,15,16,19] (λz=>match z with|0=>w6.drew|1=>w7|2=>w7.alloc (.cells #[.int .i64 j,.int .i64 0,.slice A1 (cg.params+k) c1,.slice none 0 0] 95)|3=>w8|_=>w8.setCell ⟨mb,4,none⟩ (.slice A2 (low.length+1+1) N)) [(0,0),(0,1),(0,2),(0,3),(1,0),(1,1),(1,2),(2,0),(2,1),(2,2),(3,0),(3,1),(3,2),(4,0),(4,1),(4,2),(5,0),(5,1),(6,0),(6,1),(7,0),(8,0),(9,0),(10,0),(11,0),(12,0),(13,0),(14,1),(15,1),(16,2),(17,3),(18,3),(19,3)] (by kernel_rfl) (by kernel_rfl) (by rfl) rfl ?_ ?_
     ·generalize hF:J8 _ _=F
      simp[J8]at hF;subst hF
      repeat' (first|refine List.forall_mem_cons.2 ⟨?_,?_⟩|exact List.forall_mem_nil _)
      all_goals
       intro o V;injection V with V
       subst V
      rotate_left 26
      ·exact O4 rfl rfl rfl r7
      rotate_left 2
      ·exact O4 rfl rfl rfl r8
      all_goals simp[X9,execOp,go_sem,c4,m1,m2,q1,m3,u0,u1,ek,t4,f4]
     clear c4 m1 m2 q1 m3 u0 u1 ek t4 f4 r7 r8;have o4:Hid (M8 L hf value (low.map Prod.fst) f (17,(j:Int)) S0 xs=(⟨0,value,low.map Prod.fst++[{f with I8:=S0}]++[⟨j,0,xs++List.replicate k 0,[]⟩]⟩,false)):=zh (by simp[M8,c5,e8,e7,hk]);simp only[J8,B6,C0,List.append_nil,List.foldl];go_simp
     go_wp2_with fail
     go_ret;have o5:=n.out.J0 HI.out m0.out;exact .mk o4.out o3.out (by simp) (m0.out.qh n.out.le) (by simpa[Q9]using o5)
   have r2:(d==17)=false:=beq_eq_false_iff_ne.2 i3
   by_cases j3:d=18
   ·
    subst j3;have o6:po=1:=by rw[<-b2.out];simp[J4]
    obtain⟨a,rfl⟩: ∃a,xs=[a]:=List.length_eq_one_iff.1 (by omega);obtain⟨ga,rfl,a0⟩:=qI HA.out (k:=0) (a:=a) rfl;subst o6;have BC:=zh (zg1 H.out a (by omega) HL.out);clear D X e4
    go_wp2_with fail
    refine BC.out.mono ?_;rintro e w5 ⟨rfl,a4,r⟩;have a5:=zh r;have e9:=zh (P.out.trans a4);have a6:=zh (n.out.J0 e6.out a4);clear r a4
    go_wp2_with fail
    go_ret;have r:=a5.out;cases hg:low.getLast? with
    |none=>
     rw[hg]at r;exact .mk (M:=⟨1,a,[]⟩) (by simp[M8,hg]) r rfl (e9.out.qh n.out.le) (by simpa[Q9]using a6.out)
    |some u=>
     rw[hg]at r;obtain⟨s',r⟩:=r;exact .mk (M:=⟨0,value,(low.map Prod.fst).dropLast++[{u.1 with pc:=u.1.pc+1,I8:=u.1.I8++[a]}]⟩) (by simp[M8,hg]) r (by simp) (e9.out.qh n.out.le) (by simpa[Q9]using a6.out)
   have r3:(d==18)=false:=beq_eq_false_iff_ne.2 j3;obtain⟨l7,n9,e3,-,a1⟩:=H.out.ya;injection e3 with e3;injection e3 with e3
   subst e3;obtain⟨h8,i5,i6,i7,i8,G,ev,es,d0,d1,d2,d3,z1,z3,l5⟩:=Z5 H.out;injection G with G;injection G with G
   injection ev with C O c8
   injection es with d4 d5 d6
   clear O d5;subst G C c8 d4 d6;have k1: ¬((R:Int)<(m:Int)):=by omega
   have k2:(m:Int)<=(R:Int):=by omega
   by_cases m4:d=20
   ·
    subst m4;obtain⟨b7,b8⟩:=D.2.2.1 (by simp);simp[Y1]at b7 b8;have ex:IntKind.i64.wrap (x.tdiv 8)=x/8:=IntWalk.i64_quo x 8 (by omega);have eg:=n.out.eg;have HC:=zh (n.out.call (x/8) xs Aa ca w4 t m7 e6.out (by have:=ZT (e7▸HA.out);exact e7.symm▸this) (by omega) (by omega) (by omega));rw[e7]at HC;clear D X e4 b7 b8 d0 d1 d2 d3 z1 z3
    go_wp2_with fail
    refine HC.out.mono ?_;rintro e w5 ⟨rfl,⟨S5,j4,r⟩,j5⟩;have a5:=zh (H.out.hk j5 (n.out.sz j4) r);have m5:=zh ((P.out.qh n.out.le).trans j5.qh);have a6:=zh j4;obtain⟨y,hy⟩: ∃y,(hf (x/8) xs).1=y:=⟨_,rfl⟩;obtain⟨er,j6⟩: ∃y,(hf (x/8) xs).2=y:=⟨_,rfl⟩;rw[hy,j6];have HY:=zh hy;have m6:=zh j6;clear j5 j4 r eg hy j6 HC
    by_cases h0:er=0
    ·subst h0
     have d9:Hid (M8 L hf value (low.map Prod.fst) f (20,x) S0 xs=(⟨0,value,low.map Prod.fst++[{f with pc:=f.pc+1,I8:=f.I8.take m++[y]}]⟩,false)):=zh (by simp[M8,HY.out,m6.out,h5.out]);obtain⟨h8,i5,i6,i7,i8,G,ev,es,d0,d1,d2,d3,z1,z3,-⟩:=Z5 a5.out;injection G with G;injection G with G
     injection ev with C O c8
     injection es with d4 d5 d6
     clear O d5;subst G C c8 d4 d6;obtain⟨A',c',w6,r4,x3,y3,Q,J⟩:=zeX a5.out m i2 y (by omega);have q:=zh Q;have f6:=zh (m5.out.trans (J.qh n.out.le));have f7:=zh (n.out.J0 a6.out J);clear Q J d0 d1 d2 z1 z3
     go_upto_region 24 with(at_builtin;refine Lib.wpList_append_run _ rfl _ _ _ _ rfl _ _ rfl rfl _ _ r4 ?_)
     clear r4 x3 y3 d3;generalize World.setCell _ _ _=w7 at q f6 f7|-
     obtain⟨l7,i5,i6,i7,i8,e3,-,-,d0,d1,d2,d3,z1,z3,-⟩:=Z5 q.out;injection e3 with e3;injection e3 with e3
     subst e3;have ep:IntKind.i64.wrap ((f.pc:Int)+1)=((f.pc+1:Nat):Int):=by rw[show((f.pc+1:Nat):Int)=(f.pc:Int)+1 by omega];exact IntWalk.i64_in _ (by omega)
     simp only at d1;obtain⟨f5,j7⟩:=Yk q.out (f.pc+1);have o7:=zh f5;have o8:=zh (f6.out.trans (j7.qh n.out.le));have o9:=zh (n.out.J0 f7.out j7);clear d0 d2 d3 z3 f5 j7
     go_wp2_with fail
     go_ret;rw[show(f.pc:Int)+1=((f.pc+1:Nat):Int) by omega];exact .mk d9.out o7.out (by simp) o8.out (by simpa[Q9]using o9.out)
    ·have r5:(er==0)=false:=beq_eq_false_iff_ne.2 h0
     have d9:Hid (M8 L hf value (low.map Prod.fst) f (20,x) S0 xs=(yf er,false)):=zh (by simp[M8,m6.out,h0]);have FC:=zh (zap a5.out er)
     go_wp2_with fail
     refine FC.out.mono ?_;rintro e w6 ⟨rfl,Q,J⟩;have q:=zh Q;have f6:=zh (m5.out.trans (J.qh n.out.le));have f7:=zh (n.out.J0 a6.out J);clear Q J
     go_wp2_with fail
     go_ret;exact .mk d9.out q.out rfl f6.out (by simpa[Q9]using f7.out)
   rcases j9.out with h|h|h
   ·exact I2 h i3
   ·exact I2 h j3
   ·exact I2 h m4
end
end Go.Proofs.YtalgmjmibamdfaaGreatDoor
