/- Merged. -/
import Derived.Test.YtalgmjmibamdfaaGreatDoorVS14b
set_option linter.all false
set_option maxHeartbeats 16000000
set_option maxRecDepth 100000
namespace Go.Proofs.YtalgmjmibamdfaaGreatDoor
open Go.Proofs.Tryz
open Go.RowKit Tw
theorem zdZ(b:Bool)(w:World):Calls prog 122 #[.bool b] w λe w'=>e=.returned (.int .i64 (tr b))/\w'=w:=by
 go_enter func122,ntmps122
 cases b<;>(go_wp2;go_ret;exact⟨rfl,rfl⟩)
def rkM(d:Int)(xs:List Int):Option Int:=if d=5 then some (IntKind.i64.wrap (-(xs.getD 0 0)))else if d=6 then some (tr (decide (xs.getD 0 0=0)))else yF d (xs.getD 0 0) (xs.getD 1 0)
theorem zbY{B x C D c E:Nat}{w:World}{F X:Option Addr}{main value:Int}{low:List Fm}{f:Fq}{v:Value}{Y:Nat}(h:Z8 w B x F C D main 0 value (some ⟨E,0,none⟩) c (low++[(f,v,.slice X f.I1.length Y)]))(hn:f.I1.length<=600)
 (d:Int) (k:5<=d) (Z:d<=14) (xs:List Int) (Aa:Option Addr) (ca:Nat) (hx:J8 w (λ_=>True) (.slice Aa xs.length ca) xs) (i:xs.length=if d=5\/d=6 then 1 else 2):
 Calls prog 83 #[.pointer (some ⟨x,0,none⟩),.pointer (some ⟨E,low.length*4,none⟩),.int .i64 d,.slice Aa xs.length ca] w λe w'=>e=.returned (.tuple #[])/\Vo B w w'/\
  match rkM d xs with
  |none=>Z8 w' B x F C D main 2 17 none 0 []
  |some y=> ∃s',Z8 w' B x F C D main 0 value (some ⟨E,0,none⟩) c (low++[({f with I1:=f.I1++[y]},v,s')]):=by
 obtain⟨a,z⟩: ∃a,xs[0]?=some a:=⟨_,x8 (by rw[i];split<;>decide)⟩;obtain⟨b,j⟩: ∃b,xs[xs.length-1]?=some b:=⟨_,x8 (by rw[i];split<;>decide)⟩;obtain⟨ga,oa,rfl,-,N⟩:=hx.at 0 a z;obtain⟨a1,a2,e,-,O⟩:=hx.at _ b j;injection e with e;injection e with e e'
 subst e e';have P:1<=xs.length/\xs.length<=2:=by rw[i];split<;>decide
 have n:xs.length=1/\b=a/\(d=5\/d=6)\/xs.length=2/\xs[1]?=some b/\ ¬(d=5\/d=6):=by
  split at i
  ·rename_i k;rw[i]at j;rw[z]at j;injection j with j;exact .inl ⟨i,j.symm,k⟩
  ·rename_i k;rw[i]at j;exact .inr ⟨i,j,k⟩
 have Q:xs.getD 0 0=a:=by rw[List.getD_eq_getElem?_getD,z];rfl
 obtain⟨r,g⟩: ∃r,rkM d xs=r:=⟨_,rfl⟩;rw[g];rw[Nat.add_zero]at N;obtain⟨m,R⟩: ∃m,xs.length-1=m:=⟨_,rfl⟩;rw[R]at O;have e1:IntKind.i64.wrap ((xs.length:Int)-1)=(m:Int):=by rw[show(xs.length:Int)-1=m by omega];exact IntWalk.i64_in _ (by omega)
 have i0:(0:Int)<(xs.length:Int):=by omega
 have i1:(0:Int)<=(m:Int):=by omega
 have i2:(m:Int)<(xs.length:Int):=by omega
 have H:=zh h;have HC:=zh n;have S:=zh g;have o:=zh Q;clear h n g z j i R Q hx
 go_enter func83,ntmps83
 go_upto_region 0 with(fail)
 go_quiet (fail)
 clear N O e1 i0 i1 i2;have G:=J1 (x7 w.heap.size w) nq;have hB:B<=w.heap.size:=B5 H.out.lo (G3 (I0 H.out.J7));replace H:=zh (H.out.below G);have I:=zh (Vo.of G hB);clear G;generalize World.drewN _ _=w1 at H I|-
 have T:d=5\/d=6\/d=7\/d=8\/d=9\/d=10\/d=11\/d=12\/d=13\/d=14:=by omega
 have A: ¬(d=5\/d=6)->xs.getD 1 0=b:=λk=>by
  rcases HC.out with⟨-,-,h⟩|⟨-,h,-⟩
  ·exact G5 h k
  ·rw[List.getD_eq_getElem?_getD,h];rfl
 by_cases l:(d=10\/d=11)/\b=0
 ·obtain⟨l,rfl⟩:=l
  have J:=A (by omega);have FC:=zh (Yx H.out 17);clear A T
  rcases l with rfl|rfl
  all_goals
   have g:=S.out;simp[rkM,yF,J]at g;subst g
   go_wp2_with fail
   refine FC.out.mono ?_;rintro e w2 ⟨rfl,U,V⟩;have HS:=zh U;have K:=zh (I.out.trans V);clear U V
   go_wp2_with fail
   (try simp only[Exit.inBlock,Exit.then]);refine E1 (results_none rfl _ _ _) rfl ?_
   exact⟨rfl,K.out,HS.out⟩
 ·have p:(d=10\/d=11)->(b==0)=false:=λh=>by simpa using λe=>l ⟨h,e⟩
  have q:(d=10\/d=11)->b≠0:=λh e=>l ⟨h,e⟩;clear l
  rcases T with rfl|rfl|rfl|rfl|rfl|rfl|rfl|rfl|rfl|rfl
  all_goals
   have g:=S.out
   first
    |(have J:=A (by decide);simp only[rkM,yF,o.out,J]at g)
    |simp only[rkM,o.out]at g
   try(have a3:=p (by decide))
   try(have L:=q (by decide))
   clear p q A
   try simp[L]at g
   try simp at g
   obtain⟨y,rfl⟩: ∃y,r=some y:=⟨_,g.symm⟩;injection g with g
   try(have W:tr (a==0)=y:=g)
   try(have W:tr (a==b)=y:=g)
   go_upto_region 26 with(go_at_call 122;refine(zdZ _ _).mono ?_;rintro e w' ⟨rfl,rfl⟩)
   clear g
   try clear W
   obtain⟨a4,Av,cv,a5,a6,s,-,-,d0,d1,d2,d3,z1,z3,-⟩:=W7 H.out;injection s with s;injection s with s
   subst s;obtain⟨A',c',w4,r4,x3,y3,t,u⟩:=Jw H.out y (by omega);have HN:=zh t;have M:=zh (I.out.trans u);clear t u d0 d1 d2 z1 z3
   go_wp2_with(at_builtin;refine Lib.wpList_append_run _ rfl _ _ _ _ rfl _ _ rfl rfl _ _ r4 ?_)
   go_end0;exact⟨rfl,M.out,_,HN.out⟩
def P7(o:Q2)(args:List Int):List (Int×List Int):=if o.1=20 then[(o.2/8,args)]else[]
def Y0(P:List Cf)(f:Fq):List (Int×List Int):=match jP P f with
 |none=>[]
 |some (o,_)=>P7 o (f.I1.drop (f.I1.length-zdP P o))
structure Qh(Z B:Nat)(w w':World):Prop where
 os:w'.os=w.os
 tape:w'.tape=w.tape
 output:w'.output=w.output
 low: ∀k,k<Z->w'.heap[k]?=w.heap[k]?
 q:X1 w w'
 size:w.heap.size<=w'.heap.size
 J7: ∀(k:Nat)(cs:Array Value)(t:Nat)(fr:Nat×Nat),k<B->w.heap[k]?=some (.cells cs t fr)-> ¬Q3 t->w'.heap[k]?=w.heap[k]?
 vh: ∀(k:Nat)(cs:Array Value)(t:Nat)(fr:Nat×Nat),w.heap[k]?=some (.cells cs t fr)-> ¬jh t-> ¬Q3 t->w'.heap[k]?=w.heap[k]?
theorem Qh.trans{Z B:Nat}{w w' w2:World}(h:Qh Z B w w')(b:Qh Z B w' w2):Qh Z B w w2:=⟨b.os.trans h.os,b.tape.trans h.tape,b.output.trans h.output,λk a=>(b.low k a).trans (h.low k a),h.q.trans b.q,B5 h.size b.size,λk c t d a e f=>(b.J7 k c t d a ((h.J7 k c t d a e f).trans e) f).trans (h.J7 k c t d a e f),λk c t d a i j=>(b.vh k c t d ((h.vh k c t d a i j).trans a) i j).trans (h.vh k c t d a i j)⟩
theorem Vo.qh{Z B:Nat}{w w':World}(h:Vo B w w')(e:Z<=B):Qh Z B w w':=⟨h.N5.os,h.N5.tape,h.N5.output,λk a=>h.N5.block k (by omega),h.yq,h.N5.size,λk _ _ _ a _ _=>h.N5.block k a,λk b t c a d _=>h.J7 k b t c a d⟩
theorem Hk.yq{Z:Nat}{w w':World}(h:Hk Z w w'):X1 w w':=⟨λg a t b c d=>h.J7 g a t b c (by unfold Q3;rcases d with rfl|rfl<;>decide)⟩
theorem Hk.qh{Z B:Nat}{w w':World}(h:Hk Z w w'):Qh Z B w w':=⟨h.os,h.tape,h.output,h.low,h.yq,h.size,λk a t b _ c d=>h.J7 k a t b c d,λk a t b e _ f=>h.J7 k a t b e f⟩
theorem Qh.prog{Z B b:Nat}{w w':World}{a:Array Value}{c:Nat×Nat}(h:Qh Z B w w')(d:w.heap[b]?=some (.cells a 26 c)):w'.heap[b]?=some (.cells a 26 c):=(h.vh b _ _ _ d (by unfold jh;decide) (by unfold Q3;decide)).trans d
section
variable {L:List Cf}{main:Nat}{Z B mb cf g:Nat}{Af:Option Addr}{value:Int}{hf:T0}{lb:Array Value}{I:World->List (Int×List Int)->Prop}
def StV(L:List Cf)(main Z B mb:Nat)(Af:Option Addr)(cf:Nat)(value:Int)(hf:T0)(I:World->List (Int×List Int)->Prop)(t:List (Int×List Int))(fs:List Fq)(f:Fq)(w:World)(e:Ending)(w':World):Prop:=
 e=.returned (.bool (Q1 L hf value fs f).2)/\(∃A c l,Z8 w' B mb Af L.length cf main (Q1 L hf value fs f).1.mode (Q1 L hf value fs f).1.value A c l/\l.map Prod.fst=(Q1 L hf value fs f).1.O2)/\Qh Z B w w'/\I w' (t++Y0 L f)
theorem zaz{ps:List Nat}{d x:Int}(a:5<=d)(b:d<=14):I6 ps (d,x)=if d=5\/d=6 then 1 else 2:=by
 have:d=5\/d=6\/d=7\/d=8\/d=9\/d=10\/d=11\/d=12\/d=13\/d=14:=by omega
 rcases this with rfl|rfl|rfl|rfl|rfl|rfl|rfl|rfl|rfl|rfl<;>simp[I6]
theorem Xo{L:List Cf}{hf:T0}{v:Int}{fs:List Fq}{f:Fq}{d x:Int}{l xs:List Int}(a:5<=d)(b:d<=14):
 M1 L hf v fs f (d,x) l xs=match rkM d xs with|some y=>(⟨0,v,fs++[⟨f.fn,f.pc+1,f.vars,l++[y]⟩]⟩,false)|none=>(xw 17,false):=by
 have:d=5\/d=6\/d=7\/d=8\/d=9\/d=10\/d=11\/d=12\/d=13\/d=14:=by omega
 rcases this with rfl|rfl|rfl|rfl|rfl|rfl|rfl|rfl|rfl|rfl<;>simp only[M1,rkM,Int.reduceEq,if_true,if_false]<;>(try rfl)<;>(try(split<;>simp_all))
def StO(r:Mc×Bool)(Z B mb:Nat)(Af:Option Addr)(a cf main:Nat)(I:World->List (Int×List Int)->Prop)(t:List (Int×List Int))(w:World)(e:Ending)(w':World):Prop:=
 e=.returned (.bool r.2)/\(∃A c l,Z8 w' B mb Af a cf main r.1.mode r.1.value A c l/\l.map Prod.fst=r.1.O2)/\Qh Z B w w'/\I w' t
theorem StO.mk{r:Mc×Bool}{a c:Nat}{A:Option Addr}{l:List Fm}{b:Bool}{M:Mc}{t:List (Int×List Int)}{w w':World}(d:r=(M,b))(h:Z8 w' B mb Af a cf main M.mode M.value A c l)(e:l.map Prod.fst=M.O2)(f:Qh Z B w w')(i:I w' t):StO r Z B mb Af a cf main I t w (.returned (.bool b)) w':=by
 subst d;exact⟨rfl,⟨A,c,l,h,e⟩,f,i⟩
theorem zge(hP:Z3 L main)(o9:L.length<=16)(HH:zD Z B g lb hf I){c:Nat}{A:Option Addr}{low:List Fm}{f:Fq}{v s:Value}{w:World}{t:List (Int×List Int)}
 (h:Z8 w B mb Af L.length cf main 0 value A c (low++[(f,v,s)])) (hF:L4 w (.slice Af L.length cf) (L.map Cf.pf)) (hI:I w t) (hT:qS L f) (p0:low.length+1<=32) (f8: ∀y∈low,y.1.I1.length<=600/\y.1.pc<=4000) (h4: ∀c∈L,c.I9.length<=4000) (f9: ∀o h,jP L f=some (o,h)->o.1=17\/o.1=18\/o.1=20):
 Calls prog 49 #[.pointer (some ⟨mb,0,none⟩),.func (.func g) #[] lb] w (StV L main Z B mb Af cf value hf I t (low.map Prod.fst) f w):=by
 obtain⟨cd,⟨d,x⟩,a9,b0,j7,m7,p1,g6⟩:=hT.ji hP;have j8:=zh (f9 _ _ b0);clear f9;have E:StV L main Z B mb Af cf value hf I t (low.map Prod.fst) f w=StO (M1 L hf value (low.map Prod.fst) f (d,x) (f.I1.take (f.I1.length-I6 (L.map (·.params)) (d,x))) (f.I1.drop (f.I1.length-I6 (L.map (·.params)) (d,x)))) Z B mb Af L.length cf main I (t++P7 (d,x) (f.I1.drop (f.I1.length-I6 (L.map (·.params)) (d,x)))) w:=by
  funext e w'
  have h1:Q1 L hf value (low.map Prod.fst) f=M1 L hf value (low.map Prod.fst) f (d,x) (f.I1.take (f.I1.length-I6 (L.map (·.params)) (d,x))) (f.I1.drop (f.I1.length-I6 (L.map (·.params)) (d,x))):=by unfold Q1;rw[b0];rfl
  have h2:Y0 L f=P7 (d,x) (f.I1.drop (f.I1.length-I6 (L.map (·.params)) (d,x))):=by unfold Y0;rw[b0];rfl
  unfold StV StO;rw[h1,h2]
 rw[E];clear E;obtain⟨po,b1⟩: ∃z,I6 (L.map (·.params)) (d,x)=z:=⟨_,rfl⟩;obtain⟨m,hm⟩: ∃m,f.I1.length-po=m:=⟨_,rfl⟩;obtain⟨xs,g8⟩: ∃z,f.I1.drop m=z:=⟨_,rfl⟩;obtain⟨S0,h3⟩: ∃z,f.I1.take m=z:=⟨_,rfl⟩;rw[b1,hm,g8,h3];have b2:=zh b1;have HM:=zh hm;have j9:=zh g8;have h5:=zh h3;clear b1 hm g8 h3;obtain⟨gc,Av,cv,As,R,rfl,rfl,rfl,d0,d1,d2,d3,z1,z3,p2⟩:=W7 h;obtain⟨⟨c0,c1,N,c3,c4⟩,f2,f3,f4⟩:=Z4 h;rw[y7,List.length_singleton]at c4;obtain⟨gf,p3,vo,hv,-,k3,u0,u1,u2,g0⟩:=hF.at (X9 a9);injection hv with r h6 O
 clear h6;subst r O;obtain⟨go,co,rfl,-,k4,k5⟩:=g0.at;obtain⟨o0,o1⟩:=k5 f.pc (d,x) (by show(cd.I9.map Prod.fst)[f.pc]?=_;rw[F6,g6];rfl);simp only[Cf.pf,C0]at u0 u1 u2 o0 o1;have p4:f.fn<L.length:=(List.getElem?_eq_some_iff.1 a9).1;have p5:f.pc<cd.I9.length:=(List.getElem?_eq_some_iff.1 g6).1;have p6:f.pc<=4000:=by have:=h4 cd (B0 a9);omega
 have e0:((low.length+1:Nat):Int)=(low.length:Int)+1:=by omega
 have e1:IntKind.i64.wrap ((low.length:Int)+1-1)=(low.length:Int):=by rw[show(low.length:Int)+1-1=low.length by omega];exact IntWalk.i64_in _ (by omega)
 have i0:(0:Int)<=(low.length:Int):=by omega
 have i1:(low.length:Int)<(low.length:Int)+1:=by omega
 have j0:(0:Int)<=(f.fn:Int):=by omega
 have j1:(f.fn:Int)<(L.length:Int):=by omega
 have k0:(0:Int)<=(f.pc:Int):=by omega
 have k1:(f.pc:Int)<(cd.I9.length:Int):=by omega
 have H:=zh h;have HF:=zh hF;have HI:=zh hI;have HP:=zh hP;have n:=zh HH;have HL:=zh f8;have p7:=zh b0;have h7:=zh j7;have p8:=zh a9;have l:=zh (x9 w (.cells #[.int .i64 d,.int .i64 x] 74));have m8:=zh ((x7 w.heap.size w).alloc (x6 _) (.cells #[.int .i64 d,.int .i64 x] 74));clear h hF hI hP HH f8 b0 j7 hT g6 k5 g0 h4 a9 m7
 go_enter func49,ntmps49
 go_upto_region 1 with(fail)
 go_quiet (fail)
 have HD:=J1 (x7 w.heap.size w) nq;replace H:=zh (H.out.below HD);have P:=zh (Vo.of HD (B5 H.out.lo (G3 (by have:=I0 H.out.J7;exact this))));have k6: ∀a,(w.drewN nq).cell? a=w.cell? a:=λ_=>rfl;rw[<-k6]at c0 c1 N c3 c4 d0 d1 d2 d3 u0 u1 u2 o0 o1;have K:gf<(w.drewN nq).heap.size:=k3;have b3:go<(w.drewN nq).heap.size:=k4;have a7:mb<(w.drewN nq).heap.size:=I0 H.out.J7;have b4:gc<(w.drewN nq).heap.size:=by obtain⟨gx,cx,e,-,hx,-⟩:=H.out.T7.at (i:=low.length) (x:=(f,.slice Av f.vars.length cv,.slice As f.I1.length R)) (by simp);injection e with e;injection e with e;subst e;exact I0 hx
 clear HD k6 k3 k4 l m8;generalize World.drewN _ _=w1 at H P c0 c1 N c3 c4 d0 d1 d2 d3 u0 u1 u2 o0 o1 K b3 a7 b4|-
 go_upto_region 2 with(fail)
 have hA: ∀b k,b<w1.heap.size->(w1.alloc (.cells #[.int .i64 0,.int .i64 0] 74)).cell? ⟨b,k,none⟩=w1.cell? ⟨b,k,none⟩:=λb k S=>((x7 w1.heap.size w1).alloc (x6 _) _).cell (p:=⟨b,k,none⟩) S;refine L0 (by kernel_rfl) [(0,25,.pointer (some ⟨mb,0,none⟩)),(1,26,.pointer (some ⟨mb,0,none⟩)),(2,27,.pointer (some ⟨mb,0,none⟩)),(3,28,.pointer (some ⟨mb,0,none⟩)),(4,29,.slice (some ⟨gf,0,none⟩) L.length cf),(5,30,.pointer (some ⟨gc,low.length*4,none⟩)),(6,31,.pointer (some ⟨gc,low.length*4,none⟩)),(7,32,.pointer (some ⟨gc,low.length*4,none⟩)),(8,33,.int .i64 f.fn),(9,34,.pointer (some ⟨gf,f.fn*3,none⟩)),(10,35,.pointer (some ⟨gf,f.fn*3+2,none⟩)),(11,36,.slice (some ⟨go,0,none⟩) cd.I9.length co),(12,37,.pointer (some ⟨gc,low.length*4,none⟩)),(13,38,.pointer (some ⟨gc,low.length*4,none⟩)),(14,39,.pointer (some ⟨gc,low.length*4+1,none⟩)),(15,40,.int .i64 f.pc),(16,41,.pointer (some ⟨go,f.pc*2,none⟩)),(17,42,.agg #[.int .i64 d,.int .i64 x]),(18,6,.pointer (some ⟨w1.heap.size,0,none⟩))] [] _ _ rfl rfl [18,19] (λj=>match j with|0=>w1.drew|1=>w1.drew.alloc (.cells #[.int .i64 0,.int .i64 0] 74)|_=>w1.drew.alloc (.cells #[.int .i64 d,.int .i64 x] 74)) [(0,0),(0,1),(1,0),(1,1),(2,0),(2,1),(3,0),(3,1),(4,0),(4,1),(5,0),(5,1),(6,0),(6,1),(7,0),(7,1),(8,0),(8,1),(9,0),(9,1),(10,0),(10,1),(11,0),(11,1),(12,0),(12,1),(13,0),(13,1),(14,0),(14,1),(15,0),(15,1),(16,0),(16,1),(17,0),(17,1),(18,0),(19,1)] (by kernel_rfl) (by kernel_rfl) (by rfl) rfl ?_ ?_
 ·generalize hF:J2 _ _=F
  simp[J2]at hF;subst hF
  repeat' (first|refine List.forall_mem_cons.2 ⟨?_,?_⟩|exact List.forall_mem_nil _)
  all_goals
   intro o U;injection U with U
   subst U
  all_goals simp[Y7,execOp,go_sem,hA,K,b3,a7,b4,c0,d0,d1,u2,o0,o1,j0,j1,k0,k1]
 have ba:=((x7 w1.heap.size w1).alloc (x6 _) (.cells #[.int .i64 d,.int .i64 x] 74)).drew;have l:Hid ((w1.alloc (.cells #[.int .i64 d,.int .i64 x] 74)).drew.heap[w1.heap.size]?=_):=zh (x9 w1 (.cells #[.int .i64 d,.int .i64 x] 74));have m9:B<=w1.heap.size:=B5 H.out.lo (G3 a7);replace H:=zh (H.out.below ba);replace P:=zh (P.out.trans (Vo.of ba m9));clear ba hA c0 c1 N c3 c4 d0 d1 d2 d3 u0 u1 u2 o0 o1 K b3 a7 b4 j0 j1 k0 k1 i0 i1 z1 z3 f2 f3 f4 e1;simp only[J2,z9,B4,List.append_nil,List.foldl];go_simp;generalize(World.alloc _ _).drew=w2 at H P l|-
 generalize w1.heap.size=bo at l|-
 obtain⟨⟨c0,c1,N,c3,c4⟩,f2,f3,f4⟩:=Z4 H.out;have q0:=x5 l.out 0;have q1:=x5 l.out 1;have g1:qq (L.map Cf.pf).length cd.vars cd.I9.length (d,x):=by
  have:=h7.out.1;rw[C0]at this|-
  exact this
 have HQ:Hid (X1 w w2):=zh P.out.yq;have TC:=zh (Jf (L.map Cf.pf) (some ⟨gf,0,none⟩) cf main cd.vars cd.I9.length d x w2.drew g1 (by rw[C0];exact(HF.out.I5 HQ.out).I5 (.of (I8 w2))));rw[C0]at TC;obtain⟨D,V,-,-⟩:=h7.out;have k7:=qY L;have e4:I6 (L.map (·.params)) (d,x)<=7:=qi (λy hy=>by obtain⟨z,hz,rfl⟩:=List.mem_map.1 hy;exact(HP.out.xQ z hz).params) (d,x);have k8:I6 ((L.map Cf.pf).map Pf.params) (d,x)=po:=by rw[k7];exact b2.out
 rw[k8]at TC;rw[b2.out]at V e4;clear k8 g1 k7
 go_upto_region 3 with(fail)
 go_cut[7] (λp W=>p=.int .i64 po/\Hid (Below w2.heap.size w2 W))
 case first=>
  go_region_law(go_simp;go_at_call 80;refine TC.out.mono ?_;rintro e w' ⟨rfl,S⟩)
  all_goals
   go_wp2_with fail
   go_meet
   case rel=>exact⟨rfl,zh ((I8 w2).trans S)⟩
 case rest=>
  rename World=>w3
  obtain⟨rfl,e5⟩:=hcut;have k9:B<=w2.heap.size:=B5 H.out.lo (G3 (I0 H.out.J7));replace H:=zh (H.out.below e5.out);replace P:=zh (P.out.trans (Vo.of e5.out k9));replace l:=zh ((e5.out.block bo (I0 l.out)).trans l.out);clear TC HQ c0 c1 N c3 c4 f2 f3 f4 q0 q1 k9 e5;obtain⟨h8,p9,q2,q3,q4,G,-,-,d0,d1,d2,d3,z1,z3,-⟩:=W7 H.out;injection G with G;injection G with G
  subst G;have hm:=HM.out;have n0:po<=f.I1.length:=V;have h9:f.I1.length-m=po:=by omega
  have H3:=H;have n1:f.I1.length<=600:=by
   have h1:f.I1.length-I6 (L.map (·.params)) (d,x)+J9 (d,x)<=256:=h7.out.2.2.1;rw[b2.out]at h1;omega
  have em:IntKind.i64.wrap ((f.I1.length:Int)-(po:Int))=(m:Int):=by rw[show(f.I1.length:Int)-po=m by omega];exact IntWalk.i64_in _ (by omega)
  have X:=H.out.T7.T6.xt.2.1;simp only at X;have i0:(0:Int)<=(m:Int):=by omega
  have i1:(m:Int)<=(f.I1.length:Int):=by omega
  have i2:m<=f.I1.length:=by omega
  go_upto_region 5 with(fail)
  go_cut[10] (λp W=> ∃A2 N,p=.slice A2 po N/\Hid (W.ownsRow w3.heap.size 3 1 (.slice A2 po N) po (iC (f.I1.drop m)))/\Hid (Below w3.heap.size w3 W))
  case first=>
   rcases(O3 X).2 with rfl|⟨gs,rfl⟩
   ·have n2:R=0:=by
     rcases O5 X with⟨e,-⟩|⟨g9,c9,e,-⟩
     ·injection e
     ·injection e with e;cases e
    have T:=xI (m:=m) (A':=none) (c':=R-m) X (by omega) (.inl ⟨rfl,rfl,by omega⟩);rw[h9]at T;replace T:=zh T;clear n2
    go_wp2_with fail
    refine T.out.mono ?_;rintro e w' ⟨S,A2,N,rfl,U⟩
    go_wp2_with fail
    go_meet
    case rel=>exact⟨A2,N,rfl,zh U,zh S⟩
   ·by_cases q5:R=m
    ·have hl:f.I1.length=m:=by have:=(O3 X).1;omega
     have T:=xI (m:=m) (A':=some ⟨gs,0,none⟩) (c':=0) X (by omega) (.inr ⟨gs,rfl,.inr ⟨rfl,hl⟩⟩);rw[h9]at T;replace T:=zh T;clear hl
     go_wp2_with fail
     refine T.out.mono ?_;rintro e w' ⟨S,A2,N,rfl,U⟩
     go_wp2_with fail
     go_meet
     case rel=>exact⟨A2,N,rfl,zh U,zh S⟩
    ·have T:=xI (m:=m) (A':=some ⟨gs,m,none⟩) (c':=R-m) X (by omega) (.inr ⟨gs,rfl,.inl rfl⟩)
     rw[h9]at T;replace T:=zh T
     go_wp2_with fail
     refine T.out.mono ?_;rintro e w' ⟨S,A2,N,rfl,U⟩
     go_wp2_with fail
     go_meet
     case rel=>exact⟨A2,N,rfl,zh U,zh S⟩
  case rest=>
   rename World=>Y
   obtain⟨Aa,ca,rfl,HA,a8⟩:=hcut;have n3:B<=w3.heap.size:=B5 H.out.lo (G3 (I0 H.out.J7));replace H:=zh (H.out.below a8.out);replace P:=zh (P.out.trans (Vo.of a8.out n3));replace l:=zh ((a8.out.block bo (I0 l.out)).trans l.out);have b5:=zh (IK.below a8.out);have b6:=a8.out.size;clear d0 d1 d2 d3 z1 z3 a8 X em i0 i1;have q0:=x5 l.out 0;have q1:=x5 l.out 1;have g2:B<=Y.heap.size:=B5 H.out.lo (G3 (I0 H.out.J7));have l0:=n.out.I5 HI.out P.out;have e6:=zh l0;have l1:=zh (HF.out.I5 P.out.yq);obtain⟨⟨c0,c1,N,c3,c4⟩,f2,f3,f4⟩:=Z4 H.out;rw[y7,List.length_singleton]at c4;clear l0;rw[j9.out]at HA;have e7:xs.length=po:=by rw[<-j9.out,G9];omega
   go_upto_region 7 with(fail)
   clear q0
   by_cases i3:d=17
   ·
    subst i3;obtain⟨b7,b8⟩:=D.2.2.1 (by simp);obtain⟨j,rfl⟩: ∃j:Nat,x=j:=⟨x.toNat,by simp only at b7;omega⟩;have n4:j<L.length:=by simp[U6]at b8;omega
    obtain⟨cg,e8⟩: ∃cg,L[j]?=some cg:=⟨_,x8 n4⟩;have n5:po=cg.params:=by rw[<-b2.out];have:=zaD e8;simpa[I6]using this
    subst n5;have b9:=HP.out.xQ cg (B0 e8);have q6:=b9.vars;have q7:=b9.params;clear D V e4 b7 b8 b9
    by_cases c5:low.length+1=32
    ·have n6:((low.length:Int)+1==32)=true:=beq_iff_eq.2 (by omega)
     have HS:Hid (M1 L hf value (low.map Prod.fst) f (17,(j:Int)) S0 xs=(xw 6,false)):=zh (by simp[M1,c5]);have FC:=zh (Yx H.out 6)
     go_wp2_with fail
     refine FC.out.mono ?_;rintro e w5 ⟨rfl,C,a4⟩;have a5:=zh C;have e9:=zh (P.out.trans a4);have a6:=zh (n.out.I5 e6.out a4);clear C a4
     go_wp2_with fail
     go_ret;exact .mk HS.out a5.out rfl (e9.out.qh n.out.le) (by simpa[P7]using a6.out)
    ·have n6:((low.length:Int)+1==32)=false:=beq_eq_false_iff_ne.2 (by omega)
     go_upto_region 11 with(fail)
     obtain⟨q8,q9,r0,n7,-,K,u0,u1,u2,l2⟩:=l1.out.at (X9 e8);injection n7 with r h6 O
     clear h6;injection r with r;injection r with r
     subst r O;simp only[Cf.pf]at u0 u1 u2;obtain⟨c6,c7,rfl,-⟩:=l2.at;have i4:=I0 l.out;have l3:=I0 H.out.J7;have hA: ∀b k,b<Y.heap.size->(Y.alloc (.cells #[.int .i64 0,.int .i64 0,.slice none 0 0] 40)).cell? ⟨b,k,none⟩=Y.cell? ⟨b,k,none⟩:=λb k S=>((x7 Y.heap.size Y).alloc (x6 _) _).cell (p:=⟨b,k,none⟩) S;have j0:(0:Int)<=(j:Int):=by omega
     have j1:(j:Int)<(L.length:Int):=by omega
     refine L0 (by kernel_rfl) [(0,78,.pointer (some ⟨mb,0,none⟩)),(1,79,.pointer (some ⟨mb,0,none⟩)),(2,80,.pointer (some ⟨mb,0,none⟩)),(3,81,.pointer (some ⟨mb,0,none⟩)),(4,82,.slice (some ⟨gf,0,none⟩) L.length cf),(5,83,.pointer (some ⟨bo,1,none⟩)),(6,84,.int .i64 j),(7,85,.pointer (some ⟨gf,j*3,none⟩)),(8,86,.agg #[.int .i64 cg.params,.int .i64 cg.vars,(.slice (some ⟨c6,0,none⟩) cg.pf.ops.length c7)]),(9,11,.pointer (some ⟨Y.heap.size,0,none⟩))] [] _ _ rfl rfl [9,10] (λj=>match j with|0=>Y.drew|1=>Y.drew.alloc (.cells #[.int .i64 0,.int .i64 0,.slice none 0 0] 40)|_=>Y.drew.alloc (.cells #[.int .i64 cg.params,.int .i64 cg.vars,(.slice (some ⟨c6,0,none⟩) cg.pf.ops.length c7)] 40)) [(0,0),(0,1),(1,0),(1,1),(2,0),(2,1),(3,0),(3,1),(4,0),(4,1),(5,0),(5,1),(6,0),(6,1),(7,0),(7,1),(8,0),(8,1),(9,0),(10,1)] (by kernel_rfl) (by kernel_rfl) (by rfl) rfl ?_ ?_
     ·generalize hF:J2 _ _=F
      simp[J2]at hF;subst hF
      repeat' (first|refine List.forall_mem_cons.2 ⟨?_,?_⟩|exact List.forall_mem_nil _)
      all_goals
       intro o U;injection U with U
       subst U
      all_goals simp[Y7,execOp,go_sem,hA,K,i4,l3,c0,q1,u0,u1,u2,j0,j1]
     have ba:=((x7 Y.heap.size Y).alloc (x6 _) (.cells #[.int .i64 cg.params,.int .i64 cg.vars,(.slice (some ⟨c6,0,none⟩) cg.pf.ops.length c7)] 40)).drew;have f0:Hid ((Y.alloc (.cells #[.int .i64 cg.params,.int .i64 cg.vars,(.slice (some ⟨c6,0,none⟩) cg.pf.ops.length c7)] 40)).drew.heap[Y.heap.size]?=_):=zh (x9 Y (.cells #[.int .i64 cg.params,.int .i64 cg.vars,(.slice (some ⟨c6,0,none⟩) cg.pf.ops.length c7)] 40));replace H:=zh (H.out.below ba);replace P:=zh (P.out.trans (Vo.of ba g2));replace HA:=zh (K1 HA.out ba);replace b5:=zh (b5.out.trans (.below ba));replace l:=zh ((ba.block bo i4).trans l.out);replace b6:=B5 b6 ba.size;clear ba hA c0 c1 N c3 c4 f2 f3 f4 q1 u0 u1 u2 K i4 l3 g2 e6 l1;simp only[J2,z9,B4,List.append_nil,List.foldl];go_simp;generalize(World.alloc _ _).drew=w5 at H P l f0 HA b5 b6|-
     generalize Y.heap.size=bg at f0|-
     obtain⟨h8,i5,i6,i7,i8,G,ev,es,d0,d1,d2,d3,z1,z3,l4⟩:=W7 H.out;injection G with G;injection G with G
     injection ev with r O c8
     injection es with d4 d5 d6
     clear O d5;subst G r c8 d4 d6;obtain⟨Q,J⟩:=zbs H.out m i2;rw[h5.out]at Q;have q:=zh Q;have l5:=zh (P.out.trans J);obtain⟨l6,n8,e3,-,a1⟩:=H.out.xo;injection e3 with e3;injection e3 with e3
     subst e3;have f1:=zh (U5 HA.out a1 (by decide) (low.length*4+3) (.slice As m R));have g3:=zh (b5.out.trans (.set a1 (by decide) (low.length*4+3) (.slice As m R)));have ne: ∀{b t:Nat}{l7:Array Value}{fr:Nat×Nat},w5.heap[b]?=some (.cells l7 t fr)->t≠95->(w5.setCell ⟨gc,low.length*4+3,none⟩ (.slice As m R)).heap[b]?=some (.cells l7 t fr):=λS ht=>by
      rw[(I7 w5 gc (low.length*4+3) (.slice As m R)).block _ (I0 S) (λe=>by injection e with e;subst e;rw[a1]at S;injection S with S;injection S with _ e;exact ht e.symm)];exact S
     have a2:=zh (ne l.out (by decide));have d7:=zh (ne f0.out (by decide));have g4:w3.heap.size<=(w5.setCell ⟨gc,low.length*4+3,none⟩ (.slice As m R)).heap.size:=by simpa using b6
     have k1: ¬((R:Int)<(m:Int)):=by omega
     have k2:(m:Int)<=(R:Int):=by omega
     clear Q J a1 H P HA b5 l f0 ne b6
     go_upto_region 13 with(fail)
     clear d0 d1 d2 d3 z1 z3 k1 k2;generalize World.setCell _ _ _=w6 at q l5 f1 g3 a2 d7 g4|-
     replace q:=zh (q.out.below (I8 w6));have l8:Rows w3 B (low++[({f with I1:=S0},.slice Av f.vars.length cv,.slice As m R)]):=by
      have:=H3.out.T7.T6.cut (f:={f with I1:=f.I1.take m}) rfl rfl i2 rfl;rw[h5.out]at this;exact this
     obtain⟨k,hk⟩: ∃k,cg.vars-cg.params=k:=⟨_,rfl⟩;obtain⟨A1,c1,w7,A2,N,w8,r7,g7,r8,t4,f4,i9,j2⟩:=zek q.out l8 (λg R hg=>g3.out g R hg) g4 (B5 H3.out.lo (G3 (I0 H3.out.J7))) f1.out.drew k j (by omega) (by simp;omega);have n9:(low++[(({f with I1:=S0}:Fq),Value.slice Av f.vars.length cv,Value.slice As m R)]).length=low.length+1:=by simp
     rw[n9]at r8 t4 i9 j2;have o2:=zh i9;have l9:=zh ((l5.out.trans (Vo.of (I8 w6) (B5 q.out.lo (G3 (I0 q.out.J7))))).trans j2);have f5:=I0 q.out.J7;have g5:=(g7.block bo (I0 a2.out) (λe=>K5 f1.out a2.out (by decide) e.symm)).trans a2.out;have a3:=(g7.block mb (I0 q.out.J7) (λe=>K5 f1.out.drew q.out.J7 (by decide) e.symm)).trans q.out.J7;have ba:=(x7 w7.heap.size w7).alloc (x6 _) (.cells #[.int .i64 j,.int .i64 0,.slice A1 (cg.params+k) c1,.slice none 0 0] 95);have d8:=(ba.block mb (I0 a3)).trans a3;rw[y7,List.length_singleton]at a3 d8;have c4:=x5 q.out.J7 4;rw[y7,List.length_singleton]at c4;have m0:=x5 a3 4;have m1:=x5 d8 4;have q1:=x5 a2.out 1;have m2:=x5 g5 1;have u0:=x5 d7.out 0;have u1:=x5 d7.out 1;have ek:IntKind.i64.wrap ((cg.vars:Int)-(cg.params:Int))=(k:Int):=by rw[show(cg.vars:Int)-cg.params=k by omega];exact IntWalk.i64_in _ (by omega)
     clear i9 j2 a3 d8 g5 ba l8 g7 f5;refine L0 (by kernel_rfl) [(0,96,.pointer (some ⟨mb,0,none⟩)),(1,97,.pointer (some ⟨mb,0,none⟩)),(2,98,.pointer (some ⟨mb,0,none⟩)),(3,99,.pointer (some ⟨mb,4,none⟩)),(4,100,.slice (some ⟨gc,0,none⟩) (low.length+1) c),(5,101,.pointer (some ⟨bo,1,none⟩)),(6,102,.int .i64 j),(7,103,.slice Aa cg.params ca),(8,104,.pointer (some ⟨bg,1,none⟩)),(9,105,.int .i64 cg.vars),(10,106,.pointer (some ⟨bg,0,none⟩)),(11,107,.int .i64 cg.params),(12,108,.int .i64 k),(13,109,.slice A1 (cg.params+k) c1),(14,110,.agg #[.int .i64 j,.int .i64 0,.slice A1 (cg.params+k) c1,.slice none 0 0]),(15,111,.slice (some ⟨w7.heap.size,0,none⟩) 1 1),(16,112,.slice A2 (low.length+1+1) N),(17,113,.pointer (some ⟨mb,0,none⟩)),(18,114,.pointer (some ⟨mb,4,none⟩))] [] _ _ rfl rfl [13,15,16,19] (λz=>match z with|0=>w6.drew|1=>w7|2=>w7.alloc (.cells #[.int .i64 j,.int .i64 0,.slice A1 (cg.params+k) c1,.slice none 0 0] 95)|3=>w8|_=>w8.setCell ⟨mb,4,none⟩ (.slice A2 (low.length+1+1) N)) [(0,0),(0,1),(0,2),(0,3),(1,0),(1,1),(1,2),(2,0),(2,1),(2,2),(3,0),(3,1),(3,2),(4,0),(4,1),(4,2),(5,0),(5,1),(6,0),(6,1),(7,0),(8,0),(9,0),(10,0),(11,0),(12,0),(13,0),(14,1),(15,1),(16,2),(17,3),(18,3),(19,3)] (by kernel_rfl) (by kernel_rfl) (by rfl) rfl ?_ ?_
     ·generalize hF:J2 _ _=F
      simp[J2]at hF;subst hF
      repeat' (first|refine List.forall_mem_cons.2 ⟨?_,?_⟩|exact List.forall_mem_nil _)
      all_goals
       intro o U;injection U with U
       subst U
      rotate_left 26
      ·exact Q6 rfl rfl rfl r7
      rotate_left 2
      ·exact Q6 rfl rfl rfl r8
      all_goals simp[Y7,execOp,go_sem,c4,m0,m1,q1,m2,u0,u1,ek,t4,f4]
     clear c4 m0 m1 q1 m2 u0 u1 ek t4 f4 r7 r8;have o3:Hid (M1 L hf value (low.map Prod.fst) f (17,(j:Int)) S0 xs=(⟨0,value,low.map Prod.fst++[{f with I1:=S0}]++[⟨j,0,xs++List.replicate k 0,[]⟩]⟩,false)):=zh (by simp[M1,c5,e8,e7,hk]);simp only[J2,z9,B4,List.append_nil,List.foldl];go_simp
     go_wp2_with fail
     go_ret;have o4:=n.out.I5 HI.out l9.out;exact .mk o3.out o2.out (by simp) (l9.out.qh n.out.le) (by simpa[P7]using o4)
   have r1:(d==17)=false:=beq_eq_false_iff_ne.2 i3
   by_cases j3:d=18
   ·
    subst j3;have o5:po=1:=by rw[<-b2.out];simp[I6]
    obtain⟨a,rfl⟩: ∃a,xs=[a]:=List.length_eq_one_iff.1 (by omega);obtain⟨ga,rfl,a0⟩:=qc HA.out (k:=0) (a:=a) rfl;subst o5;have BC:=zh (zfi H.out a (by omega) HL.out);clear D V e4
    go_wp2_with fail
    refine BC.out.mono ?_;rintro e w5 ⟨rfl,a4,C⟩;have a5:=zh C;have e9:=zh (P.out.trans a4);have a6:=zh (n.out.I5 e6.out a4);clear C a4
    go_wp2_with fail
    go_ret;have C:=a5.out;cases hg:low.getLast? with
    |none=>
     rw[hg]at C;exact .mk (M:=⟨1,a,[]⟩) (by simp[M1,hg]) C rfl (e9.out.qh n.out.le) (by simpa[P7]using a6.out)
    |some u=>
     rw[hg]at C;obtain⟨s',C⟩:=C;exact .mk (M:=⟨0,value,(low.map Prod.fst).dropLast++[{u.1 with pc:=u.1.pc+1,I1:=u.1.I1++[a]}]⟩) (by simp[M1,hg]) C (by simp) (e9.out.qh n.out.le) (by simpa[P7]using a6.out)
   have r2:(d==18)=false:=beq_eq_false_iff_ne.2 j3;obtain⟨l6,n8,e3,-,a1⟩:=H.out.xo;injection e3 with e3;injection e3 with e3
   subst e3;obtain⟨h8,i5,i6,i7,i8,G,ev,es,d0,d1,d2,d3,z1,z3,l4⟩:=W7 H.out;injection G with G;injection G with G
   injection ev with r O c8
   injection es with d4 d5 d6
   clear O d5;subst G r c8 d4 d6;have k1: ¬((R:Int)<(m:Int)):=by omega
   have k2:(m:Int)<=(R:Int):=by omega
   by_cases m3:d=20
   ·
    subst m3;obtain⟨b7,b8⟩:=D.2.2.1 (by simp);simp[U6]at b7 b8;have ex:IntKind.i64.wrap (x.tdiv 8)=x/8:=IntWalk.i64_quo x 8 (by omega);have eg:=n.out.eg;have HC:=zh (n.out.call (x/8) xs Aa ca Y t e6.out (by have:=S6 (F:=λ_=>True) (e7▸HA.out) (λ_ _=>trivial);exact e7.symm▸this) (by omega) (by omega) (by omega));rw[e7]at HC;clear D V e4 b7 b8 d0 d1 d2 d3 z1 z3
    go_wp2_with fail
    refine HC.out.mono ?_;rintro e w5 ⟨rfl,m4,j4⟩;have a5:=zh (H.out.hk j4);have m5:=zh ((P.out.qh n.out.le).trans j4.qh);have a6:=zh m4;obtain⟨y,hy⟩: ∃y,(hf (x/8) xs).1=y:=⟨_,rfl⟩;obtain⟨er,j5⟩: ∃y,(hf (x/8) xs).2=y:=⟨_,rfl⟩;rw[hy,j5];have HY:=zh hy;have m6:=zh j5;clear j4 m4 eg hy j5 HC
    by_cases h0:er=0
    ·subst h0
     have d9:Hid (M1 L hf value (low.map Prod.fst) f (20,x) S0 xs=(⟨0,value,low.map Prod.fst++[{f with pc:=f.pc+1,I1:=f.I1.take m++[y]}]⟩,false)):=zh (by simp[M1,HY.out,m6.out,h5.out]);obtain⟨h8,i5,i6,i7,i8,G,ev,es,d0,d1,d2,d3,z1,z3,-⟩:=W7 a5.out;injection G with G;injection G with G
     injection ev with r O c8
     injection es with d4 d5 d6
     clear O d5;subst G r c8 d4 d6;obtain⟨A',c',w6,r4,x3,y3,Q,J⟩:=zei a5.out m i2 y (by omega);have q:=zh Q;have f6:=zh (m5.out.trans (J.qh n.out.le));have f7:=zh (n.out.I5 a6.out J);clear Q J d0 d1 d2 z1 z3
     go_upto_region 24 with(at_builtin;refine Lib.wpList_append_run _ rfl _ _ _ _ rfl _ _ rfl rfl _ _ r4 ?_)
     clear r4 x3 y3 d3;generalize World.setCell _ _ _=w7 at q f6 f7|-
     obtain⟨l6,i5,i6,i7,i8,e3,-,-,d0,d1,d2,d3,z1,z3,-⟩:=W7 q.out;injection e3 with e3;injection e3 with e3
     subst e3;have ep:IntKind.i64.wrap ((f.pc:Int)+1)=((f.pc+1:Nat):Int):=by rw[show((f.pc+1:Nat):Int)=(f.pc:Int)+1 by omega];exact IntWalk.i64_in _ (by omega)
     simp only at d1;obtain⟨f5,j6⟩:=XA q.out (f.pc+1);have o6:=zh f5;have o7:=zh (f6.out.trans (j6.qh n.out.le));have o8:=zh (n.out.I5 f7.out j6);clear d0 d2 d3 z3 f5 j6
     go_wp2_with fail
     go_ret;rw[show(f.pc:Int)+1=((f.pc+1:Nat):Int) by omega];exact .mk d9.out o6.out (by simp) o7.out (by simpa[P7]using o8.out)
    ·have r3:(er==0)=false:=beq_eq_false_iff_ne.2 h0
     have d9:Hid (M1 L hf value (low.map Prod.fst) f (20,x) S0 xs=(xw er,false)):=zh (by simp[M1,m6.out,h0]);have FC:=zh (Yx a5.out er)
     go_wp2_with fail
     refine FC.out.mono ?_;rintro e w6 ⟨rfl,Q,J⟩;have q:=zh Q;have f6:=zh (m5.out.trans (J.qh n.out.le));have f7:=zh (n.out.I5 a6.out J);clear Q J
     go_wp2_with fail
     go_ret;exact .mk d9.out q.out rfl f6.out (by simpa[P7]using f7.out)
   rcases j8.out with h|h|h
   ·exact G5 h i3
   ·exact G5 h j3
   ·exact G5 h m3
end
end Go.Proofs.YtalgmjmibamdfaaGreatDoor
