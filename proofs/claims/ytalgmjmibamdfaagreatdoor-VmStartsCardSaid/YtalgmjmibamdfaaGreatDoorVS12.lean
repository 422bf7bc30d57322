/- Merged. -/
import Derived.Test.YtalgmjmibamdfaaGreatDoorVS11
set_option linter.all false
set_option maxHeartbeats 16000000
set_option maxRecDepth 100000
namespace Go.Proofs.YtalgmjmibamdfaaGreatDoor
open Go.RowKit
def qw(ops:Array Oper):Nat->Nat->Nat->Bool
 |0,_,_=>false
 |f+1,i,k=>match ops[i]? with
  |some o=>o.after.toList.any λe=>Region.binds .any e&&(e.on==k||qw ops f e.on k)
  |none=>false
def zfZ(ops:Array Oper)(i k:Nat):Bool:=match ops[i]? with
 |some o=>o.after.toList.any λe=>Region.binds .any e&&e.on==k
 |none=>false
def okB(ops:Array Oper)(a:List Nat)(i j:Nat):Bool:=
 ((List.range a.length).all λt=>if t<j then !(a.getD t 0==i)&&!qw ops ops.size (a.getD t 0) i else !qw ops ops.size i (a.getD t 0))&&(!a.contains i||a[j]?==some i)
def zf3(ops:Array Oper)(a:List Nat):List (Nat×Nat):=(List.range ops.size).flatMap λi=>((List.range (a.length+1)).filter (okB ops a i)).map λj=>(i,j)
def opB(ops:Array Oper)(a b:List (Nat×Nat))(i:Nat):Bool:=match ops[i]? with
 |some o=>o.guard.isNone&&(match o.op with|.select ..=>false|_=>true)&&decide (o.dst=((a++b).find? (λe=>e.1==i)).map (·.2))&&(o.after.toList.all λe=>!Region.binds .any e||decide (e.on<i))&&
  o.op.operands.toList.all λx=>match x with|.tmp t=>(a.all λe=>!(e.2==t)||zfZ ops i e.1)&&(b.all λe=>!(e.2==t)||qw ops ops.size e.1 i)|_=>true
 |none=>false
def zeQ(ops:Array Oper)(b c:List (Nat×Nat))(a:List Nat):Bool:=
 ((List.range ops.size).all (opB ops b c))&&((List.range a.length).all λt=>(List.range t).all λs=>qw ops ops.size (a.getD t 0) (a.getD s 0))&&decide (((b++c).map (·.1)).Nodup)&&decide (((b++c).map (·.2)).Nodup)&&decide a.Nodup&&a.all (λk=>decide (k<ops.size))&&(b++c).all (λe=>decide (e.1<ops.size))
def J2(T:jc)(a:Act):Act:=⟨T.foldl (λt e=>t.setIfInBounds e.2.1 e.2.2) a.tmps,a.defers⟩
def Y7(T:jc)(i:Nat):Next:=match T.find? (λe=>e.1==i)with
 |some e=>.value e.2.2
 |none=>.skip
section
variable {P:Program}{ops:Array Oper}
theorem zS{L:Array Bool}(h:Clo ops L): ∀(f i k:Nat),qw ops f i k=true->L.getD i false=true->L.getD k false=true
 |0,_,_,g,_=>by cases g
 |f+1,i,k,a,hi=>by
  rw[qw]at a
  split at a
  ·rename_i o j
   obtain⟨e,l,b⟩:=List.any_eq_true.1 a;simp only[E4,Bool.or_eq_true,beq_iff_eq]at b;have d:=h i o j hi e l b.1
   rcases b.2 with c|c
   ·rw[<-c];exact d
   ·exact zS h f _ _ c d
  ·cases a
theorem jv{L:Array Bool}(h:Clo ops L){i k f:Nat}(hi:i∈Region.ready .any ops L)(a:qw ops f i k=true):L.getD k false=true:=by
 cases f with
 |zero=>cases a
 |succ f=>
  rw[qw]at a
  split at a
  ·rename_i o g
   obtain⟨e,j,b⟩:=List.any_eq_true.1 a;simp only[E4,Bool.or_eq_true,beq_iff_eq]at b;have d:=J3 hi g e j b.1
   rcases b.2 with c|c
   ·rw[<-c];exact d
   ·exact zS h f _ _ c d
  ·cases a
theorem Zu{L:Array Bool}{i k:Nat}(hi:i∈Region.ready .any ops L)(a:zfZ ops i k=true):L.getD k false=true:=by
 unfold zfZ at a
 split at a
 ·rename_i o c
  obtain⟨e,d,b⟩:=List.any_eq_true.1 a;simp only[E4,beq_iff_eq]at b;rw[<-b.2];exact J3 hi c e d b.1
 ·cases a
theorem qr(T:jc): ∀(t:Array Value)(k:Nat),(∀e∈T,e.2.1≠k)->(T.foldl (λt e=>t.setIfInBounds e.2.1 e.2.2) t)[k]?=t[k]?:=by
 induction T with
 |nil=>intro t k _;rfl
 |cons e T a=>
  intro t k h;rw[List.foldl_cons,a _ k λx b=>h x (x4 _ b),D0 (h e (z5 ..))]
theorem yV(T:jc): ∀(t:Array Value),(T.map (·.2.1)).Nodup->(∀e∈T,e.2.1<t.size)-> ∀e∈T,(T.foldl (λt e=>t.setIfInBounds e.2.1 e.2.2) t)[e.2.1]?=some e.2.2:=by
 induction T with
 |nil=>intro t _ _ e h;cases h
 |cons x T f=>
  intro t a d e b;simp only[List.map_cons,List.nodup_cons]at a;rw[List.foldl_cons]
  rcases List.mem_cons.1 b with rfl|b
  ·rw[qr T _ _ λy c g=>a.1 (by rw[<-g];exact G1 c)]
   simp[d _ (z5 ..)]
  ·exact f _ a.2 (λy c=>by simpa using d y (x4 _ c)) e b
theorem L0{Q:Exit->Act->World->Prop}{id:Nat}{a0:Act}{w:World}(hm:P.follows .mixedOrders=true)(r T2:jc)(D E:List (Nat×Nat))(a8:r.map (λe=>(e.1,e.2.1))=D)(a9:T2.map (λe=>(e.1,e.2.1))=E)(c:List Nat)(W:Nat->World)(lit:List (Nat×Nat))(b0:zeQ ops D E c=true)(b1:zf3 ops c=lit)
 (hz:((D++E).all λe=>decide (e.2<a0.tmps.size))=true) (h0:W 0=w.drew)
 (b2: ∀p∈lit,∀o,ops[p.1]?=some o->(execOp (Act.eval (J2 r a0)) o).run P (W p.2)=.ok (Y7 (r++T2) p.1) (W (if c.contains p.1 then p.2+1 else p.2)))
 (hQ:Q .normal (J2 (r++T2) a0) (W c.length)):(Code.region id ops true).wp P Q a0 w:=by
 simp only[zeQ,E4,E2]at b0;obtain⟨⟨⟨⟨⟨⟨b3,c0⟩,a3⟩,s⟩,d3⟩,c1⟩,b4⟩:=b0;obtain⟨T,v⟩: ∃T,r++T2=T:=⟨_,rfl⟩;obtain⟨sl,a4⟩: ∃sl,D++E=sl:=⟨_,rfl⟩;have hT:T.map (λe=>(e.1,e.2.1))=sl:=by rw[<-v,<-a4,List.map_append,a8,a9]
 rw[v]at hQ b2;rw[a4]at a3 s b4 hz;have c2:T.map (·.1)=sl.map (·.1):=by rw[<-hT,List.map_map];rfl
 have c3:T.map (·.2.1)=sl.map (·.2):=by rw[<-hT,List.map_map];rfl
 have b5: ∀e∈T,(e.1,e.2.1)∈sl:=λe d=>by rw[<-hT];exact G1 (f:=λe:Nat×Nat×Value=>(e.1,e.2.1)) d
 have a5: ∀e∈T,e.2.1<a0.tmps.size:=λe d=>by simpa using List.all_eq_true.1 hz _ (b5 e d)
 rw[<-c2]at a3;rw[<-c3]at s;have R: ∀i,i<ops.size->opB ops D E i=true:=λi K=>List.all_eq_true.1 b3 i (List.mem_range.2 K);refine js hm ops.size rfl (λL a w=>(S9 T a0 L a/\ ∀e∈T,L.getD e.1 false=false->a.tmps[e.2.1]?=a0.tmps[e.2.1]?)/\ ∃j,j<=c.length/\w=W j/\ ∀t,t<c.length->(L.getD (c.getD t 0) false=true↔t<j)) ⟨⟨S9.start _ _ _,λ_ _ _=>rfl⟩,0,C6 _,h0.symm,λt _=>by rw[U8];simp⟩ ?_ ?_ ?_
 ·rintro L a w1 i hL hC ⟨⟨S,hU⟩,j,hj,rfl,U⟩ K
  have g:i<ops.size:=(zL K).1;have M:=ye K (by rw[hL];exact g);have N:=R i g;obtain⟨o,A⟩: ∃o,ops[i]?=some o:=⟨_,Array.getElem?_eq_getElem g⟩;unfold opB at N;rw[A]at N;simp only[E4,E2]at N;obtain⟨⟨⟨⟨hg,V⟩,hd⟩,-⟩,b6⟩:=N;rw[a4]at hd;have b7:o.guard=none:=by simpa using hg
  have d2: ∀t,t<c.length->c.getD t 0=c[t]! :=λt n=>by simp[n]
  have F: ∀t,c[t]?=some i->t=j:=λt n=>by
   have G:=(List.getElem?_eq_some_iff.1 n).1;have e:c.getD t 0=i:=by rw[List.getD_eq_getElem?_getD,n];rfl
   have J: ¬t<j:=λh=>by have:=(U t G).2 h;rw[e,M]at this;cases this
   rcases D6 j t with h|h
   ·have X:=List.all_eq_true.1 (List.all_eq_true.1 c0 t (List.mem_range.2 G)) j (List.mem_range.2 h)
    rw[e]at X;have B:=(U j (by omega)).1 (jv hC K X);omega
   ·omega
  have c4:okB ops c i j=true:=by
   unfold okB;rw[E4];refine⟨List.all_eq_true.2 λt n=>?_,?_⟩
   ·have G:=List.mem_range.1 n
    split
    ·rename_i h
     have J:=(U t G).2 h;simp only[E4,Bool.not_eq_true',y8];refine⟨λe=>(by rw[e,M]at J;cases J),?_⟩;cases X:qw ops ops.size (c.getD t 0) i with
     |false=>rfl
     |true=>have:=zS hC _ _ _ X J;rw[M]at this;cases this
    ·rename_i h
     simp only[Bool.not_eq_true'];cases X:qw ops ops.size i (c.getD t 0)with
     |false=>rfl
     |true=>exact G5 ((U t G).1 (jv hC K X)) h
   ·by_cases O:c.contains i=true
    ·obtain⟨t,n⟩:=List.getElem?_of_mem (by simpa using O:i∈c)
     have:=F t n;subst this;rw[O,n];simp
    ·simp only[Bool.not_eq_true]at O;rw[O];rfl
  have a6:(i,j)∈lit:=by
   rw[<-b1];exact List.mem_flatMap.2 ⟨i,List.mem_range.2 g,List.mem_map.2 ⟨j,List.mem_filter.2 ⟨List.mem_range.2 (by omega),c4⟩,rfl⟩⟩
  have m:=b2 (i,j) a6 o A;have c5:execOp (Act.eval (J2 r a0)) o=execOp (Act.eval a) o:=by
   refine execOp_congr o (λcs b e=>by rw[e]at V;cases V) λx hx=>?_;have J:=List.all_eq_true.1 b6 x (by simpa using hx);cases x with
   |tmp t=>
    simp only[E4]at J;show(J2 r a0).tmps.getD t undef=a.tmps.getD t undef;rw[E5,E5];have b8:(r.map (·.2.1)).Nodup:=by rw[<-v,List.map_append]at s;exact(List.nodup_append.1 s).1
    have Y: ∀e∈r,e∈T:=λe d=>by rw[<-v];exact List.mem_append_left _ d
    by_cases H: ∃e∈r,e.2.1=t
    ·obtain⟨e,d,rfl⟩:=H
     have B:=List.all_eq_true.1 J.1 (e.1,e.2.1) (by rw[<-a8];exact G1 (f:=λe:Nat×Nat×Value=>(e.1,e.2.1)) d);simp only[beq_self_eq_true,Bool.not_true,Bool.false_or]at B;rw[S.tb e (Y e d) (Zu K B)];show((r.foldl (λt e=>t.setIfInBounds e.2.1 e.2.2) a0.tmps)[e.2.1]?).getD undef=_;rw[yV r _ b8 (λe d=>a5 e (Y e d)) e d]
    ·have B: ∀e∈r,e.2.1≠t:=λe d u=>H ⟨e,d,u⟩
     show((r.foldl (λt e=>t.setIfInBounds e.2.1 e.2.2) a0.tmps)[t]?).getD undef=_;rw[qr r _ _ B]
     by_cases Z: ∃e∈T2,e.2.1=t
     ·obtain⟨e,d,rfl⟩:=Z
      have h3:=List.all_eq_true.1 J.2 (e.1,e.2.1) (by rw[<-a9];exact G1 (f:=λe:Nat×Nat×Value=>(e.1,e.2.1)) d);simp only[beq_self_eq_true,Bool.not_true,Bool.false_or]at h3;rw[hU e (by rw[<-v];exact List.mem_append_right _ d) (by
       cases X:L.getD e.1 false with
       |false=>rfl
       |true=>have:=zS hC _ _ _ h3 X;rw[M]at this;cases this)]
     ·rw[S.un t λe d u=>by
       rw[<-v]at d
       rcases List.mem_append.1 d with h|h
       ·exact B e h u
       ·exact Z ⟨e,h,u⟩]
   |_=>rfl
  rw[c5]at m;have a1: ∀a',S9 T a0 (L.setIfInBounds i true) a'->(∀e∈T,e.1≠i->a'.tmps[e.2.1]?=a.tmps[e.2.1]?)->(S9 T a0 (L.setIfInBounds i true) a'/\ ∀e∈T,(L.setIfInBounds i true).getD e.1 false=false->a'.tmps[e.2.1]?=a0.tmps[e.2.1]?)/\ ∃j',j'<=c.length/\W (if c.contains i then j+1 else j)=W j'/\ ∀t,t<c.length->((L.setIfInBounds i true).getD (c.getD t 0) false=true↔t<j'):=λa' h hk=>by
   refine⟨⟨h,λe d C=>?_⟩,?_⟩
   ·have q:e.1≠i:=λu=>by rw[u,M4 (by rw[hL];exact g)]at C;cases C
    rw[I2 q]at C;rw[hk e d q];exact hU e d C
   by_cases O:c.contains i=true
   ·obtain⟨t0,a7⟩:=List.getElem?_of_mem (by simpa using O:i∈c)
    have e0:=F t0 a7;subst e0;have d4:=(List.getElem?_eq_some_iff.1 a7).1;refine⟨t0+1,by omega,by rw[C5 O],λt n=>?_⟩
    by_cases e:t=t0
    ·subst e
     have:c.getD t 0=i:=by rw[List.getD_eq_getElem?_getD,a7];rfl
     rw[this,M4 (by rw[hL];exact g)];simp
    ·have q:c.getD t 0≠i:=λu=>by
      have:c[t]?=some i:=by rw[x8 n,<-u,List.getD_eq_getElem?_getD,x8 n];rfl
      exact e (F t this)
     rw[I2 q,U t n];omega
   ·refine⟨j,hj,by rw[z7 O],λt n=>?_⟩
    have q:c.getD t 0≠i:=λu=>O (by
     have:c[t]?=some i:=by rw[x8 n,<-u,List.getD_eq_getElem?_getD,x8 n];rfl
     simpa using B0 this)
    rw[I2 q];exact U t n
  unfold Y7 at m;cases C:T.find? (λe=>e.1==i)with
  |some e=>
   rw[C]at m;have d:=List.mem_of_find?_eq_some C;have c6:e.1=i:=by simpa using List.find?_some C
   subst c6;have I:o.dst=some e.2.1:=by
    rw[hd,<-hT,List.find?_map];have:((λe:Nat×Nat=>e.1==(e.1))∘λe:Nat×Nat×Value=>(e.1,e.2.1))=λ_=>true:=by funext;simp
    have B:T.find? ((λx:Nat×Nat=>x.1==e.1)∘λe:Nat×Nat×Value=>(e.1,e.2.1))=some e:=C;rw[B];rfl
   refine J4 e.2.1 A b7 I m ?_;refine a1 _ (S.put a3 s a5 e d) λe' c7 q=>?_;have b9:e.2.1≠e'.2.1:=λh=>q (by
    have c8: ∀l:jc,(l.map (·.2.1)).Nodup-> ∀x∈l,∀y∈l,x.2.1=y.2.1->x=y:=by
     intro l
     induction l with
     |nil=>intro _ x hx;cases hx
     |cons z l ih=>
      intro hn x hx y hy e;simp only[List.map_cons,List.nodup_cons]at hn
      rcases List.mem_cons.1 hx with h3|h3
      ·rcases List.mem_cons.1 hy with h4|h4
       ·rw[h3,h4]
       ·exact G5 (by rw[<-h3,e];exact G1 h4) hn.1
      ·rcases List.mem_cons.1 hy with h4|h4
       ·exact G5 (by rw[<-h4,<-e];exact G1 h3) hn.1
       ·exact ih hn.2 x h3 y h4 e
    rw[c8 T s e d e' c7 h])
   simp only[Act.put];rw[D0 b9]
  |none=>
   rw[C]at m;have c9: ∀e∈T,e.1≠i:=λe d u=>by have:=List.find?_eq_none.1 C e d;simp[u]at this
   have I:o.dst=none:=by
    rw[hd,<-hT,List.find?_map];have B:T.find? ((λx:Nat×Nat=>x.1==i)∘λe:Nat×Nat×Value=>(e.1,e.2.1))=none:=C;rw[B];rfl
   refine qn A b7 I m ?_;exact a1 _ (S.skip i c9) λ_ _ _=>rfl
 ·refine List.all_eq_true.2 λi K=>?_
  have N:=R i (List.mem_range.1 K);unfold opB at N;cases A:ops[i]? with
  |none=>rfl
  |some o=>
   rw[A]at N;simp only[E4]at N;exact N.1.2
 ·rintro L a w1 a2 ⟨⟨S,-⟩,j,hj,rfl,U⟩
  have d0:j=c.length:=by
   rcases D6 j c.length with h|h
   ·have J:=List.all_eq_true.1 c1 (c.getD j 0) (by rw[List.getD_eq_getElem?_getD,x8 h];exact List.getElem_mem h)
    have:=(U j h).1 (a2 _ (by simpa using J));omega
   ·omega
  subst d0;have ha:a=J2 T a0:=by
   have n:a.tmps=(J2 T a0).tmps:=by
    apply Array.ext_getElem?;intro k;show _=(T.foldl (λt e=>t.setIfInBounds e.2.1 e.2.2) a0.tmps)[k]?
    by_cases H: ∃e∈T,e.2.1=k
    ·obtain⟨e,d,rfl⟩:=H
     rw[yV T _ s a5 e d];exact S.tb e d (a2 _ (by simpa using List.all_eq_true.1 b4 _ (b5 e d)))
    ·have B: ∀e∈T,e.2.1≠k:=λe d u=>H ⟨e,d,u⟩
     rw[S.un k B,qr T _ _ B]
   have d1:=S.df;cases a;simp only[J2]at*;subst d1 n;rfl
  rw[ha];exact hQ
end
end Go.Proofs.YtalgmjmibamdfaaGreatDoor
namespace Go.Proofs.YtalgmjmibamdfaaGreatDoor
open Go.Proofs.Tryz
open Go.RowKit Tw
def Q3(t:Nat):Prop:=t=22\/t=55
structure Hk(Z:Nat)(w w':World):Prop where
 os:w'.os=w.os
 tape:w'.tape=w.tape
 output:w'.output=w.output
 low: ∀k,k<Z->w'.heap[k]?=w.heap[k]?
 size:w.heap.size<=w'.heap.size
 J7: ∀(k:Nat)(cs:Array Value)(t:Nat)(fr:Nat×Nat),w.heap[k]?=some (.cells cs t fr)-> ¬Q3 t->w'.heap[k]?=w.heap[k]?
structure zD(Z B:Nat)(g:Nat)(lb:Array Value)(hf:T0)(I:World->List (Int×List Int)->Prop):Prop where
 le:Z<=B
 I5: ∀{w w':World}{t:List (Int×List Int)},I w t->Vo B w w'->I w' t
 call: ∀(f:Int)(xs:List Int)(A:Option Addr)(c:Nat)(w:World)(t:List (Int×List Int)),I w t->J8 w (λ_=>True) (.slice A xs.length c) xs->xs.length<=600->0<=f->f<=100->
  Calls prog g (#[.int .i64 f,.slice A xs.length c]++lb) w λe w'=>e=.returned (.tuple #[.int .i64 (hf f xs).1,.int .i64 (hf f xs).2])/\I w' (t++[(f,xs)])/\Hk Z w w'
 eg: ∀args w,(callFunc g args).run prog w=.ok (.enter g args) w
section
variable {B mb nf cf c:Nat}{w w':World}{Af A:Option Addr}{main mode value:Int}{l:List Fm}{x:Fm}
theorem Z8.hk(h:Z8 w B mb Af nf cf main mode value A c l){Z:Nat}(a:Hk Z w w'):Z8 w' B mb Af nf cf main mode value A c l:=
 ⟨h.lo,(a.J7 mb _ _ _ h.J7 (by unfold Q3;decide)).trans h.J7,h.T7.zr λg b t d e=>a.J7 g b t _ d (by unfold Q3;rcases e with rfl|rfl<;>decide)⟩
theorem Z8.below(h:Z8 w B mb Af nf cf main mode value A c l)(a:Below w.heap.size w w'):Z8 w' B mb Af nf cf main mode value A c l:=
 ⟨h.lo,(a.block mb (I0 h.J7)).trans h.J7,h.T7.below a⟩
theorem Z8.cell(h:Z8 w B mb Af nf cf main mode value A c l)(j:Nat)(u:Value):
 (w.setCell ⟨mb,j,none⟩ u).heap[mb]?=some (.cells ((#[.slice Af nf cf,.int .i64 main,.int .i64 mode,.int .i64 value,.slice A l.length c]:Array Value).setIfInBounds j u) 98 (0,0))/\Q8 (w.setCell ⟨mb,j,none⟩ u) B 95 A c l/\Vo B w (w.setCell ⟨mb,j,none⟩ u):=
 ⟨y4 w mb j _ _ u h.J7,h.T7.else h.J7 (by decide) (by decide) j u,.set h.J7 h.lo (by unfold jh;decide) j u⟩
theorem Z8.yld(h:Z8 w B mb Af nf cf main mode value A c l)(v:Int):Z8 (w.setCell ⟨mb,3,none⟩ (.int .i64 v)) B mb Af nf cf main mode v A c l:=
 ⟨h.lo,(h.cell 3 _).1,(h.cell 3 _).2.1⟩
theorem ym(w:World)(B a:Nat):Q8 w B a none 0 []:=⟨F8 w B a 4,λ_=>(0,false),λi x h=>by cases h⟩
theorem Z8.stop(h:Z8 w B mb Af nf cf main mode value A c l)(m v:Int):Z8 (((w.setCell ⟨mb,2,none⟩ (.int .i64 m)).setCell ⟨mb,3,none⟩ (.int .i64 v)).setCell ⟨mb,4,none⟩ (.slice none 0 0)) B mb Af nf cf main m v none 0 []/\
 Vo B w (((w.setCell ⟨mb,2,none⟩ (.int .i64 m)).setCell ⟨mb,3,none⟩ (.int .i64 v)).setCell ⟨mb,4,none⟩ (.slice none 0 0)):=by
 have a:=y4 w mb 2 _ _ (.int .i64 m) h.J7;have b:=y4 _ mb 3 _ _ (.int .i64 v) a;have d:=y4 _ mb 4 _ _ (.slice none 0 0) b;exact⟨⟨h.lo,d,ym _ _ _⟩,(Vo.set h.J7 h.lo (by unfold jh;decide) 2 _).trans ((Vo.set a h.lo (by unfold jh;decide) 3 _).trans (Vo.set b h.lo (by unfold jh;decide) 4 _))⟩
theorem Z4(h:Z8 w B mb Af nf cf main mode value A c l):(w.cell? ⟨mb,0,none⟩=some (.slice Af nf cf)/\w.cell? ⟨mb,1,none⟩=some (.int .i64 main)/\w.cell? ⟨mb,2,none⟩=some (.int .i64 mode)/\w.cell? ⟨mb,3,none⟩=some (.int .i64 value)/\w.cell? ⟨mb,4,none⟩=some (.slice A l.length c))/\
 w.frozen? ⟨mb,2,none⟩=false/\w.frozen? ⟨mb,3,none⟩=false/\w.frozen? ⟨mb,4,none⟩=false:=
 ⟨⟨x5 h.J7 0,x5 h.J7 1,x5 h.J7 2,x5 h.J7 3,x5 h.J7 4⟩,z6 h.J7 2,z6 h.J7 3,z6 h.J7 4⟩
end
theorem Yx{B mb nf cf c:Nat}{w:World}{Af A:Option Addr}{main mode value:Int}{l:List Fm}(h:Z8 w B mb Af nf cf main mode value A c l)(a:Int):
 Calls prog 81 #[.pointer (some ⟨mb,0,none⟩),.int .i64 a] w λe w'=>e=.returned (.tuple #[])/\Z8 w' B mb Af nf cf main 2 a none 0 []/\Vo B w w':=by
 obtain⟨⟨d,f,g,i,j⟩,k,m,n⟩:=Z4 h;have b:=zh (h.stop 2 a);clear h
 go_enter func81,ntmps81
 go_wp2_with fail
 go_end0;exact⟨rfl,b.out.1,b.out.2⟩
section
variable {B tc c g:Nat}{w w':World}{A:Option Addr}{low:List Fm}{f:Fq}{v s:Value}
theorem Q8.U4(h:Q8 w B tc (some ⟨g,0,none⟩) c (low++[(f,v,s)]))(b:tc≠3)(p:Nat):Q8 (w.setCell ⟨g,low.length*4+1,none⟩ (.int .i64 p)) B tc (some ⟨g,0,none⟩) c (low++[({f with pc:=p},v,s)]):=by
 have a:=h.je;rw[y7]at a;exact Q8.set (j:=1) a (h.T6.pc (f:={f with pc:=p}) rfl rfl) b (by decide) _ rfl
theorem Q8.cut(h:Q8 w B tc (some ⟨g,0,none⟩) c (low++[(f,v,s)]))(b:tc≠3){k n d:Nat}{S:Option Addr}(hs:s=.slice S n d)(e:k<=f.I1.length):
 Q8 (w.setCell ⟨g,low.length*4+3,none⟩ (.slice S k d)) B tc (some ⟨g,0,none⟩) c (low++[({f with I1:=f.I1.take k},v,.slice S k d)]):=by
 have a:=h.je;rw[y7]at a;exact Q8.set (j:=3) a (h.T6.cut (f:={f with I1:=f.I1.take k}) rfl hs e rfl) b (by decide) _ rfl
theorem Q8.stk(h:Q8 w B tc (some ⟨g,0,none⟩) c (low++[(f,v,s)]))(d:tc≠3)(i:w.grownBy w' s.ownBlock){f':Fq}(hf:f'.vars=f.vars)(n:f'.fn=f.fn)(o:f'.pc=f.pc){s':Value}(hs:w'.ownsRow B 3 1 s' f'.I1.length (iC f'.I1))(p: ∀g,s'.ownBlock=some g->s.ownBlock=some g\/w.heap.size<=g):
 Q8 (w'.setCell ⟨g,low.length*4+3,none⟩ s') B tc (some ⟨g,0,none⟩) c (low++[(f',v,s')]):=by
 have l:=h.je;rw[y7]at l;have a:=h.T6.xt.2.1;have b:w'.ownsRow B tc 4 _ _ _:=R7 l λk t e m=>i.block k (I0 m) λq=>by
  have r:g=k:=by simpa[Value.ownBlock]using e
  subst r;exact K5 a m (λe=>d e.symm) q.symm
 exact Q8.set (j:=3) b (h.T6.stk i hf hs p) d (by decide) _ (by simp[Fm.cells,n,o])
theorem Q8.pop{x:Fm}(h:Q8 w B tc A c (low++[x])):Q8 w B tc A c low:=by
 refine⟨?_,h.T6.pop⟩;have:=zG h.je low.length (by simp);have e:((low++[x]).flatMap Fm.cells).take (low.length*4)=low.flatMap Fm.cells:=by
  have b:(low.flatMap Fm.cells).length=low.length*4:=by
   clear this h
   induction low with
   |nil=>rfl
   |cons a l d=>rw[List.flatMap_cons,y7,d,y6];show 4+_=_;omega
  rw[List.flatMap_append,List.take_left' b]
 rw[e]at this;exact this
end
theorem Rows.zt{w:World}{B:Nat}{l:List Fm}(h:Rows w B l){i:Nat}{f:Fq}{v s:Value}(hx:l[i]?=some (f,v,s)):(∃A c,v=.slice A f.vars.length c)/\ ∃A c,s=.slice A f.I1.length c:=by
 obtain⟨a,b⟩:=h.at hx;exact⟨(S6 (F:=λ_=>True) a λ_ _=>trivial).zt,(S6 (F:=λ_=>True) b λ_ _=>trivial).zt⟩
section
variable {B mb nf cf c:Nat}{w w':World}{Af A:Option Addr}{main mode value:Int}{low:List Fm}{x:Fm}
theorem Z8.pop(h:Z8 w B mb Af nf cf main mode value A c (low++[x])):Z8 (w.setCell ⟨mb,4,none⟩ (.slice A low.length c)) B mb Af nf cf main mode value A c low:=by
 obtain⟨a,b,-⟩:=h.cell 4 (.slice A low.length c);exact⟨h.lo,a,b.pop⟩
theorem Z8.of(h:Z8 w B mb Af nf cf main mode value A c low){l:List Fm}(a:w'.heap[mb]?=w.heap[mb]?)(hf:Q8 w' B 95 A c l)(b:l.length=low.length):Z8 w' B mb Af nf cf main mode value A c l:=
 ⟨h.lo,by rw[a,b];exact h.J7,hf⟩
end
theorem Z8.ne{B mb nf cf c g:Nat}{w:World}{Af:Option Addr}{main mode value:Int}{l:List Fm}{a:Array Value}(h:Z8 w B mb Af nf cf main mode value (some ⟨g,0,none⟩) c l)(b:w.heap[g]?=some (.cells a 95 (0,0))):mb≠g:=λe=>by
 subst e;have:=h.J7;rw[b]at this;injection this with this;injection this with _ e;exact G5 e (by decide)
theorem Jw{B mb nf cf c b:Nat}{w:World}{Af q:Option Addr}{main mode value:Int}{low:List Fm}{f:Fq}{v:Value}{r:Nat}(h:Z8 w B mb Af nf cf main mode value (some ⟨b,0,none⟩) c (low++[(f,v,.slice q f.I1.length r)]))(x:Int)(M:f.I1.length<=2000):
 ∃A' c' j,(Builtin.append_ #[22,22] 22 #[.slice q f.I1.length r,.slice (some ⟨w.heap.size,0,none⟩) 1 1]).run prog (w.alloc (.cells #[.int .i64 x] 3))=.ok (.slice A' (f.I1.length+1) c') j/\
  j.cell? ⟨b,low.length*4+3,none⟩=some (.slice q f.I1.length r)/\j.frozen? ⟨b,low.length*4+3,none⟩=false/\
  Z8 (j.setCell ⟨b,low.length*4+3,none⟩ (.slice A' (f.I1.length+1) c')) B mb Af nf cf main mode value (some ⟨b,0,none⟩) c (low++[({f with I1:=f.I1++[x]},v,.slice A' (f.I1.length+1) c')])/\Vo B w (j.setCell ⟨b,low.length*4+3,none⟩ (.slice A' (f.I1.length+1) c')):=by
 have y:B<=w.heap.size:=B5 h.lo (G3 (I0 h.J7));have m:=(x7 w.heap.size w).alloc (x6 _) (.cells #[.int .i64 x] 3);have n:=h.below m;have E:J8 (w.alloc (.cells #[.int .i64 x] 3)) (λ_=>True) (.slice (some ⟨w.heap.size,0,none⟩) 1 1) [x]:=R9 (l:=[x]) (x9 w _) trivial;have t:=n.T7.T6.xt.2.1;obtain⟨A',c',j,F,G,u,H⟩:=Y9 22 t E (by simp;omega) (B5 y m.size);obtain⟨I,J,o,z,d,⟨-,-,-,K⟩,C⟩:=h.T7.at (i:=low.length) (x:=(f,v,.slice q f.I1.length r)) (by simp);injection o with o;injection o with o
 subst o;have p:=(m.block b (I0 d)).trans d;have k:=(u.block b (I0 p) (λe=>K5 t p (by decide) e.symm)).trans (m.block b (I0 d));have D:=(u.block mb (I0 n.J7) (λe=>K5 t n.J7 (by decide) e.symm)).trans n.J7;refine⟨A',c',j,F,(E0 (a:=⟨b,low.length*4+3,none⟩) k).trans K,(World.frozen?_of_block (a:=⟨b,low.length*4+3,none⟩) k).trans (C _),⟨h.lo,?_,?_⟩,?_⟩
 ·rw[F3 j ⟨b,low.length*4+3,none⟩ _ mb (h.ne d),D];simp
 ·exact n.T7.stk (by decide) u (f':={f with I1:=f.I1++[x]}) rfl rfl rfl (s':=.slice A' (f.I1.length+1) c') (by simpa using G) (λg L=>by
   rcases H g L with h|h
   ·exact .inl h
   ·exact .inr (Nat.le_of_eq h.symm))
 ·exact(Vo.of m y).trans ((Vo.U7 t (by unfold jh;decide) (B5 y m.size) u).trans (Vo.set (k.trans d) z (by unfold jh;decide) _ _))
theorem XA{B mb nf cf c a:Nat}{w:World}{Af:Option Addr}{main mode value:Int}{low:List Fm}{f:Fq}{v s:Value}(h:Z8 w B mb Af nf cf main mode value (some ⟨a,0,none⟩) c (low++[(f,v,s)]))(p:Nat):
 Z8 (w.setCell ⟨a,low.length*4+1,none⟩ (.int .i64 p)) B mb Af nf cf main mode value (some ⟨a,0,none⟩) c (low++[({f with pc:=p},v,s)])/\Vo B w (w.setCell ⟨a,low.length*4+1,none⟩ (.int .i64 p)):=by
 obtain⟨j,k,b,e,d,-,-⟩:=h.T7.at (i:=low.length) (x:=(f,v,s)) (by simp);injection b with b;injection b with b
 subst b;exact⟨⟨h.lo,by rw[F3 w ⟨a,low.length*4+1,none⟩ _ mb (h.ne d),h.J7];simp,h.T7.U4 (by decide) p⟩,.set d e (by unfold jh;decide) _ _⟩
theorem W7{B mb nf cf c:Nat}{w:World}{Af A:Option Addr}{main mode value:Int}{low:List Fm}{f:Fq}{v s:Value}(h:Z8 w B mb Af nf cf main mode value A c (low++[(f,v,s)])):
 ∃a d e j cs,A=some ⟨a,0,none⟩/\v=.slice d f.vars.length e/\s=.slice j f.I1.length cs/\w.cell? ⟨a,low.length*4,none⟩=some (.int .i64 f.fn)/\w.cell? ⟨a,low.length*4+1,none⟩=some (.int .i64 f.pc)/\w.cell? ⟨a,low.length*4+2,none⟩=some v/\w.cell? ⟨a,low.length*4+3,none⟩=some s/\
  w.frozen? ⟨a,low.length*4+1,none⟩=false/\w.frozen? ⟨a,low.length*4+3,none⟩=false/\f.I1.length<=cs:=by
 obtain⟨a,k,rfl,-,-,⟨l,m,n,o⟩,b⟩:=h.T7.at (i:=low.length) (x:=(f,v,s)) (by simp);obtain⟨⟨d,e,rfl⟩,j,cs,rfl⟩:=h.T7.T6.zt (i:=low.length) (f:=f) (v:=v) (s:=s) (by simp);exact⟨a,d,e,j,cs,rfl,rfl,rfl,l,m,n,o,b _,b _,(O3 h.T7.T6.xt.2.1).1⟩
theorem zfi{B mb nf cf c:Nat}{w:World}{Af A:Option Addr}{main value:Int}{low:List Fm}{x:Fm}(h:Z8 w B mb Af nf cf main 0 value A c (low++[x]))(a:Int)(H:low.length<=40)(I: ∀y∈low,y.1.I1.length<=600/\y.1.pc<=4000):
 Calls prog 82 #[.pointer (some ⟨mb,0,none⟩),.int .i64 a] w λe w'=>e=.returned (.tuple #[])/\Vo B w w'/\
  match low.getLast? with
  |none=>Z8 w' B mb Af nf cf main 1 a none 0 []
  |some u=> ∃s',Z8 w' B mb Af nf cf main 0 value A c (low.dropLast++[({u.1 with pc:=u.1.pc+1,I1:=u.1.I1++[a]},u.2.1,s')]):=by
 obtain⟨⟨J,K,L,M,l⟩,N,O,P⟩:=Z4 h;rw[y7,List.length_singleton]at l;have j:=(O3 h.T7.je).1;rw[y7,List.length_singleton]at j;have Q:IntKind.i64.wrap ((low.length:Int)+1-1)=(low.length:Int):=by rw[show(low.length:Int)+1-1=low.length by omega];exact IntWalk.i64_in _ (by omega)
 have Y:low.length<=c:=by omega
 have i:=zh h.pop;have d:=zh (h.cell 4 (.slice A low.length c)).2.2;clear h
 go_enter func82,ntmps82
 go_upto_region 0 with(fail)
 go_region
 clear J K L M l N O P Q Y j;replace i:=zh (i.out.below (I8 _));replace d:=zh (d.out.trans (Vo.of (I8 _) (B5 i.out.lo (G3 (I0 i.out.J7)))));generalize(World.setCell _ _ _).drew=V at i d|-
 obtain⟨⟨J,K,L,M,l⟩,N,O,P⟩:=Z4 i.out
 rcases List.eq_nil_or_concat low with rfl|⟨b,u,e⟩
 ·have W:=zh (i.out.stop 1 a)
  go_wp2_with fail
  (try simp only[Exit.inBlock,Exit.then]);refine E1 (results_none rfl _ _ _) rfl ?_
  exact⟨rfl,d.out.trans W.out.2,W.out.1⟩
 ·rw[List.concat_eq_append]at e
  subst e;obtain⟨f,vv,sv⟩:=u;obtain⟨gc,Av,cv,As,cs,rfl,rfl,rfl,m,n,o,p,F,q,-⟩:=W7 i.out;have R:=I _ (List.mem_append_right _ (List.mem_singleton.2 rfl));simp only at R;rw[y7,List.length_singleton]at l H|-
  have e0:((b.length+1:Nat):Int)=(b.length:Int)+1:=by omega
  have Q:IntKind.i64.wrap ((b.length:Int)+1-1)=(b.length:Int):=by rw[show(b.length:Int)+1-1=b.length by omega];exact IntWalk.i64_in _ (by omega)
  have Z:(0:Int)<=(b.length:Int):=by omega
  have i1:(b.length:Int)<(b.length:Int)+1:=by omega
  have en:((b.length:Int)+1==0)=false:=beq_eq_false_iff_ne.2 (by omega)
  go_upto_region 3 with(fail)
  go_quiet (fail)
  clear J K L M l N O P Z i1 en Q m n o p F q;have S:=J1 (x7 V.heap.size V) nq;replace i:=zh (i.out.below S);replace d:=zh (d.out.trans (Vo.of S (B5 i.out.lo (G3 (I0 i.out.J7)))));clear S;generalize World.drewN _ _=w2 at i d|-
  obtain⟨a0,a1,a2,a3,a4,r,-,-,m,n,o,p,F,q,-⟩:=W7 i.out;injection r with r;injection r with r
  subst r;obtain⟨A',c',w4,X,x3,y3,t,z⟩:=Jw i.out a (by omega);have G:=zh t;have k:=zh (d.out.trans z);clear t z m n o F q
  go_upto_region 5 with(at_builtin;refine Lib.wpList_append_run _ rfl _ _ _ _ rfl _ _ rfl rfl _ _ X ?_)
  clear X x3 y3 p;generalize World.setCell _ _ _=w5 at G k|-
  obtain⟨a5,a6,a7,a8,a9,C,-,-,m,n,o,p,F,q,-⟩:=W7 G.out;injection C with C;injection C with C
  subst C;have ep:IntKind.i64.wrap ((f.pc:Int)+1)=((f.pc+1:Nat):Int):=by rw[show((f.pc+1:Nat):Int)=(f.pc:Int)+1 by omega];exact IntWalk.i64_in _ (by omega)
  simp only at n;obtain⟨D,E⟩:=XA G.out (f.pc+1);have T:=zh D;have U:=zh (k.out.trans E);clear m o p q G k i D E
  go_wp2_with fail
  go_end0;rw[show(f.pc:Int)+1=((f.pc+1:Nat):Int) by omega];exact⟨rfl,U.out,_,T.out⟩
theorem xu(k:Nat):(Builtin.zeroCells (Value.int .i64 0).cells k)=(iC (List.replicate k 0)).toArray:=by
 apply Array.ext';apply List.ext_getElem
 ·simp[Builtin.zeroCells,iC,Value.cells]
 ·intro i a b
  simp[Builtin.zeroCells,iC,Value.cells,Nat.mod_one]
theorem zbP{w:World}(L:TypeId){base n c:Nat}{A:Option Addr}{xs:List Int}(k:Nat)(z:w.ownsRow base 3 1 (.slice A n c) n (iC xs))(hn:n+k<=1000000)(hb:base<=w.heap.size):
 ∃A' c' w',(Builtin.append_ #[22,3] L #[.slice A n c,.int .i64 k]).run prog w=.ok (.slice A' (n+k) c') w'/\w'.ownsRow base 3 1 (.slice A' (n+k) c') (n+k) (iC (xs++List.replicate k 0))/\w.grownBy w' (Value.slice A n c).ownBlock/\ ∀g,(Value.slice A' (n+k) c').ownBlock=some g->(Value.slice A n c).ownBlock=some g\/g=w.heap.size:=by
 have y:=underlying22;have o:Tryz.prog.underlying 3=some (.int .i64):=by kernel_rfl
 obtain⟨i,G,M,H,p⟩:=info_parts Zc;have C:(iC xs).length=n:=by have:=z.1;omega
 have a:xs.length=n:=by rw[<-C,qL]
 rcases Nat.eq_zero_or_pos k with rfl|Y
 ·have N:=(O3 z).1
  refine⟨A,c,w,?_,by simpa using z,World.grownBy.refl _ _,λg h=>.inl h⟩;cases A<;>simp[Builtin.append_,run_underlying y,run_underlying o,sizeOf,typeInfo,G,asInt,asIntOf,N,storeCells,IntWalk.i64_in]
 have d: ∀(b:Nat),b<n+k-> ∀(row:Option Nat),
  (w.drew.alloc (.cells ((iC xs).toArray++Builtin.zeroCells (Value.int .i64 0).cells k++Builtin.zeroCells (Value.int .i64 0).cells (grownCap w (n+k) b 3-(n+k))) 3)).ownsRow base 3 1
   (.slice (some ⟨w.heap.size,0,none⟩) (n+k) (grownCap w (n+k) b 3)) (n+k) (iC (xs++List.replicate k 0))/\
  w.grownBy (w.drew.alloc (.cells ((iC xs).toArray++Builtin.zeroCells (Value.int .i64 0).cells k++Builtin.zeroCells (Value.int .i64 0).cells (grownCap w (n+k) b 3-(n+k))) 3)) row:=by
  intro b r row;have O:=grownCap_ge w (n+k) b 3;have t:grownCap w (n+k) b 3<=maxLen:=grownCap_le_maxLen w (n+k) b 3 (by unfold maxLen;omega);have Q:(Value.int .i64 0).cells.size=1:=rfl;refine⟨⟨by simp[iC,a],.inr ⟨w.heap.size,_,_,rfl,hb,x9 w.drew _,O,t,?_,?_⟩⟩,⟨rfl,rfl,rfl,by simp,λj D _=>B8 w.drew _ D⟩⟩
  ·simp only[Array.size_append,D4,size_zeroCells,Q,C]
   omega
  ·rw[xu k]
   simp only[Array.toList_append,B2];rw[<-B2];have e:iC xs++iC (List.replicate k 0)=iC (xs++List.replicate k 0):=by unfold iC;rw[List.map_append]
   rw[e];have e2:(n+k)*1=(iC (xs++List.replicate k 0)).length:=by simp[iC,a]
   rw[e2];exact List.take_left
 rcases z.2 with⟨x,rfl⟩|⟨g,a0,q,x,R,hg,a1,t,S,l⟩
 ·injection x with x h2 T
  subst x T;obtain rfl:xs=[]:=List.length_eq_zero_iff.1 a;have I:=Lib.run_append_nil_zeros (P:=prog) w 22 3 L 3 i (.int .i64 0) .i64 .i64 y o G M k Y (by rw[H];decide) (by omega) (by rw[p];omega);obtain⟨J,K⟩:=d 0 (by omega) (Value.ownBlock (.slice none 0 0));simp only[Nat.zero_add,B4,Array.empty_append,iC,List.map_nil]at J K I|-
  exact⟨_,_,_,I,J,K,λg h=>.inr (by
   have:w.heap.size=g:=by simpa[Value.ownBlock]using h
   exact this.symm)⟩
 ·injection x with x h2 T
  subst x T
  by_cases m:n+k<=c
  ·have E:=run_storeCells_at (P:=prog) g n 3 (iC (List.replicate k 0)) 0 q w hg (by rw[qL,List.length_replicate,S];omega) (λu y=>by
    obtain⟨s,-,rfl⟩:=List.mem_map.1 y;rfl)
   obtain⟨Z,U⟩: ∃Z:Array Value,(q.toList.take (n+0)++iC (List.replicate k 0)++q.toList.drop (n+0+(iC (List.replicate k 0)).length)).toArray=Z:=⟨_,rfl⟩;rw[U]at E;refine⟨some ⟨g,0,none⟩,c,w.setRow g Z,?_,⟨by simp[iC,a],.inr ⟨g,c,Z,rfl,R,setRow_heap w g q _ _ _ hg,m,t,?_,?_⟩⟩,⟨rfl,rfl,rfl,by simp,λj _ D=>setRow_other w g j _ (λe=>D (by simp[Value.ownBlock,e]))⟩,λj h=>.inl h⟩
   ·have hw:IntKind.i64.wrap (k:Int)=k:=IntWalk.i64_in _ (by omega)
    have F: ¬((k:Int)<0):=by omega
    have V: ¬(281474976710656<(k:Int)*(i.bytes:Int)):=by rw[p];omega
    have hk:k≠0:=by omega
    have W:=xu k;simp[Builtin.append_,run_underlying y,run_underlying o,sizeOf,typeInfo,zeroValue,G,M,H,asInt,asIntOf,hw,F,V,hk,m,Addr.add_lit,W];rw[E];rfl
   ·subst U
    simp only[D4,y7,G8,G9,Array.length_toList,qL,List.length_replicate];omega
   ·subst U
    have e:iC (xs++List.replicate k 0)=iC xs++iC (List.replicate k 0):=by unfold iC;rw[List.map_append]
    rw[Nat.mul_one]at l;rw[Nat.add_zero,l,e];exact List.take_left' (by simp[iC,a])
  ·have r:(Builtin.firstCells i.size n (.slice (some ⟨g,0,none⟩) n c)).run prog w.drew=.ok (iC xs).toArray w.drew:=by
    have:=z.cells (g:=g) rfl;exact run_firstCells_some (P:=prog) w.drew i.size n ⟨g,0,none⟩ n c (iC xs) (by rw[H];omega) (λj u D=>this j u D)
   have I:=Lib.run_append_grow_zeros (P:=prog) w 22 3 L 3 i (.int .i64 0) .i64 .i64 y o G M (some ⟨g,0,none⟩) n c (iC xs) r k Y (by rw[H];decide) (by omega) (by omega) (by rw[p];omega) (growslice_fits (bytes:=i.bytes) (by omega) (by rw[p];omega));obtain⟨J,K⟩:=d c (by omega) (Value.ownBlock (.slice (some ⟨g,0,none⟩) n c));exact⟨_,_,_,I,J,K,λg h=>.inr (by
    have:w.heap.size=g:=by simpa[Value.ownBlock]using h
    exact this.symm)⟩
theorem qc{w:World}{base n c:Nat}{A:Option Addr}{xs:List Int}(h:w.ownsRow base 3 1 (.slice A n c) n (iC xs)){k:Nat}{a:Int}(b:xs[k]?=some a): ∃g,A=some ⟨g,0,none⟩/\w.cell? ⟨g,k,none⟩=some (.int .i64 a):=by
 have l:=(List.getElem?_eq_some_iff.1 b).1;have d:=h.1;rw[qL]at d
 rcases O5 h with⟨e,m⟩|⟨g,i,e,-,-,j⟩
 ·omega
 ·injection e with e
  exact⟨g,e,j k _ (by unfold iC;rw[F6,b];rfl)⟩
section
variable {B mb nf cf c gc:Nat}{w:World}{Af As:Option Addr}{main mode value:Int}{low:List Fm}{f:Fq}{v:Value}{cs:Nat}
theorem Z8.xo{x:Fm}{A:Option Addr}(h:Z8 w B mb Af nf cf main mode value A c (low++[x])): ∃gc a,A=some ⟨gc,0,none⟩/\B<=gc/\w.heap[gc]?=some (.cells a 95 (0,0)):=by
 obtain⟨g,a,e,b,d,-,-⟩:=h.T7.at (i:=low.length) (x:=x) (by simp);exact⟨g,a,e,b,d⟩
theorem zbs(h:Z8 w B mb Af nf cf main mode value (some ⟨gc,0,none⟩) c (low++[(f,v,.slice As f.I1.length cs)]))(k:Nat)(e:k<=f.I1.length):
 Z8 (w.setCell ⟨gc,low.length*4+3,none⟩ (.slice As k cs)) B mb Af nf cf main mode value (some ⟨gc,0,none⟩) c (low++[({f with I1:=f.I1.take k},v,.slice As k cs)])/\Vo B w (w.setCell ⟨gc,low.length*4+3,none⟩ (.slice As k cs)):=by
 obtain⟨g,i,a,d,b⟩:=h.xo;injection a with a;injection a with a
 subst a;exact⟨⟨h.lo,by rw[F3 w ⟨gc,low.length*4+3,none⟩ _ mb (h.ne b),h.J7];simp,h.T7.cut (by decide) rfl e⟩,.set b d (by unfold jh;decide) _ _⟩
theorem zei(h:Z8 w B mb Af nf cf main mode value (some ⟨gc,0,none⟩) c (low++[(f,v,.slice As f.I1.length cs)]))(k:Nat)(C:k<=f.I1.length)(x:Int)(M:f.I1.length<=2000):
 ∃A' c' d,(Builtin.append_ #[22,22] 22 #[.slice As k cs,.slice (some ⟨w.heap.size,0,none⟩) 1 1]).run prog (w.alloc (.cells #[.int .i64 x] 3))=.ok (.slice A' (k+1) c') d/\
  d.cell? ⟨gc,low.length*4+3,none⟩=some (.slice As f.I1.length cs)/\d.frozen? ⟨gc,low.length*4+3,none⟩=false/\
  Z8 (d.setCell ⟨gc,low.length*4+3,none⟩ (.slice A' (k+1) c')) B mb Af nf cf main mode value (some ⟨gc,0,none⟩) c (low++[({f with I1:=f.I1.take k++[x]},v,.slice A' (k+1) c')])/\Vo B w (d.setCell ⟨gc,low.length*4+3,none⟩ (.slice A' (k+1) c')):=by
 have t:B<=w.heap.size:=B5 h.lo (G3 (I0 h.J7));have m:=(x7 w.heap.size w).alloc (x6 _) (.cells #[.int .i64 x] 3);have n:=h.below m;have E:J8 (w.alloc (.cells #[.int .i64 x] 3)) (λ_=>True) (.slice (some ⟨w.heap.size,0,none⟩) 1 1) [x]:=R9 (l:=[x]) (x9 w _) trivial;have u:=n.T7.T6.xt.2.1;have q:(w.alloc (.cells #[.int .i64 x] 3)).ownsRow B 3 1 (.slice As k cs) k (iC (f.I1.take k)):=by
  have:=zG u k C;rw[Nat.mul_one]at this;unfold iC at this|-
  rw[List.map_take];exact this
 obtain⟨A',c',d,F,G,r,H⟩:=Y9 22 q E (by simp;omega) (B5 t m.size);have D:(Value.slice As k cs).ownBlock=(Value.slice As f.I1.length cs).ownBlock:=by cases As<;>rfl
 obtain⟨I,J,o,y,b,⟨-,-,-,K⟩,z⟩:=h.T7.at (i:=low.length) (x:=(f,v,.slice As f.I1.length cs)) (by simp);injection o with o;injection o with o
 subst o;have p:=(m.block gc (I0 b)).trans b;have j:=(r.block gc (I0 p) (λe=>K5 q p (by decide) e.symm)).trans (m.block gc (I0 b));have A:=(r.block mb (I0 n.J7) (λe=>K5 q n.J7 (by decide) e.symm)).trans n.J7;refine⟨A',c',d,F,(E0 (a:=⟨gc,low.length*4+3,none⟩) j).trans K,(World.frozen?_of_block (a:=⟨gc,low.length*4+3,none⟩) j).trans (z _),⟨h.lo,?_,?_⟩,?_⟩
 ·rw[F3 d ⟨gc,low.length*4+3,none⟩ _ mb (h.ne b),A];simp
 ·exact n.T7.stk (by decide) (s:=.slice As f.I1.length cs) (D▸r) (f':={f with I1:=f.I1.take k++[x]}) rfl rfl rfl (s':=.slice A' (k+1) c') (by simpa[Nat.min_eq_left C]using G) (λg L=>by
   rcases H g L with h|h
   ·exact .inl (D▸h)
   ·exact .inr (Nat.le_of_eq h.symm))
 ·exact(Vo.of m t).trans ((Vo.U7 q (by unfold jh;decide) (B5 t m.size) r).trans (Vo.set (j.trans b) y (by unfold jh;decide) _ _))
theorem zfI{d o:Nat}{s:Value}(h:Z8 w B mb Af nf cf main mode value (some ⟨gc,0,none⟩) c (low++[(f,.slice (some ⟨d,0,none⟩) f.vars.length o,s)]))(k:Nat)(x:Int):
 Z8 (w.setCell ⟨d,k,none⟩ (.int .i64 x)) B mb Af nf cf main mode value (some ⟨gc,0,none⟩) c (low++[({f with vars:=f.vars.set k x},.slice (some ⟨d,0,none⟩) f.vars.length o,s)])/\Vo B w (w.setCell ⟨d,k,none⟩ (.int .i64 x)):=by
 have a:=h.T7.T6.xt.1;simp only at a;obtain⟨p,q,i⟩:=Jc a;have j:q=(0,0):=by
  rcases a.2 with⟨e,-⟩|⟨g,r,t,e,-,b,-⟩
  ·cases e
  ·injection e with e;injection e with e;injection e with e
   subst e;rw[i]at b;injection b with b;injection b
 subst j;have l:=(a.stored k (.int .i64 x)).1;have m:=(a.lt d rfl).1;have n:=I7 w d k (.int .i64 x);have u:=h.T7.je;refine⟨⟨h.lo,?_,⟨?_,?_⟩⟩,.set i m (by unfold jh;decide) _ _⟩
 ·rw[n.block mb (I0 h.J7) (λe=>K5 a h.J7 (by decide) (by rw[e];rfl)),h.J7];simp
 ·have:=R7 u λg cs e b=>n.block g (I0 b) λy=>K5 a b (by decide) (by rw[y];rfl)
  simpa[List.flatMap_append,Fm.cells]using this
 ·exact h.T7.T6.yE n (f:={f with vars:=f.vars.set k x}) rfl (by
   have e:iC (f.vars.set k x)=(iC f.vars).set k (.int .i64 x):=by unfold iC;rw[List.map_set]
   simp only[List.length_set,e];exact l)
end
def IK(w w':World):Prop:= ∀(g:Nat)(cs:Array Value),w.heap[g]?=some (.cells cs 3 (0,0))->w'.heap[g]?=w.heap[g]?
theorem IK.trans{w w' w2:World}(h:IK w w')(b:IK w' w2):IK w w2:=λg cs a=>(b g cs ((h g cs a).trans a)).trans (h g cs a)
theorem IK.below{w w':World}(h:Below w.heap.size w w'):IK w w':=λg _ a=>h.block g (I0 a)
theorem IK.set{w:World}{b t:Nat}{cs:Array Value}{d:Nat×Nat}(h:w.heap[b]?=some (.cells cs t d))(i:t≠3)(j:Nat)(u:Value):IK w (w.setCell ⟨b,j,none⟩ u):=λg _ a=>
 (I7 w b j u).block g (I0 a) λe=>by injection e with e;subst e;rw[h]at a;injection a with a;injection a with _ e;exact i e
theorem U5{w:World}{b t base e size n:Nat}{cs:Array Value}{i:Nat×Nat}{v:Value}{xs:List Value}(h:w.ownsRow base e size v n xs)(k:w.heap[b]?=some (.cells cs t i))(l:e≠t)(j:Nat)(u:Value):(w.setCell ⟨b,j,none⟩ u).ownsRow base e size v n xs:=
 R7 h λg _ _ a=>(I7 w b j u).block g (I0 a) λd=>by injection d with d;subst d;rw[k]at a;injection a with a;injection a with _ e;exact l e.symm
theorem ZO:S1 prog 96 95 4:=⟨underlying96,by kernel_rfl,by decide⟩
theorem zek{B mb nf cf c:Nat}{t w:World}{Af A:Option Addr}{main mode value:Int}{l:List Fm}(h:Z8 w B mb Af nf cf main mode value A c l)(hr:Rows t B l)(hk: ∀(g:Nat)(cs:Array Value),t.heap[g]?=some (.cells cs 3 (0,0))->w.heap[g]?=t.heap[g]?)(hs:t.heap.size<=w.heap.size)(W:B<=t.heap.size)
 {Aa:Option Addr} {na ca:Nat} {xs:List Int} (C:w.ownsRow t.heap.size 3 1 (.slice Aa na ca) na (iC xs)) (k fn:Nat) (hn:na+k<=1000000) (hl:l.length<=100):
 ∃n o p H I q,(Builtin.append_ #[22,3] 22 #[.slice Aa na ca,.int .i64 k]).run prog w=.ok (.slice n (na+k) o) p/\w.grownBy p (Value.slice Aa na ca).ownBlock/\
  (Builtin.append_ #[96,96] 96 #[.slice A l.length c,.slice (some ⟨p.heap.size,0,none⟩) 1 1]).run prog (p.alloc (.cells #[.int .i64 fn,.int .i64 0,.slice n (na+k) o,.slice none 0 0] 95))=.ok (.slice H (l.length+1) I) q/\
  q.cell? ⟨mb,4,none⟩=some (.slice A l.length c)/\q.frozen? ⟨mb,4,none⟩=false/\
  Z8 (q.setCell ⟨mb,4,none⟩ (.slice H (l.length+1) I)) B mb Af nf cf main mode value H I (l++[(⟨fn,0,xs++List.replicate k 0,[]⟩,.slice n (na+k) o,.slice none 0 0)])/\Vo B w (q.setCell ⟨mb,4,none⟩ (.slice H (l.length+1) I)):=by
 have J:B<=w.heap.size:=B5 h.lo (G3 (I0 h.J7));obtain⟨n,o,p,r6,X,u,n6⟩:=zbP 22 k C hn hs;have L:xs.length=na:=by have:=C.1;rw[qL]at this;omega
 obtain⟨Z,hZ⟩: ∃Z,(⟨fn,0,xs++List.replicate k 0,[]⟩:Fq)=Z:=⟨_,rfl⟩;have D:=(u.block mb (I0 h.J7) (λe=>K5 C h.J7 (by decide) e.symm)).trans h.J7;have b:=(x7 p.heap.size p).alloc (x6 _) (.cells #[.int .i64 fn,.int .i64 0,.slice n (na+k) o,.slice none 0 0] 95);have M:p.ownsRow B 95 4 (.slice A l.length c) l.length (l.flatMap Fm.cells):=R7 h.T7.je λg cs e a=>u.block g (I0 a) λj=>K5 C a (by decide) j.symm;have r:=K1 M b;obtain⟨i,z,hi,hz,N,O,Q⟩:=ZO.get;have hX:=x9 p (.cells #[.int .i64 fn,.int .i64 0,.slice n (na+k) o,.slice none 0 0] 95);have R:=hX;obtain⟨S,m,q,r8,T,K,n8,-⟩:=run_append_lies (P:=prog) (p.alloc (.cells #[.int .i64 fn,.int .i64 0,.slice n (na+k) o,.slice none 0 0] 95)) 96 96 B 95 i z 4 i.bytes ZO.ut hi hz N rfl Q (by decide) _ _ _ r ⟨p.heap.size,0,none⟩ 1 1 [.int .i64 fn,.int .i64 0,.slice n (na+k) o,.slice none 0 0] rfl (World.news_of_block R) (by simp[Value.oneCell']) (by omega) (by unfold maxLen;omega) (xk O (by omega)) (B5 (B5 J u.size) b.size) _ rfl;refine⟨n,o,p,_,m,q,r6,u,r8,?_⟩;have x:=(b.block mb (I0 D)).trans D;have d:=(K.block mb (I0 x) (λe=>K5 r x (by decide) e.symm)).trans x;have U:=I7 q mb 4 (.slice (some ⟨S,0,none⟩) (l.length+1) m);have E: ∀(g:Nat)(cs:Array Value),t.heap[g]?=some (.cells cs 3 (0,0))->(q.setCell ⟨mb,4,none⟩ (.slice (some ⟨S,0,none⟩) (l.length+1) m)).heap[g]?=t.heap[g]?:=λg cs a=>by
  have Y:=hk g cs a;have F:=Y.trans a;have j:=u.block g (I0 F) (λe=>by have:=(C.lt g e.symm).1;have:=I0 a;omega);have G:=j.trans F;have e3:=b.block g (I0 G);have y:=e3.trans G;have e4:=K.block g (I0 y) (λe=>K5 r y (by decide) e.symm);have s:=e4.trans y;have e5:=U.block g (I0 s) (λe=>by injection e with e;subst e;rw[d]at s;injection s with s;injection s with _ e;exact G5 e (by decide));rw[e5,e4,e3,j,Y]
 have V:(q.setCell ⟨mb,4,none⟩ (.slice (some ⟨S,0,none⟩) (l.length+1) m)).ownsRow B 3 1 (.slice n (na+k) o) (na+k) (iC (xs++List.replicate k 0)):=by
  have o7:=K1 X b;have T:q.ownsRow t.heap.size 3 1 (.slice n (na+k) o) (na+k) (iC (xs++List.replicate k 0)):=R7 o7 λg cs e a=>K.block g (I0 a) λj=>K5 r a (by decide) j.symm;refine(R7 T λg cs e a=>U.block g (I0 a) λj=>?_).mono W;injection j with j;subst j;rw[d]at a;injection a with a;injection a with _ e;exact G5 e (by decide)
 refine⟨x5 d 4,z6 d 4,⟨h.lo,?_,⟨?_,?_⟩⟩,?_⟩
 ·rw[y4 q mb 4 _ _ _ d];simp
 ·have e:(l++[((⟨fn,0,xs++List.replicate k 0,[]⟩:Fq),Value.slice n (na+k) o,Value.slice none 0 0)]).flatMap Fm.cells=l.flatMap Fm.cells++[.int .i64 fn,.int .i64 0,.slice n (na+k) o,.slice none 0 0]:=by simp[Fm.cells]
  rw[e,y7,List.length_singleton];exact R7 T λg cs e a=>U.block g (I0 a) λj=>by
   injection j with j;subst j;rw[d]at a;injection a with a;injection a with _ e;exact G5 e (by decide)
 ·refine hr.zbf E ?_ (F8 _ _ _ _) (λg e=>?_) (λg e=>by cases e) (λg _ e=>by cases e)
  ·simp only[y7,List.length_replicate,L];exact V
  ·exact(X.lt g e).1
 ·exact(Vo.U7 (C.mono W) (by unfold jh;decide) J u).trans ((Vo.of b (B5 J u.size)).trans ((Vo.U7 r (by unfold jh;decide) (B5 (B5 J u.size) b.size) K).trans (Vo.set d h.lo (by unfold jh;decide) _ _)))
theorem ju{w:World}{F:Nat->Prop}{xs:List Int}{A:Option Addr}{c:Nat}(hx:J8 w F (.slice A xs.length c) xs)(m:A=none/\c=0\/ ∃b d,A=some ⟨b,d,none⟩)(u:xs.length<=100000):
 Calls prog 44 #[.slice A xs.length c] w λe w'=>Below w.heap.size w w'/\ ∃A' c',e=.returned (.slice A' xs.length c')/\w'.ownsRow w.heap.size 3 1 (.slice A' xs.length c') xs.length (iC xs):=by
 rcases m with⟨rfl,rfl⟩|⟨b,d,rfl⟩
 ·have f:xs=[]:=by
   rcases hx with⟨a,c,e,h⟩|⟨g,d,i,e,-⟩
   ·exact h
   ·injection e with e;cases e
  subst f;refine(Any.slices_Clone_int_nil Tryz.laysNm215 0 0 w).mono ?_;rintro e w' ⟨rfl,rfl⟩;exact⟨x7 _ _,none,0,rfl,F8 _ _ _ _⟩
 ·refine(Tryz.slices_Clone_int b d xs.length c xs w (x6 _) (by omega) (λj l=>?_)).mono ?_
  ·obtain⟨g,o,e,-,h⟩:=hx.at j _ (x8 l)
   injection e with e;injection e with n p
   subst n p;rw[h,List.getD_eq_getElem?_getD,x8 l];rfl
  ·rintro e w' ⟨q,rfl,k,-,r⟩
   rw[E7]at k;have s: ∃A' c',q=.slice A' xs.length c':=by
    rcases k.2 with⟨rfl,f⟩|⟨g,i,t,rfl,-⟩
    ·exact⟨none,0,by rw[f]⟩
    ·exact⟨_,_,rfl⟩
   obtain⟨A',c',rfl⟩:=s;exact⟨r,A',c',rfl,k⟩
theorem xI{w:World}{base m:Nat}{xs:List Int}{A A':Option Addr}{c c':Nat}(j:w.ownsRow base 3 1 (.slice A xs.length c) xs.length (iC xs))(t:xs.length<=100000)
 (a:A=none/\A'=none/\c'=0\/ ∃g,A=some ⟨g,0,none⟩/\(A'=some ⟨g,m,none⟩\/A'=some ⟨g,0,none⟩/\xs.length=m)):
 Calls prog 44 #[.slice A' (xs.length-m) c'] w λe w'=>Below w.heap.size w w'/\ ∃d f,e=.returned (.slice d (xs.length-m) f)/\w'.ownsRow w.heap.size 3 1 (.slice d (xs.length-m) f) (xs.length-m) (iC (xs.drop m)):=by
 have l:J8 w (λ_=>True) (.slice A' (xs.drop m).length c') (xs.drop m):=by
  rcases O5 j with⟨e,h⟩|⟨g,n,e,u,o,p⟩
  ·have b:xs=[]:=List.length_eq_zero_iff.1 h
   subst b;exact .inl ⟨A',c',by simp,by simp⟩
  ·rcases a with⟨rfl,-,-⟩|⟨v,rfl,a⟩
   ·injection e with e;cases e
   ·injection e with e;injection e with e;injection e with e
    subst e
    rcases a with rfl|⟨rfl,h⟩
    ·refine .inr ⟨_,m,c',rfl,trivial,o,λk s q=>?_⟩
     have r:=p (m+k) (.int .i64 s) (by unfold iC;rw[F6,<-List.getElem?_drop,q];rfl);exact r
    ·have b:xs.drop m=[]:=List.drop_eq_nil_of_le (by omega)
     exact .inl ⟨_,c',by rw[b];rfl,b⟩
 have i:=ju l (by
  rcases a with⟨-,rfl,rfl⟩|⟨g,-,rfl|⟨rfl,-⟩⟩
  ·exact .inl ⟨rfl,rfl⟩
  ·exact .inr ⟨_,_,rfl⟩
  ·exact .inr ⟨_,_,rfl⟩) (by rw[G9];omega)
 rw[G9]at i;exact i
end Go.Proofs.YtalgmjmibamdfaaGreatDoor
namespace Go.Proofs.YtalgmjmibamdfaaGreatDoor
open Go.RowKit
def okS(ops:Array Oper)(imp done:List Nat)(i:Nat):Bool:=imp.all λt=>if done.contains t then !(t==i)&&!qw ops ops.size t i else !qw ops ops.size i t
def zfe(ops:Array Oper)(imp:List Nat)(stages:List (List Nat)):List (Nat×Nat):=(List.range ops.size).flatMap λi=>((List.range stages.length).filter λj=>okS ops imp (stages.getD j []) i).map λj=>(i,j)
def zeL(ops:Array Oper)(sl:List (Nat×Nat)):Bool:=
 ((List.range ops.size).all (opB ops sl []))&&decide ((sl.map (·.1)).Nodup)&&decide ((sl.map (·.2)).Nodup)&&sl.all (λe=>decide (e.1<ops.size))
section
variable {D:Type}{P:Program}{ops:Array Oper}{Q:Exit->Act->World->Prop}{a0:Act}{imp:List Nat}{stages:List (List Nat)}{V:Nat->D->jc}{W:Nat->D->World}{G:Nat->D->Prop}
structure zbx(ops:Array Oper)(imp:List Nat)(stages:List (List Nat))(V:Nat->D->jc)(G:Nat->D->Prop)(i j:Nat)(d:D)(j':Nat)(d':D):Prop where
 lt:j'<stages.length
 zgx:G j' d'
 done:(imp.all λt=>(stages.getD j' []).contains t==(i::stages.getD j []).contains t)=true
 I5: ∀e∈V j d,e.1≠i->qw ops ops.size e.1 i=false->e∈V j' d'
inductive zaB(P:Program)(ops:Array Oper)(imp:List Nat)(stages:List (List Nat))(V:Nat->D->jc)(W:Nat->D->World)(G:Nat->D->Prop)(a0:Act)(i j:Nat)(d:D)(o:Oper):Prop
 |jd:imp.contains i=false->(execOp (Act.eval (J2 (V j d) a0)) o).run P (W j d)=.ok (Y7 (V j d) i) (W j d)->zaB P ops imp stages V W G a0 i j d o
 |jC (j':Nat) (d':D):zbx ops imp stages V G i j d j' d'->(execOp (Act.eval (J2 (V j d) a0)) o).run P (W j d)=.ok (Y7 (V j' d') i) (W j' d')->zaB P ops imp stages V W G a0 i j d o
 |call (f:FuncId) (args:Array Value):(execOp (Act.eval (J2 (V j d) a0)) o).run P (W j d)=.ok (.enter f args) (W j d)->(Calls P f args (W j d) λe w'=> ∃v j' d',e=.returned v/\zbx ops imp stages V G i j d j' d'/\w'=W j' d'/\Y7 (V j' d') i=.value v)->zaB P ops imp stages V W G a0 i j d o
theorem zhw{V V':jc}{i:Nat}(h:V.filter (λe=>e.1 !=i)=V'.filter (λe=>e.1 !=i)){p:Nat×Nat×Value->Prop}: ∀e∈V,e.1≠i->p e->e∈V':=λe a b _=>(List.mem_filter.1 (h▸List.mem_filter.2 ⟨a,by simpa using b⟩)).1
theorem zbx.of{i j a:Nat}{d d':D}(b:a<stages.length)(c:G a d')(f:(imp.all λt=>(stages.getD a []).contains t==(i::stages.getD j []).contains t)=true)(g:(V j d).filter (λe=>e.1 !=i)=(V a d').filter (λe=>e.1 !=i)):zbx ops imp stages V G i j d a d':=⟨b,c,f,zhw g⟩
theorem zd0{β:Type}{f:Nat×Nat×Value->β}: ∀{l:jc},(l.map f).Nodup-> ∀x∈l,∀y∈l,f x=f y->x=y:=by
 intro l
 induction l with
 |nil=>intro _ x d;cases d
 |cons z l h=>
  intro c x d y g e;simp only[List.map_cons,List.nodup_cons]at c
  rcases List.mem_cons.1 d with b|b
  ·rcases List.mem_cons.1 g with a|a
   ·rw[b,a]
   ·exact G5 (by rw[<-b,e];exact G1 a) c.1
  ·rcases List.mem_cons.1 g with a|a
   ·exact G5 (by rw[<-a,<-e];exact G1 b) c.1
   ·exact h c.2 x b y a e
theorem P5{id:Nat}{w:World}(hm:P.follows .mixedOrders=true)(sl:List (Nat×Nat))(imp:List Nat)(stages:List (List Nat))(V:Nat->D->jc)(W:Nat->D->World)(G:Nat->D->Prop)(lit:List (Nat×Nat))(a8:zeL ops sl=true)(a9:zfe ops imp stages=lit)
 (hV: ∀j d,(V j d).map (λe=>(e.1,e.2.1))=sl) (hz:(sl.all λe=>decide (e.2<a0.tmps.size))=true) (d0:D) (h0:W 0 d0=w.drew) (hG:G 0 d0) (b0:stages[0]?=some [])
 (b7: ∀p∈lit,∀o,ops[p.1]?=some o-> ∀d,G p.2 d->zaB P ops imp stages V W G a0 p.1 p.2 d o)
 (hQ: ∀j d,G j d->(∀t∈imp,t<ops.size->(stages.getD j []).contains t=true)->Q .normal (J2 (V j d) a0) (W j d)):(Code.region id ops true).wp P Q a0 w:=by
 simp only[zeL,E4,E2]at a8;obtain⟨⟨⟨b1,b2⟩,Z⟩,b8⟩:=a8;have M: ∀j d,(V j d).map (·.1)=sl.map (·.1):=λj d=>by rw[<-hV j d,List.map_map];rfl
 have E: ∀j d,(V j d).map (·.2.1)=sl.map (·.2):=λj d=>by rw[<-hV j d,List.map_map];rfl
 have a1: ∀j d,∀e∈V j d,(e.1,e.2.1)∈sl:=λj d e m=>by rw[<-hV j d];exact G1 (f:=λe:Nat×Nat×Value=>(e.1,e.2.1)) m
 have a2: ∀j d,∀e∈V j d,e.2.1<a0.tmps.size:=λj d e m=>by simpa using List.all_eq_true.1 hz _ (a1 j d e m)
 have S: ∀i,i<ops.size->opB ops sl [] i=true:=λi N=>List.all_eq_true.1 b1 i (List.mem_range.2 N);refine js hm ops.size rfl (λL a w=> ∃j d,j<stages.length/\G j d/\w=W j d/\S9 (V j d) a0 L a/\ ∀t∈imp,t<ops.size->L.getD t false=(stages.getD j []).contains t) ⟨0,d0,(List.getElem?_eq_some_iff.1 b0).1,hG,h0.symm,S9.start _ _ _,λt _ _=>by rw[U8,List.getD_eq_getElem?_getD,b0];rfl⟩ ?_ ?_ ?_
 ·rintro L a w1 i hL hC ⟨j,d,hj,F,rfl,hS,hI⟩ N
  have A:i<ops.size:=(zL N).1;have a3:=ye N (by rw[hL];exact A);have O:=S i A;obtain⟨o,u⟩: ∃o,ops[i]?=some o:=⟨_,Array.getElem?_eq_getElem A⟩;unfold opB at O;rw[u]at O;simp only[E4,E2]at O;obtain⟨⟨⟨⟨hg,T⟩,hd⟩,-⟩,b3⟩:=O;rw[List.append_nil]at hd;have H:o.guard=none:=by simpa using hg
  have U: ∀t,L.getD t false=true->qw ops ops.size t i=false:=λt B=>by
   cases hb:qw ops ops.size t i with
   |false=>rfl
   |true=>have:=zS hC _ _ _ hb B;rw[a3]at this;cases this
  have b9:okS ops imp (stages.getD j []) i=true:=by
   refine List.all_eq_true.2 λt B=>?_
   by_cases y:t<ops.size
   ·rw[<-hI t B y]
    cases hb:L.getD t false with
    |true=>
     simp only[if_true,E4,Bool.not_eq_true',y8];exact⟨λe=>(by rw[e,a3]at hb;cases hb),U t hb⟩
    |false=>
     simp only[B6,if_false,Bool.not_eq_true'];cases s:qw ops ops.size i t with
     |false=>rfl
     |true=>have:=jv hC N s;rw[hb]at this;cases this
   ·have z:qw ops ops.size i t=false:=by
     cases s:qw ops ops.size i t with
     |false=>rfl
     |true=>
      have:=jv hC N s;rw[E5,G0 (by rw[hL];omega)]at this;cases this
    have s:qw ops ops.size t i=false:=by
     have:ops[t]?=none:=G0 (by omega);cases hn:ops.size with
     |zero=>rfl
     |succ n=>simp[qw,this]
    have R:t≠i:=by omega
    simp[z,s,R]
  have a4:(i,j)∈lit:=by
   rw[<-a9];exact List.mem_flatMap.2 ⟨i,List.mem_range.2 A,List.mem_map.2 ⟨j,List.mem_filter.2 ⟨List.mem_range.2 hj,b9⟩,rfl⟩⟩
  have a5:execOp (Act.eval (J2 (V j d) a0)) o=execOp (Act.eval a) o:=by
   refine execOp_congr o (λcs b e=>by rw[e]at T;cases T) λx hx=>?_;have z:=List.all_eq_true.1 b3 x (by simpa using hx);cases x with
   |tmp t=>
    simp only[E4]at z;show(J2 (V j d) a0).tmps.getD t undef=a.tmps.getD t undef;rw[E5,E5];have b4:((V j d).map (·.2.1)).Nodup:=by rw[E];exact Z
    by_cases I: ∃e∈V j d,e.2.1=t
    ·obtain⟨e,m,rfl⟩:=I
     have s:=List.all_eq_true.1 z.1 (e.1,e.2.1) (a1 j d e m);simp only[beq_self_eq_true,Bool.not_true,Bool.false_or]at s;rw[hS.tb e m (Zu N s)];show(((V j d).foldl (λt e=>t.setIfInBounds e.2.1 e.2.2) a0.tmps)[e.2.1]?).getD undef=_;rw[yV (V j d) _ b4 (a2 j d) e m]
    ·have s: ∀e∈V j d,e.2.1≠t:=λe m e2=>I ⟨e,m,e2⟩
     show(((V j d).foldl (λt e=>t.setIfInBounds e.2.1 e.2.2) a0.tmps)[t]?).getD undef=_;rw[qr (V j d) _ _ s,hS.un t s]
   |_=>rfl
  have a6: ∀g l,((V g l).find? (λe=>e.1==i)).map (·.2.1)=o.dst:=λg l=>by
   rw[hd,<-hV g l,List.find?_map,Option.map_map]
   congr 1
  have J: ∀g l,(∀e∈V j d,e.1≠i->qw ops ops.size e.1 i=false->e∈V g l)-> ∀nx,Y7 (V g l) i=nx->match nx with
   |.value v=>S9 (V g l) a0 (L.setIfInBounds i true) (a.put o.dst v)/\ ∃q,o.dst=some q
   |_=>o.dst=none/\nx=.skip/\S9 (V g l) a0 (L.setIfInBounds i true) a:=λg l hk nx r=>by
   have c0: ∀e∈V g l,L.getD e.1 false=true->e∈V j d:=λe m hl=>by
    have c1:e.1≠i:=λe2=>by rw[e2,a3]at hl;cases hl
    have z:e.1∈(V j d).map (·.1):=by rw[M,<-M g l];exact G1 m
    obtain⟨e',c2,ee⟩:=List.mem_map.1 z;have s:=hk e' c2 (by rw[ee];exact c1) (by rw[ee];exact U _ hl)
    rwa [<-zd0 (f:=(·.1)) (by rw[M];exact b2) e' s e m ee]
   have b5:=hS.change c0 (by rw[E,E]);have hf:=a6 g l;unfold Y7 at r;cases K:(V g l).find? (λe=>e.1==i)with
   |some e=>
    rw[K]at r hf;subst r;have m:=List.mem_of_find?_eq_some K;have c3:e.1=i:=by simpa using List.find?_some K
    have:=b5.put (by rw[M];exact b2) (by rw[E];exact Z) (a2 g l) e m;rw[c3]at this;refine⟨?_,e.2.1,hf.symm⟩;rw[<-hf];exact this
   |none=>
    rw[K]at r hf;subst r;exact⟨hf.symm,rfl,b5.skip i λe m e2=>by have:=List.find?_eq_none.1 K e m;simp[e2]at this⟩
  have X: ∀g l,zbx ops imp stages V G i j d g l-> ∀t∈imp,t<ops.size->(L.setIfInBounds i true).getD t false=(stages.getD g []).contains t:=λg l h t B y=>by
   have e:(stages.getD g []).contains t=(i::stages.getD j []).contains t:=by simpa using List.all_eq_true.1 h.done t B
   rw[e]
   by_cases a7:t=i
   ·subst a7;rw[M4 (by rw[hL];exact y)];simp
   ·rw[I2 a7,hI t B y,List.contains_cons];simp[a7]
  cases b7 (i,j) a4 o u d F with
  |jd b6 c=>
   rw[a5]at c;have z:=J j d (λe m _ _=>m) _ rfl;have s: ∀t∈imp,t<ops.size->(L.setIfInBounds i true).getD t false=(stages.getD j []).contains t:=λt B y=>by
    rw[I2 (λe=>by rw[<-e]at b6;simp[B]at b6)];exact hI t B y
   cases r:Y7 (V j d) i with
   |value v=>
    rw[r]at z c;obtain⟨R,q,hq⟩:=z;exact J4 q u H hq c ⟨j,d,hj,F,rfl,by rw[<-hq];exact R,s⟩
   |_=>
    rw[r]at z c;obtain⟨R,h4,h5⟩:=z;rw[h4]at c;exact qn u H R c ⟨j,d,hj,F,rfl,h5,s⟩
  |jC g l C c=>
   rw[a5]at c;have z:=J g l C.I5 _ rfl;have s:=X g l C;cases r:Y7 (V g l) i with
   |value v=>
    rw[r]at z c;obtain⟨R,q,hq⟩:=z;exact J4 q u H hq c ⟨g,l,C.lt,C.zgx,rfl,by rw[<-hq];exact R,s⟩
   |_=>
    rw[r]at z c;obtain⟨R,h4,h5⟩:=z;rw[h4]at c;exact qn u H R c ⟨g,l,C.lt,C.zgx,rfl,h5,s⟩
  |call f args c hc=>
   rw[a5]at c;refine zaX f args u H c (hc.mono ?_);rintro e w' ⟨v,g,l,rfl,C,rfl,hv⟩;have z:=J g l C.I5 _ hv;exact⟨g,l,C.lt,C.zgx,rfl,z.1,X g l C⟩
 ·refine List.all_eq_true.2 λi N=>?_
  have O:=S i (List.mem_range.1 N);unfold opB at O;cases u:ops[i]? with
  |none=>rfl
  |some o=>
   rw[u]at O;simp only[E4]at O;exact O.1.2
 ·rintro L a w1 Y ⟨j,d,hj,F,rfl,hS,hI⟩
  have C:a=J2 (V j d) a0:=by
   have B:a.tmps=(J2 (V j d) a0).tmps:=by
    apply Array.ext_getElem?;intro k;show _=((V j d).foldl (λt e=>t.setIfInBounds e.2.1 e.2.2) a0.tmps)[k]?
    by_cases I: ∃e∈V j d,e.2.1=k
    ·obtain⟨e,m,rfl⟩:=I
     rw[yV (V j d) _ (by rw[E];exact Z) (a2 j d) e m];exact hS.tb e m (Y _ (by simpa using List.all_eq_true.1 b8 _ (a1 j d e m)))
    ·have s: ∀e∈V j d,e.2.1≠k:=λe m e2=>I ⟨e,m,e2⟩
     rw[hS.un k s,qr (V j d) _ _ s]
   have c4:=hS.df;cases a;simp only[J2]at*;subst c4 B;rfl
  rw[C];exact hQ j d F λt B y=>by rw[<-hI t B y];exact Y t y
end
end Go.Proofs.YtalgmjmibamdfaaGreatDoor
