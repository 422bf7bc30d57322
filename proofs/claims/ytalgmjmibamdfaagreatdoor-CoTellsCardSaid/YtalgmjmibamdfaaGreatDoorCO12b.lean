/- Merged. -/
import Derived.Test.YtalgmjmibamdfaaGreatDoorCO12
set_option linter.all false
set_option maxHeartbeats 16000000
set_option maxRecDepth 100000
namespace Go.Proofs.YtalgmjmibamdfaaGreatDoor
open Go.RowKit
section
variable {P:Program}{ops:Array Oper}
theorem Z3{L:Array Bool}(h:Clo ops L): ∀(f i k:Nat),zr ops f i k=true->L.getD i false=true->L.getD k false=true
 |0,_,_,g,_=>by cases g
 |f+1,i,k,a,hi=>by
  rw[zr]at a
  split at a
  ·rename_i o j
   obtain⟨e,l,b⟩:=List.any_eq_true.1 a;simp only[F4,Bool.or_eq_true,beq_iff_eq]at b;have d:=h i o j hi e l b.1
   rcases b.2 with c|c
   ·rw[<-c];exact d
   ·exact Z3 h f _ _ c d
  ·cases a
theorem qq{L:Array Bool}(h:Clo ops L){i k f:Nat}(hi:i∈Region.ready .any ops L)(a:zr ops f i k=true):L.getD k false=true:=by
 cases f with
 |zero=>cases a
 |succ f=>
  rw[zr]at a
  split at a
  ·rename_i o g
   obtain⟨e,j,b⟩:=List.any_eq_true.1 a;simp only[F4,Bool.or_eq_true,beq_iff_eq]at b;have d:=K5 hi g e j b.1
   rcases b.2 with c|c
   ·rw[<-c];exact d
   ·exact Z3 h f _ _ c d
  ·cases a
theorem ym{L:Array Bool}{i k:Nat}(hi:i∈Region.ready .any ops L)(a:zeF ops i k=true):L.getD k false=true:=by
 unfold zeF at a
 split at a
 ·rename_i o c
  obtain⟨e,d,b⟩:=List.any_eq_true.1 a;simp only[F4,beq_iff_eq]at b;rw[<-b.2];exact K5 hi c e d b.1
 ·cases a
theorem zH(T:je): ∀(t:Array Value)(k:Nat),(∀e∈T,e.2.1≠k)->(T.foldl (λt e=>t.setIfInBounds e.2.1 e.2.2) t)[k]?=t[k]?:=by
 induction T with
 |nil=>intro t k _;rfl
 |cons e T a=>
  intro t k h;rw[List.foldl_cons,a _ k λx b=>h x (y4 _ b),E3 (h e (B2 ..))]
theorem xV(T:je): ∀(t:Array Value),(T.map (·.2.1)).Nodup->(∀e∈T,e.2.1<t.size)-> ∀e∈T,(T.foldl (λt e=>t.setIfInBounds e.2.1 e.2.2) t)[e.2.1]?=some e.2.2:=by
 induction T with
 |nil=>intro t _ _ e h;cases h
 |cons x T f=>
  intro t a d e b;simp only[List.map_cons,List.nodup_cons]at a;rw[List.foldl_cons]
  rcases List.mem_cons.1 b with rfl|b
  ·rw[zH T _ _ λy c g=>a.1 (by rw[<-g];exact G8 c)]
   simp[d _ (B2 ..)]
  ·exact f _ a.2 (λy c=>by simpa using d y (y4 _ c)) e b
theorem L4{Q:Exit->Act->World->Prop}{id:Nat}{a0:Act}{w:World}(hm:P.follows .mixedOrders=true)(r T2:je)(D E:List (Nat×Nat))(a8:r.map (λe=>(e.1,e.2.1))=D)(a9:T2.map (λe=>(e.1,e.2.1))=E)(c:List Nat)(W:Nat->World)(lit:List (Nat×Nat))(b0:zf7 ops D E c=true)(b1:zgM ops c=lit)
 (hz:((D++E).all λe=>decide (e.2<a0.tmps.size))=true) (h0:W 0=w.drew)
 (b2: ∀p∈lit,∀o,ops[p.1]?=some o->(execOp (Act.eval (J8 r a0)) o).run P (W p.2)=.ok (X9 (r++T2) p.1) (W (if c.contains p.1 then p.2+1 else p.2)))
 (hQ:Q .normal (J8 (r++T2) a0) (W c.length)):(Code.region id ops true).wp P Q a0 w:=by
 simp only[zf7,F4,F2]at b0;obtain⟨⟨⟨⟨⟨⟨b3,c0⟩,a3⟩,s⟩,d3⟩,c1⟩,b4⟩:=b0;obtain⟨T,v⟩: ∃T,r++T2=T:=⟨_,rfl⟩;obtain⟨sl,a4⟩: ∃sl,D++E=sl:=⟨_,rfl⟩;have hT:T.map (λe=>(e.1,e.2.1))=sl:=by rw[<-v,<-a4,List.map_append,a8,a9]
 rw[v]at hQ b2;rw[a4]at a3 s b4 hz;have c2:T.map (·.1)=sl.map (·.1):=by rw[<-hT,List.map_map];rfl
 have c3:T.map (·.2.1)=sl.map (·.2):=by rw[<-hT,List.map_map];rfl
 have b5: ∀e∈T,(e.1,e.2.1)∈sl:=λe d=>by rw[<-hT];exact G8 (f:=λe:Nat×Nat×Value=>(e.1,e.2.1)) d
 have a5: ∀e∈T,e.2.1<a0.tmps.size:=λe d=>by simpa using List.all_eq_true.1 hz _ (b5 e d)
 rw[<-c2]at a3;rw[<-c3]at s;have R: ∀i,i<ops.size->opB ops D E i=true:=λi K=>List.all_eq_true.1 b3 i (List.mem_range.2 K);refine ja hm ops.size rfl (λL a w=>(S9 T a0 L a/\ ∀e∈T,L.getD e.1 false=false->a.tmps[e.2.1]?=a0.tmps[e.2.1]?)/\ ∃j,j<=c.length/\w=W j/\ ∀t,t<c.length->(L.getD (c.getD t 0) false=true↔t<j)) ⟨⟨S9.start _ _ _,λ_ _ _=>rfl⟩,0,E2 _,h0.symm,λt _=>by rw[W3];simp⟩ ?_ ?_ ?_
 ·rintro L a w1 i hL hC ⟨⟨S,hU⟩,j,hj,rfl,U⟩ K
  have g:i<ops.size:=(zN K).1;have M:=xz K (by rw[hL];exact g);have N:=R i g;obtain⟨o,A⟩: ∃o,ops[i]?=some o:=⟨_,Array.getElem?_eq_getElem g⟩;unfold opB at N;rw[A]at N;simp only[F4,F2]at N;obtain⟨⟨⟨⟨hg,V⟩,hd⟩,-⟩,b6⟩:=N;rw[a4]at hd;have b7:o.guard=none:=by simpa using hg
  have d2: ∀t,t<c.length->c.getD t 0=c[t]! :=λt n=>by simp[n]
  have F: ∀t,c[t]?=some i->t=j:=λt n=>by
   have G:=(List.getElem?_eq_some_iff.1 n).1;have e:c.getD t 0=i:=by rw[List.getD_eq_getElem?_getD,n];rfl
   have J: ¬t<j:=λh=>by have:=(U t G).2 h;rw[e,M]at this;cases this
   rcases E5 j t with h|h
   ·have X:=List.all_eq_true.1 (List.all_eq_true.1 c0 t (List.mem_range.2 G)) j (List.mem_range.2 h)
    rw[e]at X;have B:=(U j (by omega)).1 (qq hC K X);omega
   ·omega
  have c4:okB ops c i j=true:=by
   unfold okB;rw[F4];refine⟨List.all_eq_true.2 λt n=>?_,?_⟩
   ·have G:=List.mem_range.1 n
    split
    ·rename_i h
     have J:=(U t G).2 h;simp only[F4,Bool.not_eq_true',B0];refine⟨λe=>(by rw[e,M]at J;cases J),?_⟩;cases X:zr ops ops.size (c.getD t 0) i with
     |false=>rfl
     |true=>have:=Z3 hC _ _ _ X J;rw[M]at this;cases this
    ·rename_i h
     simp only[Bool.not_eq_true'];cases X:zr ops ops.size i (c.getD t 0)with
     |false=>rfl
     |true=>exact I2 ((U t G).1 (qq hC K X)) h
   ·by_cases O:c.contains i=true
    ·obtain⟨t,n⟩:=List.getElem?_of_mem (by simpa using O:i∈c)
     have:=F t n;subst this;rw[O,n];simp
    ·simp only[Bool.not_eq_true]at O;rw[O];rfl
  have a6:(i,j)∈lit:=by
   rw[<-b1];exact List.mem_flatMap.2 ⟨i,List.mem_range.2 g,List.mem_map.2 ⟨j,List.mem_filter.2 ⟨List.mem_range.2 (by omega),c4⟩,rfl⟩⟩
  have m:=b2 (i,j) a6 o A;have c5:execOp (Act.eval (J8 r a0)) o=execOp (Act.eval a) o:=by
   refine execOp_congr o (λcs b e=>by rw[e]at V;cases V) λx hx=>?_;have J:=List.all_eq_true.1 b6 x (by simpa using hx);cases x with
   |tmp t=>
    simp only[F4]at J;show(J8 r a0).tmps.getD t undef=a.tmps.getD t undef;rw[F5,F5];have b8:(r.map (·.2.1)).Nodup:=by rw[<-v,List.map_append]at s;exact(List.nodup_append.1 s).1
    have Y: ∀e∈r,e∈T:=λe d=>by rw[<-v];exact List.mem_append_left _ d
    by_cases H: ∃e∈r,e.2.1=t
    ·obtain⟨e,d,rfl⟩:=H
     have B:=List.all_eq_true.1 J.1 (e.1,e.2.1) (by rw[<-a8];exact G8 (f:=λe:Nat×Nat×Value=>(e.1,e.2.1)) d);simp only[beq_self_eq_true,Bool.not_true,Bool.false_or]at B;rw[S.tb e (Y e d) (ym K B)];show((r.foldl (λt e=>t.setIfInBounds e.2.1 e.2.2) a0.tmps)[e.2.1]?).getD undef=_;rw[xV r _ b8 (λe d=>a5 e (Y e d)) e d]
    ·have B: ∀e∈r,e.2.1≠t:=λe d u=>H ⟨e,d,u⟩
     show((r.foldl (λt e=>t.setIfInBounds e.2.1 e.2.2) a0.tmps)[t]?).getD undef=_;rw[zH r _ _ B]
     by_cases Z: ∃e∈T2,e.2.1=t
     ·obtain⟨e,d,rfl⟩:=Z
      have h3:=List.all_eq_true.1 J.2 (e.1,e.2.1) (by rw[<-a9];exact G8 (f:=λe:Nat×Nat×Value=>(e.1,e.2.1)) d);simp only[beq_self_eq_true,Bool.not_true,Bool.false_or]at h3;rw[hU e (by rw[<-v];exact List.mem_append_right _ d) (by
       cases X:L.getD e.1 false with
       |false=>rfl
       |true=>have:=Z3 hC _ _ _ h3 X;rw[M]at this;cases this)]
     ·rw[S.un t λe d u=>by
       rw[<-v]at d
       rcases List.mem_append.1 d with h|h
       ·exact B e h u
       ·exact Z ⟨e,h,u⟩]
   |_=>rfl
  rw[c5]at m;have a1: ∀a',S9 T a0 (L.setIfInBounds i true) a'->(∀e∈T,e.1≠i->a'.tmps[e.2.1]?=a.tmps[e.2.1]?)->(S9 T a0 (L.setIfInBounds i true) a'/\ ∀e∈T,(L.setIfInBounds i true).getD e.1 false=false->a'.tmps[e.2.1]?=a0.tmps[e.2.1]?)/\ ∃j',j'<=c.length/\W (if c.contains i then j+1 else j)=W j'/\ ∀t,t<c.length->((L.setIfInBounds i true).getD (c.getD t 0) false=true↔t<j'):=λa' h hk=>by
   refine⟨⟨h,λe d C=>?_⟩,?_⟩
   ·have q:e.1≠i:=λu=>by rw[u,M9 (by rw[hL];exact g)]at C;cases C
    rw[I9 q]at C;rw[hk e d q];exact hU e d C
   by_cases O:c.contains i=true
   ·obtain⟨t0,a7⟩:=List.getElem?_of_mem (by simpa using O:i∈c)
    have e0:=F t0 a7;subst e0;have d4:=(List.getElem?_eq_some_iff.1 a7).1;refine⟨t0+1,by omega,by rw[E1 O],λt n=>?_⟩
    by_cases e:t=t0
    ·subst e
     have:c.getD t 0=i:=by rw[List.getD_eq_getElem?_getD,a7];rfl
     rw[this,M9 (by rw[hL];exact g)];simp
    ·have q:c.getD t 0≠i:=λu=>by
      have:c[t]?=some i:=by rw[y8 n,<-u,List.getD_eq_getElem?_getD,y8 n];rfl
      exact e (F t this)
     rw[I9 q,U t n];omega
   ·refine⟨j,hj,by rw[B5 O],λt n=>?_⟩
    have q:c.getD t 0≠i:=λu=>O (by
     have:c[t]?=some i:=by rw[y8 n,<-u,List.getD_eq_getElem?_getD,y8 n];rfl
     simpa using B7 this)
    rw[I9 q];exact U t n
  unfold X9 at m;cases C:T.find? (λe=>e.1==i)with
  |some e=>
   rw[C]at m;have d:=List.mem_of_find?_eq_some C;have c6:e.1=i:=by simpa using List.find?_some C
   subst c6;have I:o.dst=some e.2.1:=by
    rw[hd,<-hT,List.find?_map];have:((λe:Nat×Nat=>e.1==(e.1))∘λe:Nat×Nat×Value=>(e.1,e.2.1))=λ_=>true:=by funext;simp
    have B:T.find? ((λx:Nat×Nat=>x.1==e.1)∘λe:Nat×Nat×Value=>(e.1,e.2.1))=some e:=C;rw[B];rfl
   refine K0 e.2.1 A b7 I m ?_;refine a1 _ (S.put a3 s a5 e d) λe' c7 q=>?_;have b9:e.2.1≠e'.2.1:=λh=>q (by
    have c8: ∀l:je,(l.map (·.2.1)).Nodup-> ∀x∈l,∀y∈l,x.2.1=y.2.1->x=y:=by
     intro l
     induction l with
     |nil=>intro _ x hx;cases hx
     |cons z l ih=>
      intro hn x hx y hy e;simp only[List.map_cons,List.nodup_cons]at hn
      rcases List.mem_cons.1 hx with h3|h3
      ·rcases List.mem_cons.1 hy with h4|h4
       ·rw[h3,h4]
       ·exact I2 (by rw[<-h3,e];exact G8 h4) hn.1
      ·rcases List.mem_cons.1 hy with h4|h4
       ·exact I2 (by rw[<-h4,<-e];exact G8 h3) hn.1
       ·exact ih hn.2 x h3 y h4 e
    rw[c8 T s e d e' c7 h])
   simp only[Act.put];rw[E3 b9]
  |none=>
   rw[C]at m;have c9: ∀e∈T,e.1≠i:=λe d u=>by have:=List.find?_eq_none.1 C e d;simp[u]at this
   have I:o.dst=none:=by
    rw[hd,<-hT,List.find?_map];have B:T.find? ((λx:Nat×Nat=>x.1==i)∘λe:Nat×Nat×Value=>(e.1,e.2.1))=none:=C;rw[B];rfl
   refine zO A b7 I m ?_;exact a1 _ (S.skip i c9) λ_ _ _=>rfl
 ·refine List.all_eq_true.2 λi K=>?_
  have N:=R i (List.mem_range.1 K);unfold opB at N;cases A:ops[i]? with
  |none=>rfl
  |some o=>
   rw[A]at N;simp only[F4]at N;exact N.1.2
 ·rintro L a w1 a2 ⟨⟨S,-⟩,j,hj,rfl,U⟩
  have d0:j=c.length:=by
   rcases E5 j c.length with h|h
   ·have J:=List.all_eq_true.1 c1 (c.getD j 0) (by rw[List.getD_eq_getElem?_getD,y8 h];exact List.getElem_mem h)
    have:=(U j h).1 (a2 _ (by simpa using J));omega
   ·omega
  subst d0;have ha:a=J8 T a0:=by
   have n:a.tmps=(J8 T a0).tmps:=by
    apply Array.ext_getElem?;intro k;show _=(T.foldl (λt e=>t.setIfInBounds e.2.1 e.2.2) a0.tmps)[k]?
    by_cases H: ∃e∈T,e.2.1=k
    ·obtain⟨e,d,rfl⟩:=H
     rw[xV T _ s a5 e d];exact S.tb e d (a2 _ (by simpa using List.all_eq_true.1 b4 _ (b5 e d)))
    ·have B: ∀e∈T,e.2.1≠k:=λe d u=>H ⟨e,d,u⟩
     rw[S.un k B,zH T _ _ B]
   have d1:=S.df;cases a;simp only[J8]at*;subst d1 n;rfl
  rw[ha];exact hQ
end
end Go.Proofs.YtalgmjmibamdfaaGreatDoor
namespace Go.Proofs.YtalgmjmibamdfaaGreatDoor
open Go.Proofs.Tryz
open Go.RowKit Tw
def Ti(w:World)(g:Nat):Prop:= ∃a,w.heap[g]?=some (.cells a 3 (0,0))
theorem zC{w:World}{base e size n:Nat}{v:Value}{xs:List Value}(h:w.ownsRow base e size v n xs){g:Nat}(a:v.ownBlock=some g): ∃b,w.heap[g]?=some (.cells b e (0,0)):=by
 rcases h.2 with⟨rfl,-⟩|⟨d,f,i,rfl,k,j,-⟩
 ·cases a
 ·have:d=g:=by simpa[Value.ownBlock]using a
  subst this;exact⟨_,j⟩
theorem Xy{w:World}{base:Nat}{v:Value}{l:List Int}(h:w.ownsRow base 3 1 v l.length (iC l)):K9 w (λg=>Ti w g/\base<=g) v l:=by
 rcases N8 h with⟨rfl,b⟩|⟨g,a,rfl,d,e,f⟩
 ·exact .inl ⟨_,_,rfl,List.length_eq_zero_iff.1 b⟩
 ·exact .inr ⟨g,0,a,rfl,⟨zC h rfl,d⟩,e,λk s i=>by rw[Nat.zero_add];exact f k _ (by unfold iC;rw[G3,i];rfl)⟩
theorem ZT{w:World}{base:Nat}{v:Value}{l:List Int}(h:w.ownsRow base 3 1 v l.length (iC l)):K9 w (Ti w) v l:=(Xy h).J0 λ_ a b=>⟨a.1,b,rfl⟩
theorem K9.any{w:World}{F:Nat->Prop}{v:Value}{l:List Int}(h:K9 w F v l):K9 w (λ_=>True) v l:=h.J0 λ_ _ a=>⟨trivial,a,rfl⟩
def xo(t:Nat):Prop:=t=22\/t=55
structure Hk(Z:Nat)(w w':World):Prop where
 os:w'.os=w.os
 tape:w'.tape=w.tape
 output:w'.output=w.output
 low: ∀k,k<Z->w'.heap[k]?=w.heap[k]?
 size:w.heap.size<=w'.heap.size
 K3: ∀(k:Nat)(cs:Array Value)(t:Nat)(fr:Nat×Nat),w.heap[k]?=some (.cells cs t fr)-> ¬xo t->w'.heap[k]?=w.heap[k]?
structure zT(Z B:Nat)(g:Nat)(lb:Array Value)(hf:R4)(I:World->(Nat->Prop)->List (Int×List Int)->Prop):Prop where
 le:Z<=B
 J0: ∀{S:Nat->Prop}{w w':World}{t:List (Int×List Int)},I w S t->Vo ⟨B,S⟩ w w'->I w' S t
 sz: ∀{S:Nat->Prop}{w:World}{t:List (Int×List Int)},I w S t->JP w ⟨B,S⟩
 call: ∀(f:Int)(xs:List Int)(A:Option Addr)(c:Nat)(w:World){S:Nat->Prop}(t:List (Int×List Int)),Hid (t.length<1000000)->I w S t->K9 w (Ti w) (.slice A xs.length c) xs->xs.length<=600->0<=f->f<=100->
  Calls prog g (#[.int .i64 f,.slice A xs.length c]++lb) w λe w'=>e=.returned (.tuple #[.int .i64 (hf f xs).1,.int .i64 (hf f xs).2])/\(∃S',I w' S' (t++[(f,xs)])/\ ∀k,S' k->S k\/w.heap.size<=k)/\Hk Z w w'
 eg: ∀args w,(callFunc g args).run prog w=.ok (.enter g args) w
theorem Rows.host{w w':World}{B:Bd}{l:List Fm}{S:Nat->Prop}(h:Rows w B l)(m: ∀(g:Nat)(b:Array Value),w.heap[g]?=some (.cells b 3 (0,0))->w'.heap[g]?=w.heap[g]?)(o:JP w' ⟨B.n,S⟩)(hs: ∀k,S k->B.S k\/w.heap.size<=k):Rows w' ⟨B.n,S⟩ l:=by
 obtain⟨-,f,h⟩:=h;refine⟨o,f,λi z a=>⟨M4 (h i z a).v λg b _=>m g b,M4 (h i z a).s λg b _=>m g b,(h i z a).lv,(h i z a).ls,λg e j=>?_,λg e j=>?_⟩⟩
 ·rcases hs g j with d|d
  ·exact(h i z a).nv g e d
  ·have:=((h i z a).v.lt g e).2;omega
 ·rcases hs g j with d|d
  ·exact(h i z a).ns g e d
  ·have:=((h i z a).s.lt g e).2;omega
theorem S8.host{w w':World}{B:Bd}{b c:Nat}{A:Option Addr}{l:List Fm}{S:Nat->Prop}(h:S8 w B b A c l)(e: ∀(g:Nat)(a:Array Value)(t:Nat),w.heap[g]?=some (.cells a t (0,0))->t=3\/t=b->w'.heap[g]?=w.heap[g]?)(f:JP w' ⟨B.n,S⟩)(hs: ∀k,S k->B.S k\/w.heap.size<=k):S8 w' ⟨B.n,S⟩ b A c l:=
 ⟨M4 h.jq λg a _ d=>e g a b d (.inr rfl),h.R9.host (λg a d=>e g a _ d (.inl rfl)) f hs⟩
section
variable {B:Bd}{mb nf cf c:Nat}{w w':World}{Af A:Option Addr}{main mode value:Int}{l:List Fm}{x:Fm}
theorem zA.hk(h:zA w B mb Af nf cf main mode value A c l){Z:Nat}(a:Hk Z w w'){S:Nat->Prop}(b:JP w' ⟨B.n,S⟩)(hs: ∀k,S k->B.S k\/w.heap.size<=k):zA w' ⟨B.n,S⟩ mb Af nf cf main mode value A c l:=
 ⟨h.lo,(a.K3 mb _ _ _ h.K3 (by unfold xo;decide)).trans h.K3,h.T9.host (λg d t e f=>a.K3 g d t _ e (by unfold xo;rcases f with rfl|rfl<;>decide)) b hs⟩
theorem zA.below(h:zA w B mb Af nf cf main mode value A c l)(a:Below w.heap.size w w'):zA w' B mb Af nf cf main mode value A c l:=
 ⟨h.lo,(a.block mb (I7 h.K3)).trans h.K3,h.T9.below a⟩
theorem zA.cell(h:zA w B mb Af nf cf main mode value A c l)(j:Nat)(u:Value):
 (w.setCell ⟨mb,j,none⟩ u).heap[mb]?=some (.cells ((#[.slice Af nf cf,.int .i64 main,.int .i64 mode,.int .i64 value,.slice A l.length c]:Array Value).setIfInBounds j u) 98 (0,0))/\S8 (w.setCell ⟨mb,j,none⟩ u) B 95 A c l/\Vo B w (w.setCell ⟨mb,j,none⟩ u):=
 ⟨z5 w mb j _ _ u h.K3,h.T9.else h.K3 (by decide) (by decide) j u,.set h.K3 h.lo (by simp[xm]) j u⟩
theorem zA.yld(h:zA w B mb Af nf cf main mode value A c l)(v:Int):zA (w.setCell ⟨mb,3,none⟩ (.int .i64 v)) B mb Af nf cf main mode v A c l:=
 ⟨h.lo,(h.cell 3 _).1,(h.cell 3 _).2.1⟩
theorem Zc(w:World)(B:Bd)(a:Nat)(b:JP w B):S8 w B a none 0 []:=⟨G5 w B a 4,b,λ_=>(0,false),λi x h=>by cases h⟩
theorem zA.stop(h:zA w B mb Af nf cf main mode value A c l)(m v:Int):zA (((w.setCell ⟨mb,2,none⟩ (.int .i64 m)).setCell ⟨mb,3,none⟩ (.int .i64 v)).setCell ⟨mb,4,none⟩ (.slice none 0 0)) B mb Af nf cf main m v none 0 []/\
 Vo B w (((w.setCell ⟨mb,2,none⟩ (.int .i64 m)).setCell ⟨mb,3,none⟩ (.int .i64 v)).setCell ⟨mb,4,none⟩ (.slice none 0 0)):=by
 have a:=z5 w mb 2 _ _ (.int .i64 m) h.K3;have b:=z5 _ mb 3 _ _ (.int .i64 v) a;have e:=z5 _ mb 4 _ _ (.slice none 0 0) b;have d:=(Vo.set h.K3 h.lo (by simp[xm]) 2 (.int .i64 m)).trans ((Vo.set a h.lo (by simp[xm]) 3 (.int .i64 v)).trans (Vo.set b h.lo (by simp[xm]) 4 (.slice none 0 0)));exact⟨⟨h.lo,e,Zc _ _ _ (d.szs h.T9.R9.1)⟩,d⟩
theorem zv(h:zA w B mb Af nf cf main mode value A c l):(w.cell? ⟨mb,0,none⟩=some (.slice Af nf cf)/\w.cell? ⟨mb,1,none⟩=some (.int .i64 main)/\w.cell? ⟨mb,2,none⟩=some (.int .i64 mode)/\w.cell? ⟨mb,3,none⟩=some (.int .i64 value)/\w.cell? ⟨mb,4,none⟩=some (.slice A l.length c))/\
 w.frozen? ⟨mb,2,none⟩=false/\w.frozen? ⟨mb,3,none⟩=false/\w.frozen? ⟨mb,4,none⟩=false:=
 ⟨⟨y5 h.K3 0,y5 h.K3 1,y5 h.K3 2,y5 h.K3 3,y5 h.K3 4⟩,B4 h.K3 2,B4 h.K3 3,B4 h.K3 4⟩
end
theorem zap{B:Bd}{mb nf cf c:Nat}{w:World}{Af A:Option Addr}{main mode value:Int}{l:List Fm}(h:zA w B mb Af nf cf main mode value A c l)(a:Int):
 Calls prog 81 #[.pointer (some ⟨mb,0,none⟩),.int .i64 a] w λe w'=>e=.returned (.tuple #[])/\zA w' B mb Af nf cf main 2 a none 0 []/\Vo B w w':=by
 obtain⟨⟨d,f,g,i,j⟩,k,m,n⟩:=zv h;have b:=zh (h.stop 2 a);clear h
 go_enter func81,ntmps81
 go_wp2_with fail
 go_end0;exact⟨rfl,b.out.1,b.out.2⟩
section
variable {B:Bd}{tc c g:Nat}{w w':World}{A:Option Addr}{low:List Fm}{f:Fq}{v s:Value}
theorem S8.X5(h:S8 w B tc (some ⟨g,0,none⟩) c (low++[(f,v,s)]))(b:tc≠3)(p:Nat):S8 (w.setCell ⟨g,low.length*4+1,none⟩ (.int .i64 p)) B tc (some ⟨g,0,none⟩) c (low++[({f with pc:=p},v,s)]):=by
 have a:=h.jq;rw[z9]at a;exact S8.set (j:=1) a (h.R9.pc (f:={f with pc:=p}) rfl rfl) b (by decide) _ rfl
theorem S8.cut(h:S8 w B tc (some ⟨g,0,none⟩) c (low++[(f,v,s)]))(b:tc≠3){k n d:Nat}{S:Option Addr}(hs:s=.slice S n d)(e:k<=f.I8.length):
 S8 (w.setCell ⟨g,low.length*4+3,none⟩ (.slice S k d)) B tc (some ⟨g,0,none⟩) c (low++[({f with I8:=f.I8.take k},v,.slice S k d)]):=by
 have a:=h.jq;rw[z9]at a;exact S8.set (j:=3) a (h.R9.cut (f:={f with I8:=f.I8.take k}) rfl hs e rfl) b (by decide) _ rfl
theorem S8.stk(h:S8 w B tc (some ⟨g,0,none⟩) c (low++[(f,v,s)]))(d:tc≠3)(i:w.grownBy w' s.ownBlock){f':Fq}(hf:f'.vars=f.vars)(n:f'.fn=f.fn)(o:f'.pc=f.pc){s':Value}(hs:w'.ownsRow B 3 1 s' f'.I8.length (iC f'.I8))(p: ∀g,s'.ownBlock=some g->s.ownBlock=some g\/w.heap.size<=g):
 S8 (w'.setCell ⟨g,low.length*4+3,none⟩ s') B tc (some ⟨g,0,none⟩) c (low++[(f',v,s')]):=by
 have l:=h.jq;rw[z9]at l;have a:=h.R9.yd.2.1;have b:w'.ownsRow B tc 4 _ _ _:=M4 l λk t e m=>i.block k (I7 m) λq=>by
  have r:g=k:=by simpa[Value.ownBlock]using e
  subst r;exact L9 a m (λe=>d e.symm) q.symm
 exact S8.set (j:=3) b (h.R9.stk i hf hs p) d (by decide) _ (by simp[Fm.cells,n,o])
theorem S8.pop{x:Fm}(h:S8 w B tc A c (low++[x])):S8 w B tc A c low:=by
 refine⟨?_,h.R9.pop⟩;have:=zZ h.jq low.length (by simp);have e:((low++[x]).flatMap Fm.cells).take (low.length*4)=low.flatMap Fm.cells:=by
  have b:(low.flatMap Fm.cells).length=low.length*4:=by
   clear this h
   induction low with
   |nil=>rfl
   |cons a l d=>rw[List.flatMap_cons,z9,d,z7];show 4+_=_;omega
  rw[List.flatMap_append,List.take_left' b]
 rw[e]at this;exact this
end
theorem Rows.zM{w:World}{B:Bd}{l:List Fm}(h:Rows w B l){i:Nat}{f:Fq}{v s:Value}(hx:l[i]?=some (f,v,s)):(∃A c,v=.slice A f.vars.length c)/\ ∃A c,s=.slice A f.I8.length c:=by
 obtain⟨a,b⟩:=h.at hx;exact⟨(Y9 (F:=λ_=>True) a λ_ _=>trivial).zM,(Y9 (F:=λ_=>True) b λ_ _=>trivial).zM⟩
section
variable {B:Bd}{mb nf cf c:Nat}{w w':World}{Af A:Option Addr}{main mode value:Int}{low:List Fm}{x:Fm}
theorem zA.pop(h:zA w B mb Af nf cf main mode value A c (low++[x])):zA (w.setCell ⟨mb,4,none⟩ (.slice A low.length c)) B mb Af nf cf main mode value A c low:=by
 obtain⟨a,b,-⟩:=h.cell 4 (.slice A low.length c);exact⟨h.lo,a,b.pop⟩
theorem zA.of(h:zA w B mb Af nf cf main mode value A c low){l:List Fm}(a:w'.heap[mb]?=w.heap[mb]?)(hf:S8 w' B 95 A c l)(b:l.length=low.length):zA w' B mb Af nf cf main mode value A c l:=
 ⟨h.lo,by rw[a,b];exact h.K3,hf⟩
end
theorem zA.ne{B:Bd}{mb nf cf c g:Nat}{w:World}{Af:Option Addr}{main mode value:Int}{l:List Fm}{a:Array Value}(h:zA w B mb Af nf cf main mode value (some ⟨g,0,none⟩) c l)(b:w.heap[g]?=some (.cells a 95 (0,0))):mb≠g:=λe=>by
 subst e;have:=h.K3;rw[b]at this;injection this with this;injection this with _ e;exact I2 e (by decide)
theorem Xh{B:Bd}{mb nf cf c b:Nat}{w:World}{Af q:Option Addr}{main mode value:Int}{low:List Fm}{f:Fq}{v:Value}{r:Nat}(h:zA w B mb Af nf cf main mode value (some ⟨b,0,none⟩) c (low++[(f,v,.slice q f.I8.length r)]))(x:Int)(M:f.I8.length<=2000):
 ∃A' c' j,(Builtin.append_ #[22,22] 22 #[.slice q f.I8.length r,.slice (some ⟨w.heap.size,0,none⟩) 1 1]).run prog (w.alloc (.cells #[.int .i64 x] 3))=.ok (.slice A' (f.I8.length+1) c') j/\
  j.cell? ⟨b,low.length*4+3,none⟩=some (.slice q f.I8.length r)/\j.frozen? ⟨b,low.length*4+3,none⟩=false/\
  zA (j.setCell ⟨b,low.length*4+3,none⟩ (.slice A' (f.I8.length+1) c')) B mb Af nf cf main mode value (some ⟨b,0,none⟩) c (low++[({f with I8:=f.I8++[x]},v,.slice A' (f.I8.length+1) c')])/\Vo B w (j.setCell ⟨b,low.length*4+3,none⟩ (.slice A' (f.I8.length+1) c')):=by
 have y:B<=w.heap.size:=C4 h.lo (I0 (I7 h.K3));have m:=(y7 w.heap.size w).alloc (y6 _) (.cells #[.int .i64 x] 3);have n:=h.below m;have E:K9 (w.alloc (.cells #[.int .i64 x] 3)) (λ_=>True) (.slice (some ⟨w.heap.size,0,none⟩) 1 1) [x]:=U1 (l:=[x]) (y9 w _) trivial;have t:=n.T9.R9.yd.2.1;obtain⟨A',c',j,F,G,u,H⟩:=Z6 22 t E (by simp;omega) (C4 y m.size);obtain⟨I,J,o,z,d,⟨-,-,-,K⟩,C⟩:=h.T9.at (i:=low.length) (x:=(f,v,.slice q f.I8.length r)) (by simp);injection o with o;injection o with o
 subst o;have p:=(m.block b (I7 d)).trans d;have k:=(u.block b (I7 p) (λe=>L9 t p (by decide) e.symm)).trans (m.block b (I7 d));have D:=(u.block mb (I7 n.K3) (λe=>L9 t n.K3 (by decide) e.symm)).trans n.K3;refine⟨A',c',j,F,(E9 (a:=⟨b,low.length*4+3,none⟩) k).trans K,(World.frozen?_of_block (a:=⟨b,low.length*4+3,none⟩) k).trans (C _),⟨h.lo,?_,?_⟩,?_⟩
 ·rw[G0 j ⟨b,low.length*4+3,none⟩ _ mb (h.ne d),D];simp
 ·exact n.T9.stk (by decide) u (f':={f with I8:=f.I8++[x]}) rfl rfl rfl (s':=.slice A' (f.I8.length+1) c') (by simpa using G) (λg L=>by
   rcases H g L with h|h
   ·exact .inl h
   ·exact .inr (Nat.le_of_eq h.symm))
 ·exact(Vo.of m y).trans ((Vo.W8 t (λg e=>.int (n.T9.R9.ZF.2 g e)) (C4 y m.size) u).trans (Vo.set (k.trans d) z (by simp[xm]) _ _))
theorem Yk{B:Bd}{mb nf cf c a:Nat}{w:World}{Af:Option Addr}{main mode value:Int}{low:List Fm}{f:Fq}{v s:Value}(h:zA w B mb Af nf cf main mode value (some ⟨a,0,none⟩) c (low++[(f,v,s)]))(p:Nat):
 zA (w.setCell ⟨a,low.length*4+1,none⟩ (.int .i64 p)) B mb Af nf cf main mode value (some ⟨a,0,none⟩) c (low++[({f with pc:=p},v,s)])/\Vo B w (w.setCell ⟨a,low.length*4+1,none⟩ (.int .i64 p)):=by
 obtain⟨j,k,b,e,d,-,-⟩:=h.T9.at (i:=low.length) (x:=(f,v,s)) (by simp);injection b with b;injection b with b
 subst b;exact⟨⟨h.lo,by rw[G0 w ⟨a,low.length*4+1,none⟩ _ mb (h.ne d),h.K3];simp,h.T9.X5 (by decide) p⟩,.set d e (by simp[xm]) _ _⟩
theorem Z5{B:Bd}{mb nf cf c:Nat}{w:World}{Af A:Option Addr}{main mode value:Int}{low:List Fm}{f:Fq}{v s:Value}(h:zA w B mb Af nf cf main mode value A c (low++[(f,v,s)])):
 ∃a d e j cs,A=some ⟨a,0,none⟩/\v=.slice d f.vars.length e/\s=.slice j f.I8.length cs/\w.cell? ⟨a,low.length*4,none⟩=some (.int .i64 f.fn)/\w.cell? ⟨a,low.length*4+1,none⟩=some (.int .i64 f.pc)/\w.cell? ⟨a,low.length*4+2,none⟩=some v/\w.cell? ⟨a,low.length*4+3,none⟩=some s/\
  w.frozen? ⟨a,low.length*4+1,none⟩=false/\w.frozen? ⟨a,low.length*4+3,none⟩=false/\f.I8.length<=cs:=by
 obtain⟨a,k,rfl,-,-,⟨l,m,n,o⟩,b⟩:=h.T9.at (i:=low.length) (x:=(f,v,s)) (by simp);obtain⟨⟨d,e,rfl⟩,j,cs,rfl⟩:=h.T9.R9.zM (i:=low.length) (f:=f) (v:=v) (s:=s) (by simp);exact⟨a,d,e,j,cs,rfl,rfl,rfl,l,m,n,o,b _,b _,(N9 h.T9.R9.yd.2.1).1⟩
theorem zg1{B:Bd}{mb nf cf c:Nat}{w:World}{Af A:Option Addr}{main value:Int}{low:List Fm}{x:Fm}(h:zA w B mb Af nf cf main 0 value A c (low++[x]))(a:Int)(H:low.length<=40)(I: ∀y∈low,y.1.I8.length<=600/\y.1.pc<=4000):
 Calls prog 82 #[.pointer (some ⟨mb,0,none⟩),.int .i64 a] w λe w'=>e=.returned (.tuple #[])/\Vo B w w'/\
  match low.getLast? with
  |none=>zA w' B mb Af nf cf main 1 a none 0 []
  |some u=> ∃s',zA w' B mb Af nf cf main 0 value A c (low.dropLast++[({u.1 with pc:=u.1.pc+1,I8:=u.1.I8++[a]},u.2.1,s')]):=by
 obtain⟨⟨J,K,L,M,l⟩,N,O,P⟩:=zv h;rw[z9,List.length_singleton]at l;have j:=(N9 h.T9.jq).1;rw[z9,List.length_singleton]at j;have Q:IntKind.i64.wrap ((low.length:Int)+1-1)=(low.length:Int):=by rw[show(low.length:Int)+1-1=low.length by omega];exact IntWalk.i64_in _ (by omega)
 have Y:low.length<=c:=by omega
 have i:=zh h.pop;have d:=zh (h.cell 4 (.slice A low.length c)).2.2;clear h
 go_enter func82,ntmps82
 go_upto_region 0 with(fail)
 go_region
 clear J K L M l N O P Q Y j;replace i:=zh (i.out.below (J5 _));replace d:=zh (d.out.trans (Vo.of (J5 _) (C4 i.out.lo (I0 (I7 i.out.K3)))));generalize(World.setCell _ _ _).drew=V at i d|-
 obtain⟨⟨J,K,L,M,l⟩,N,O,P⟩:=zv i.out
 rcases List.eq_nil_or_concat low with rfl|⟨b,u,e⟩
 ·have W:=zh (i.out.stop 1 a)
  go_wp2_with fail
  (try simp only[Exit.inBlock,Exit.then]);refine F1 (results_none rfl _ _ _) rfl ?_
  exact⟨rfl,d.out.trans W.out.2,W.out.1⟩
 ·rw[List.concat_eq_append]at e
  subst e;obtain⟨f,vv,sv⟩:=u;obtain⟨gc,Av,cv,As,cs,rfl,rfl,rfl,m,n,o,p,F,q,-⟩:=Z5 i.out;have R:=I _ (List.mem_append_right _ (List.mem_singleton.2 rfl));simp only at R;rw[z9,List.length_singleton]at l H|-
  have e0:((b.length+1:Nat):Int)=(b.length:Int)+1:=by omega
  have Q:IntKind.i64.wrap ((b.length:Int)+1-1)=(b.length:Int):=by rw[show(b.length:Int)+1-1=b.length by omega];exact IntWalk.i64_in _ (by omega)
  have Z:(0:Int)<=(b.length:Int):=by omega
  have i1:(b.length:Int)<(b.length:Int)+1:=by omega
  have en:((b.length:Int)+1==0)=false:=beq_eq_false_iff_ne.2 (by omega)
  go_upto_region 3 with(fail)
  go_quiet (fail)
  clear J K L M l N O P Z i1 en Q m n o p F q;have S:=J9 (y7 V.heap.size V) nq;replace i:=zh (i.out.below S);replace d:=zh (d.out.trans (Vo.of S (C4 i.out.lo (I0 (I7 i.out.K3)))));clear S;generalize World.drewN _ _=w2 at i d|-
  obtain⟨a0,a1,a2,a3,a4,r,-,-,m,n,o,p,F,q,-⟩:=Z5 i.out;injection r with r;injection r with r
  subst r;obtain⟨A',c',w4,X,x3,y3,t,z⟩:=Xh i.out a (by omega);have G:=zh t;have k:=zh (d.out.trans z);clear t z m n o F q
  go_upto_region 5 with(at_builtin;refine Lib.wpList_append_run _ rfl _ _ _ _ rfl _ _ rfl rfl _ _ X ?_)
  clear X x3 y3 p;generalize World.setCell _ _ _=w5 at G k|-
  obtain⟨a5,a6,a7,a8,a9,C,-,-,m,n,o,p,F,q,-⟩:=Z5 G.out;injection C with C;injection C with C
  subst C;have ep:IntKind.i64.wrap ((f.pc:Int)+1)=((f.pc+1:Nat):Int):=by rw[show((f.pc+1:Nat):Int)=(f.pc:Int)+1 by omega];exact IntWalk.i64_in _ (by omega)
  simp only at n;obtain⟨D,E⟩:=Yk G.out (f.pc+1);have T:=zh D;have U:=zh (k.out.trans E);clear m o p q G k i D E
  go_wp2_with fail
  go_end0;rw[show(f.pc:Int)+1=((f.pc+1:Nat):Int) by omega];exact⟨rfl,U.out,_,T.out⟩
end Go.Proofs.YtalgmjmibamdfaaGreatDoor
