/- Merged. -/
import Derived.Test.YtalgmjmibamdfaaGreatDoorCO10b
import Derived.Deep.Upon
import Derived.Lib.AppendZerosOnto
set_option linter.all false
set_option maxHeartbeats 16000000
set_option maxRecDepth 100000
namespace Go.Proofs.YtalgmjmibamdfaaGreatDoor
open Go.Proofs.Tryz
open Go.RowKit Tw
theorem zbu{d:Int}(a:1<=d)(b:d<=20):d=1\/d=2\/d=3\/d=4\/d=5\/d=6\/d=7\/d=8\/d=9\/d=10\/d=11\/d=12\/d=13\/d=14\/d=15\/d=16\/d=17\/d=18\/d=19\/d=20:=by omega
theorem Xd(P:List Pf)(l:Option Addr)(m:Nat)(main:Int)(nv no:Nat)(d x:Int)(w:World)(hf:jb P.length nv no (d,x))(t:M3 w (.slice l P.length m) P):
 Calls prog 80 #[.agg #[.slice l P.length m,.int .i64 main],.agg #[.int .i64 d,.int .i64 x]] w λe w'=>e=.returned (.tuple #[.int .i64 (J4 (P.map Pf.params) (d,x)),.int .i64 (L3 (d,x))])/\Below w.heap.size w w':=by
 obtain⟨h,i,o,-⟩:=hf;simp only at h i o;have n:=zh (heap_alloc2_old w (.cells #[.slice l P.length m,.int .i64 main] 26) (.cells #[.int .i64 d,.int .i64 x] 74));have a:=zh (heap_alloc2_new w (.cells #[.slice l P.length m,.int .i64 main] 26) (.cells #[.int .i64 d,.int .i64 x] 74));have q:=zh (((y7 w.heap.size w).alloc (y6 _) (.cells #[.slice l P.length m,.int .i64 main] 26)).alloc (by simp) (.cells #[.int .i64 d,.int .i64 x] 74));have B:=zh t;have u:=zh o;clear t o
 go_enter func80,ntmps80
 go_upto_region 1 with(fail)
 generalize World.alloc _ _=W at n a q|-
 obtain⟨G,k⟩: ∃b,w.heap.size+1=b:=⟨_,rfl⟩;rw[k]at a;simp only[k];clear k;have H:=y5 n.out 0;have I:=y5 a.out 0;have J:=y5 a.out 1;have C:=zbu h i;clear h i
 rcases C with rfl|rfl|rfl|rfl|rfl|rfl|rfl|rfl|rfl|rfl|rfl|rfl|rfl|rfl|rfl|rfl|rfl|rfl|rfl|rfl
 case' inr.inr.inr.inr.inr.inr.inr.inr.inr.inr.inr.inr.inr.inr.inr.inr.inl=>
  obtain⟨r,v⟩:=u.out (by decide);obtain⟨j,rfl⟩: ∃j:Nat,x=j:=⟨x.toNat,by omega⟩;have y:j<P.length:=by simp[Y1]at v;omega
  obtain⟨f,hf⟩: ∃f,P[j]?=some f:=⟨_,y8 y⟩;obtain⟨g,c,K,D,-,z,A,-⟩:=B.out.at hf;injection D with E _ F
  subst E F;have L:=(q.out.cell (p:=⟨g,j*3,none⟩) z).trans A;have s:Hid (J4 (P.map Pf.params) (17,(j:Int))=f.params):=zh (by simp[J4,hf]);have M:(0:Int)<=(j:Int):=by omega
  have N:(j:Int)<(P.length:Int):=by omega
  have O: ¬((j:Int)<0):=by omega
  have Q: ¬((P.length:Int)<=(j:Int)):=by omega
  clear hf z A r v y
 all_goals
  go_wp2_with fail
  go_ret2;refine⟨?_,q.out⟩
  first
   |(rw[s.out];simp[L3])
   |(have r:=(u.out (by decide)).1;simp[J4,L3,Int.tmod_eq_emod_of_nonneg r];omega)
   |simp[J4,L3]
theorem ziH(P:List Pf)(j:Option Addr)(k:Nat)(main l:Int)(nv no:Nat)(m:Option Addr)(co:Nat)(d x:Int)(w:World)(hf:jb P.length nv no (d,x)):
 Calls prog 72 #[.agg #[.slice j P.length k,.int .i64 main],.agg #[.int .i64 l,.int .i64 nv,.slice m no co],.agg #[.int .i64 d,.int .i64 x]] w λe w'=>e=.returned (.int .i64 0)/\Below w.heap.size w w':=by
 obtain⟨g,h,o,n⟩:=hf;simp only at g h o n;have b:=zh (heap_alloc2_old w (.cells #[.slice j P.length k,.int .i64 main] 26) (.cells #[.int .i64 l,.int .i64 nv,.slice m no co] 40));have a:=zh (heap_alloc2_new w (.cells #[.slice j P.length k,.int .i64 main] 26) (.cells #[.int .i64 l,.int .i64 nv,.slice m no co] 40));have i:=zh (((y7 w.heap.size w).alloc (y6 _) (.cells #[.slice j P.length k,.int .i64 main] 26)).alloc (by simp) (.cells #[.int .i64 l,.int .i64 nv,.slice m no co] 40));have p:Hid (((w.alloc (.cells #[.slice j P.length k,.int .i64 main] 26)).alloc (.cells #[.int .i64 l,.int .i64 nv,.slice m no co] 40)).heap.size=w.heap.size+2):=zh (by simp);generalize s:(w.alloc (.cells #[.slice j P.length k,.int .i64 main] 26)).alloc (.cells #[.int .i64 l,.int .i64 nv,.slice m no co] 40)=W at b a i p;have c:=zh ((y7 W.heap.size W).alloc (y6 _) (.cells #[.int .i64 d,.int .i64 x] 74));have f:=zh (y9 W (.cells #[.int .i64 d,.int .i64 x] 74));replace b:=zh ((c.out.block _ (I7 b.out)).trans b.out);replace a:=zh ((c.out.block _ (I7 a.out)).trans a.out);replace i:=zh (i.out.trans (c.out.mono i.out.size));rw[p.out]at f;clear c p;subst s;have t:=zh o;clear o
 go_enter func72,ntmps72
 go_upto_region 1 with(fail)
 generalize World.alloc _ _=W at b a f i|-
 have y:=y5 b.out 0;have z:=y5 a.out 1;have A:=y5 a.out 2;have B:=y5 f.out 0;have C:=y5 f.out 1
 by_cases q:d=1
 ·subst q
  go_wp2_with fail
  go_ret;exact⟨rfl,i.out⟩
 obtain⟨u,r⟩:=t.out q;have D: ¬(x<0):=by omega
 have v:=zbu g h;clear g h
 rcases v with rfl|rfl|rfl|rfl|rfl|rfl|rfl|rfl|rfl|rfl|rfl|rfl|rfl|rfl|rfl|rfl|rfl|rfl|rfl|rfl
 ·exact I2 rfl q
 all_goals
  simp only[Y1]at r;simp at r;have E:=Int.not_le.2 r
  try(have F: ¬((6:Int)<x.tmod 8):=by have:=n rfl;rw[Int.tmod_eq_emod_of_nonneg u];omega)
  go_wp2_with fail
  go_ret;exact⟨rfl,i.out⟩
theorem U1{w:World}{F:Nat->Prop}{g c:Nat}{l:List Int}(h:w.heap[g]?=some (.cells (U5 l) 3 (0,0)))(a:F g):K9 w F (.slice (some ⟨g,0,none⟩) l.length c) l:=
 .inr ⟨g,0,c,rfl,a,I7 h,λk s b=>by rw[Nat.zero_add];exact jh h b⟩
theorem zgE(k:Nat)(d x:Int)(w:World)(r:k<=4000)(hx:d=15\/d=16->0<=x):
 Calls prog 121 #[.int .i64 k,.agg #[.int .i64 d,.int .i64 x]] w λe w'=>Below w.heap.size w w'/\ ∃A c,e=.returned (.slice A ((L5 k (d,x)).map Int.ofNat).length c)/\K9 w' (λg=>w.heap.size<=g) (.slice A ((L5 k (d,x)).map Int.ofNat).length c) ((L5 k (d,x)).map Int.ofNat):=by
 obtain⟨l,a⟩: ∃l,(L5 k (d,x)).map Int.ofNat=l:=⟨_,rfl⟩;rw[a];have j:=zh (y9 w (.cells #[.int .i64 d,.int .i64 x] 74));have i:=zh ((y7 w.heap.size w).alloc (y6 _) (.cells #[.int .i64 d,.int .i64 x] 74))
 go_enter func121,ntmps121
 go_upto_region 1 with(fail)
 generalize World.alloc _ _=W at j i|-
 have s:=y5 j.out 0;have t:=y5 j.out 1;have m:=λ(l:List Int)=>zh (y9 W (.cells (U5 l) 3));have n:=λ(l:List Int)=>zh (i.out.trans (((y7 W.heap.size W).alloc (y6 _) (.cells (U5 l) 3)).mono i.out.size));have u:IntKind.i64.wrap ((k:Int)+1)=(k:Int)+1:=IntWalk.i64_in _ (by omega)
 by_cases b:d=18
 ·subst b
  obtain rfl:l=[]:=by rw[<-a];simp[L5]
  clear a
  go_wp2_with fail
  go_ret;exact⟨i.out,none,0,rfl,.inl ⟨none,0,rfl,rfl⟩⟩
 by_cases f:d=15
 ·subst f
  obtain rfl:l=[x]:=by rw[<-a];have:=hx (.inl rfl);simp[L5];omega
  clear hx a
  go_wp2_with fail
  go_ret;exact⟨(n [x]).out,_,_,rfl,U1 (m [x]).out i.out.size⟩
 by_cases h:d=16
 ·subst h
  obtain rfl:l=[(k:Int)+1,x]:=by rw[<-a];have:=hx (.inr rfl);simp[L5];omega
  clear hx a
  go_wp2_with fail
  go_ret;exact⟨(n [(k:Int)+1,x]).out,_,_,rfl,U1 (m [(k:Int)+1,x]).out i.out.size⟩
 ·obtain rfl:l=[(k:Int)+1]:=by rw[<-a];simp[L5,f,h,b]
  have o:(d==15)=false:=by simpa using f
  have p:(d==16)=false:=by simpa using h
  have q:(d==18)=false:=by simpa using b
  clear hx a f h b
  go_wp2_with fail
  go_ret;exact⟨(n [(k:Int)+1]).out,_,_,rfl,U1 (m [(k:Int)+1]).out i.out.size⟩
end Go.Proofs.YtalgmjmibamdfaaGreatDoor
namespace Go.Proofs.YtalgmjmibamdfaaGreatDoor
open Go.RowKit Tw
theorem QG{w:World}{g:Nat}{hs:List Int}(h:w.heap[g]?=some (.cells (U5 hs) 3 (0,0)))(k:Nat)(v:Int):(w.setCell ⟨g,k,none⟩ (.int .i64 v)).heap[g]?=some (.cells (U5 (hs.set k v)) 3 (0,0)):=by
 have:=z5 w g k _ _ (.int .i64 v) h;have e:(U5 hs).setIfInBounds k (.int .i64 v)=U5 (hs.set k v):=by simp[U5,List.map_set]
 rwa [e]at this
structure Wk(C:T5)(hs td:List Int):Prop where
 ok:OkH C hs
 zaT: ∀k∈td,∃j:Nat,k=j/\yg hs j
 start:yg hs 0
 zab: ∀(j:Nat)(o:S3)(h:Nat),C[j]?=some (o,h)->yg hs j->(j:Int)∈td\/ ∀i∈L5 j o,yg hs i
structure Wl(C:T5)(k q:Nat)(ws hs td:List Int):Prop where
 ok:OkH C hs
 zaT: ∀k∈td,∃j:Nat,k=j/\yg hs j
 start:yg hs 0
 zab: ∀(j:Nat)(o:S3)(h:Nat),C[j]?=some (o,h)->yg hs j->j≠k->(j:Int)∈td\/ ∀i∈L5 j o,yg hs i
 zie: ∀(i:Nat)(v:Int),i<q->ws[i]?=some v->yg hs v.toNat
section
variable {C:T5}{hs td ws:List Int}{k q:Nat}
theorem ZP{n:Nat}(h:yg hs q)(a:k<hs.length):yg (hs.set k (n:Int)) q:=by
 obtain⟨v,b,c⟩:=h
 by_cases e:k=q
 ·subst e;exact⟨n,List.getElem?_set_self a,by omega⟩
 ·exact⟨v,by rw[List.getElem?_set_ne e];exact b,c⟩
theorem yg.zei{n:Nat}(h:yg (hs.set k (n:Int)) q)(e:k≠q):yg hs q:=by
 obtain⟨v,a,b⟩:=h;rw[List.getElem?_set_ne e]at a;exact⟨v,a,b⟩
theorem Wk.first{o:S3}(h:C[0]?=some (o,0)):Wk C ((List.replicate C.length (-1)).set 0 ((0:Nat):Int)) [0]:=by
 have c:0<C.length:=(List.getElem?_eq_some_iff.1 h).1;have d:OkH C (List.replicate C.length (-1)):=⟨by simp,λk v a=>.inl (by rw[List.getElem?_replicate]at a;split at a;injection a with a;exact a.symm;cases a)⟩;have b:yg ((List.replicate C.length (-1)).set 0 ((0:Nat):Int)) 0:=⟨0,List.getElem?_set_self (by simpa using c),by decide⟩;refine⟨d.set h,λk a=>⟨0,by simpa using a,b⟩,b,λj o h _ f=>.inl ?_⟩
 by_cases e:0=j
 ·subst e;simp
 ·exact I2 (f.zei e) zbs
theorem Wk.take(h:Wk C hs (td++[(k:Int)])):Wl C k 0 ws hs td:=
 ⟨h.ok,λj a=>h.zaT j (List.mem_append_left _ a),h.start,λj o x b c d=>by
  rcases h.zab j o x b c with h|h
  ·rcases List.mem_append.1 h with h|h
   ·exact .inl h
   ·have:=List.mem_singleton.1 h;omega
  ·exact .inr h,λi v e=>by omega⟩
theorem Wl.zjq{v:Nat}(h:Wl C k q ws hs td)(b:ws[q]?=some (v:Int))(c:yg hs v):Wl C k (q+1) ws hs td:=
 ⟨h.ok,h.zaT,h.start,h.zab,λi u d a=>by
  by_cases e:i=q
  ·subst e;rw[b]at a;injection a with a;subst a;exact c
  ·exact h.zie i u (by omega) a⟩
theorem Wl.zkH{v n:Nat}{o:S3}(h:Wl C k q ws hs td)(m:ws[q]?=some (v:Int))(g:C[v]?=some (o,n)):Wl C k (q+1) ws (hs.set v (n:Int)) (td++[(v:Int)]):=by
 have b:v<hs.length:=by rw[h.ok.1];exact(List.getElem?_eq_some_iff.1 g).1
 have l:yg (hs.set v (n:Int)) v:=⟨n,List.getElem?_set_self b,by omega⟩;refine⟨h.ok.set g,λj a=>?_,ZP h.start b,λj p x f a r=>?_,λi u d c=>?_⟩
 ·rcases List.mem_append.1 a with a|a
  ·obtain⟨i,e,d⟩:=h.zaT j a
   exact⟨i,e,ZP d b⟩
  ·exact⟨v,List.mem_singleton.1 a,l⟩
 ·by_cases e:v=j
  ·subst e;exact .inl (by simp)
  ·rcases h.zab j p x f (a.zei e) r with h|h
   ·exact .inl (List.mem_append_left _ h)
   ·exact .inr λi d=>ZP (h i d) b
 ·by_cases e:i=q
  ·subst e;rw[m]at c;injection c with c;subst c;exact l
  ·exact ZP (h.zie i u (by omega) c) b
theorem Wl.done{o:S3}{x:Nat}(h:Wl C k ((L5 k o).map Int.ofNat).length ((L5 k o).map Int.ofNat) hs td)(c:C[k]?=some (o,x)):Wk C hs td:=
 ⟨h.ok,h.zaT,h.start,λj d f a g=>by
  by_cases e:j=k
  ·subst e
   rw[c]at a;injection a with a;injection a with l _;subst l
   refine .inr λi m=>?_;obtain⟨p,b⟩:=List.getElem?_of_mem (List.mem_map.2 ⟨i,m,rfl⟩:Int.ofNat i∈(L5 j o).map Int.ofNat);exact h.zie p _ (List.getElem?_eq_some_iff.1 b).1 b
  ·exact h.zab j d f a g e⟩
theorem Wk.end(h:Wk C hs []):yQ C hs:=⟨h.ok,h.start,λj o x a b=>by
 rcases h.zab j o x a b with h|h
 ·cases h
 ·exact h⟩
end
end Go.Proofs.YtalgmjmibamdfaaGreatDoor
namespace Go.Proofs.YtalgmjmibamdfaaGreatDoor
open Go.Proofs.Tryz
open Go.RowKit Tw
structure zA(w:World)(B:Bd)(mb:Nat)(Af:Option Addr)(nf cf:Nat)(main mode value:Int)(A:Option Addr)(c:Nat)(l:List Fm):Prop where
 lo:B<=mb
 K3:w.heap[mb]?=some (.cells #[.slice Af nf cf,.int .i64 main,.int .i64 mode,.int .i64 value,.slice A l.length c] 98 (0,0))
 T9:S8 w B 95 A c l
theorem ju(l:List Int):(iC l).length=l.length:=by unfold iC;rw[D9]
theorem Z6{w:World}(e:TypeId){base n c:Nat}{A:Option Addr}{xs ys:List Int}{F:Nat->Prop}{X:Value}(f:w.ownsRow base 3 1 (.slice A n c) n (iC xs))(y:K9 w F X ys)(K:n+ys.length<=1000000)(z:base<=w.heap.size):
 ∃A' c' w',(Builtin.append_ #[22,22] e #[.slice A n c,X]).run prog w=.ok (.slice A' (n+ys.length) c') w'/\w'.ownsRow base 3 1 (.slice A' (n+ys.length) c') (n+ys.length) (iC (xs++ys))/\w.grownBy w' (Value.slice A n c).ownBlock/\ ∀g,(Value.slice A' (n+ys.length) c').ownBlock=some g->(Value.slice A n c).ownBlock=some g\/g=w.heap.size:=by
 have b:=underlying22;obtain⟨i,q,B,r,t⟩:=info_parts ZW
 rcases y with⟨a,d,rfl,rfl⟩|⟨g,l,m,rfl,-,L,C⟩
 ·have o:=(N9 f).1
  refine⟨A,c,w,?_,by simpa using f,World.grownBy.refl _ _,λg h=>.inl h⟩;cases a with
  |none=>exact run_append_nothing w _ _ e _ i b q A n c o _ (.ofNil w b d)
  |some a=>exact run_append_nothing w _ _ e _ i b q A n c o _ (.ofSlice w b a 0 d [] (by simp) (λj u h=>by simp at h) (λ_ h=>by cases h))
 ·rcases Nat.eq_zero_or_pos ys.length with v|v
  ·obtain rfl:=List.length_eq_zero_iff.1 v
   exact⟨A,c,w,run_append_nothing w _ _ e _ i b q A n c (N9 f).1 _ (.ofSlice w b ⟨g,l,none⟩ 0 m [] (by simp) (λj u h=>by simp at h) (λ_ h=>by cases h)),by simpa using f,World.grownBy.refl _ _,λg h=>.inl h⟩
  ·obtain⟨D,p,w',E,G,H,I,-⟩:=run_append_lies (P:=prog) w 22 e base 3 i (.int .i64 0) 1 8 b q B r t rfl (by decide) (.slice A n c) n (iC xs) f ⟨g,l,none⟩ ys.length m (iC ys) (by rw[ju,Nat.mul_one]) (λj u x=>by
    unfold iC at x;rw[G3]at x;obtain⟨s,r,rfl⟩:=Option.map_eq_some_iff.1 x;rw[Addr.add_lit];exact C j s r) (λu b=>by
    obtain⟨s,-,rfl⟩:=List.mem_map.1 b;rfl) v (by unfold maxLen;omega) (by omega) z w.heap.size rfl
   refine⟨_,p,w',E,?_,H,λk J=>?_⟩
   ·unfold iC;rw[List.map_append];exact G
   ·have:D=k:=by simpa[Value.ownBlock]using J
    subst this;exact I
def Jb(l:List Fm):Prop:=l.length<=32/\ ∀x∈l,x.1.vars.length<=64/\x.1.I8.length<=600
theorem Y9{w:World}{base:Nat}{F:Nat->Prop}{v:Value}{xs:List Int}(h:w.ownsRow base 3 1 v xs.length (iC xs))(b: ∀g,base<=g->F g):K9 w F v xs:=by
 rcases N8 h with⟨rfl,c⟩|⟨g,a,rfl,d,e,f⟩
 ·exact .inl ⟨_,_,rfl,List.length_eq_zero_iff.1 c⟩
 ·exact .inr ⟨g,0,a,rfl,b g d,e,λk s i=>by rw[Nat.zero_add];exact f k _ (by unfold iC;rw[G3,i];rfl)⟩
theorem Rows.at{w:World}{B:Bd}{l:List Fm}(h:Rows w B l){i:Nat}{x:Fm}(hx:l[i]?=some x):w.ownsRow B 3 1 x.2.1 x.1.vars.length (iC x.1.vars)/\w.ownsRow B 3 1 x.2.2 x.1.I8.length (iC x.1.I8):=by
 obtain⟨-,a,h⟩:=h;exact⟨(h i x hx).v,(h i x hx).s⟩
def yb(l:List Fm):List Int:=l.flatMap λx=>frE x.1
theorem Qz{l:List Fm}(h:Jb l)(j:Nat):(yb (l.take j)).length<=700*j:=by
 induction j with
 |zero=>simp[yb]
 |succ j b=>
  rcases E5 j l.length with a|a
  ·rw[List.take_succ_eq_append_getElem a]
   have:=h.2 _ (List.getElem_mem a);simp only[yb,List.flatMap_append,z9,List.flatMap_cons,List.flatMap_nil,List.append_nil,frE,z7]at*;omega
  ·rw[List.take_of_length_le (by omega)];rw[List.take_of_length_le a]at b;omega
theorem JN{l:List Fm}{j:Nat}{x:Fm}(h:l[j]?=some x):yb (l.take (j+1))=yb (l.take j)++[(x.1.fn:Int),(x.1.pc:Int)]++x.1.vars++x.1.I8:=by
 obtain⟨a,rfl⟩:=List.getElem?_eq_some_iff.1 h;unfold yb;rw[List.take_succ_eq_append_getElem a,List.flatMap_append];simp[frE]
theorem Xe(m v:Int)(l:List Fm):K4 ⟨m,v,l.map Prod.fst⟩=[m,v,(l.length:Int)]++yb l:=by simp[K4,yb,List.flatMap_map]
theorem K9.low{w w':World}{F:Nat->Prop}{v:Value}{l:List Int}(h:K9 w F v l)(a:Below w.heap.size w w'):K9 w' (λ_=>True) v l:=
 h.J0 λg _ b=>⟨trivial,z6 b a.size,a.block g b⟩
theorem XT{w:World}{B:Bd}{T nf cf c:Nat}{Af A:Option Addr}{main mode value:Int}{l:List Fm}(h:zA w B T Af nf cf main mode value A c l)(U:Jb l):
 Calls prog 36 #[.pointer (some ⟨T,0,none⟩)] w λe w'=>Below w.heap.size w w'/\ ∃A' c',e=.returned (.slice A' (K4 ⟨mode,value,l.map Prod.fst⟩).length c')/\w'.ownsRow w.heap.size 3 1 (.slice A' (K4 ⟨mode,value,l.map Prod.fst⟩).length c') (K4 ⟨mode,value,l.map Prod.fst⟩).length (iC (K4 ⟨mode,value,l.map Prod.fst⟩)):=by
 rw[Xe];have H:=zh h;have HL:=zh U;have m1:=y5 h.K3 2;have m2:=y5 h.K3 3;have V:=y5 h.K3 4;have o:=I7 h.K3;have a4:=U.1;clear h U;have d:=zh ((y7 w.heap.size w).alloc (y6 _) (.cells #[.int .i64 mode,.int .i64 value,.int .i64 l.length] 3));have q:=zh (World.ownsRow_lit (base:=w.heap.size) (e:=3) (size:=1) w #[.int .i64 mode,.int .i64 value,.int .i64 l.length] 3 (y6 _) (by decide) rfl)
 go_enter func36,ntmps36
 go_upto_region 1 with(fail)
 go_region
 clear m1 m2 V;replace d:=zh d.out.drew;replace q:=zh q.out.drew;generalize(World.alloc _ _).drew=w1 at d q|-
 have C:Hid (w1.ownsRow w.heap.size 3 1 (.slice (some ⟨w.heap.size,0,none⟩) ([mode,value,(l.length:Int)]++yb (l.take 0)).length 3) ([mode,value,(l.length:Int)]++yb (l.take 0)).length (iC ([mode,value,(l.length:Int)]++yb (l.take 0)))):=q;have V:=(d.out.cell (p:=⟨T,4,none⟩) o).trans (y5 H.out.K3 4);clear q
 go_wp2_with fail
 clear V
 go_loopw[3,25] (λtv W wr=> ∃(j:Nat)(r:List Int)(J:Option Addr)(K:Nat),j<=l.length/\tv=.slice J r.length K/\W=.int .i64 j/\Hid (r=[mode,value,(l.length:Int)]++yb (l.take j))/\Hid (wr.ownsRow w.heap.size 3 1 (.slice J r.length K) r.length (iC r))/\Hid (Below w.heap.size w wr)) (λ_ W _=>l.length-(intOf W).toNat)
 case atStart=>exact⟨0,_,_,_,E2 _,rfl,rfl,zh rfl,C,d⟩
 case round=>
  clear C d;obtain⟨j,r,J,K,hj,rfl,rfl,s,q,d⟩:=hrel
  by_cases o:j<l.length
  ·obtain⟨x,D⟩: ∃x,l[j]?=some x:=⟨_,y8 o⟩
   obtain⟨⟨fn,t,u,v⟩,vv,sv⟩:=x;obtain⟨M,a7,rfl,-,E,⟨X,Y,Z,d3⟩,-⟩:=H.out.T9.at D;have g:=I7 E;replace X:=(d.out.cell (p:=⟨M,j*4,none⟩) g).trans X;replace Y:=(d.out.cell (p:=⟨M,j*4+1,none⟩) g).trans Y;replace Z:=(d.out.cell (p:=⟨M,j*4+2,none⟩) g).trans Z;replace d3:=(d.out.cell (p:=⟨M,j*4+3,none⟩) g).trans d3;obtain⟨rv,rs⟩:=H.out.T9.R9.at D;have HV:Hid (K9 w (λ_=>True) vv u):=zh (Y9 rv λ_ _=>trivial);have HS:Hid (K9 w (λ_=>True) sv v):=zh (Y9 rs λ_ _=>trivial);obtain⟨N,O,rfl⟩:=HV.out.zM;obtain⟨P,Q,rfl⟩:=HS.out.zM;have a8:r.length<=3+700*j/\u.length<=64/\v.length<=600:=by
    have h1:=Qz HL.out j;have h2:=HL.out.2 _ (B7 D);have h3:=I1 List.length s.out;simp at h3 h2;omega
   have HE:=zh (JN D);have k0:(0:Int)<=(j:Int):=by omega
   have k1:(j:Int)<(l.length:Int):=by omega
   have a:=zh (y9 wr (.cells #[.int .i64 fn,.int .i64 t,.slice N u.length O,.slice P v.length Q] 95));have y:=(y7 wr.heap.size wr).alloc (y6 _) (.cells #[.int .i64 fn,.int .i64 t,.slice N u.length O,.slice P v.length Q] 95);have i:=zh (K6 q.out y);have f:=zh (d.out.trans (y.mono d.out.size));clear y rv rs D E g
   go_upto_region 5 with(fail)
   clear X Y Z d3;generalize World.alloc _ _=F at a i f|-
   generalize wr.heap.size=z at a|-
   have q0:=y5 a.out 0;have q1:=y5 a.out 1;have b:=zh ((y7 F.heap.size F).alloc (y6 _) (.cells #[.int .i64 fn,.int .i64 t] 3));have G:Hid (K9 (F.alloc (.cells #[.int .i64 fn,.int .i64 t] 3)) (λ_=>True) (.slice (some ⟨F.heap.size,0,none⟩) 2 2) [(fn:Int),(t:Int)]):=zh (U1 (l:=[(fn:Int),(t:Int)]) (y9 F _) trivial);obtain⟨A2,c2,w2,r2,R,g2,-⟩:=Z6 22 (K6 i.out b.out) G.out (by simp;omega) (C4 f.out.size b.out.size);have k:Hid (Below w.heap.size w w2):=zh (L8 (f.out.trans (b.out.mono f.out.size)) (K6 i.out b.out) (y6 _) (C4 f.out.size b.out.size) g2);have m:Hid (w2.heap[z]?=some (.cells #[.int .i64 fn,.int .i64 t,.slice N u.length O,.slice P v.length Q] 95 (0,0))):=zh ((g2.block z (z6 (I7 a.out) b.out.size) (λe=>L9 (K6 i.out b.out) ((b.out.block z (I7 a.out)).trans a.out) (by decide) e.symm)).trans ((b.out.block z (I7 a.out)).trans a.out))
   go_upto_region 6 with(at_builtin;refine Lib.wpList_append_run _ rfl _ _ _ _ rfl _ _ rfl rfl _ _ r2 ?_)
   clear r2 g2 q0 q1 b G i f a q d;have q2:=y5 m.out 2;obtain⟨A3,c3,w3,r3,o3,g3,-⟩:=Z6 22 R (HV.out.low k.out) (by simp;omega) k.out.size;have n:Hid (Below w.heap.size w w3):=zh (L8 k.out R (y6 _) k.out.size g3);have I:Hid (w3.heap[z]?=some (.cells #[.int .i64 fn,.int .i64 t,.slice N u.length O,.slice P v.length Q] 95 (0,0))):=zh ((g3.block z (I7 m.out) (λe=>L9 R m.out (by decide) e.symm)).trans m.out)
   go_upto_region 7 with(at_builtin;refine Lib.wpList_append_run _ rfl _ _ _ _ rfl _ _ rfl rfl _ _ r3 ?_)
   clear r3 g3 q2 R k m;have q3:=y5 I.out 3;obtain⟨A4,c4,w4,r4,o4,g4,-⟩:=Z6 22 o3 (HS.out.low n.out) (by simp;omega) n.out.size;have a0:Hid (Below w.heap.size w w4):=zh (L8 n.out o3 (y6 _) n.out.size g4)
   go_upto_region 8 with(at_builtin;refine Lib.wpList_append_run _ rfl _ _ _ _ rfl _ _ rfl rfl _ _ r4 ?_)
   clear r4 g4 q3 o3 n I;obtain⟨L,S⟩: ∃L,r++[(fn:Int),(t:Int)]++u++v=L:=⟨_,rfl⟩;have e4:r.length+2+u.length+v.length=L.length:=by rw[<-S];simp;omega
   have a1:Hid (w4.ownsRow w.heap.size 3 1 (.slice A4 L.length c4) L.length (iC L)):=zh (by rw[<-e4,<-S];exact o4);rw[e4];have a2:=zh S;clear o4 e4 S
   go_wp2_with fail
   go_roundw
   case rel=>exact⟨j+1,_,A4,c4,o,rfl,by go_num,zh (by rw[<-a2.out,s.out,HE.out];simp),a1,a0⟩
   case measure=>simp[intOf];omega
  ·obtain rfl:j=l.length:=by omega
   rw[F6]at s;have a3:=s.out;subst a3
   go_wp2_with fail
   go_ret;exact⟨d.out,J,K,rfl,q.out⟩
end Go.Proofs.YtalgmjmibamdfaaGreatDoor
namespace Go.Proofs.YtalgmjmibamdfaaGreatDoor
section
open Go
section
variable {P:Program}{ops:Array Oper}{Q:Exit->Act->World->Prop}{md:Region.Mode}
def Qc(ops:Array Oper)(a:Array Bool):Nat:=((List.range ops.size).filter λi=>!a.getD i true).length
theorem zN{a:Array Bool}{i:Nat}(h:i∈Region.ready md ops a):i<ops.size/\a.getD i true=false:=by
 unfold Region.ready at h;rw[List.mem_filter]at h;simp at h;exact⟨h.1,by rw[Array.getD_eq_getD_getElem?];exact h.2.1⟩
theorem Qv{listed:Array Bool}{i:Nat}(hi:i<ops.size)(h:listed.getD i true=false):Qc ops (listed.setIfInBounds i true)<Qc ops listed:=by
 have f:i<listed.size:=by
  rcases Nat.lt_or_ge i listed.size with g|g
  ·exact g
  ·rw[Array.getD_eq_getD_getElem?,Array.getElem?_eq_none g]at h;cases h
 unfold Qc;have b: ∀l:List Nat,(l.filter λj=>!(listed.setIfInBounds i true).getD j true).length<=(l.filter λj=>!listed.getD j true).length/\(i∈l->(l.filter λj=>!(listed.setIfInBounds i true).getD j true).length<(l.filter λj=>!listed.getD j true).length):=by
  have k:(listed.setIfInBounds i true).getD i true=true:=by
   rw[Array.getD_eq_getD_getElem?];simp[f]
  have m: ∀j,j≠i->(listed.setIfInBounds i true).getD j true=listed.getD j true:=by
   intro j c;rw[Array.getD_eq_getD_getElem?,Array.getD_eq_getD_getElem?,Array.getElem?_setIfInBounds_ne (λe=>c e.symm)]
  intro l
  induction l with
  |nil=>exact⟨Nat.le_refl _,λh=>by cases h⟩
  |cons j l a=>
   by_cases c:j=i
   ·subst c
    simp only[List.filter_cons,k,h];simp only[Bool.not_true,Bool.not_false,Bool.false_eq_true,if_false,if_true,List.length_cons];exact⟨by have:=a.1;omega,λ_=>by have:=a.1;omega⟩
   ·simp only[List.filter_cons,m j c]
    refine⟨?_,λn=>?_⟩
    ·split
     ·simp only[List.length_cons];have:=a.1;omega
     ·exact a.1
    ·have d:i∈l:=by rcases List.mem_cons.1 n with e|e;exact absurd e.symm c;exact e
     split
     ·simp only[List.length_cons];have:=a.2 d;omega
     ·exact a.2 d
 exact(b _).2 (List.mem_range.2 hi)
theorem zb3(J:Array Bool->Act->World->Prop)(d: ∀b a w i,J b a w->i∈Region.ready md ops b->wpOp P ops Q i (J (b.setIfInBounds i true)) a w)
 (c: ∀b a w,J b a w->Region.ready md ops b=[]->Q .normal a w): ∀(fuel:Nat)(b:Array Bool)(a:Act)(w:World),Qc ops b<=fuel->J b a w->wpAny P md ops Q fuel b a w:=by
 intro fuel
 induction fuel with
 |zero=>
  intro b a w l e;have f:Region.ready md ops b=[]:=by
   apply List.eq_nil_iff_forall_not_mem.2;intro i g;obtain⟨j,k⟩:=zN g;have:=Qv j k;omega
  exact⟨f,c _ _ _ e f⟩
 |succ fuel m=>
  intro b a w l e;refine⟨λf=>c _ _ _ e f,λi g=>?_⟩;obtain⟨j,k⟩:=zN g;have n:=Qv (ops:=ops) j k;exact wpOp_mono (λa w h=>m _ a w (by omega) h) (d _ _ _ _ e g)
theorem zan{e:Nat}{a:Act}{w:World}(f:P.follows .mixedOrders=true)(J:Array Bool->Act->World->Prop)(g:J (Array.replicate ops.size false) a {w with drawn:=w.drawn+1})
 (c: ∀b a w i,J b a w->i∈Region.ready .any ops b->wpOp P ops Q i (J (b.setIfInBounds i true)) a w)
 (d: ∀b a w,J b a w->Region.ready .any ops b=[]->Q .normal a w):(Code.region e ops true).wp P Q a w:=
 wp_region_any f (zb3 J c d ops.size _ a _ (by
  unfold Qc;have:=List.length_filter_le (λi=>!(Array.replicate ops.size false).getD i true) (List.range ops.size);simpa using this) g)
end
end
end Go.Proofs.YtalgmjmibamdfaaGreatDoor
namespace Go.Proofs.YtalgmjmibamdfaaGreatDoor
open Go.RowKit
abbrev je:Type:=List (Nat×Nat×Value)
structure S9(T:je)(a0:Act)(L:Array Bool)(a:Act):Prop where
 df:a.defers=a0.defers
 az:a.tmps.size=a0.tmps.size
 tb: ∀e∈T,L.getD e.1 false=true->a.tmps[e.2.1]?=some e.2.2
 un: ∀k,(∀e∈T,e.2.1≠k)->a.tmps[k]?=a0.tmps[k]?
theorem I9{L:Array Bool}{i j:Nat}(h:j≠i):(L.setIfInBounds i true).getD j false=L.getD j false:=by
 rw[Array.getD_eq_getD_getElem?,Array.getD_eq_getD_getElem?,Array.getElem?_setIfInBounds_ne (λe=>h e.symm)]
theorem M9{L:Array Bool}{i:Nat}(h:i<L.size):(L.setIfInBounds i true).getD i false=true:=by
 rw[Array.getD_eq_getD_getElem?];simp[h]
theorem S9.put{T:je}{a0 a:Act}{L:Array Bool}(s:(T.map (·.1)).Nodup)(t:(T.map (·.2.1)).Nodup)(u: ∀e∈T,e.2.1<a0.tmps.size)(h:S9 T a0 L a)(e:Nat×Nat×Value)(m:e∈T):S9 T a0 (L.setIfInBounds e.1 true) (a.put (some e.2.1) e.2.2):=by
 have g: ∀{β:Type}(f:Nat×Nat×Value->β)(l:je),(l.map f).Nodup-> ∀x∈l,∀y∈l,f x=f y->x=y:=by
  intro β f l
  induction l with
  |nil=>intro _ x n;cases n
  |cons z l v=>
   intro j x n y p e;simp only[List.map_cons,List.nodup_cons]at j
   rcases List.mem_cons.1 n with i|i
   ·rcases List.mem_cons.1 p with c|c
    ·rw[i,c]
    ·exact absurd (by rw[<-i,e];exact List.mem_map_of_mem c) j.1
   ·rcases List.mem_cons.1 p with c|c
    ·exact absurd (by rw[<-c,<-e];exact List.mem_map_of_mem i) j.1
    ·exact v j.2 x i y c e
 refine⟨h.df,by simp[Act.put,h.az],λd b q=>?_,λk r=>?_⟩
 ·by_cases o:d=e
  ·subst o
   simp[Act.put,h.az,u d b]
  ·have w:d.1≠e.1:=λx=>o (g _ T s d b e m x)
   have A:d.2.1≠e.2.1:=λx=>o (g _ T t d b e m x);rw[I9 w]at q;simp only[Act.put];rw[Array.getElem?_setIfInBounds_ne (λx=>A x.symm)];exact h.tb d b q
 ·simp only[Act.put]
  rw[Array.getElem?_setIfInBounds_ne (r e m)];exact h.un k r
theorem S9.skip{T:je}{a0 a:Act}{L:Array Bool}(h:S9 T a0 L a)(i:Nat)(hi: ∀e∈T,e.1≠i):S9 T a0 (L.setIfInBounds i true) a:=
 ⟨h.df,h.az,λe b c=>h.tb e b (by rwa [I9 (hi e b)]at c),h.un⟩
theorem jK{a:Act}{k:Nat}{v:Value}(h:a.tmps[k]?=some v):a.eval (.tmp k)=v:=by
 show a.tmps.getD k undef=v;rw[Array.getD_eq_getD_getElem?,h];rfl
theorem K5{b:Region.Mode}{ops:Array Oper}{L:Array Bool}{i:Nat}(h:i∈Region.ready b ops L){o:Oper}(d:ops[i]?=some o): ∀e∈o.after.toList,Region.binds b e=true->L.getD e.on false=true:=by
 unfold Region.ready at h;rw[List.mem_filter]at h;have a:=h.2;rw[d]at a;simp only[Bool.and_eq_true,Option.map_some,Option.getD_some]at a;have c:=a.2;intro e f g;rw[<-Array.all_toList]at c;have:=List.all_eq_true.1 c e f;rw[g]at this;simpa using this
theorem K0{P:Program}{ops:Array Oper}{Q:Exit->Act->World->Prop}{i:Nat}{K:Act->World->Prop}{a:Act}{w w':World}{o:Oper}{v:Value}(d:Nat)(b:ops[i]?=some o)(c:o.guard=none)(e:o.dst=some d)(f:(execOp a.eval o).run P w=.ok (.value v) w')(g:K (a.put (some d) v) w'):wpOp P ops Q i K a w:=by
 unfold wpOp;rw[b];simp only;rw[if_pos (by simp[Region.wanted,c])];exact .inl (by unfold Oper.wp;rw[f];show K (a.put o.dst v) w';rw[e];exact g)
theorem zO{P:Program}{ops:Array Oper}{Q:Exit->Act->World->Prop}{i:Nat}{K:Act->World->Prop}{a:Act}{w w':World}{o:Oper}(b:ops[i]?=some o)(c:o.guard=none)(d:o.dst=none)(e:(execOp a.eval o).run P w=.ok .skip w')(f:K a w'):wpOp P ops Q i K a w:=by
 unfold wpOp;rw[b];simp only;rw[if_pos (by simp[Region.wanted,c])];exact .inl (by unfold Oper.wp;rw[e];show K (a.put o.dst undef) w';rw[d];exact f)
theorem JA{P:Program}{ops:Array Oper}{Q:Exit->Act->World->Prop}{i:Nat}{K:Act->World->Prop}{a:Act}{w w':World}{o:Oper}(f:FuncId)(args:Array Value)(d:ops[i]?=some o)(e:o.guard=none)(g:(execOp a.eval o).run P w=.ok (.enter f args) w')(h:Calls P f args w' fun
 |.returned v,b=>K (a.put o.dst v) b
 |.panicked c,b=>Q (.panic c) a b
 |.outgrown,_=>LetsOut Q):wpOp P ops Q i K a w:=by
 unfold wpOp;rw[d];simp only;rw[if_pos (by simp[Region.wanted,e])];exact .inl (by unfold Oper.wp;rw[g];exact h)
theorem xz{a:Region.Mode}{ops:Array Oper}{L:Array Bool}{i:Nat}(h:i∈Region.ready a ops L)(b:i<L.size):L.getD i false=false:=by
 have:=(zN h).2;rw[Array.getD_eq_getD_getElem?]at this|-
 rw[Array.getElem?_eq_getElem b]at this|-
 exact this
theorem JL{L:Array Bool}{i j:Nat}(h:L.getD j false=true):(L.setIfInBounds i true).getD j false=true:=by
 by_cases e:j=i
 ·subst e
  have b:j<L.size:=by
   rcases Nat.lt_or_ge j L.size with a|a
   ·exact a
   ·rw[Array.getD_eq_getD_getElem?,Array.getElem?_eq_none a]at h;cases h
  exact M9 b
 ·rw[I9 e];exact h
theorem W3(n j:Nat):(Array.replicate n false).getD j false=false:=by
 rw[Array.getD_eq_getD_getElem?]
 by_cases h:j<n
 ·simp[h]
 ·simp[h]
theorem S9.start(T:je)(a:Act)(n:Nat):S9 T a (Array.replicate n false) a:=⟨rfl,rfl,(λe _ h=>by rw[W3]at h;cases h),λ_ _=>rfl⟩
def Clo(ops:Array Oper)(L:Array Bool):Prop:= ∀(i:Nat)(o:Oper),ops[i]?=some o->L.getD i false=true-> ∀e∈o.after.toList,Region.binds .any e=true->L.getD e.on false=true
theorem Clo.start(ops:Array Oper)(n:Nat):Clo ops (Array.replicate n false):=λi o _ h=>by rw[W3]at h;cases h
theorem Clo.next{ops:Array Oper}{L:Array Bool}(h:Clo ops L){i:Nat}(hi:i∈Region.ready .any ops L):Clo ops (L.setIfInBounds i true):=by
 intro j o b c e d f
 by_cases a:j=i
 ·subst a
  exact JL (K5 hi b e d f)
 ·rw[I9 a]at c
  exact JL (h j o b c e d f)
theorem za8{a0 a:Act}{lo hi:Nat}(d:a.defers=a0.defers)(f:a.tmps.size=a0.tmps.size)(g: ∀k,k<lo\/hi<k->a.tmps[k]?=a0.tmps[k]?):a=⟨(List.range' lo (hi+1-lo)).foldl (λt k=>t.setIfInBounds k (a.tmps.getD k undef)) a0.tmps,a0.defers⟩:=by
 have b: ∀(n lo:Nat)(t:Array Value),t.size=a.tmps.size->(∀k,k<lo\/lo+n<=k->a.tmps[k]?=t[k]?)->a.tmps=(List.range' lo n).foldl (λt k=>t.setIfInBounds k (a.tmps.getD k undef)) t:=by
  intro n
  induction n with
  |zero=>intro lo t _ h;simp only[List.range'_zero,List.foldl_nil];exact Array.ext_getElem? λk=>h k (by omega)
  |succ n i=>
   intro lo t j h;rw[List.range'_succ,List.foldl_cons];refine i (lo+1) _ (by simpa using j) λk l=>?_
   by_cases e:k=lo
   ·subst e
    by_cases c:k<t.size
    ·simp[c,Array.getD_eq_getD_getElem?,show k<a.tmps.size by omega]
    ·rw[Array.getElem?_eq_none (by omega),Array.getElem?_eq_none (by simp;omega)]
   ·rw[Array.getElem?_setIfInBounds_ne (λx=>e x.symm)]
    exact h k (by omega)
 cases a with|mk m o=>
 simp only at d f g|-
 subst d
 congr 1
 exact b (hi+1-lo) lo a0.tmps f.symm λk l=>g k (by omega)
end Go.Proofs.YtalgmjmibamdfaaGreatDoor
namespace Go.Proofs.YtalgmjmibamdfaaGreatDoor
open Go.RowKit Tw
theorem zbt{w:World}{base e size n k:Nat}{v:Value}{xs:List Value}(h:w.ownsRow base e size v n xs)(b:w.heap.size<=k):v.ownBlock≠some k:=λa=>by
 have:=(h.lt k a).2;omega
def Jd(V:Mv)(vs:O5):Option (Nat×Nat)->Value
 |none=>.slice V.An vs.length V.cn
 |some (g,c)=>.slice (some ⟨g,0,none⟩) (vs.length+1) c
def Jc(V:Mv)(vs:O5):Option (Nat×Nat)->Value
 |none=>.slice V.Aa vs.length V.ca
 |some (g,c)=>.slice (some ⟨g,0,none⟩) (vs.length+1) c
def lnV(vs:O5):Option (Nat×Nat)->Nat
 |none=>vs.length
 |some _=>vs.length+1
def nmX(vs:O5)(nm:ByteArray):Option (Nat×Nat)->List Value
 |none=>ze vs
 |some _=>ze vs++[.string nm]
def noX(vs:O5)(many:Nat):Option (Nat×Nat)->List Value
 |none=>Z9 vs
 |some _=>Z9 vs++[.int .i64 many]
structure qi(w0 w:World)(mb:Nat)(U:Value)(V:Mv)(vs:O5)(many:Nat)(ops:List S3)(nm:ByteArray)(p q:Option Nat)(P Q:Option (Nat×Nat))(s t:Bool):Prop where
 K3:w.heap[mb]?=some (.cells #[U,if s then Jd V vs P else Jd V vs none,if t then Jc V vs Q else Jc V vs none,.int .i64 many,.slice V.Ao ops.length V.co] 127 (0,0))
 rn:w.ownsRow mb 9 1 (Jd V vs P) (lnV vs P) (nmX vs nm P)
 ra:w.ownsRow mb 3 1 (Jc V vs Q) (lnV vs Q) (noX vs many Q)
 ro:w.ownsRow mb 74 2 (.slice V.Ao ops.length V.co) ops.length (zb ops)
 pb: ∀g,p=some g->P=none->w.heap[g]?=some (.cells #[.string nm] 9 (0,0))/\(Jd V vs P).ownBlock≠some g
 qb: ∀g,q=some g->Q=none->w.heap[g]?=some (.cells #[.int .i64 many] 3 (0,0))/\(Jc V vs Q).ownBlock≠some g
 O7:Below mb w0 w
 kp:Kp w0 w
section
variable {w0 w w':World}{mb:Nat}{U:Value}{V:Mv}{vs:O5}{many:Nat}{ops:List S3}{nm:ByteArray}{p q:Option Nat}{P Q:Option (Nat×Nat)}{s t:Bool}
theorem qi.lt(h:qi w0 w mb U V vs many ops nm p q P Q s t):mb<w.heap.size:=I7 h.K3
theorem qi.Zf(h:qi w0 w mb U V vs many ops nm p q P Q s t)(d:Obj):qi w0 (w.alloc d) mb U V vs many ops nm p q P Q s t:=by
 have a:=(y7 w.heap.size w).alloc (y6 _) d
 exact⟨(a.block mb h.lt).trans h.K3,K6 h.rn a,K6 h.ra a,K6 h.ro a,λg b c=>⟨(a.block g (I7 (h.pb g b c).1)).trans (h.pb g b c).1,(h.pb g b c).2⟩,
  λg b c=>⟨(a.block g (I7 (h.qb g b c).1)).trans (h.qb g b c).1,(h.qb g b c).2⟩,h.O7.trans (a.mono (I0 h.lt)),h.kp.trans (Kp.of a)⟩
theorem qi.zhT(h:qi w0 w mb U V vs many ops nm p q P Q s t):qi w0 (w.alloc (.cells #[.string nm] 9)) mb U V vs many ops nm (some w.heap.size) q P Q s t:=
 {h.Zf (.cells #[.string nm] 9)with pb:=λg a b=>by injection a with a;subst a;exact⟨y9 w _,zbt h.rn (y6 _)⟩}
theorem qi.zib(h:qi w0 w mb U V vs many ops nm p q P Q s t):qi w0 (w.alloc (.cells #[.int .i64 many] 3)) mb U V vs many ops nm p (some w.heap.size) P Q s t:=
 {h.Zf (.cells #[.int .i64 many] 3)with qb:=λg a b=>by injection a with a;subst a;exact⟨y9 w _,zbt h.ra (y6 _)⟩}
theorem qi.zkK(h:qi w0 w mb U V vs many ops nm p q none Q s t)(hs:s=false){g c:Nat}(f:w'.ownsRow mb 9 1 (.slice (some ⟨g,0,none⟩) (vs.length+1) c) (vs.length+1) (ze vs++[.string nm]))(a:w.grownBy w' (Jd V vs none).ownBlock):
 qi w0 w' mb U V vs many ops nm p q (some (g,c)) Q s t:=by
 subst hs;have b:=h.rn;refine⟨(a.block mb h.lt (λe=>L9 b h.K3 (by decide) e.symm)).trans h.K3,f,h.ra.kept a (xN h.ra b (by decide)),h.ro.kept a (xN h.ro b (by decide)),λ_ _ i=>(by cases i),λd j k=>?_,?_,?_⟩
 ·have:=h.qb d j k
  exact⟨(a.block d (I7 this.1) (λe=>L9 b this.1 (by decide) e.symm)).trans this.1,this.2⟩
 ·exact h.O7.trans (L8 (y7 mb w) b (y6 _) (I0 h.lt) a)
 ·exact h.kp.trans (Kp.W8 b (by simp) a)
theorem qi.zkP(h:qi w0 w mb U V vs many ops nm p q P none s t)(f:t=false){g c:Nat}(i:w'.ownsRow mb 3 1 (.slice (some ⟨g,0,none⟩) (vs.length+1) c) (vs.length+1) (Z9 vs++[.int .i64 many]))(a:w.grownBy w' (Jc V vs none).ownBlock):
 qi w0 w' mb U V vs many ops nm p q P (some (g,c)) s t:=by
 subst f;have b:=h.ra;refine⟨(a.block mb h.lt (λe=>L9 b h.K3 (by decide) e.symm)).trans h.K3,h.rn.kept a (xN h.rn b (by decide)),i,h.ro.kept a (xN h.ro b (by decide)),λd j k=>?_,λ_ _ l=>(by cases l),?_,?_⟩
 ·have:=h.pb d j k
  exact⟨(a.block d (I7 this.1) (λe=>L9 b this.1 (by decide) e.symm)).trans this.1,this.2⟩
 ·exact h.O7.trans (L8 (y7 mb w) b (y6 _) (I0 h.lt) a)
 ·exact h.kp.trans (Kp.W8 b (by simp) a)
theorem qi.stS(h:qi w0 w mb U V vs many ops nm p q P Q s t):qi w0 (w.setCell ⟨mb,1,none⟩ (Jd V vs P)) mb U V vs many ops nm p q P Q true t:=by
 have b:=z5 w mb 1 _ _ (Jd V vs P) h.K3;have a:=J2 w mb 1 (Jd V vs P);refine⟨by simpa using b,h.rn.kept a (.inr (L9 h.rn h.K3 (by decide))),h.ra.kept a (.inr (L9 h.ra h.K3 (by decide))),h.ro.kept a (.inr (L9 h.ro h.K3 (by decide))),λg c f=>?_,λg c i=>?_,?_,?_⟩
 ·have:=h.pb g c f
  refine⟨(a.block g (I7 this.1) λe=>?_).trans this.1,this.2⟩;have e:g=mb:=by simpa using e
  subst e;have:=this.1.symm.trans h.K3;injection this with this;injection this with _ d;cases d
 ·have:=h.qb g c i
  refine⟨(a.block g (I7 this.1) λe=>?_).trans this.1,this.2⟩;have e:g=mb:=by simpa using e
  subst e;have:=this.1.symm.trans h.K3;injection this with this;injection this with _ d;cases d
 ·exact M2 h.O7 (y6 _) 1 _
 ·exact h.kp.trans (Kp.set h.K3 (by simp))
theorem qi.stI(h:qi w0 w mb U V vs many ops nm p q P Q s t):qi w0 (w.setCell ⟨mb,2,none⟩ (Jc V vs Q)) mb U V vs many ops nm p q P Q s true:=by
 have b:=z5 w mb 2 _ _ (Jc V vs Q) h.K3;have a:=J2 w mb 2 (Jc V vs Q);refine⟨by simpa using b,h.rn.kept a (.inr (L9 h.rn h.K3 (by decide))),h.ra.kept a (.inr (L9 h.ra h.K3 (by decide))),h.ro.kept a (.inr (L9 h.ro h.K3 (by decide))),λg c f=>?_,λg c i=>?_,?_,?_⟩
 ·have:=h.pb g c f
  refine⟨(a.block g (I7 this.1) λe=>?_).trans this.1,this.2⟩;have e:g=mb:=by simpa using e
  subst e;have:=this.1.symm.trans h.K3;injection this with this;injection this with _ d;cases d
 ·have:=h.qb g c i
  refine⟨(a.block g (I7 this.1) λe=>?_).trans this.1,this.2⟩;have e:g=mb:=by simpa using e
  subst e;have:=this.1.symm.trans h.K3;injection this with this;injection this with _ d;cases d
 ·exact M2 h.O7 (y6 _) 2 _
 ·exact h.kp.trans (Kp.set h.K3 (by simp))
theorem qi.start{us:List Fn}{F:Nat->Prop}(h:W6 w0 w mb U V vs many ops us F):qi w0 w mb U V vs many ops nm none none none none false false:=
 ⟨h.st.K3,h.st.rn,h.st.ra,h.st.ro,λ_ h=>(by cases h),λ_ h=>(by cases h),h.O7,h.kp⟩
theorem qi.done{us:List Fn}{F:Nat->Prop}{a c d e:Nat}(g:W6 w0 w0 mb U V vs many ops us F)(h:qi w0 w mb U V vs many ops nm p q (some (a,c)) (some (d,e)) true true):
 w.heap[mb]?=some (.cells #[U,.slice (some ⟨a,0,none⟩) (vs.length+1) c,.slice (some ⟨d,0,none⟩) (vs.length+1) e,.int .i64 many,.slice V.Ao ops.length V.co] 127 (0,0))/\
 W6 w0 (w.setCell ⟨mb,3,none⟩ (.int .i64 ((many:Int)+1))) mb U {V with An:=some ⟨a,0,none⟩,cn:=c,Aa:=some ⟨d,0,none⟩,ca:=e} (vs++[(nm,(many:Int))]) (many+1) ops us F:=by
 have b:=z5 w mb 3 _ _ (.int .i64 ((many:Int)+1)) h.K3;have f:=J2 w mb 3 (.int .i64 ((many:Int)+1));have i:=h.rn.kept f (.inr (L9 h.rn h.K3 (by decide)));have j:=h.ra.kept f (.inr (L9 h.ra h.K3 (by decide)));have k:=h.ro.kept f (.inr (L9 h.ro h.K3 (by decide)));refine⟨h.K3,g.JQ ⟨?_,?_,?_,k⟩ (M2 h.O7 (y6 _) 3 _) (h.kp.trans (Kp.set h.K3 (by simp)))⟩
 ·rw[b];simp[Jd,Jc]
 ·rw[z9];simpa[Jd,lnV,nmX,ze]using i
 ·rw[z9];simpa[Jc,lnV,noX,Z9]using j
end
def slV:Option Nat->Value
 |none=>.int .i64 0
 |some g=>.slice (some ⟨g,0,none⟩) 1 1
def Q8(mb:Nat)(V:Mv)(vs:O5)(nm:ByteArray)(many:Nat)(p q:Option Nat)(P Q:Option (Nat×Nat)):je:=
 [(0,5,.pointer (some ⟨mb,0,none⟩)),(1,6,.pointer (some ⟨mb,0,none⟩)),(2,7,.pointer (some ⟨mb,0,none⟩)),(3,8,.pointer (some ⟨mb,0,none⟩)),(4,9,.pointer (some ⟨mb,1,none⟩)),(5,10,Jd V vs none),(6,11,.string nm),(7,12,slV p),(8,13,Jd V vs P),(9,14,.pointer (some ⟨mb,0,none⟩)),(10,15,.pointer (some ⟨mb,0,none⟩)),(11,16,.pointer (some ⟨mb,2,none⟩)),(12,17,Jc V vs none),(13,18,.pointer (some ⟨mb,0,none⟩)),(14,19,.pointer (some ⟨mb,0,none⟩)),(15,20,.pointer (some ⟨mb,3,none⟩)),(16,21,.int .i64 many),(17,22,slV q),(18,23,Jc V vs Q),(19,24,.pointer (some ⟨mb,0,none⟩)),(20,25,.pointer (some ⟨mb,1,none⟩)),(22,26,.pointer (some ⟨mb,0,none⟩)),(23,27,.pointer (some ⟨mb,2,none⟩))]
theorem S9.change{T T':je}{a0 a:Act}{L:Array Bool}(h:S9 T a0 L a)(g: ∀e∈T',L.getD e.1 false=true->e∈T)(i:T'.map (·.2.1)=T.map (·.2.1)):S9 T' a0 L a:=
 ⟨h.df,h.az,λe b f=>h.tb e (g e b f) f,λk j=>h.un k λe b c=>by
  have:e.2.1∈T'.map (·.2.1):=by rw[i];exact G8 b
  obtain⟨l,d,m⟩:=List.mem_map.1 this;exact j l d (m.trans c)⟩
section
variable {mb:Nat}{V:Mv}{vs:O5}{nm:ByteArray}{many:Nat}{p q p' q':Option Nat}{P Q P' Q':Option (Nat×Nat)}{a0 a:Act}{L:Array Bool}
theorem M6:(Q8 mb V vs nm many p q P Q).map (·.2.1)=[5,6,7,8,9,10,11,12,13,14,15,16,17,18,19,20,21,22,23,24,25,26,27]:=rfl
theorem N7:(Q8 mb V vs nm many p q P Q).map (·.1)=[0,1,2,3,4,5,6,7,8,9,10,11,12,13,14,15,16,17,18,19,20,22,23]:=rfl
theorem P3: ∀e∈Q8 mb V vs nm many p q P Q,5<=e.2.1/\e.2.1<=27:=λe b=>by
 have h:e.2.1∈(Q8 mb V vs nm many p q P Q).map (·.2.1):=G8 b;rw[M6]at h;have: ∀k∈[5,6,7,8,9,10,11,12,13,14,15,16,17,18,19,20,21,22,23,24,25,26,27],5<=k/\k<=27:=by decide
 exact this _ h
theorem ji(h:S9 (Q8 mb V vs nm many p q P Q) a0 L a)(d:L.getD 7 false=true->p'=p)(f:L.getD 17 false=true->q'=q)(g:L.getD 8 false=true->P'=P)(i:L.getD 18 false=true->Q'=Q):S9 (Q8 mb V vs nm many p' q' P' Q') a0 L a:=by
 refine h.change (λe c b=>?_) rfl;unfold Q8 at c|-
 simp only[E7,List.mem_nil_iff,or_false]at c|-
 rcases c with rfl|rfl|rfl|rfl|rfl|rfl|rfl|rfl|rfl|rfl|rfl|rfl|rfl|rfl|rfl|rfl|rfl|rfl|rfl|rfl|rfl|rfl|rfl
 all_goals first
  |simp;done
  |(have:=d b;subst this;simp)
  |(have:=f b;subst this;simp)
  |(have:=g b;subst this;simp)
  |(have:=i b;subst this;simp)
end
end Go.Proofs.YtalgmjmibamdfaaGreatDoor
