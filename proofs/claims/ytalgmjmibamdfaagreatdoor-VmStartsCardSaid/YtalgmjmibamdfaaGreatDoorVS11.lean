/- Merged. -/
import Derived.Test.YtalgmjmibamdfaaGreatDoorVS10
import Derived.Deep.Upon
import Derived.Lib.AppendZerosOnto
set_option linter.all false
set_option maxHeartbeats 16000000
set_option maxRecDepth 100000
namespace Go.Proofs.YtalgmjmibamdfaaGreatDoor
open Go.RowKit Tw
theorem Zw{w:World}{g:Nat}{hs:List Int}(h:w.heap[g]?=some (.cells (S5 hs) 3 (0,0)))(k:Nat)(v:Int):(w.setCell ⟨g,k,none⟩ (.int .i64 v)).heap[g]?=some (.cells (S5 (hs.set k v)) 3 (0,0)):=by
 have:=y4 w g k _ _ (.int .i64 v) h;have e:(S5 hs).setIfInBounds k (.int .i64 v)=S5 (hs.set k v):=by simp[S5,List.map_set]
 rwa [e]at this
structure Wk(C:R2)(hs td:List Int):Prop where
 ok:OkH C hs
 YN: ∀k∈td,∃j:Nat,k=j/\xz hs j
 start:xz hs 0
 XX: ∀(j:Nat)(o:Q2)(h:Nat),C[j]?=some (o,h)->xz hs j->(j:Int)∈td\/ ∀i∈K2 j o,xz hs i
structure Wl(C:R2)(k q:Nat)(ws hs td:List Int):Prop where
 ok:OkH C hs
 YN: ∀k∈td,∃j:Nat,k=j/\xz hs j
 start:xz hs 0
 XX: ∀(j:Nat)(o:Q2)(h:Nat),C[j]?=some (o,h)->xz hs j->j≠k->(j:Int)∈td\/ ∀i∈K2 j o,xz hs i
 zgC: ∀(i:Nat)(v:Int),i<q->ws[i]?=some v->xz hs v.toNat
section
variable {C:R2}{hs td ws:List Int}{k q:Nat}
theorem yU{n:Nat}(h:xz hs q)(a:k<hs.length):xz (hs.set k (n:Int)) q:=by
 obtain⟨v,b,c⟩:=h
 by_cases e:k=q
 ·subst e;exact⟨n,List.getElem?_set_self a,by omega⟩
 ·exact⟨v,by rw[List.getElem?_set_ne e];exact b,c⟩
theorem xz.zdf{n:Nat}(h:xz (hs.set k (n:Int)) q)(e:k≠q):xz hs q:=by
 obtain⟨v,a,b⟩:=h;rw[List.getElem?_set_ne e]at a;exact⟨v,a,b⟩
theorem Wk.first{o:Q2}(h:C[0]?=some (o,0)):Wk C ((List.replicate C.length (-1)).set 0 ((0:Nat):Int)) [0]:=by
 have c:0<C.length:=(List.getElem?_eq_some_iff.1 h).1;have d:OkH C (List.replicate C.length (-1)):=⟨by simp,λk v a=>.inl (by rw[List.getElem?_replicate]at a;split at a;injection a with a;exact a.symm;cases a)⟩;have b:xz ((List.replicate C.length (-1)).set 0 ((0:Nat):Int)) 0:=⟨0,List.getElem?_set_self (by simpa using c),by decide⟩;refine⟨d.set h,λk a=>⟨0,by simpa using a,b⟩,b,λj o h _ f=>.inl ?_⟩
 by_cases e:0=j
 ·subst e;simp
 ·exact G5 (f.zdf e) zah
theorem Wk.take(h:Wk C hs (td++[(k:Int)])):Wl C k 0 ws hs td:=
 ⟨h.ok,λj a=>h.YN j (List.mem_append_left _ a),h.start,λj o x b c d=>by
  rcases h.XX j o x b c with h|h
  ·rcases List.mem_append.1 h with h|h
   ·exact .inl h
   ·have:=List.mem_singleton.1 h;omega
  ·exact .inr h,λi v e=>by omega⟩
theorem Wl.zhU{v:Nat}(h:Wl C k q ws hs td)(b:ws[q]?=some (v:Int))(c:xz hs v):Wl C k (q+1) ws hs td:=
 ⟨h.ok,h.YN,h.start,h.XX,λi u d a=>by
  by_cases e:i=q
  ·subst e;rw[b]at a;injection a with a;subst a;exact c
  ·exact h.zgC i u (by omega) a⟩
theorem Wl.zi3{v n:Nat}{o:Q2}(h:Wl C k q ws hs td)(m:ws[q]?=some (v:Int))(g:C[v]?=some (o,n)):Wl C k (q+1) ws (hs.set v (n:Int)) (td++[(v:Int)]):=by
 have b:v<hs.length:=by rw[h.ok.1];exact(List.getElem?_eq_some_iff.1 g).1
 have l:xz (hs.set v (n:Int)) v:=⟨n,List.getElem?_set_self b,by omega⟩;refine⟨h.ok.set g,λj a=>?_,yU h.start b,λj p x f a r=>?_,λi u d c=>?_⟩
 ·rcases List.mem_append.1 a with a|a
  ·obtain⟨i,e,d⟩:=h.YN j a
   exact⟨i,e,yU d b⟩
  ·exact⟨v,List.mem_singleton.1 a,l⟩
 ·by_cases e:v=j
  ·subst e;exact .inl (by simp)
  ·rcases h.XX j p x f (a.zdf e) r with h|h
   ·exact .inl (List.mem_append_left _ h)
   ·exact .inr λi d=>yU (h i d) b
 ·by_cases e:i=q
  ·subst e;rw[m]at c;injection c with c;subst c;exact l
  ·exact yU (h.zgC i u (by omega) c) b
theorem Wl.done{o:Q2}{x:Nat}(h:Wl C k ((K2 k o).map Int.ofNat).length ((K2 k o).map Int.ofNat) hs td)(c:C[k]?=some (o,x)):Wk C hs td:=
 ⟨h.ok,h.YN,h.start,λj d f a g=>by
  by_cases e:j=k
  ·subst e
   rw[c]at a;injection a with a;injection a with l _;subst l
   refine .inr λi m=>?_;obtain⟨p,b⟩:=List.getElem?_of_mem (List.mem_map.2 ⟨i,m,rfl⟩:Int.ofNat i∈(K2 j o).map Int.ofNat);exact h.zgC p _ (List.getElem?_eq_some_iff.1 b).1 b
  ·exact h.XX j d f a g e⟩
theorem Wk.end(h:Wk C hs []):xZ C hs:=⟨h.ok,h.start,λj o x a b=>by
 rcases h.XX j o x a b with h|h
 ·cases h
 ·exact h⟩
end
end Go.Proofs.YtalgmjmibamdfaaGreatDoor
namespace Go.Proofs.YtalgmjmibamdfaaGreatDoor
open Go.Proofs.Tryz
open Go.RowKit Tw
structure Z8(w:World)(B mb:Nat)(Af:Option Addr)(nf cf:Nat)(main mode value:Int)(A:Option Addr)(c:Nat)(l:List Fm):Prop where
 lo:B<=mb
 J7:w.heap[mb]?=some (.cells #[.slice Af nf cf,.int .i64 main,.int .i64 mode,.int .i64 value,.slice A l.length c] 98 (0,0))
 T7:Q8 w B 95 A c l
theorem qL(l:List Int):(iC l).length=l.length:=by unfold iC;rw[C0]
theorem Y9{w:World}(f:TypeId){base n c:Nat}{A:Option Addr}{xs b:List Int}{F:Nat->Prop}{X:Value}(l:w.ownsRow base 3 1 (.slice A n c) n (iC xs))(z:J8 w F X b)(L:n+b.length<=1000000)(B:base<=w.heap.size):
 ∃A' c' w',(Builtin.append_ #[22,22] f #[.slice A n c,X]).run prog w=.ok (.slice A' (n+b.length) c') w'/\w'.ownsRow base 3 1 (.slice A' (n+b.length) c') (n+b.length) (iC (xs++b))/\w.grownBy w' (Value.slice A n c).ownBlock/\ ∀g,(Value.slice A' (n+b.length) c').ownBlock=some g->(Value.slice A n c).ownBlock=some g\/g=w.heap.size:=by
 have e:=underlying22;obtain⟨i,r,C,t,v⟩:=info_parts Zc
 rcases z with⟨a,d,rfl,rfl⟩|⟨g,m,o,rfl,-,M,D⟩
 ·have p:=(O3 l).1
  refine⟨A,c,w,?_,by simpa using l,World.grownBy.refl _ _,λg h=>.inl h⟩;cases a with
  |none=>exact run_append_nothing w _ _ f _ i e r A n c p _ (.ofNil w e d)
  |some a=>exact run_append_nothing w _ _ f _ i e r A n c p _ (.ofSlice w e a 0 d [] (by simp) (λj u h=>by simp at h) (λ_ h=>by cases h))
 ·rcases Nat.eq_zero_or_pos b.length with x|x
  ·obtain rfl:=List.length_eq_zero_iff.1 x
   exact⟨A,c,w,run_append_nothing w _ _ f _ i e r A n c (O3 l).1 _ (.ofSlice w e ⟨g,m,none⟩ 0 o [] (by simp) (λj u h=>by simp at h) (λ_ h=>by cases h)),by simpa using l,World.grownBy.refl _ _,λg h=>.inl h⟩
  ·obtain⟨E,q,w',G,H,I,J,-⟩:=run_append_lies (P:=prog) w 22 f base 3 i (.int .i64 0) 1 8 e r C t v rfl (by decide) (.slice A n c) n (iC xs) l ⟨g,m,none⟩ b.length o (iC b) (by rw[qL,Nat.mul_one]) (λj u y=>by
    unfold iC at y;rw[F6]at y;obtain⟨s,t,rfl⟩:=Option.map_eq_some_iff.1 y;rw[Addr.add_lit];exact D j s t) (λu e=>by
    obtain⟨s,-,rfl⟩:=List.mem_map.1 e;rfl) x (by unfold maxLen;omega) (by omega) B w.heap.size rfl
   refine⟨_,q,w',G,?_,I,λk K=>?_⟩
   ·unfold iC;rw[List.map_append];exact H
   ·have:E=k:=by simpa[Value.ownBlock]using K
    subst this;exact J
def Qd(l:List Fm):Prop:=l.length<=32/\ ∀x∈l,x.1.vars.length<=64/\x.1.I1.length<=600
theorem S6{w:World}{base:Nat}{F:Nat->Prop}{v:Value}{xs:List Int}(h:w.ownsRow base 3 1 v xs.length (iC xs))(b: ∀g,base<=g->F g):J8 w F v xs:=by
 rcases O5 h with⟨rfl,c⟩|⟨g,a,rfl,d,e,f⟩
 ·exact .inl ⟨_,_,rfl,List.length_eq_zero_iff.1 c⟩
 ·exact .inr ⟨g,0,a,rfl,b g d,e,λk s i=>by rw[Nat.zero_add];exact f k _ (by unfold iC;rw[F6,i];rfl)⟩
theorem Rows.at{w:World}{B:Nat}{l:List Fm}(h:Rows w B l){i:Nat}{x:Fm}(hx:l[i]?=some x):w.ownsRow B 3 1 x.2.1 x.1.vars.length (iC x.1.vars)/\w.ownsRow B 3 1 x.2.2 x.1.I1.length (iC x.1.I1):=by
 obtain⟨a,h⟩:=h;exact⟨(h i x hx).v,(h i x hx).s⟩
def xr(l:List Fm):List Int:=l.flatMap λx=>frE x.1
theorem Zx{l:List Fm}(h:Qd l)(j:Nat):(xr (l.take j)).length<=700*j:=by
 induction j with
 |zero=>simp[xr]
 |succ j b=>
  rcases D6 j l.length with a|a
  ·rw[List.take_succ_eq_append_getElem a]
   have:=h.2 _ (List.getElem_mem a);simp only[xr,List.flatMap_append,y7,List.flatMap_cons,List.flatMap_nil,List.append_nil,frE,y6]at*;omega
  ·rw[List.take_of_length_le (by omega)];rw[List.take_of_length_le a]at b;omega
theorem QF{l:List Fm}{j:Nat}{x:Fm}(h:l[j]?=some x):xr (l.take (j+1))=xr (l.take j)++[(x.1.fn:Int),(x.1.pc:Int)]++x.1.vars++x.1.I1:=by
 obtain⟨a,rfl⟩:=List.getElem?_eq_some_iff.1 h;unfold xr;rw[List.take_succ_eq_append_getElem a,List.flatMap_append];simp[frE]
theorem Jn(m v:Int)(l:List Fm):K9 ⟨m,v,l.map Prod.fst⟩=[m,v,(l.length:Int)]++xr l:=by simp[K9,xr,List.flatMap_map]
theorem J8.low{w w':World}{F:Nat->Prop}{v:Value}{l:List Int}(h:J8 w F v l)(a:Below w.heap.size w w'):J8 w' (λ_=>True) v l:=
 h.I5 λg _ b=>⟨trivial,y5 b a.size,a.block g b⟩
theorem JS{w:World}{B T nf cf c:Nat}{Af A:Option Addr}{main mode value:Int}{l:List Fm}(h:Z8 w B T Af nf cf main mode value A c l)(U:Qd l):
 Calls prog 36 #[.pointer (some ⟨T,0,none⟩)] w λe w'=>Below w.heap.size w w'/\ ∃A' c',e=.returned (.slice A' (K9 ⟨mode,value,l.map Prod.fst⟩).length c')/\w'.ownsRow w.heap.size 3 1 (.slice A' (K9 ⟨mode,value,l.map Prod.fst⟩).length c') (K9 ⟨mode,value,l.map Prod.fst⟩).length (iC (K9 ⟨mode,value,l.map Prod.fst⟩)):=by
 rw[Jn];have H:=zh h;have HL:=zh U;have m1:=x5 h.J7 2;have m2:=x5 h.J7 3;have V:=x5 h.J7 4;have o:=I0 h.J7;have a4:=U.1;clear h U;have d:=zh ((x7 w.heap.size w).alloc (x6 _) (.cells #[.int .i64 mode,.int .i64 value,.int .i64 l.length] 3));have q:=zh (World.ownsRow_lit (base:=w.heap.size) (e:=3) (size:=1) w #[.int .i64 mode,.int .i64 value,.int .i64 l.length] 3 (x6 _) (by decide) rfl)
 go_enter func36,ntmps36
 go_upto_region 1 with(fail)
 go_region
 clear m1 m2 V;replace d:=zh d.out.drew;replace q:=zh q.out.drew;generalize(World.alloc _ _).drew=w1 at d q|-
 have C:Hid (w1.ownsRow w.heap.size 3 1 (.slice (some ⟨w.heap.size,0,none⟩) ([mode,value,(l.length:Int)]++xr (l.take 0)).length 3) ([mode,value,(l.length:Int)]++xr (l.take 0)).length (iC ([mode,value,(l.length:Int)]++xr (l.take 0)))):=q;have V:=(d.out.cell (p:=⟨T,4,none⟩) o).trans (x5 H.out.J7 4);clear q
 go_wp2_with fail
 clear V
 go_loopw[3,25] (λtv W wr=> ∃(j:Nat)(r:List Int)(J:Option Addr)(K:Nat),j<=l.length/\tv=.slice J r.length K/\W=.int .i64 j/\Hid (r=[mode,value,(l.length:Int)]++xr (l.take j))/\Hid (wr.ownsRow w.heap.size 3 1 (.slice J r.length K) r.length (iC r))/\Hid (Below w.heap.size w wr)) (λ_ W _=>l.length-(intOf W).toNat)
 case atStart=>exact⟨0,_,_,_,C6 _,rfl,rfl,zh rfl,C,d⟩
 case round=>
  clear C d;obtain⟨j,r,J,K,hj,rfl,rfl,s,q,d⟩:=hrel
  by_cases o:j<l.length
  ·obtain⟨x,D⟩: ∃x,l[j]?=some x:=⟨_,x8 o⟩
   obtain⟨⟨fn,t,u,v⟩,vv,sv⟩:=x;obtain⟨M,a7,rfl,-,E,⟨X,Y,Z,d3⟩,-⟩:=H.out.T7.at D;have g:=I0 E;replace X:=(d.out.cell (p:=⟨M,j*4,none⟩) g).trans X;replace Y:=(d.out.cell (p:=⟨M,j*4+1,none⟩) g).trans Y;replace Z:=(d.out.cell (p:=⟨M,j*4+2,none⟩) g).trans Z;replace d3:=(d.out.cell (p:=⟨M,j*4+3,none⟩) g).trans d3;obtain⟨rv,rs⟩:=H.out.T7.T6.at D;have HV:Hid (J8 w (λ_=>True) vv u):=zh (S6 rv λ_ _=>trivial);have HS:Hid (J8 w (λ_=>True) sv v):=zh (S6 rs λ_ _=>trivial);obtain⟨N,O,rfl⟩:=HV.out.zt;obtain⟨P,Q,rfl⟩:=HS.out.zt;have a8:r.length<=3+700*j/\u.length<=64/\v.length<=600:=by
    have h1:=Zx HL.out j;have h2:=HL.out.2 _ (B0 D);have h3:=G4 List.length s.out;simp at h3 h2;omega
   have HE:=zh (QF D);have k0:(0:Int)<=(j:Int):=by omega
   have k1:(j:Int)<(l.length:Int):=by omega
   have a:=zh (x9 wr (.cells #[.int .i64 fn,.int .i64 t,.slice N u.length O,.slice P v.length Q] 95));have y:=(x7 wr.heap.size wr).alloc (x6 _) (.cells #[.int .i64 fn,.int .i64 t,.slice N u.length O,.slice P v.length Q] 95);have i:=zh (K1 q.out y);have f:=zh (d.out.trans (y.mono d.out.size));clear y rv rs D E g
   go_upto_region 5 with(fail)
   clear X Y Z d3;generalize World.alloc _ _=F at a i f|-
   generalize wr.heap.size=z at a|-
   have q0:=x5 a.out 0;have q1:=x5 a.out 1;have b:=zh ((x7 F.heap.size F).alloc (x6 _) (.cells #[.int .i64 fn,.int .i64 t] 3));have G:Hid (J8 (F.alloc (.cells #[.int .i64 fn,.int .i64 t] 3)) (λ_=>True) (.slice (some ⟨F.heap.size,0,none⟩) 2 2) [(fn:Int),(t:Int)]):=zh (R9 (l:=[(fn:Int),(t:Int)]) (x9 F _) trivial);obtain⟨A2,c2,w2,r2,R,g2,-⟩:=Y9 22 (K1 i.out b.out) G.out (by simp;omega) (B5 f.out.size b.out.size);have k:Hid (Below w.heap.size w w2):=zh (L3 (f.out.trans (b.out.mono f.out.size)) (K1 i.out b.out) (x6 _) (B5 f.out.size b.out.size) g2);have m:Hid (w2.heap[z]?=some (.cells #[.int .i64 fn,.int .i64 t,.slice N u.length O,.slice P v.length Q] 95 (0,0))):=zh ((g2.block z (y5 (I0 a.out) b.out.size) (λe=>K5 (K1 i.out b.out) ((b.out.block z (I0 a.out)).trans a.out) (by decide) e.symm)).trans ((b.out.block z (I0 a.out)).trans a.out))
   go_upto_region 6 with(at_builtin;refine Lib.wpList_append_run _ rfl _ _ _ _ rfl _ _ rfl rfl _ _ r2 ?_)
   clear r2 g2 q0 q1 b G i f a q d;have q2:=x5 m.out 2;obtain⟨A3,c3,w3,r3,o3,g3,-⟩:=Y9 22 R (HV.out.low k.out) (by simp;omega) k.out.size;have n:Hid (Below w.heap.size w w3):=zh (L3 k.out R (x6 _) k.out.size g3);have I:Hid (w3.heap[z]?=some (.cells #[.int .i64 fn,.int .i64 t,.slice N u.length O,.slice P v.length Q] 95 (0,0))):=zh ((g3.block z (I0 m.out) (λe=>K5 R m.out (by decide) e.symm)).trans m.out)
   go_upto_region 7 with(at_builtin;refine Lib.wpList_append_run _ rfl _ _ _ _ rfl _ _ rfl rfl _ _ r3 ?_)
   clear r3 g3 q2 R k m;have q3:=x5 I.out 3;obtain⟨A4,c4,w4,r4,o4,g4,-⟩:=Y9 22 o3 (HS.out.low n.out) (by simp;omega) n.out.size;have a0:Hid (Below w.heap.size w w4):=zh (L3 n.out o3 (x6 _) n.out.size g4)
   go_upto_region 8 with(at_builtin;refine Lib.wpList_append_run _ rfl _ _ _ _ rfl _ _ rfl rfl _ _ r4 ?_)
   clear r4 g4 q3 o3 n I;obtain⟨L,S⟩: ∃L,r++[(fn:Int),(t:Int)]++u++v=L:=⟨_,rfl⟩;have e4:r.length+2+u.length+v.length=L.length:=by rw[<-S];simp;omega
   have a1:Hid (w4.ownsRow w.heap.size 3 1 (.slice A4 L.length c4) L.length (iC L)):=zh (by rw[<-e4,<-S];exact o4);rw[e4];have a2:=zh S;clear o4 e4 S
   go_wp2_with fail
   go_roundw
   case rel=>exact⟨j+1,_,A4,c4,o,rfl,by go_num,zh (by rw[<-a2.out,s.out,HE.out];simp),a1,a0⟩
   case measure=>simp[intOf];omega
  ·obtain rfl:j=l.length:=by omega
   rw[E7]at s;have a3:=s.out;subst a3
   go_wp2_with fail
   go_ret;exact⟨d.out,J,K,rfl,q.out⟩
end Go.Proofs.YtalgmjmibamdfaaGreatDoor
namespace Go.Proofs.YtalgmjmibamdfaaGreatDoor
section
open Go
section
variable {P:Program}{ops:Array Oper}{Q:Exit->Act->World->Prop}{md:Region.Mode}
def ZC(ops:Array Oper)(a:Array Bool):Nat:=((List.range ops.size).filter λi=>!a.getD i true).length
theorem zL{a:Array Bool}{i:Nat}(h:i∈Region.ready md ops a):i<ops.size/\a.getD i true=false:=by
 unfold Region.ready at h;rw[List.mem_filter]at h;simp at h;exact⟨h.1,by rw[Array.getD_eq_getD_getElem?];exact h.2.1⟩
theorem Zj{listed:Array Bool}{i:Nat}(hi:i<ops.size)(h:listed.getD i true=false):ZC ops (listed.setIfInBounds i true)<ZC ops listed:=by
 have f:i<listed.size:=by
  rcases Nat.lt_or_ge i listed.size with g|g
  ·exact g
  ·rw[Array.getD_eq_getD_getElem?,Array.getElem?_eq_none g]at h;cases h
 unfold ZC;have b: ∀l:List Nat,(l.filter λj=>!(listed.setIfInBounds i true).getD j true).length<=(l.filter λj=>!listed.getD j true).length/\(i∈l->(l.filter λj=>!(listed.setIfInBounds i true).getD j true).length<(l.filter λj=>!listed.getD j true).length):=by
  have k:(listed.setIfInBounds i true).getD i true=true:=by
   rw[Array.getD_eq_getD_getElem?];simp[f]
  have m: ∀j,j≠i->(listed.setIfInBounds i true).getD j true=listed.getD j true:=by
   intro j c;rw[Array.getD_eq_getD_getElem?,Array.getD_eq_getD_getElem?,Array.getElem?_setIfInBounds_ne (λe=>c e.symm)]
  intro l
  induction l with
  |nil=>exact⟨Nat.le_refl _,λh=>by cases h⟩
  |cons j l a=>
   by_cases c:j=i
   ·subst c
    simp only[List.filter_cons,k,h];simp only[Bool.not_true,Bool.not_false,Bool.false_eq_true,if_false,if_true,List.length_cons];exact⟨by have:=a.1;omega,λ_=>by have:=a.1;omega⟩
   ·simp only[List.filter_cons,m j c]
    refine⟨?_,λn=>?_⟩
    ·split
     ·simp only[List.length_cons];have:=a.1;omega
     ·exact a.1
    ·have d:i∈l:=by rcases List.mem_cons.1 n with e|e;exact absurd e.symm c;exact e
     split
     ·simp only[List.length_cons];have:=a.2 d;omega
     ·exact a.2 d
 exact(b _).2 (List.mem_range.2 hi)
theorem zaR(J:Array Bool->Act->World->Prop)(e: ∀b a w i,J b a w->i∈Region.ready md ops b->wpOp P ops Q i (J (b.setIfInBounds i true)) a w)
 (d: ∀b a w,J b a w->Region.ready md ops b=[]->Q .normal a w): ∀(c:Nat)(b:Array Bool)(a:Act)(w:World),ZC ops b<=c->J b a w->wpAny P md ops Q c b a w:=by
 intro c
 induction c with
 |zero=>
  intro b a w m f;have g:Region.ready md ops b=[]:=by
   apply List.eq_nil_iff_forall_not_mem.2;intro i j;obtain⟨k,l⟩:=zL j;have:=Zj k l;omega
  exact⟨g,d _ _ _ f g⟩
 |succ c n=>
  intro b a w m f;refine⟨λg=>d _ _ _ f g,λi j=>?_⟩;obtain⟨k,l⟩:=zL j;have o:=Zj (ops:=ops) k l;exact wpOp_mono (λa w h=>n _ a w (by omega) h) (e _ _ _ _ f j)
theorem Yp{e:Nat}{a:Act}{w:World}(f:P.follows .mixedOrders=true)(J:Array Bool->Act->World->Prop)(g:J (Array.replicate ops.size false) a {w with drawn:=w.drawn+1})
 (c: ∀b a w i,J b a w->i∈Region.ready .any ops b->wpOp P ops Q i (J (b.setIfInBounds i true)) a w)
 (d: ∀b a w,J b a w->Region.ready .any ops b=[]->Q .normal a w):(Code.region e ops true).wp P Q a w:=
 wp_region_any f (zaR J c d ops.size _ a _ (by
  unfold ZC;have:=List.length_filter_le (λi=>!(Array.replicate ops.size false).getD i true) (List.range ops.size);simpa using this) g)
end
end
end Go.Proofs.YtalgmjmibamdfaaGreatDoor
namespace Go.Proofs.YtalgmjmibamdfaaGreatDoor
open Go.RowKit
abbrev jc:Type:=List (Nat×Nat×Value)
structure S9(T:jc)(a0:Act)(L:Array Bool)(a:Act):Prop where
 df:a.defers=a0.defers
 az:a.tmps.size=a0.tmps.size
 tb: ∀e∈T,L.getD e.1 false=true->a.tmps[e.2.1]?=some e.2.2
 un: ∀k,(∀e∈T,e.2.1≠k)->a.tmps[k]?=a0.tmps[k]?
theorem I2{L:Array Bool}{i j:Nat}(h:j≠i):(L.setIfInBounds i true).getD j false=L.getD j false:=by
 rw[Array.getD_eq_getD_getElem?,Array.getD_eq_getD_getElem?,Array.getElem?_setIfInBounds_ne (λe=>h e.symm)]
theorem M4{L:Array Bool}{i:Nat}(h:i<L.size):(L.setIfInBounds i true).getD i false=true:=by
 rw[Array.getD_eq_getD_getElem?];simp[h]
theorem S9.put{T:jc}{m a:Act}{L:Array Bool}(t:(T.map (·.1)).Nodup)(u:(T.map (·.2.1)).Nodup)(v: ∀e∈T,e.2.1<m.tmps.size)(h:S9 T m L a)(e:Nat×Nat×Value)(n:e∈T):S9 T m (L.setIfInBounds e.1 true) (a.put (some e.2.1) e.2.2):=by
 have g: ∀{β:Type}(f:Nat×Nat×Value->β)(l:jc),(l.map f).Nodup-> ∀x∈l,∀y∈l,f x=f y->x=y:=by
  intro β f l
  induction l with
  |nil=>intro _ x o;cases o
  |cons z l w=>
   intro j x o y q e;simp only[List.map_cons,List.nodup_cons]at j
   rcases List.mem_cons.1 o with i|i
   ·rcases List.mem_cons.1 q with c|c
    ·rw[i,c]
    ·exact absurd (by rw[<-i,e];exact List.mem_map_of_mem c) j.1
   ·rcases List.mem_cons.1 q with c|c
    ·exact absurd (by rw[<-c,<-e];exact List.mem_map_of_mem i) j.1
    ·exact w j.2 x i y c e
 refine⟨h.df,by simp[Act.put,h.az],λd b r=>?_,λk s=>?_⟩
 ·by_cases p:d=e
  ·subst p
   simp[Act.put,h.az,v d b]
  ·have A:d.1≠e.1:=λx=>p (g _ T t d b e n x)
   have B:d.2.1≠e.2.1:=λx=>p (g _ T u d b e n x);rw[I2 A]at r;simp only[Act.put];rw[Array.getElem?_setIfInBounds_ne (λx=>B x.symm)];exact h.tb d b r
 ·simp only[Act.put]
  rw[Array.getElem?_setIfInBounds_ne (s e n)];exact h.un k s
theorem S9.skip{T:jc}{b a:Act}{L:Array Bool}(h:S9 T b L a)(i:Nat)(hi: ∀e∈T,e.1≠i):S9 T b (L.setIfInBounds i true) a:=
 ⟨h.df,h.az,λe c d=>h.tb e c (by rwa [I2 (hi e c)]at d),h.un⟩
theorem qU{a:Act}{k:Nat}{v:Value}(h:a.tmps[k]?=some v):a.eval (.tmp k)=v:=by
 show a.tmps.getD k undef=v;rw[Array.getD_eq_getD_getElem?,h];rfl
theorem J3{b:Region.Mode}{ops:Array Oper}{L:Array Bool}{i:Nat}(h:i∈Region.ready b ops L){o:Oper}(d:ops[i]?=some o): ∀e∈o.after.toList,Region.binds b e=true->L.getD e.on false=true:=by
 unfold Region.ready at h;rw[List.mem_filter]at h;have a:=h.2;rw[d]at a;simp only[Bool.and_eq_true,Option.map_some,Option.getD_some]at a;have c:=a.2;intro e f g;rw[<-Array.all_toList]at c;have:=List.all_eq_true.1 c e f;rw[g]at this;simpa using this
theorem J4{P:Program}{ops:Array Oper}{Q:Exit->Act->World->Prop}{i:Nat}{K:Act->World->Prop}{a:Act}{w w':World}{o:Oper}{v:Value}(d:Nat)(b:ops[i]?=some o)(c:o.guard=none)(e:o.dst=some d)(f:(execOp a.eval o).run P w=.ok (.value v) w')(g:K (a.put (some d) v) w'):wpOp P ops Q i K a w:=by
 unfold wpOp;rw[b];simp only;rw[if_pos (by simp[Region.wanted,c])];exact .inl (by unfold Oper.wp;rw[f];show K (a.put o.dst v) w';rw[e];exact g)
theorem qn{P:Program}{ops:Array Oper}{Q:Exit->Act->World->Prop}{i:Nat}{K:Act->World->Prop}{a:Act}{w w':World}{o:Oper}(b:ops[i]?=some o)(c:o.guard=none)(d:o.dst=none)(e:(execOp a.eval o).run P w=.ok .skip w')(f:K a w'):wpOp P ops Q i K a w:=by
 unfold wpOp;rw[b];simp only;rw[if_pos (by simp[Region.wanted,c])];exact .inl (by unfold Oper.wp;rw[e];show K (a.put o.dst undef) w';rw[d];exact f)
theorem zaX{P:Program}{ops:Array Oper}{Q:Exit->Act->World->Prop}{i:Nat}{K:Act->World->Prop}{a:Act}{w w':World}{o:Oper}(f:FuncId)(args:Array Value)(d:ops[i]?=some o)(e:o.guard=none)(g:(execOp a.eval o).run P w=.ok (.enter f args) w')(h:Calls P f args w' fun
 |.returned v,b=>K (a.put o.dst v) b
 |.panicked c,b=>Q (.panic c) a b
 |.outgrown,_=>LetsOut Q):wpOp P ops Q i K a w:=by
 unfold wpOp;rw[d];simp only;rw[if_pos (by simp[Region.wanted,e])];exact .inl (by unfold Oper.wp;rw[g];exact h)
theorem ye{a:Region.Mode}{ops:Array Oper}{L:Array Bool}{i:Nat}(h:i∈Region.ready a ops L)(b:i<L.size):L.getD i false=false:=by
 have:=(zL h).2;rw[Array.getD_eq_getD_getElem?]at this|-
 rw[Array.getElem?_eq_getElem b]at this|-
 exact this
theorem QR{L:Array Bool}{i j:Nat}(h:L.getD j false=true):(L.setIfInBounds i true).getD j false=true:=by
 by_cases e:j=i
 ·subst e
  have b:j<L.size:=by
   rcases Nat.lt_or_ge j L.size with a|a
   ·exact a
   ·rw[Array.getD_eq_getD_getElem?,Array.getElem?_eq_none a]at h;cases h
  exact M4 b
 ·rw[I2 e];exact h
theorem U8(n j:Nat):(Array.replicate n false).getD j false=false:=by
 rw[Array.getD_eq_getD_getElem?]
 by_cases h:j<n
 ·simp[h]
 ·simp[h]
theorem S9.start(T:jc)(a:Act)(n:Nat):S9 T a (Array.replicate n false) a:=⟨rfl,rfl,(λe _ h=>by rw[U8]at h;cases h),λ_ _=>rfl⟩
def Clo(ops:Array Oper)(L:Array Bool):Prop:= ∀(i:Nat)(o:Oper),ops[i]?=some o->L.getD i false=true-> ∀e∈o.after.toList,Region.binds .any e=true->L.getD e.on false=true
theorem Clo.start(ops:Array Oper)(n:Nat):Clo ops (Array.replicate n false):=λi o _ h=>by rw[U8]at h;cases h
theorem Clo.next{ops:Array Oper}{L:Array Bool}(h:Clo ops L){i:Nat}(hi:i∈Region.ready .any ops L):Clo ops (L.setIfInBounds i true):=by
 intro j o b c e d f
 by_cases a:j=i
 ·subst a
  exact QR (J3 hi b e d f)
 ·rw[I2 a]at c
  exact QR (h j o b c e d f)
theorem zak{b a:Act}{lo hi:Nat}(f:a.defers=b.defers)(g:a.tmps.size=b.tmps.size)(i: ∀k,k<lo\/hi<k->a.tmps[k]?=b.tmps[k]?):a=⟨(List.range' lo (hi+1-lo)).foldl (λt k=>t.setIfInBounds k (a.tmps.getD k undef)) b.tmps,b.defers⟩:=by
 have c: ∀(n lo:Nat)(t:Array Value),t.size=a.tmps.size->(∀k,k<lo\/lo+n<=k->a.tmps[k]?=t[k]?)->a.tmps=(List.range' lo n).foldl (λt k=>t.setIfInBounds k (a.tmps.getD k undef)) t:=by
  intro n
  induction n with
  |zero=>intro lo t _ h;simp only[List.range'_zero,List.foldl_nil];exact Array.ext_getElem? λk=>h k (by omega)
  |succ n j=>
   intro lo t l h;rw[List.range'_succ,List.foldl_cons];refine j (lo+1) _ (by simpa using l) λk m=>?_
   by_cases e:k=lo
   ·subst e
    by_cases d:k<t.size
    ·simp[d,Array.getD_eq_getD_getElem?,show k<a.tmps.size by omega]
    ·rw[Array.getElem?_eq_none (by omega),Array.getElem?_eq_none (by simp;omega)]
   ·rw[Array.getElem?_setIfInBounds_ne (λx=>e x.symm)]
    exact h k (by omega)
 cases a with|mk o p=>
 simp only at f g i|-
 subst f
 congr 1
 exact c (hi+1-lo) lo b.tmps g.symm λk m=>i k (by omega)
end Go.Proofs.YtalgmjmibamdfaaGreatDoor
namespace Go.Proofs.YtalgmjmibamdfaaGreatDoor
open Go.RowKit Tw
theorem zaA{w:World}{base e size n k:Nat}{v:Value}{xs:List Value}(h:w.ownsRow base e size v n xs)(b:w.heap.size<=k):v.ownBlock≠some k:=λa=>by
 have:=(h.lt k a).2;omega
def Qk(V:Mv)(vs:N1):Option (Nat×Nat)->Value
 |none=>.slice V.An vs.length V.cn
 |some (g,c)=>.slice (some ⟨g,0,none⟩) (vs.length+1) c
def Qi(V:Mv)(vs:N1):Option (Nat×Nat)->Value
 |none=>.slice V.Aa vs.length V.ca
 |some (g,c)=>.slice (some ⟨g,0,none⟩) (vs.length+1) c
def lnV(vs:N1):Option (Nat×Nat)->Nat
 |none=>vs.length
 |some _=>vs.length+1
def nmX(vs:N1)(nm:ByteArray):Option (Nat×Nat)->List Value
 |none=>X5 vs
 |some _=>X5 vs++[.string nm]
def noX(vs:N1)(many:Nat):Option (Nat×Nat)->List Value
 |none=>X6 vs
 |some _=>X6 vs++[.int .i64 many]
structure zz(w0 w:World)(mb:Nat)(U:Value)(V:Mv)(vs:N1)(many:Nat)(ops:List Q2)(nm:ByteArray)(p q:Option Nat)(P Q:Option (Nat×Nat))(s t:Bool):Prop where
 J7:w.heap[mb]?=some (.cells #[U,if s then Qk V vs P else Qk V vs none,if t then Qi V vs Q else Qi V vs none,.int .i64 many,.slice V.Ao ops.length V.co] 127 (0,0))
 rn:w.ownsRow mb 9 1 (Qk V vs P) (lnV vs P) (nmX vs nm P)
 ra:w.ownsRow mb 3 1 (Qi V vs Q) (lnV vs Q) (noX vs many Q)
 ro:w.ownsRow mb 74 2 (.slice V.Ao ops.length V.co) ops.length (X2 ops)
 pb: ∀g,p=some g->P=none->w.heap[g]?=some (.cells #[.string nm] 9 (0,0))/\(Qk V vs P).ownBlock≠some g
 qb: ∀g,q=some g->Q=none->w.heap[g]?=some (.cells #[.int .i64 many] 3 (0,0))/\(Qi V vs Q).ownBlock≠some g
 N5:Below mb w0 w
 kp:Kp w0 w
section
variable {w0 w w':World}{mb:Nat}{U:Value}{V:Mv}{vs:N1}{many:Nat}{ops:List Q2}{nm:ByteArray}{p q:Option Nat}{P Q:Option (Nat×Nat)}{s t:Bool}
theorem zz.lt(h:zz w0 w mb U V vs many ops nm p q P Q s t):mb<w.heap.size:=I0 h.J7
theorem zz.Qf(h:zz w0 w mb U V vs many ops nm p q P Q s t)(d:Obj):zz w0 (w.alloc d) mb U V vs many ops nm p q P Q s t:=by
 have a:=(x7 w.heap.size w).alloc (x6 _) d
 exact⟨(a.block mb h.lt).trans h.J7,K1 h.rn a,K1 h.ra a,K1 h.ro a,λg b c=>⟨(a.block g (I0 (h.pb g b c).1)).trans (h.pb g b c).1,(h.pb g b c).2⟩,
  λg b c=>⟨(a.block g (I0 (h.qb g b c).1)).trans (h.qb g b c).1,(h.qb g b c).2⟩,h.N5.trans (a.mono (G3 h.lt)),h.kp.trans (Kp.of a)⟩
theorem zz.zgD(h:zz w0 w mb U V vs many ops nm p q P Q s t):zz w0 (w.alloc (.cells #[.string nm] 9)) mb U V vs many ops nm (some w.heap.size) q P Q s t:=
 {h.Qf (.cells #[.string nm] 9)with pb:=λg a b=>by injection a with a;subst a;exact⟨x9 w _,zaA h.rn (x6 _)⟩}
theorem zz.zgG(h:zz w0 w mb U V vs many ops nm p q P Q s t):zz w0 (w.alloc (.cells #[.int .i64 many] 3)) mb U V vs many ops nm p (some w.heap.size) P Q s t:=
 {h.Qf (.cells #[.int .i64 many] 3)with qb:=λg a b=>by injection a with a;subst a;exact⟨x9 w _,zaA h.ra (x6 _)⟩}
theorem zz.zi5(h:zz w0 w mb U V vs many ops nm p q none Q s t)(hs:s=false){g c:Nat}(f:w'.ownsRow mb 9 1 (.slice (some ⟨g,0,none⟩) (vs.length+1) c) (vs.length+1) (X5 vs++[.string nm]))(a:w.grownBy w' (Qk V vs none).ownBlock):
 zz w0 w' mb U V vs many ops nm p q (some (g,c)) Q s t:=by
 subst hs;have b:=h.rn;refine⟨(a.block mb h.lt (λe=>K5 b h.J7 (by decide) e.symm)).trans h.J7,f,h.ra.kept a (jX h.ra b (by decide)),h.ro.kept a (jX h.ro b (by decide)),λ_ _ i=>(by cases i),λd j k=>?_,?_,?_⟩
 ·have:=h.qb d j k
  exact⟨(a.block d (I0 this.1) (λe=>K5 b this.1 (by decide) e.symm)).trans this.1,this.2⟩
 ·exact h.N5.trans (L3 (x7 mb w) b (x6 _) (G3 h.lt) a)
 ·exact h.kp.trans (Kp.U7 b (by simp) a)
theorem zz.zjh(h:zz w0 w mb U V vs many ops nm p q P none s t)(f:t=false){g c:Nat}(i:w'.ownsRow mb 3 1 (.slice (some ⟨g,0,none⟩) (vs.length+1) c) (vs.length+1) (X6 vs++[.int .i64 many]))(a:w.grownBy w' (Qi V vs none).ownBlock):
 zz w0 w' mb U V vs many ops nm p q P (some (g,c)) s t:=by
 subst f;have b:=h.ra;refine⟨(a.block mb h.lt (λe=>K5 b h.J7 (by decide) e.symm)).trans h.J7,h.rn.kept a (jX h.rn b (by decide)),i,h.ro.kept a (jX h.ro b (by decide)),λd j k=>?_,λ_ _ l=>(by cases l),?_,?_⟩
 ·have:=h.pb d j k
  exact⟨(a.block d (I0 this.1) (λe=>K5 b this.1 (by decide) e.symm)).trans this.1,this.2⟩
 ·exact h.N5.trans (L3 (x7 mb w) b (x6 _) (G3 h.lt) a)
 ·exact h.kp.trans (Kp.U7 b (by simp) a)
theorem zz.stS(h:zz w0 w mb U V vs many ops nm p q P Q s t):zz w0 (w.setCell ⟨mb,1,none⟩ (Qk V vs P)) mb U V vs many ops nm p q P Q true t:=by
 have b:=y4 w mb 1 _ _ (Qk V vs P) h.J7;have a:=I7 w mb 1 (Qk V vs P);refine⟨by simpa using b,h.rn.kept a (.inr (K5 h.rn h.J7 (by decide))),h.ra.kept a (.inr (K5 h.ra h.J7 (by decide))),h.ro.kept a (.inr (K5 h.ro h.J7 (by decide))),λg c f=>?_,λg c i=>?_,?_,?_⟩
 ·have:=h.pb g c f
  refine⟨(a.block g (I0 this.1) λe=>?_).trans this.1,this.2⟩;have e:g=mb:=by simpa using e
  subst e;have:=this.1.symm.trans h.J7;injection this with this;injection this with _ d;cases d
 ·have:=h.qb g c i
  refine⟨(a.block g (I0 this.1) λe=>?_).trans this.1,this.2⟩;have e:g=mb:=by simpa using e
  subst e;have:=this.1.symm.trans h.J7;injection this with this;injection this with _ d;cases d
 ·exact K8 h.N5 (x6 _) 1 _
 ·exact h.kp.trans (Kp.set h.J7 (by simp))
theorem zz.stI(h:zz w0 w mb U V vs many ops nm p q P Q s t):zz w0 (w.setCell ⟨mb,2,none⟩ (Qi V vs Q)) mb U V vs many ops nm p q P Q s true:=by
 have b:=y4 w mb 2 _ _ (Qi V vs Q) h.J7;have a:=I7 w mb 2 (Qi V vs Q);refine⟨by simpa using b,h.rn.kept a (.inr (K5 h.rn h.J7 (by decide))),h.ra.kept a (.inr (K5 h.ra h.J7 (by decide))),h.ro.kept a (.inr (K5 h.ro h.J7 (by decide))),λg c f=>?_,λg c i=>?_,?_,?_⟩
 ·have:=h.pb g c f
  refine⟨(a.block g (I0 this.1) λe=>?_).trans this.1,this.2⟩;have e:g=mb:=by simpa using e
  subst e;have:=this.1.symm.trans h.J7;injection this with this;injection this with _ d;cases d
 ·have:=h.qb g c i
  refine⟨(a.block g (I0 this.1) λe=>?_).trans this.1,this.2⟩;have e:g=mb:=by simpa using e
  subst e;have:=this.1.symm.trans h.J7;injection this with this;injection this with _ d;cases d
 ·exact K8 h.N5 (x6 _) 2 _
 ·exact h.kp.trans (Kp.set h.J7 (by simp))
theorem zz.start{us:List Fn}{F:Nat->Prop}(h:T4 w0 w mb U V vs many ops us F):zz w0 w mb U V vs many ops nm none none none none false false:=
 ⟨h.st.J7,h.st.rn,h.st.ra,h.st.ro,λ_ h=>(by cases h),λ_ h=>(by cases h),h.N5,h.kp⟩
theorem zz.done{us:List Fn}{F:Nat->Prop}{a c d e:Nat}(g:T4 w0 w0 mb U V vs many ops us F)(h:zz w0 w mb U V vs many ops nm p q (some (a,c)) (some (d,e)) true true):
 w.heap[mb]?=some (.cells #[U,.slice (some ⟨a,0,none⟩) (vs.length+1) c,.slice (some ⟨d,0,none⟩) (vs.length+1) e,.int .i64 many,.slice V.Ao ops.length V.co] 127 (0,0))/\
 T4 w0 (w.setCell ⟨mb,3,none⟩ (.int .i64 ((many:Int)+1))) mb U {V with An:=some ⟨a,0,none⟩,cn:=c,Aa:=some ⟨d,0,none⟩,ca:=e} (vs++[(nm,(many:Int))]) (many+1) ops us F:=by
 have b:=y4 w mb 3 _ _ (.int .i64 ((many:Int)+1)) h.J7;have f:=I7 w mb 3 (.int .i64 ((many:Int)+1));have i:=h.rn.kept f (.inr (K5 h.rn h.J7 (by decide)));have j:=h.ra.kept f (.inr (K5 h.ra h.J7 (by decide)));have k:=h.ro.kept f (.inr (K5 h.ro h.J7 (by decide)));refine⟨h.J7,g.QU ⟨?_,?_,?_,k⟩ (K8 h.N5 (x6 _) 3 _) (h.kp.trans (Kp.set h.J7 (by simp)))⟩
 ·rw[b];simp[Qk,Qi]
 ·rw[y7];simpa[Qk,lnV,nmX,X5]using i
 ·rw[y7];simpa[Qi,lnV,noX,X6]using j
end
def slV:Option Nat->Value
 |none=>.int .i64 0
 |some g=>.slice (some ⟨g,0,none⟩) 1 1
def P3(mb:Nat)(V:Mv)(vs:N1)(nm:ByteArray)(many:Nat)(p q:Option Nat)(P Q:Option (Nat×Nat)):jc:=
 [(0,5,.pointer (some ⟨mb,0,none⟩)),(1,6,.pointer (some ⟨mb,0,none⟩)),(2,7,.pointer (some ⟨mb,0,none⟩)),(3,8,.pointer (some ⟨mb,0,none⟩)),(4,9,.pointer (some ⟨mb,1,none⟩)),(5,10,Qk V vs none),(6,11,.string nm),(7,12,slV p),(8,13,Qk V vs P),(9,14,.pointer (some ⟨mb,0,none⟩)),(10,15,.pointer (some ⟨mb,0,none⟩)),(11,16,.pointer (some ⟨mb,2,none⟩)),(12,17,Qi V vs none),(13,18,.pointer (some ⟨mb,0,none⟩)),(14,19,.pointer (some ⟨mb,0,none⟩)),(15,20,.pointer (some ⟨mb,3,none⟩)),(16,21,.int .i64 many),(17,22,slV q),(18,23,Qi V vs Q),(19,24,.pointer (some ⟨mb,0,none⟩)),(20,25,.pointer (some ⟨mb,1,none⟩)),(22,26,.pointer (some ⟨mb,0,none⟩)),(23,27,.pointer (some ⟨mb,2,none⟩))]
theorem S9.change{T T':jc}{a0 a:Act}{L:Array Bool}(h:S9 T a0 L a)(g: ∀e∈T',L.getD e.1 false=true->e∈T)(i:T'.map (·.2.1)=T.map (·.2.1)):S9 T' a0 L a:=
 ⟨h.df,h.az,λe b f=>h.tb e (g e b f) f,λk j=>h.un k λe b c=>by
  have:e.2.1∈T'.map (·.2.1):=by rw[i];exact G1 b
  obtain⟨l,d,m⟩:=List.mem_map.1 this;exact j l d (m.trans c)⟩
section
variable {mb:Nat}{V:Mv}{vs:N1}{nm:ByteArray}{many:Nat}{p q p' q':Option Nat}{P Q P' Q':Option (Nat×Nat)}{a0 a:Act}{L:Array Bool}
theorem L1:(P3 mb V vs nm many p q P Q).map (·.2.1)=[5,6,7,8,9,10,11,12,13,14,15,16,17,18,19,20,21,22,23,24,25,26,27]:=rfl
theorem M3:(P3 mb V vs nm many p q P Q).map (·.1)=[0,1,2,3,4,5,6,7,8,9,10,11,12,13,14,15,16,17,18,19,20,22,23]:=rfl
theorem N6: ∀e∈P3 mb V vs nm many p q P Q,5<=e.2.1/\e.2.1<=27:=λe b=>by
 have h:e.2.1∈(P3 mb V vs nm many p q P Q).map (·.2.1):=G1 b;rw[L1]at h;have: ∀k∈[5,6,7,8,9,10,11,12,13,14,15,16,17,18,19,20,21,22,23,24,25,26,27],5<=k/\k<=27:=by decide
 exact this _ h
theorem qE(h:S9 (P3 mb V vs nm many p q P Q) a0 L a)(d:L.getD 7 false=true->p'=p)(f:L.getD 17 false=true->q'=q)(g:L.getD 8 false=true->P'=P)(i:L.getD 18 false=true->Q'=Q):S9 (P3 mb V vs nm many p' q' P' Q') a0 L a:=by
 refine h.change (λe c b=>?_) rfl;unfold P3 at c|-
 simp only[D9,List.mem_nil_iff,or_false]at c|-
 rcases c with rfl|rfl|rfl|rfl|rfl|rfl|rfl|rfl|rfl|rfl|rfl|rfl|rfl|rfl|rfl|rfl|rfl|rfl|rfl|rfl|rfl|rfl|rfl
 all_goals first
  |simp;done
  |(have:=d b;subst this;simp)
  |(have:=f b;subst this;simp)
  |(have:=g b;subst this;simp)
  |(have:=i b;subst this;simp)
end
end Go.Proofs.YtalgmjmibamdfaaGreatDoor
namespace Go.Proofs.YtalgmjmibamdfaaGreatDoor
open Go.Proofs.Tryz
open Go.RowKit Tw
theorem Jl{P:Program}{ops:Array Oper}{Q:Exit->Act->World->Prop}{i:Nat}{K:Act->World->Prop}{a:Act}{w:World}{o:Oper}(b:ops[i]?=some o)(h:if Region.wanted o (yielded ops a.tmps)=true then Oper.wp P o a w K Q else False):wpOp P ops Q i K a w:=by
 unfold wpOp;rw[b];simp only
 split at h
 ·rename_i c;rw[C5 c];exact .inl h
 ·exact h.elim
theorem Yv{a:Region.Mode}{ops:Array Oper}{L:Array Bool}(h:Region.ready a ops L=[]){i:Nat}{o:Oper}(c:ops[i]?=some o)(f:i<L.size)(g: ∀e∈o.after.toList,Region.binds a e=true->L.getD e.on false=true):L.getD i false=true:=by
 cases b:L.getD i false with
 |true=>rfl
 |false=>
  exfalso;have d:i∈Region.ready a ops L:=by
   unfold Region.ready;rw[List.mem_filter];refine⟨List.mem_range.2 (Array.getElem?_eq_some_iff.1 c).1,?_⟩;have j:L.getD i true=false:=by
    rw[E5]at b|-
    rw[Array.getElem?_eq_getElem f]at b|-
    exact b
   rw[j,c];simp only[Bool.not_false,Bool.true_and,Option.map_some,Option.getD_some];rw[<-Array.all_toList];exact List.all_eq_true.2 λe k=>by
    cases l:Region.binds a e with
    |false=>simp
    |true=>rw[g e k l];simp
  rw[h]at d;cases d
theorem Yo{ops:Array Oper}{L:Array Bool}(j:L.size=ops.size)(b:Region.ready .any ops L=[])(c:((List.range ops.size).all λi=>match ops[i]? with|some o=>o.after.toList.all (λe=>!Region.binds .any e||decide (e.on<i))|none=>true)=true): ∀n i,i<n->i<ops.size->L.getD i false=true:=by
 intro n
 induction n with
 |zero=>intro i h;omega
 |succ n d=>
  intro i _ h;refine Yv b (Array.getElem?_eq_getElem h) (by omega) λe f g=>?_;have a:=List.all_eq_true.1 c i (List.mem_range.2 h);rw[Array.getElem?_eq_getElem h]at a;have k:e.on<i:=by have:=List.all_eq_true.1 a e f;rw[g]at this;simpa using this
  exact d e.on (by omega) (by omega)
theorem js{P:Program}{ops:Array Oper}{Q:Exit->Act->World->Prop}{m:Nat}{a:Act}{w:World}(p:P.follows .mixedOrders=true)(n:Nat)(g:ops.size=n)(J:Array Bool->Act->World->Prop)(q:J (Array.replicate n false) a w.drew)
 (b: ∀L a w i,L.size=n->Clo ops L->J L a w->i∈Region.ready .any ops L->wpOp P ops Q i (λl w'=>J (L.setIfInBounds i true) l w') a w)
 (r:((List.range ops.size).all λi=>match ops[i]? with|some o=>o.after.toList.all (λe=>!Region.binds .any e||decide (e.on<i))|none=>true)=true)
 (c: ∀L a w,(∀i,i<n->L.getD i false=true)->J L a w->Q .normal a w):(Code.region m ops true).wp P Q a w:=by
 subst g;refine Yp p (λL a w=>L.size=ops.size/\Clo ops L/\J L a w) ⟨by simp,Clo.start _ _,q⟩ ?_ ?_
 ·rintro L a w i ⟨d,j,k⟩ f
  exact wpOp_mono (λl w' h=>⟨by simpa using d,j.next f,h⟩) (b L a w i d j k f)
 ·rintro L a w ⟨d,j,k⟩ s
  exact c L a w (λi f=>Yo d s r _ i (Nat.lt_succ_self i) f) k
theorem zeB(nm:ByteArray)(F:Nat->Prop)(w:World)(b:Nat)(U:Value)(V:Mv)(vs:N1)(f:Nat)(ops:List Q2)(us:List Fn)(hl:vs.length<=1000)(hm:f<=1000)(h:T4 w w b U V vs f ops us F):
 Calls prog 57 #[.pointer (some ⟨b,0,none⟩),.string nm] w λe w'=>e=.returned (.int .i64 f)/\ ∃V',T4 w w' b U V' (vs++[(nm,(f:Int))]) (f+1) ops us F:=by
 have HF:=zh h;clear h
 go_enter func57,ntmps57
 go_upto_region 1 with(fail)
 generalize B:Act.mk _ _=K;have e0:K.tmps[0]?=some (.pointer (some ⟨b,0,none⟩)):=by rw[<-B];rfl
 have e1:K.tmps[1]?=some (.string nm):=by rw[<-B];rfl
 have ez:K.tmps.size=40:=by rw[<-B];rfl
 have N:=zh B;clear B;refine js (by kernel_rfl) 25 rfl (λL a w'=> ∃p q P Q,S9 (P3 b V vs nm f p q P Q) K L a/\zz w w' b U V vs f ops nm p q P Q (L.getD 21 false) (L.getD 24 false)/\p.isSome=L.getD 7 false/\q.isSome=L.getD 17 false/\P.isSome=L.getD 8 false/\Q.isSome=L.getD 18 false) ?_ ?_ (by kernel_rfl) ?_
 ·refine⟨none,none,none,none,S9.start _ _ _,?_,?_,?_,?_,?_⟩
  ·rw[U8,U8];exact zz.start (HF.out.below (I8 w))
  all_goals rw[U8];rfl
 ·rintro L a w' i hz M ⟨p,q,P,Q,c,l,o,r,m,n⟩ s
  have c7:i<25:=(zL s).1;have u:=ye s (by omega);have O:=(c.un 0 λe d=>by have:=N6 e d;omega).trans e0;have f1:=(c.un 1 λe d=>by have:=N6 e d;omega).trans e1;have x1:w'.cell? ⟨b,1,none⟩=some (if L.getD 21 false then Qk V vs P else Qk V vs none):=x5 l.J7 1;have x2:w'.cell? ⟨b,2,none⟩=some (if L.getD 24 false then Qi V vs Q else Qi V vs none):=x5 l.J7 2;have x3:w'.cell? ⟨b,3,none⟩=some (.int .i64 f):=x5 l.J7 3;have y1:=z6 l.J7 1;have y2:=z6 l.J7 2;have a9:i=0\/i=1\/i=2\/i=3\/i=4\/i=5\/i=6\/i=7\/i=8\/i=9\/i=10\/i=11\/i=12\/i=13\/i=14\/i=15\/i=16\/i=17\/i=18\/i=19\/i=20\/i=21\/i=22\/i=23\/i=24:=by omega
  rcases a9 with rfl|rfl|rfl|rfl|rfl|rfl|rfl|rfl|rfl|rfl|rfl|rfl|rfl|rfl|rfl|rfl|rfl|rfl|rfl|rfl|rfl|rfl|rfl|rfl|rfl
  ·have j:=J3 s rfl
   refine J4 5 (w':=w') (v:=.pointer (some ⟨b,0,none⟩)) rfl rfl rfl (by simp[execOp,go_sem,O];try rfl) ?_;exact⟨p,q,P,Q,c.put (by rw[M3];decide) (by rw[L1];decide) (λe d=>by have:=N6 e d;omega) (0,5,.pointer (some ⟨b,0,none⟩)) (by unfold P3;simp),by rw[I2 (by decide),I2 (by decide)];exact l,by rw[I2 (by decide)];exact o,by rw[I2 (by decide)];exact r,by rw[I2 (by decide)];exact m,by rw[I2 (by decide)];exact n⟩
  ·have j:=J3 s rfl
   refine J4 6 (w':=w') (v:=.pointer (some ⟨b,0,none⟩)) rfl rfl rfl (by simp[execOp,go_sem,O];try rfl) ?_;exact⟨p,q,P,Q,c.put (by rw[M3];decide) (by rw[L1];decide) (λe d=>by have:=N6 e d;omega) (1,6,.pointer (some ⟨b,0,none⟩)) (by unfold P3;simp),by rw[I2 (by decide),I2 (by decide)];exact l,by rw[I2 (by decide)];exact o,by rw[I2 (by decide)];exact r,by rw[I2 (by decide)];exact m,by rw[I2 (by decide)];exact n⟩
  ·have j:=J3 s rfl
   refine J4 7 (w':=w') (v:=.pointer (some ⟨b,0,none⟩)) rfl rfl rfl (by simp[execOp,go_sem,O];try rfl) ?_;exact⟨p,q,P,Q,c.put (by rw[M3];decide) (by rw[L1];decide) (λe d=>by have:=N6 e d;omega) (2,7,.pointer (some ⟨b,0,none⟩)) (by unfold P3;simp),by rw[I2 (by decide),I2 (by decide)];exact l,by rw[I2 (by decide)];exact o,by rw[I2 (by decide)];exact r,by rw[I2 (by decide)];exact m,by rw[I2 (by decide)];exact n⟩
  ·have j:=J3 s rfl
   have g2:L.getD 2 false=true:=j ⟨2,.data⟩ (by simp) (by decide);have v2:=c.tb (2,7,.pointer (some ⟨b,0,none⟩)) (by unfold P3;simp) g2;simp only at v2;refine J4 8 (w':=w') (v:=.pointer (some ⟨b,0,none⟩)) rfl rfl rfl (by simp[execOp,go_sem,v2];try rfl) ?_;exact⟨p,q,P,Q,c.put (by rw[M3];decide) (by rw[L1];decide) (λe d=>by have:=N6 e d;omega) (3,8,.pointer (some ⟨b,0,none⟩)) (by unfold P3;simp),by rw[I2 (by decide),I2 (by decide)];exact l,by rw[I2 (by decide)];exact o,by rw[I2 (by decide)];exact r,by rw[I2 (by decide)];exact m,by rw[I2 (by decide)];exact n⟩
  ·have j:=J3 s rfl
   have g3:L.getD 3 false=true:=j ⟨3,.data⟩ (by simp) (by decide);have v3:=c.tb (3,8,.pointer (some ⟨b,0,none⟩)) (by unfold P3;simp) g3;simp only at v3;refine J4 9 (w':=w') (v:=.pointer (some ⟨b,1,none⟩)) rfl rfl rfl (by simp[execOp,go_sem,v3];try rfl) ?_;exact⟨p,q,P,Q,c.put (by rw[M3];decide) (by rw[L1];decide) (λe d=>by have:=N6 e d;omega) (4,9,.pointer (some ⟨b,1,none⟩)) (by unfold P3;simp),by rw[I2 (by decide),I2 (by decide)];exact l,by rw[I2 (by decide)];exact o,by rw[I2 (by decide)];exact r,by rw[I2 (by decide)];exact m,by rw[I2 (by decide)];exact n⟩
  ·have j:=J3 s rfl
   have g4:L.getD 4 false=true:=j ⟨4,.data⟩ (by simp) (by decide);have v4:=c.tb (4,9,.pointer (some ⟨b,1,none⟩)) (by unfold P3;simp) g4;simp only at v4;have b0:L.getD 21 false=false:=by
    cases b1:L.getD 21 false with
    |false=>rfl
    |true=>have C:=M 21 _ rfl b1 ⟨8,.data⟩ (by simp) (by decide);have R:=M 8 _ rfl C ⟨5,.data⟩ (by simp) (by decide);rw[u]at R;cases R
   rw[b0,z7 (by decide)]at x1;refine J4 10 (w':=w') (v:=Qk V vs none) rfl rfl rfl (by simp[execOp,go_sem,v4,x1];try rfl) ?_;exact⟨p,q,P,Q,c.put (by rw[M3];decide) (by rw[L1];decide) (λe d=>by have:=N6 e d;omega) (5,10,Qk V vs none) (by unfold P3;simp),by rw[I2 (by decide),I2 (by decide)];exact l,by rw[I2 (by decide)];exact o,by rw[I2 (by decide)];exact r,by rw[I2 (by decide)];exact m,by rw[I2 (by decide)];exact n⟩
  ·have j:=J3 s rfl
   refine J4 11 (w':=w') (v:=.string nm) rfl rfl rfl (by simp[execOp,go_sem,f1];try rfl) ?_;exact⟨p,q,P,Q,c.put (by rw[M3];decide) (by rw[L1];decide) (λe d=>by have:=N6 e d;omega) (6,11,.string nm) (by unfold P3;simp),by rw[I2 (by decide),I2 (by decide)];exact l,by rw[I2 (by decide)];exact o,by rw[I2 (by decide)];exact r,by rw[I2 (by decide)];exact m,by rw[I2 (by decide)];exact n⟩
  ·have j:=J3 s rfl
   have g6:L.getD 6 false=true:=j ⟨6,.data⟩ (by simp) (by decide);have v6:=c.tb (6,11,.string nm) (by unfold P3;simp) g6;simp only at v6;refine J4 12 (w':=w'.alloc (.cells #[.string nm] 9)) (v:=slV (some w'.heap.size)) rfl rfl rfl (by simp[execOp,go_sem,slV,v6];try rfl) ?_;exact⟨some w'.heap.size,q,P,Q,(qE (p':=some w'.heap.size) (q':=q) (P':=P) (Q':=Q) c (λh=>by rw[u]at h;cases h) (λ_=>rfl) (λ_=>rfl) (λ_=>rfl)).put (by rw[M3];decide) (by rw[L1];decide) (λe d=>by have:=N6 e d;omega) (7,12,slV (some w'.heap.size)) (by unfold P3;simp),by rw[I2 (by decide),I2 (by decide)];exact l.zgD,by rw[M4 (by omega)];rfl,by rw[I2 (by decide)];exact r,by rw[I2 (by decide)];exact m,by rw[I2 (by decide)];exact n⟩
  ·have j:=J3 s rfl
   have g5:L.getD 5 false=true:=j ⟨5,.data⟩ (by simp) (by decide);have v5:=c.tb (5,10,Qk V vs none) (by unfold P3;simp) g5;simp only at v5;have g7:L.getD 7 false=true:=j ⟨7,.data⟩ (by simp) (by decide);have v7:=c.tb (7,12,slV p) (by unfold P3;simp) g7;simp only at v7;have G:L.getD 21 false=false:=by
    cases H:L.getD 21 false with
    |false=>rfl
    |true=>have C:=M 21 _ rfl H ⟨8,.data⟩ (by simp) (by decide);rw[u]at C;cases C
   obtain rfl:P=none:=by rw[u]at m;cases P with|none=>rfl|some _=>cases m
   obtain⟨D,rfl⟩: ∃g,p=some g:=by rw[g7]at o;cases p with|none=>cases o|some g=>exact⟨g,rfl⟩
   refine Jl rfl (qX JP rfl (.tmp 10) (.tmp 12) rfl b _ vs.length (X5 vs) (qU v5) l.rn D 1 #[.string nm] (qU v7) (l.pb D rfl rfl).1 rfl (by simp[Value.oneCell']) (by omega) (G3 l.lt) ?_);intro x A w9 o1 k1 _ _;exact⟨some D,q,some (x,A),Q,(qE (p':=some D) (q':=q) (P':=some (x,A)) (Q':=Q) c (λ_=>rfl) (λ_=>rfl) (λh=>by rw[u]at h;cases h) (λ_=>rfl)).put (by rw[M3];decide) (by rw[L1];decide) (λe d=>by have:=N6 e d;omega) (8,13,Qk V vs (some (x,A))) (by unfold P3;simp),by rw[I2 (by decide),I2 (by decide)];exact l.zi5 G o1 k1,by rw[I2 (by decide)];exact o,by rw[I2 (by decide)];exact r,by rw[M4 (by omega)];rfl,by rw[I2 (by decide)];exact n⟩
  ·have j:=J3 s rfl
   refine J4 14 (w':=w') (v:=.pointer (some ⟨b,0,none⟩)) rfl rfl rfl (by simp[execOp,go_sem,O];try rfl) ?_;exact⟨p,q,P,Q,c.put (by rw[M3];decide) (by rw[L1];decide) (λe d=>by have:=N6 e d;omega) (9,14,.pointer (some ⟨b,0,none⟩)) (by unfold P3;simp),by rw[I2 (by decide),I2 (by decide)];exact l,by rw[I2 (by decide)];exact o,by rw[I2 (by decide)];exact r,by rw[I2 (by decide)];exact m,by rw[I2 (by decide)];exact n⟩
  ·have j:=J3 s rfl
   have g9:L.getD 9 false=true:=j ⟨9,.data⟩ (by simp) (by decide);have v9:=c.tb (9,14,.pointer (some ⟨b,0,none⟩)) (by unfold P3;simp) g9;simp only at v9;refine J4 15 (w':=w') (v:=.pointer (some ⟨b,0,none⟩)) rfl rfl rfl (by simp[execOp,go_sem,v9];try rfl) ?_;exact⟨p,q,P,Q,c.put (by rw[M3];decide) (by rw[L1];decide) (λe d=>by have:=N6 e d;omega) (10,15,.pointer (some ⟨b,0,none⟩)) (by unfold P3;simp),by rw[I2 (by decide),I2 (by decide)];exact l,by rw[I2 (by decide)];exact o,by rw[I2 (by decide)];exact r,by rw[I2 (by decide)];exact m,by rw[I2 (by decide)];exact n⟩
  ·have j:=J3 s rfl
   have b2:L.getD 10 false=true:=j ⟨10,.data⟩ (by simp) (by decide);have S:=c.tb (10,15,.pointer (some ⟨b,0,none⟩)) (by unfold P3;simp) b2;simp only at S;refine J4 16 (w':=w') (v:=.pointer (some ⟨b,2,none⟩)) rfl rfl rfl (by simp[execOp,go_sem,S];try rfl) ?_;exact⟨p,q,P,Q,c.put (by rw[M3];decide) (by rw[L1];decide) (λe d=>by have:=N6 e d;omega) (11,16,.pointer (some ⟨b,2,none⟩)) (by unfold P3;simp),by rw[I2 (by decide),I2 (by decide)];exact l,by rw[I2 (by decide)];exact o,by rw[I2 (by decide)];exact r,by rw[I2 (by decide)];exact m,by rw[I2 (by decide)];exact n⟩
  ·have j:=J3 s rfl
   have b3:L.getD 11 false=true:=j ⟨11,.data⟩ (by simp) (by decide);have T:=c.tb (11,16,.pointer (some ⟨b,2,none⟩)) (by unfold P3;simp) b3;simp only at T;have b4:L.getD 24 false=false:=by
    cases b5:L.getD 24 false with
    |false=>rfl
    |true=>have C:=M 24 _ rfl b5 ⟨18,.data⟩ (by simp) (by decide);have R:=M 18 _ rfl C ⟨12,.data⟩ (by simp) (by decide);rw[u]at R;cases R
   rw[b4,z7 (by decide)]at x2;refine J4 17 (w':=w') (v:=Qi V vs none) rfl rfl rfl (by simp[execOp,go_sem,T,x2];try rfl) ?_;exact⟨p,q,P,Q,c.put (by rw[M3];decide) (by rw[L1];decide) (λe d=>by have:=N6 e d;omega) (12,17,Qi V vs none) (by unfold P3;simp),by rw[I2 (by decide),I2 (by decide)];exact l,by rw[I2 (by decide)];exact o,by rw[I2 (by decide)];exact r,by rw[I2 (by decide)];exact m,by rw[I2 (by decide)];exact n⟩
  ·have j:=J3 s rfl
   refine J4 18 (w':=w') (v:=.pointer (some ⟨b,0,none⟩)) rfl rfl rfl (by simp[execOp,go_sem,O];try rfl) ?_;exact⟨p,q,P,Q,c.put (by rw[M3];decide) (by rw[L1];decide) (λe d=>by have:=N6 e d;omega) (13,18,.pointer (some ⟨b,0,none⟩)) (by unfold P3;simp),by rw[I2 (by decide),I2 (by decide)];exact l,by rw[I2 (by decide)];exact o,by rw[I2 (by decide)];exact r,by rw[I2 (by decide)];exact m,by rw[I2 (by decide)];exact n⟩
  ·have j:=J3 s rfl
   have b6:L.getD 13 false=true:=j ⟨13,.data⟩ (by simp) (by decide);have W:=c.tb (13,18,.pointer (some ⟨b,0,none⟩)) (by unfold P3;simp) b6;simp only at W;refine J4 19 (w':=w') (v:=.pointer (some ⟨b,0,none⟩)) rfl rfl rfl (by simp[execOp,go_sem,W];try rfl) ?_;exact⟨p,q,P,Q,c.put (by rw[M3];decide) (by rw[L1];decide) (λe d=>by have:=N6 e d;omega) (14,19,.pointer (some ⟨b,0,none⟩)) (by unfold P3;simp),by rw[I2 (by decide),I2 (by decide)];exact l,by rw[I2 (by decide)];exact o,by rw[I2 (by decide)];exact r,by rw[I2 (by decide)];exact m,by rw[I2 (by decide)];exact n⟩
  ·have j:=J3 s rfl
   have b7:L.getD 14 false=true:=j ⟨14,.data⟩ (by simp) (by decide);have X:=c.tb (14,19,.pointer (some ⟨b,0,none⟩)) (by unfold P3;simp) b7;simp only at X;refine J4 20 (w':=w') (v:=.pointer (some ⟨b,3,none⟩)) rfl rfl rfl (by simp[execOp,go_sem,X];try rfl) ?_;exact⟨p,q,P,Q,c.put (by rw[M3];decide) (by rw[L1];decide) (λe d=>by have:=N6 e d;omega) (15,20,.pointer (some ⟨b,3,none⟩)) (by unfold P3;simp),by rw[I2 (by decide),I2 (by decide)];exact l,by rw[I2 (by decide)];exact o,by rw[I2 (by decide)];exact r,by rw[I2 (by decide)];exact m,by rw[I2 (by decide)];exact n⟩
  ·have j:=J3 s rfl
   have b8:L.getD 15 false=true:=j ⟨15,.data⟩ (by simp) (by decide);have Y:=c.tb (15,20,.pointer (some ⟨b,3,none⟩)) (by unfold P3;simp) b8;simp only at Y;refine J4 21 (w':=w') (v:=.int .i64 f) rfl rfl rfl (by simp[execOp,go_sem,Y,x3];try rfl) ?_;exact⟨p,q,P,Q,c.put (by rw[M3];decide) (by rw[L1];decide) (λe d=>by have:=N6 e d;omega) (16,21,.int .i64 f) (by unfold P3;simp),by rw[I2 (by decide),I2 (by decide)];exact l,by rw[I2 (by decide)];exact o,by rw[I2 (by decide)];exact r,by rw[I2 (by decide)];exact m,by rw[I2 (by decide)];exact n⟩
  ·have j:=J3 s rfl
   have b9:L.getD 16 false=true:=j ⟨16,.data⟩ (by simp) (by decide);have Z:=c.tb (16,21,.int .i64 f) (by unfold P3;simp) b9;simp only at Z;refine J4 22 (w':=w'.alloc (.cells #[.int .i64 f] 3)) (v:=slV (some w'.heap.size)) rfl rfl rfl (by simp[execOp,go_sem,slV,Z];try rfl) ?_;exact⟨p,some w'.heap.size,P,Q,(qE (p':=p) (q':=some w'.heap.size) (P':=P) (Q':=Q) c (λ_=>rfl) (λh=>by rw[u]at h;cases h) (λ_=>rfl) (λ_=>rfl)).put (by rw[M3];decide) (by rw[L1];decide) (λe d=>by have:=N6 e d;omega) (17,22,slV (some w'.heap.size)) (by unfold P3;simp),by rw[I2 (by decide),I2 (by decide)];exact l.zgG,by rw[I2 (by decide)];exact o,by rw[M4 (by omega)];rfl,by rw[I2 (by decide)];exact m,by rw[I2 (by decide)];exact n⟩
  ·have j:=J3 s rfl
   have c0:L.getD 12 false=true:=j ⟨12,.data⟩ (by simp) (by decide);have a1:=c.tb (12,17,Qi V vs none) (by unfold P3;simp) c0;simp only at a1;have a2:L.getD 17 false=true:=j ⟨17,.data⟩ (by simp) (by decide);have a3:=c.tb (17,22,slV q) (by unfold P3;simp) a2;simp only at a3;have G:L.getD 24 false=false:=by
    cases H:L.getD 24 false with
    |false=>rfl
    |true=>have C:=M 24 _ rfl H ⟨18,.data⟩ (by simp) (by decide);rw[u]at C;cases C
   obtain rfl:Q=none:=by rw[u]at n;cases Q with|none=>rfl|some _=>cases n
   obtain⟨D,rfl⟩: ∃g,q=some g:=by rw[a2]at r;cases q with|none=>cases r|some g=>exact⟨g,rfl⟩
   refine Jl rfl (qX Zd rfl (.tmp 17) (.tmp 22) rfl b _ vs.length (X6 vs) (qU a1) l.ra D 1 #[.int .i64 f] (qU a3) (l.qb D rfl rfl).1 rfl (by simp[Value.oneCell']) (by omega) (G3 l.lt) ?_);intro x A w9 o1 k1 _ _;exact⟨p,some D,P,some (x,A),(qE (p':=p) (q':=some D) (P':=P) (Q':=some (x,A)) c (λ_=>rfl) (λ_=>rfl) (λ_=>rfl) (λh=>by rw[u]at h;cases h)).put (by rw[M3];decide) (by rw[L1];decide) (λe d=>by have:=N6 e d;omega) (18,23,Qi V vs (some (x,A))) (by unfold P3;simp),by rw[I2 (by decide),I2 (by decide)];exact l.zjh G o1 k1,by rw[I2 (by decide)];exact o,by rw[I2 (by decide)];exact r,by rw[I2 (by decide)];exact m,by rw[M4 (by omega)];rfl⟩
  ·have j:=J3 s rfl
   have g0:L.getD 0 false=true:=j ⟨0,.data⟩ (by simp) (by decide);have v0:=c.tb (0,5,.pointer (some ⟨b,0,none⟩)) (by unfold P3;simp) g0;simp only at v0;refine J4 24 (w':=w') (v:=.pointer (some ⟨b,0,none⟩)) rfl rfl rfl (by simp[execOp,go_sem,v0];try rfl) ?_;exact⟨p,q,P,Q,c.put (by rw[M3];decide) (by rw[L1];decide) (λe d=>by have:=N6 e d;omega) (19,24,.pointer (some ⟨b,0,none⟩)) (by unfold P3;simp),by rw[I2 (by decide),I2 (by decide)];exact l,by rw[I2 (by decide)];exact o,by rw[I2 (by decide)];exact r,by rw[I2 (by decide)];exact m,by rw[I2 (by decide)];exact n⟩
  ·have j:=J3 s rfl
   have c3:L.getD 19 false=true:=j ⟨19,.data⟩ (by simp) (by decide);have a4:=c.tb (19,24,.pointer (some ⟨b,0,none⟩)) (by unfold P3;simp) c3;simp only at a4;refine J4 25 (w':=w') (v:=.pointer (some ⟨b,1,none⟩)) rfl rfl rfl (by simp[execOp,go_sem,a4];try rfl) ?_;exact⟨p,q,P,Q,c.put (by rw[M3];decide) (by rw[L1];decide) (λe d=>by have:=N6 e d;omega) (20,25,.pointer (some ⟨b,1,none⟩)) (by unfold P3;simp),by rw[I2 (by decide),I2 (by decide)];exact l,by rw[I2 (by decide)];exact o,by rw[I2 (by decide)];exact r,by rw[I2 (by decide)];exact m,by rw[I2 (by decide)];exact n⟩
  ·have j:=J3 s rfl
   have c4:L.getD 20 false=true:=j ⟨20,.data⟩ (by simp) (by decide);have a5:=c.tb (20,25,.pointer (some ⟨b,1,none⟩)) (by unfold P3;simp) c4;simp only at a5;have g8:L.getD 8 false=true:=j ⟨8,.data⟩ (by simp) (by decide);have v8:=c.tb (8,13,Qk V vs P) (by unfold P3;simp) g8;simp only at v8;obtain⟨⟨x,A⟩,rfl⟩: ∃g,P=some g:=by rw[g8]at m;cases P with|none=>cases m|some g=>exact⟨g,rfl⟩
   simp only[Qk]at v8;refine qn (w':=w'.setCell ⟨b,1,none⟩ (Qk V vs (some (x,A)))) rfl rfl rfl (by simp[execOp,go_sem,a5,v8,Qk,x1,y1];try rfl) ?_;exact⟨p,q,some (x,A),Q,c.skip 21 (λe d hh=>by have h:e.1∈(P3 b V vs nm f p q (some (x,A)) Q).map (·.1):=G1 d;rw[M3,hh]at h;revert h;decide),by rw[M4 (by omega),I2 (by decide)];exact l.stS,by rw[I2 (by decide)];exact o,by rw[I2 (by decide)];exact r,by rw[I2 (by decide)];exact m,by rw[I2 (by decide)];exact n⟩
  ·have j:=J3 s rfl
   have x:L.getD 1 false=true:=j ⟨1,.data⟩ (by simp) (by decide);have v1:=c.tb (1,6,.pointer (some ⟨b,0,none⟩)) (by unfold P3;simp) x;simp only at v1;refine J4 26 (w':=w') (v:=.pointer (some ⟨b,0,none⟩)) rfl rfl rfl (by simp[execOp,go_sem,v1];try rfl) ?_;exact⟨p,q,P,Q,c.put (by rw[M3];decide) (by rw[L1];decide) (λe d=>by have:=N6 e d;omega) (22,26,.pointer (some ⟨b,0,none⟩)) (by unfold P3;simp),by rw[I2 (by decide),I2 (by decide)];exact l,by rw[I2 (by decide)];exact o,by rw[I2 (by decide)];exact r,by rw[I2 (by decide)];exact m,by rw[I2 (by decide)];exact n⟩
  ·have j:=J3 s rfl
   have c5:L.getD 22 false=true:=j ⟨22,.data⟩ (by simp) (by decide);have a6:=c.tb (22,26,.pointer (some ⟨b,0,none⟩)) (by unfold P3;simp) c5;simp only at a6;refine J4 27 (w':=w') (v:=.pointer (some ⟨b,2,none⟩)) rfl rfl rfl (by simp[execOp,go_sem,a6];try rfl) ?_;exact⟨p,q,P,Q,c.put (by rw[M3];decide) (by rw[L1];decide) (λe d=>by have:=N6 e d;omega) (23,27,.pointer (some ⟨b,2,none⟩)) (by unfold P3;simp),by rw[I2 (by decide),I2 (by decide)];exact l,by rw[I2 (by decide)];exact o,by rw[I2 (by decide)];exact r,by rw[I2 (by decide)];exact m,by rw[I2 (by decide)];exact n⟩
  ·have j:=J3 s rfl
   have c6:L.getD 23 false=true:=j ⟨23,.data⟩ (by simp) (by decide);have a7:=c.tb (23,27,.pointer (some ⟨b,2,none⟩)) (by unfold P3;simp) c6;simp only at a7;have a8:L.getD 18 false=true:=j ⟨18,.data⟩ (by simp) (by decide);have I:=c.tb (18,23,Qi V vs Q) (by unfold P3;simp) a8;simp only at I;obtain⟨⟨x,A⟩,rfl⟩: ∃g,Q=some g:=by rw[a8]at n;cases Q with|none=>cases n|some g=>exact⟨g,rfl⟩
   simp only[Qi]at I;refine qn (w':=w'.setCell ⟨b,2,none⟩ (Qi V vs (some (x,A)))) rfl rfl rfl (by simp[execOp,go_sem,a7,I,Qi,x2,y2];try rfl) ?_;exact⟨p,q,P,some (x,A),c.skip 24 (λe d hh=>by have h:e.1∈(P3 b V vs nm f p q P (some (x,A))).map (·.1):=G1 d;rw[M3,hh]at h;revert h;decide),by rw[I2 (by decide),M4 (by omega)];exact l.stI,by rw[I2 (by decide)];exact o,by rw[I2 (by decide)];exact r,by rw[I2 (by decide)];exact m,by rw[I2 (by decide)];exact n⟩
 ·rintro L a w' z ⟨p,q,P,Q,c,l,o,r,m,n⟩
  rw[z 8 (by decide)]at m;rw[z 18 (by decide)]at n;rw[z 21 (by decide),z 24 (by decide)]at l;obtain⟨⟨x,A⟩,rfl⟩: ∃g,P=some g:=by cases P with|none=>cases m|some g=>exact⟨g,rfl⟩
  obtain⟨⟨g2,c2⟩,rfl⟩: ∃g,Q=some g:=by cases Q with|none=>cases n|some g=>exact⟨g,rfl⟩
  have E:=zak (lo:=5) (hi:=27) c.df c.az (λk hk=>c.un k λe d=>by have:=N6 e d;omega);obtain⟨y,hy⟩: ∃y:Nat->Value,a=⟨(List.range' 5 23).foldl (λt k=>t.setIfInBounds k (y k)) K.tmps,K.defers⟩:=⟨_,E⟩;clear E c z o r m n e0 e1 ez;subst hy;have B:=N.out;clear N;subst B;have hD:=l.done HF.out;have x3:=x5 hD.1 3;have y3:=z6 hD.1 3;have J:=zh hD.2;clear hD l HF;simp only[List.range',List.foldl];go_simp
  go_upto_region 3 with(fail)
  clear x3 y3;generalize World.setCell _ _ _=w9 at J|-
  have x3:=(zE J.out.st).1.2.2.2.1
  go_wp2_with fail
  go_ret;exact⟨by simp,_,J.out⟩
end Go.Proofs.YtalgmjmibamdfaaGreatDoor
