/- Merged. -/
import Derived.Test.YtalgmjmibamdfaaGreatDoorCO12b
set_option linter.all false
set_option maxRecDepth 100000
set_option maxHeartbeats 16000000
namespace Go.Proofs.YtalgmjmibamdfaaGreatDoor
open Go.Proofs.Tryz
open Go.RowKit Tw
theorem ye(k:Nat):(Builtin.zeroCells (Value.int .i64 0).cells k)=(iC (List.replicate k 0)).toArray:=by
 apply Array.ext';apply List.ext_getElem
 ·simp[Builtin.zeroCells,iC,Value.cells]
 ·intro i a b
  simp[Builtin.zeroCells,iC,Value.cells,Nat.mod_one]
theorem zdj{w:World}(L:TypeId){base n c:Nat}{A:Option Addr}{xs:List Int}(k:Nat)(z:w.ownsRow base 3 1 (.slice A n c) n (iC xs))(hn:n+k<=1000000)(hb:base<=w.heap.size):
 ∃A' c' w',(Builtin.append_ #[22,3] L #[.slice A n c,.int .i64 k]).run prog w=.ok (.slice A' (n+k) c') w'/\w'.ownsRow base 3 1 (.slice A' (n+k) c') (n+k) (iC (xs++List.replicate k 0))/\w.grownBy w' (Value.slice A n c).ownBlock/\ ∀g,(Value.slice A' (n+k) c').ownBlock=some g->(Value.slice A n c).ownBlock=some g\/g=w.heap.size:=by
 have y:=underlying22;have o:Tryz.prog.underlying 3=some (.int .i64):=by kernel_rfl
 obtain⟨i,G,M,H,p⟩:=info_parts ZW;have C:(iC xs).length=n:=by have:=z.1;omega
 have a:xs.length=n:=by rw[<-C,ju]
 rcases Nat.eq_zero_or_pos k with rfl|Y
 ·have N:=(N9 z).1
  refine⟨A,c,w,?_,by simpa using z,World.grownBy.refl _ _,λg h=>.inl h⟩;cases A<;>simp[Builtin.append_,run_underlying y,run_underlying o,sizeOf,typeInfo,G,asInt,asIntOf,N,storeCells,IntWalk.i64_in]
 have d: ∀(b:Nat),b<n+k-> ∀(row:Option Nat),
  (w.drew.alloc (.cells ((iC xs).toArray++Builtin.zeroCells (Value.int .i64 0).cells k++Builtin.zeroCells (Value.int .i64 0).cells (grownCap w (n+k) b 3-(n+k))) 3)).ownsRow base 3 1
   (.slice (some ⟨w.heap.size,0,none⟩) (n+k) (grownCap w (n+k) b 3)) (n+k) (iC (xs++List.replicate k 0))/\
  w.grownBy (w.drew.alloc (.cells ((iC xs).toArray++Builtin.zeroCells (Value.int .i64 0).cells k++Builtin.zeroCells (Value.int .i64 0).cells (grownCap w (n+k) b 3-(n+k))) 3)) row:=by
  intro b r row;have O:=grownCap_ge w (n+k) b 3;have t:grownCap w (n+k) b 3<=maxLen:=grownCap_le_maxLen w (n+k) b 3 (by unfold maxLen;omega);have Q:(Value.int .i64 0).cells.size=1:=rfl;refine⟨⟨by simp[iC,a],.inr ⟨w.heap.size,_,_,rfl,hb,y9 w.drew _,O,t,?_,?_⟩⟩,⟨rfl,rfl,rfl,by simp,λj D _=>D4 w.drew _ D⟩⟩
  ·simp only[Array.size_append,E4,size_zeroCells,Q,C]
   omega
  ·rw[ye k]
   simp only[Array.toList_append,B9];rw[<-B9];have e:iC xs++iC (List.replicate k 0)=iC (xs++List.replicate k 0):=by unfold iC;rw[List.map_append]
   rw[e];have e2:(n+k)*1=(iC (xs++List.replicate k 0)).length:=by simp[iC,a]
   rw[e2];exact List.take_left
 rcases z.2 with⟨x,rfl⟩|⟨g,a0,q,x,R,hg,a1,t,S,l⟩
 ·injection x with x h2 T
  subst x T;obtain rfl:xs=[]:=List.length_eq_zero_iff.1 a;have I:=Lib.run_append_nil_zeros (P:=prog) w 22 3 L 3 i (.int .i64 0) .i64 .i64 y o G M k Y (by rw[H];decide) (by omega) (by rw[p];omega);obtain⟨J,K⟩:=d 0 (by omega) (Value.ownBlock (.slice none 0 0));simp only[Nat.zero_add,C0,Array.empty_append,iC,List.map_nil]at J K I|-
  exact⟨_,_,_,I,J,K,λg h=>.inr (by
   have:w.heap.size=g:=by simpa[Value.ownBlock]using h
   exact this.symm)⟩
 ·injection x with x h2 T
  subst x T
  by_cases m:n+k<=c
  ·have E:=run_storeCells_at (P:=prog) g n 3 (iC (List.replicate k 0)) 0 q w hg (by rw[ju,List.length_replicate,S];omega) (λu y=>by
    obtain⟨s,-,rfl⟩:=List.mem_map.1 y;rfl)
   obtain⟨Z,U⟩: ∃Z:Array Value,(q.toList.take (n+0)++iC (List.replicate k 0)++q.toList.drop (n+0+(iC (List.replicate k 0)).length)).toArray=Z:=⟨_,rfl⟩;rw[U]at E;refine⟨some ⟨g,0,none⟩,c,w.setRow g Z,?_,⟨by simp[iC,a],.inr ⟨g,c,Z,rfl,R,setRow_heap w g q _ _ _ hg,m,t,?_,?_⟩⟩,⟨rfl,rfl,rfl,by simp,λj _ D=>setRow_other w g j _ (λe=>D (by simp[Value.ownBlock,e]))⟩,λj h=>.inl h⟩
   ·have hw:IntKind.i64.wrap (k:Int)=k:=IntWalk.i64_in _ (by omega)
    have F: ¬((k:Int)<0):=by omega
    have V: ¬(281474976710656<(k:Int)*(i.bytes:Int)):=by rw[p];omega
    have hk:k≠0:=by omega
    have W:=ye k;simp[Builtin.append_,run_underlying y,run_underlying o,sizeOf,typeInfo,zeroValue,G,M,H,asInt,asIntOf,hw,F,V,hk,m,Addr.add_lit,W];rw[E];rfl
   ·subst U
    simp only[E4,z9,I5,I6,Array.length_toList,ju,List.length_replicate];omega
   ·subst U
    have e:iC (xs++List.replicate k 0)=iC xs++iC (List.replicate k 0):=by unfold iC;rw[List.map_append]
    rw[Nat.mul_one]at l;rw[Nat.add_zero,l,e];exact List.take_left' (by simp[iC,a])
  ·have r:(Builtin.firstCells i.size n (.slice (some ⟨g,0,none⟩) n c)).run prog w.drew=.ok (iC xs).toArray w.drew:=by
    have:=z.cells (g:=g) rfl;exact run_firstCells_some (P:=prog) w.drew i.size n ⟨g,0,none⟩ n c (iC xs) (by rw[H];omega) (λj u D=>this j u D)
   have I:=Lib.run_append_grow_zeros (P:=prog) w 22 3 L 3 i (.int .i64 0) .i64 .i64 y o G M (some ⟨g,0,none⟩) n c (iC xs) r k Y (by rw[H];decide) (by omega) (by omega) (by rw[p];omega) (growslice_fits (bytes:=i.bytes) (by omega) (by rw[p];omega));obtain⟨J,K⟩:=d c (by omega) (Value.ownBlock (.slice (some ⟨g,0,none⟩) n c));exact⟨_,_,_,I,J,K,λg h=>.inr (by
    have:w.heap.size=g:=by simpa[Value.ownBlock]using h
    exact this.symm)⟩
theorem qI{w:World}{base n c:Nat}{A:Option Addr}{xs:List Int}(h:w.ownsRow base 3 1 (.slice A n c) n (iC xs)){k:Nat}{a:Int}(b:xs[k]?=some a): ∃g,A=some ⟨g,0,none⟩/\w.cell? ⟨g,k,none⟩=some (.int .i64 a):=by
 have l:=(List.getElem?_eq_some_iff.1 b).1;have d:=h.1;rw[ju]at d
 rcases N8 h with⟨e,m⟩|⟨g,i,e,-,-,j⟩
 ·omega
 ·injection e with e
  exact⟨g,e,j k _ (by unfold iC;rw[G3,b];rfl)⟩
section
variable {B:Bd}{mb nf cf c gc:Nat}{w:World}{Af As:Option Addr}{main mode value:Int}{low:List Fm}{f:Fq}{v:Value}{cs:Nat}
theorem zA.ya{x:Fm}{A:Option Addr}(h:zA w B mb Af nf cf main mode value A c (low++[x])): ∃gc a,A=some ⟨gc,0,none⟩/\B<=gc/\w.heap[gc]?=some (.cells a 95 (0,0)):=by
 obtain⟨g,a,e,b,d,-,-⟩:=h.T9.at (i:=low.length) (x:=x) (by simp);exact⟨g,a,e,b,d⟩
theorem zdS(h:zA w B mb Af nf cf main mode value (some ⟨gc,0,none⟩) c (low++[(f,v,.slice As f.I8.length cs)]))(k:Nat)(e:k<=f.I8.length):
 zA (w.setCell ⟨gc,low.length*4+3,none⟩ (.slice As k cs)) B mb Af nf cf main mode value (some ⟨gc,0,none⟩) c (low++[({f with I8:=f.I8.take k},v,.slice As k cs)])/\Vo B w (w.setCell ⟨gc,low.length*4+3,none⟩ (.slice As k cs)):=by
 obtain⟨g,i,a,d,b⟩:=h.ya;injection a with a;injection a with a
 subst a;exact⟨⟨h.lo,by rw[G0 w ⟨gc,low.length*4+3,none⟩ _ mb (h.ne b),h.K3];simp,h.T9.cut (by decide) rfl e⟩,.set b d (by simp[xm]) _ _⟩
theorem zeX(h:zA w B mb Af nf cf main mode value (some ⟨gc,0,none⟩) c (low++[(f,v,.slice As f.I8.length cs)]))(k:Nat)(D:k<=f.I8.length)(x:Int)(M:f.I8.length<=2000):
 ∃A' c' d,(Builtin.append_ #[22,22] 22 #[.slice As k cs,.slice (some ⟨w.heap.size,0,none⟩) 1 1]).run prog (w.alloc (.cells #[.int .i64 x] 3))=.ok (.slice A' (k+1) c') d/\
  d.cell? ⟨gc,low.length*4+3,none⟩=some (.slice As f.I8.length cs)/\d.frozen? ⟨gc,low.length*4+3,none⟩=false/\
  zA (d.setCell ⟨gc,low.length*4+3,none⟩ (.slice A' (k+1) c')) B mb Af nf cf main mode value (some ⟨gc,0,none⟩) c (low++[({f with I8:=f.I8.take k++[x]},v,.slice A' (k+1) c')])/\Vo B w (d.setCell ⟨gc,low.length*4+3,none⟩ (.slice A' (k+1) c')):=by
 have t:B<=w.heap.size:=C4 h.lo (I0 (I7 h.K3));have m:=(y7 w.heap.size w).alloc (y6 _) (.cells #[.int .i64 x] 3);have n:=h.below m;have E:K9 (w.alloc (.cells #[.int .i64 x] 3)) (λ_=>True) (.slice (some ⟨w.heap.size,0,none⟩) 1 1) [x]:=U1 (l:=[x]) (y9 w _) trivial;have u:=n.T9.R9.yd.2.1;have q:(w.alloc (.cells #[.int .i64 x] 3)).ownsRow B 3 1 (.slice As k cs) k (iC (f.I8.take k)):=by
  have:=zZ u k D;rw[Nat.mul_one]at this;unfold iC at this|-
  rw[List.map_take];exact this
 obtain⟨A',c',d,F,G,r,H⟩:=Z6 22 q E (by simp;omega) (C4 t m.size);have y:(Value.slice As k cs).ownBlock=(Value.slice As f.I8.length cs).ownBlock:=by cases As<;>rfl
 obtain⟨I,J,o,z,b,⟨-,-,-,K⟩,A⟩:=h.T9.at (i:=low.length) (x:=(f,v,.slice As f.I8.length cs)) (by simp);injection o with o;injection o with o
 subst o;have p:=(m.block gc (I7 b)).trans b;have j:=(r.block gc (I7 p) (λe=>L9 q p (by decide) e.symm)).trans (m.block gc (I7 b));have C:=(r.block mb (I7 n.K3) (λe=>L9 q n.K3 (by decide) e.symm)).trans n.K3;refine⟨A',c',d,F,(E9 (a:=⟨gc,low.length*4+3,none⟩) j).trans K,(World.frozen?_of_block (a:=⟨gc,low.length*4+3,none⟩) j).trans (A _),⟨h.lo,?_,?_⟩,?_⟩
 ·rw[G0 d ⟨gc,low.length*4+3,none⟩ _ mb (h.ne b),C];simp
 ·exact n.T9.stk (by decide) (s:=.slice As f.I8.length cs) (y▸r) (f':={f with I8:=f.I8.take k++[x]}) rfl rfl rfl (s':=.slice A' (k+1) c') (by simpa[Nat.min_eq_left D]using G) (λg L=>by
   rcases H g L with h|h
   ·exact .inl (y▸h)
   ·exact .inr (Nat.le_of_eq h.symm))
 ·exact(Vo.of m t).trans ((Vo.W8 q (λg e=>.int (n.T9.R9.ZF.2 g (y▸e))) (C4 t m.size) r).trans (Vo.set (j.trans b) z (by simp[xm]) _ _))
theorem zgI{a o:Nat}{s:Value}(h:zA w B mb Af nf cf main mode value (some ⟨gc,0,none⟩) c (low++[(f,.slice (some ⟨a,0,none⟩) f.vars.length o,s)]))(k:Nat)(x:Int):
 zA (w.setCell ⟨a,k,none⟩ (.int .i64 x)) B mb Af nf cf main mode value (some ⟨gc,0,none⟩) c (low++[({f with vars:=f.vars.set k x},.slice (some ⟨a,0,none⟩) f.vars.length o,s)])/\Vo B w (w.setCell ⟨a,k,none⟩ (.int .i64 x)):=by
 have b:=h.T9.R9.yd.1;simp only at b;obtain⟨p,q,i⟩:=Xi b;have j:q=(0,0):=by
  rcases b.2 with⟨e,-⟩|⟨g,r,t,e,-,d,-⟩
  ·cases e
  ·injection e with e;injection e with e;injection e with e
   subst e;rw[i]at d;injection d with d;injection d
 subst j;have l:=(b.stored k (.int .i64 x)).1;have m:=(b.lt a rfl).1;have n:=J2 w a k (.int .i64 x);have u:=h.T9.jq;refine⟨⟨h.lo,?_,⟨?_,?_⟩⟩,.set i m (.int (h.T9.R9.ZF.1 a rfl)) _ _⟩
 ·rw[n.block mb (I7 h.K3) (λe=>L9 b h.K3 (by decide) (by rw[e];rfl)),h.K3];simp
 ·have:=M4 u λg cs e d=>n.block g (I7 d) λy=>L9 b d (by decide) (by rw[y];rfl)
  simpa[List.flatMap_append,Fm.cells]using this
 ·exact h.T9.R9.Zw n (f:={f with vars:=f.vars.set k x}) rfl (by
   have e:iC (f.vars.set k x)=(iC f.vars).set k (.int .i64 x):=by unfold iC;rw[List.map_set]
   simp only[List.length_set,e];exact l)
end
def IK(w w':World):Prop:= ∀(g:Nat)(cs:Array Value),w.heap[g]?=some (.cells cs 3 (0,0))->w'.heap[g]?=w.heap[g]?
theorem IK.trans{w w' w2:World}(h:IK w w')(b:IK w' w2):IK w w2:=λg cs a=>(b g cs ((h g cs a).trans a)).trans (h g cs a)
theorem IK.below{w w':World}(h:Below w.heap.size w w'):IK w w':=λg _ a=>h.block g (I7 a)
theorem IK.set{w:World}{b t:Nat}{cs:Array Value}{d:Nat×Nat}(h:w.heap[b]?=some (.cells cs t d))(i:t≠3)(j:Nat)(u:Value):IK w (w.setCell ⟨b,j,none⟩ u):=λg _ a=>
 (J2 w b j u).block g (I7 a) λe=>by injection e with e;subst e;rw[h]at a;injection a with a;injection a with _ e;exact i e
theorem X6{w:World}{b t base e size n:Nat}{cs:Array Value}{i:Nat×Nat}{v:Value}{xs:List Value}(h:w.ownsRow base e size v n xs)(k:w.heap[b]?=some (.cells cs t i))(l:e≠t)(j:Nat)(u:Value):(w.setCell ⟨b,j,none⟩ u).ownsRow base e size v n xs:=
 M4 h λg _ _ a=>(J2 w b j u).block g (I7 a) λd=>by injection d with d;subst d;rw[k]at a;injection a with a;injection a with _ e;exact l e.symm
theorem Qq:R1 prog 96 95 4:=⟨underlying96,by kernel_rfl,by decide⟩
theorem zeH{B:Bd}{mb nf cf c:Nat}{t w:World}{Af A:Option Addr}{main mode value:Int}{l:List Fm}(h:zA w B mb Af nf cf main mode value A c l)(X:Rows t B l)(L: ∀(g:Nat)(cs:Array Value),t.heap[g]?=some (.cells cs 3 (0,0))->w.heap[g]?=t.heap[g]?)(hs:t.heap.size<=w.heap.size)(Y:B<=t.heap.size)
 {Aa:Option Addr} {na ca:Nat} {xs:List Int} (x:w.ownsRow t.heap.size 3 1 (.slice Aa na ca) na (iC xs)) (k fn:Nat) (hn:na+k<=1000000) (hl:l.length<=100):
 ∃n o p H I q,(Builtin.append_ #[22,3] 22 #[.slice Aa na ca,.int .i64 k]).run prog w=.ok (.slice n (na+k) o) p/\w.grownBy p (Value.slice Aa na ca).ownBlock/\
  (Builtin.append_ #[96,96] 96 #[.slice A l.length c,.slice (some ⟨p.heap.size,0,none⟩) 1 1]).run prog (p.alloc (.cells #[.int .i64 fn,.int .i64 0,.slice n (na+k) o,.slice none 0 0] 95))=.ok (.slice H (l.length+1) I) q/\
  q.cell? ⟨mb,4,none⟩=some (.slice A l.length c)/\q.frozen? ⟨mb,4,none⟩=false/\
  zA (q.setCell ⟨mb,4,none⟩ (.slice H (l.length+1) I)) B mb Af nf cf main mode value H I (l++[(⟨fn,0,xs++List.replicate k 0,[]⟩,.slice n (na+k) o,.slice none 0 0)])/\Vo B w (q.setCell ⟨mb,4,none⟩ (.slice H (l.length+1) I)):=by
 have J:B<=w.heap.size:=C4 h.lo (I0 (I7 h.K3));obtain⟨n,o,p,r6,o6,u,n6⟩:=zdj 22 k x hn hs;have M:xs.length=na:=by have:=x.1;rw[ju]at this;omega
 obtain⟨Z,hZ⟩: ∃Z,(⟨fn,0,xs++List.replicate k 0,[]⟩:Fq)=Z:=⟨_,rfl⟩;have D:=(u.block mb (I7 h.K3) (λe=>L9 x h.K3 (by decide) e.symm)).trans h.K3;have b:=(y7 p.heap.size p).alloc (y6 _) (.cells #[.int .i64 fn,.int .i64 0,.slice n (na+k) o,.slice none 0 0] 95);have N:p.ownsRow B 95 4 (.slice A l.length c) l.length (l.flatMap Fm.cells):=M4 h.T9.jq λg cs e a=>u.block g (I7 a) λj=>L9 x a (by decide) j.symm;have r:=K6 N b;obtain⟨i,z,hi,hz,O,Q,R⟩:=Qq.get;have hX:=y9 p (.cells #[.int .i64 fn,.int .i64 0,.slice n (na+k) o,.slice none 0 0] 95);have S:=hX;obtain⟨T,m,q,r8,U,K,n8,-⟩:=run_append_lies (P:=prog) (p.alloc (.cells #[.int .i64 fn,.int .i64 0,.slice n (na+k) o,.slice none 0 0] 95)) 96 96 B 95 i z 4 i.bytes Qq.ut hi hz O rfl R (by decide) _ _ _ r ⟨p.heap.size,0,none⟩ 1 1 [.int .i64 fn,.int .i64 0,.slice n (na+k) o,.slice none 0 0] rfl (World.news_of_block S) (by simp[Value.oneCell']) (by omega) (by unfold maxLen;omega) (qV Q (by omega)) (C4 (C4 J u.size) b.size) _ rfl;refine⟨n,o,p,_,m,q,r6,u,r8,?_⟩;have y:=(b.block mb (I7 D)).trans D;have d:=(K.block mb (I7 y) (λe=>L9 r y (by decide) e.symm)).trans y;have V:=J2 q mb 4 (.slice (some ⟨T,0,none⟩) (l.length+1) m);have E: ∀(g:Nat)(cs:Array Value),t.heap[g]?=some (.cells cs 3 (0,0))->(q.setCell ⟨mb,4,none⟩ (.slice (some ⟨T,0,none⟩) (l.length+1) m)).heap[g]?=t.heap[g]?:=λg cs a=>by
  have e1:=L g cs a;have F:=e1.trans a;have j:=u.block g (I7 F) (λe=>by have:=(x.lt g e.symm).1;have:=I7 a;omega);have G:=j.trans F;have e3:=b.block g (I7 G);have C:=e3.trans G;have e4:=K.block g (I7 C) (λe=>L9 r C (by decide) e.symm);have s:=e4.trans C;have e5:=V.block g (I7 s) (λe=>by injection e with e;subst e;rw[d]at s;injection s with s;injection s with _ e;exact I2 e (by decide));rw[e5,e4,e3,j,e1]
 have W:(q.setCell ⟨mb,4,none⟩ (.slice (some ⟨T,0,none⟩) (l.length+1) m)).ownsRow B 3 1 (.slice n (na+k) o) (na+k) (iC (xs++List.replicate k 0)):=by
  have o7:=K6 o6 b;have U:q.ownsRow t.heap.size 3 1 (.slice n (na+k) o) (na+k) (iC (xs++List.replicate k 0)):=M4 o7 λg cs e a=>K.block g (I7 a) λj=>L9 r a (by decide) j.symm;refine(M4 U λg cs e a=>V.block g (I7 a) λj=>?_).mono Y;injection j with j;subst j;rw[d]at a;injection a with a;injection a with _ e;exact I2 e (by decide)
 refine⟨y5 d 4,B4 d 4,⟨h.lo,?_,⟨?_,?_⟩⟩,?_⟩
 ·rw[z5 q mb 4 _ _ _ d];simp
 ·have e:(l++[((⟨fn,0,xs++List.replicate k 0,[]⟩:Fq),Value.slice n (na+k) o,Value.slice none 0 0)]).flatMap Fm.cells=l.flatMap Fm.cells++[.int .i64 fn,.int .i64 0,.slice n (na+k) o,.slice none 0 0]:=by simp[Fm.cells]
  rw[e,z9,List.length_singleton];exact M4 U λg cs e a=>V.block g (I7 a) λj=>by
   injection j with j;subst j;rw[d]at a;injection a with a;injection a with _ e;exact I2 e (by decide)
 ·refine X.zce E ?_ (G5 _ _ _ _) (λg e=>?_) (λg e=>by cases e) (λg _ e=>by cases e)
  ·simp only[z9,List.length_replicate,M];exact W
  ·exact(o6.lt g e).1
 ·exact(Vo.W8 (x.mono Y) (λg e=>.int λL=>by have:=(x.lt g e).1;have:=X.1.lt L;omega) J u).trans ((Vo.of b (C4 J u.size)).trans ((Vo.W8 r (λg _=>by simp[xm]) (C4 (C4 J u.size) b.size) K).trans (Vo.set d h.lo (by simp[xm]) _ _)))
theorem jo{w:World}{F:Nat->Prop}{xs:List Int}{A:Option Addr}{c:Nat}(hx:K9 w F (.slice A xs.length c) xs)(m:A=none/\c=0\/ ∃b d,A=some ⟨b,d,none⟩)(u:xs.length<=100000):
 Calls prog 44 #[.slice A xs.length c] w λe w'=>Below w.heap.size w w'/\ ∃A' c',e=.returned (.slice A' xs.length c')/\w'.ownsRow w.heap.size 3 1 (.slice A' xs.length c') xs.length (iC xs):=by
 rcases m with⟨rfl,rfl⟩|⟨b,d,rfl⟩
 ·have f:xs=[]:=by
   rcases hx with⟨a,c,e,h⟩|⟨g,d,i,e,-⟩
   ·exact h
   ·injection e with e;cases e
  subst f;refine(Any.slices_Clone_int_nil Tryz.laysNm215 0 0 w).mono ?_;rintro e w' ⟨rfl,rfl⟩;exact⟨y7 _ _,none,0,rfl,G5 _ _ _ _⟩
 ·refine(Tryz.slices_Clone_int b d xs.length c xs w (y6 _) (by omega) (λj l=>?_)).mono ?_
  ·obtain⟨g,o,e,-,h⟩:=hx.at j _ (y8 l)
   injection e with e;injection e with n p
   subst n p;rw[h,List.getD_eq_getElem?_getD,y8 l];rfl
  ·rintro e w' ⟨q,rfl,k,-,r⟩
   rw[F6]at k;have s: ∃A' c',q=.slice A' xs.length c':=by
    rcases k.2 with⟨rfl,f⟩|⟨g,i,t,rfl,-⟩
    ·exact⟨none,0,by rw[f]⟩
    ·exact⟨_,_,rfl⟩
   obtain⟨A',c',rfl⟩:=s;exact⟨r,A',c',rfl,k⟩
theorem yv{w:World}{base m:Nat}{xs:List Int}{A A':Option Addr}{c c':Nat}(j:w.ownsRow base 3 1 (.slice A xs.length c) xs.length (iC xs))(t:xs.length<=100000)
 (a:A=none/\A'=none/\c'=0\/ ∃g,A=some ⟨g,0,none⟩/\(A'=some ⟨g,m,none⟩\/A'=some ⟨g,0,none⟩/\xs.length=m)):
 Calls prog 44 #[.slice A' (xs.length-m) c'] w λe w'=>Below w.heap.size w w'/\ ∃d f,e=.returned (.slice d (xs.length-m) f)/\w'.ownsRow w.heap.size 3 1 (.slice d (xs.length-m) f) (xs.length-m) (iC (xs.drop m)):=by
 have l:K9 w (λ_=>True) (.slice A' (xs.drop m).length c') (xs.drop m):=by
  rcases N8 j with⟨e,h⟩|⟨g,n,e,u,o,p⟩
  ·have b:xs=[]:=List.length_eq_zero_iff.1 h
   subst b;exact .inl ⟨A',c',by simp,by simp⟩
  ·rcases a with⟨rfl,-,-⟩|⟨v,rfl,a⟩
   ·injection e with e;cases e
   ·injection e with e;injection e with e;injection e with e
    subst e
    rcases a with rfl|⟨rfl,h⟩
    ·refine .inr ⟨_,m,c',rfl,trivial,o,λk s q=>?_⟩
     have r:=p (m+k) (.int .i64 s) (by unfold iC;rw[G3,<-List.getElem?_drop,q];rfl);exact r
    ·have b:xs.drop m=[]:=List.drop_eq_nil_of_le (by omega)
     exact .inl ⟨_,c',by rw[b];rfl,b⟩
 have i:=jo l (by
  rcases a with⟨-,rfl,rfl⟩|⟨g,-,rfl|⟨rfl,-⟩⟩
  ·exact .inl ⟨rfl,rfl⟩
  ·exact .inr ⟨_,_,rfl⟩
  ·exact .inr ⟨_,_,rfl⟩) (by rw[I6];omega)
 rw[I6]at i;exact i
end Go.Proofs.YtalgmjmibamdfaaGreatDoor
namespace Go.Proofs.YtalgmjmibamdfaaGreatDoor
open Go.RowKit
def okS(ops:Array Oper)(imp done:List Nat)(i:Nat):Bool:=imp.all λt=>if done.contains t then !(t==i)&&!zr ops ops.size t i else !zr ops ops.size i t
def zcA(ops:Array Oper)(imp:List Nat)(stages:List (List Nat)):List (Nat×Nat):=(List.range ops.size).flatMap λi=>((List.range stages.length).filter λj=>okS ops imp (stages.getD j []) i).map λj=>(i,j)
def zfO(ops:Array Oper)(sl:List (Nat×Nat)):Bool:=
 ((List.range ops.size).all (opB ops sl []))&&decide ((sl.map (·.1)).Nodup)&&decide ((sl.map (·.2)).Nodup)&&sl.all (λe=>decide (e.1<ops.size))
section
variable {D:Type}{P:Program}{ops:Array Oper}{Q:Exit->Act->World->Prop}{a0:Act}{imp:List Nat}{stages:List (List Nat)}{V:Nat->D->je}{W:Nat->D->World}{G:Nat->D->Prop}
structure zbW(ops:Array Oper)(imp:List Nat)(stages:List (List Nat))(V:Nat->D->je)(G:Nat->D->Prop)(i j:Nat)(d:D)(j':Nat)(d':D):Prop where
 lt:j'<stages.length
 zcl:G j' d'
 done:(imp.all λt=>(stages.getD j' []).contains t==(i::stages.getD j []).contains t)=true
 J0: ∀e∈V j d,e.1≠i->zr ops ops.size e.1 i=false->e∈V j' d'
inductive YQ(P:Program)(ops:Array Oper)(imp:List Nat)(stages:List (List Nat))(V:Nat->D->je)(W:Nat->D->World)(G:Nat->D->Prop)(a0:Act)(i j:Nat)(d:D)(o:Oper):Prop
 |xk:imp.contains i=false->(execOp (Act.eval (J8 (V j d) a0)) o).run P (W j d)=.ok (X9 (V j d) i) (W j d)->YQ P ops imp stages V W G a0 i j d o
 |qU (j':Nat) (d':D):zbW ops imp stages V G i j d j' d'->(execOp (Act.eval (J8 (V j d) a0)) o).run P (W j d)=.ok (X9 (V j' d') i) (W j' d')->YQ P ops imp stages V W G a0 i j d o
 |call (f:FuncId) (args:Array Value):(execOp (Act.eval (J8 (V j d) a0)) o).run P (W j d)=.ok (.enter f args) (W j d)->(Calls P f args (W j d) λe w'=> ∃v j' d',e=.returned v/\zbW ops imp stages V G i j d j' d'/\w'=W j' d'/\X9 (V j' d') i=.value v)->YQ P ops imp stages V W G a0 i j d o
theorem zi2{V V':je}{i:Nat}(h:V.filter (λe=>e.1 !=i)=V'.filter (λe=>e.1 !=i)){p:Nat×Nat×Value->Prop}: ∀e∈V,e.1≠i->p e->e∈V':=λe a b _=>(List.mem_filter.1 (h▸List.mem_filter.2 ⟨a,by simpa using b⟩)).1
theorem zbW.of{i j a:Nat}{d d':D}(b:a<stages.length)(c:G a d')(f:(imp.all λt=>(stages.getD a []).contains t==(i::stages.getD j []).contains t)=true)(g:(V j d).filter (λe=>e.1 !=i)=(V a d').filter (λe=>e.1 !=i)):zbW ops imp stages V G i j d a d':=⟨b,c,f,zi2 g⟩
theorem Xk{β:Type}{f:Nat×Nat×Value->β}: ∀{l:je},(l.map f).Nodup-> ∀x∈l,∀y∈l,f x=f y->x=y:=by
 intro l
 induction l with
 |nil=>intro _ x d;cases d
 |cons z l h=>
  intro c x d y g e;simp only[List.map_cons,List.nodup_cons]at c
  rcases List.mem_cons.1 d with b|b
  ·rcases List.mem_cons.1 g with a|a
   ·rw[b,a]
   ·exact I2 (by rw[<-b,e];exact G8 a) c.1
  ·rcases List.mem_cons.1 g with a|a
   ·exact I2 (by rw[<-a,<-e];exact G8 b) c.1
   ·exact h c.2 x b y a e
theorem W4{id:Nat}{w:World}(hm:P.follows .mixedOrders=true)(sl:List (Nat×Nat))(imp:List Nat)(stages:List (List Nat))(V:Nat->D->je)(W:Nat->D->World)(G:Nat->D->Prop)(lit:List (Nat×Nat))(a8:zfO ops sl=true)(a9:zcA ops imp stages=lit)
 (hV: ∀j d,(V j d).map (λe=>(e.1,e.2.1))=sl) (hz:(sl.all λe=>decide (e.2<a0.tmps.size))=true) (d0:D) (h0:W 0 d0=w.drew) (hG:G 0 d0) (b0:stages[0]?=some [])
 (b7: ∀p∈lit,∀o,ops[p.1]?=some o-> ∀d,G p.2 d->YQ P ops imp stages V W G a0 p.1 p.2 d o)
 (hQ: ∀j d,G j d->(∀t∈imp,t<ops.size->(stages.getD j []).contains t=true)->Q .normal (J8 (V j d) a0) (W j d)):(Code.region id ops true).wp P Q a0 w:=by
 simp only[zfO,F4,F2]at a8;obtain⟨⟨⟨b1,b2⟩,Z⟩,b8⟩:=a8;have M: ∀j d,(V j d).map (·.1)=sl.map (·.1):=λj d=>by rw[<-hV j d,List.map_map];rfl
 have E: ∀j d,(V j d).map (·.2.1)=sl.map (·.2):=λj d=>by rw[<-hV j d,List.map_map];rfl
 have a1: ∀j d,∀e∈V j d,(e.1,e.2.1)∈sl:=λj d e m=>by rw[<-hV j d];exact G8 (f:=λe:Nat×Nat×Value=>(e.1,e.2.1)) m
 have a2: ∀j d,∀e∈V j d,e.2.1<a0.tmps.size:=λj d e m=>by simpa using List.all_eq_true.1 hz _ (a1 j d e m)
 have S: ∀i,i<ops.size->opB ops sl [] i=true:=λi N=>List.all_eq_true.1 b1 i (List.mem_range.2 N);refine ja hm ops.size rfl (λL a w=> ∃j d,j<stages.length/\G j d/\w=W j d/\S9 (V j d) a0 L a/\ ∀t∈imp,t<ops.size->L.getD t false=(stages.getD j []).contains t) ⟨0,d0,(List.getElem?_eq_some_iff.1 b0).1,hG,h0.symm,S9.start _ _ _,λt _ _=>by rw[W3,List.getD_eq_getElem?_getD,b0];rfl⟩ ?_ ?_ ?_
 ·rintro L a w1 i hL hC ⟨j,d,hj,F,rfl,hS,hI⟩ N
  have A:i<ops.size:=(zN N).1;have a3:=xz N (by rw[hL];exact A);have O:=S i A;obtain⟨o,u⟩: ∃o,ops[i]?=some o:=⟨_,Array.getElem?_eq_getElem A⟩;unfold opB at O;rw[u]at O;simp only[F4,F2]at O;obtain⟨⟨⟨⟨hg,T⟩,hd⟩,-⟩,b3⟩:=O;rw[List.append_nil]at hd;have H:o.guard=none:=by simpa using hg
  have U: ∀t,L.getD t false=true->zr ops ops.size t i=false:=λt B=>by
   cases hb:zr ops ops.size t i with
   |false=>rfl
   |true=>have:=Z3 hC _ _ _ hb B;rw[a3]at this;cases this
  have b9:okS ops imp (stages.getD j []) i=true:=by
   refine List.all_eq_true.2 λt B=>?_
   by_cases y:t<ops.size
   ·rw[<-hI t B y]
    cases hb:L.getD t false with
    |true=>
     simp only[if_true,F4,Bool.not_eq_true',B0];exact⟨λe=>(by rw[e,a3]at hb;cases hb),U t hb⟩
    |false=>
     simp only[C6,if_false,Bool.not_eq_true'];cases s:zr ops ops.size i t with
     |false=>rfl
     |true=>have:=qq hC N s;rw[hb]at this;cases this
   ·have z:zr ops ops.size i t=false:=by
     cases s:zr ops ops.size i t with
     |false=>rfl
     |true=>
      have:=qq hC N s;rw[F5,G7 (by rw[hL];omega)]at this;cases this
    have s:zr ops ops.size t i=false:=by
     have:ops[t]?=none:=G7 (by omega);cases hn:ops.size with
     |zero=>rfl
     |succ n=>simp[zr,this]
    have R:t≠i:=by omega
    simp[z,s,R]
  have a4:(i,j)∈lit:=by
   rw[<-a9];exact List.mem_flatMap.2 ⟨i,List.mem_range.2 A,List.mem_map.2 ⟨j,List.mem_filter.2 ⟨List.mem_range.2 hj,b9⟩,rfl⟩⟩
  have a5:execOp (Act.eval (J8 (V j d) a0)) o=execOp (Act.eval a) o:=by
   refine execOp_congr o (λcs b e=>by rw[e]at T;cases T) λx hx=>?_;have z:=List.all_eq_true.1 b3 x (by simpa using hx);cases x with
   |tmp t=>
    simp only[F4]at z;show(J8 (V j d) a0).tmps.getD t undef=a.tmps.getD t undef;rw[F5,F5];have b4:((V j d).map (·.2.1)).Nodup:=by rw[E];exact Z
    by_cases I: ∃e∈V j d,e.2.1=t
    ·obtain⟨e,m,rfl⟩:=I
     have s:=List.all_eq_true.1 z.1 (e.1,e.2.1) (a1 j d e m);simp only[beq_self_eq_true,Bool.not_true,Bool.false_or]at s;rw[hS.tb e m (ym N s)];show(((V j d).foldl (λt e=>t.setIfInBounds e.2.1 e.2.2) a0.tmps)[e.2.1]?).getD undef=_;rw[xV (V j d) _ b4 (a2 j d) e m]
    ·have s: ∀e∈V j d,e.2.1≠t:=λe m e2=>I ⟨e,m,e2⟩
     show(((V j d).foldl (λt e=>t.setIfInBounds e.2.1 e.2.2) a0.tmps)[t]?).getD undef=_;rw[zH (V j d) _ _ s,hS.un t s]
   |_=>rfl
  have a6: ∀g l,((V g l).find? (λe=>e.1==i)).map (·.2.1)=o.dst:=λg l=>by
   rw[hd,<-hV g l,List.find?_map,Option.map_map]
   congr 1
  have J: ∀g l,(∀e∈V j d,e.1≠i->zr ops ops.size e.1 i=false->e∈V g l)-> ∀nx,X9 (V g l) i=nx->match nx with
   |.value v=>S9 (V g l) a0 (L.setIfInBounds i true) (a.put o.dst v)/\ ∃q,o.dst=some q
   |_=>o.dst=none/\nx=.skip/\S9 (V g l) a0 (L.setIfInBounds i true) a:=λg l hk nx r=>by
   have c0: ∀e∈V g l,L.getD e.1 false=true->e∈V j d:=λe m hl=>by
    have c1:e.1≠i:=λe2=>by rw[e2,a3]at hl;cases hl
    have z:e.1∈(V j d).map (·.1):=by rw[M,<-M g l];exact G8 m
    obtain⟨e',c2,ee⟩:=List.mem_map.1 z;have s:=hk e' c2 (by rw[ee];exact c1) (by rw[ee];exact U _ hl)
    rwa [<-Xk (f:=(·.1)) (by rw[M];exact b2) e' s e m ee]
   have b5:=hS.change c0 (by rw[E,E]);have hf:=a6 g l;unfold X9 at r;cases K:(V g l).find? (λe=>e.1==i)with
   |some e=>
    rw[K]at r hf;subst r;have m:=List.mem_of_find?_eq_some K;have c3:e.1=i:=by simpa using List.find?_some K
    have:=b5.put (by rw[M];exact b2) (by rw[E];exact Z) (a2 g l) e m;rw[c3]at this;refine⟨?_,e.2.1,hf.symm⟩;rw[<-hf];exact this
   |none=>
    rw[K]at r hf;subst r;exact⟨hf.symm,rfl,b5.skip i λe m e2=>by have:=List.find?_eq_none.1 K e m;simp[e2]at this⟩
  have X: ∀g l,zbW ops imp stages V G i j d g l-> ∀t∈imp,t<ops.size->(L.setIfInBounds i true).getD t false=(stages.getD g []).contains t:=λg l h t B y=>by
   have e:(stages.getD g []).contains t=(i::stages.getD j []).contains t:=by simpa using List.all_eq_true.1 h.done t B
   rw[e]
   by_cases a7:t=i
   ·subst a7;rw[M9 (by rw[hL];exact y)];simp
   ·rw[I9 a7,hI t B y,List.contains_cons];simp[a7]
  cases b7 (i,j) a4 o u d F with
  |xk b6 c=>
   rw[a5]at c;have z:=J j d (λe m _ _=>m) _ rfl;have s: ∀t∈imp,t<ops.size->(L.setIfInBounds i true).getD t false=(stages.getD j []).contains t:=λt B y=>by
    rw[I9 (λe=>by rw[<-e]at b6;simp[B]at b6)];exact hI t B y
   cases r:X9 (V j d) i with
   |value v=>
    rw[r]at z c;obtain⟨R,q,hq⟩:=z;exact K0 q u H hq c ⟨j,d,hj,F,rfl,by rw[<-hq];exact R,s⟩
   |_=>
    rw[r]at z c;obtain⟨R,h4,h5⟩:=z;rw[h4]at c;exact zO u H R c ⟨j,d,hj,F,rfl,h5,s⟩
  |qU g l C c=>
   rw[a5]at c;have z:=J g l C.J0 _ rfl;have s:=X g l C;cases r:X9 (V g l) i with
   |value v=>
    rw[r]at z c;obtain⟨R,q,hq⟩:=z;exact K0 q u H hq c ⟨g,l,C.lt,C.zcl,rfl,by rw[<-hq];exact R,s⟩
   |_=>
    rw[r]at z c;obtain⟨R,h4,h5⟩:=z;rw[h4]at c;exact zO u H R c ⟨g,l,C.lt,C.zcl,rfl,h5,s⟩
  |call f args c hc=>
   rw[a5]at c;refine JA f args u H c (hc.mono ?_);rintro e w' ⟨v,g,l,rfl,C,rfl,hv⟩;have z:=J g l C.J0 _ hv;exact⟨g,l,C.lt,C.zcl,rfl,z.1,X g l C⟩
 ·refine List.all_eq_true.2 λi N=>?_
  have O:=S i (List.mem_range.1 N);unfold opB at O;cases u:ops[i]? with
  |none=>rfl
  |some o=>
   rw[u]at O;simp only[F4]at O;exact O.1.2
 ·rintro L a w1 Y ⟨j,d,hj,F,rfl,hS,hI⟩
  have C:a=J8 (V j d) a0:=by
   have B:a.tmps=(J8 (V j d) a0).tmps:=by
    apply Array.ext_getElem?;intro k;show _=((V j d).foldl (λt e=>t.setIfInBounds e.2.1 e.2.2) a0.tmps)[k]?
    by_cases I: ∃e∈V j d,e.2.1=k
    ·obtain⟨e,m,rfl⟩:=I
     rw[xV (V j d) _ (by rw[E];exact Z) (a2 j d) e m];exact hS.tb e m (Y _ (by simpa using List.all_eq_true.1 b8 _ (a1 j d e m)))
    ·have s: ∀e∈V j d,e.2.1≠k:=λe m e2=>I ⟨e,m,e2⟩
     rw[hS.un k s,zH (V j d) _ _ s]
   have c4:=hS.df;cases a;simp only[J8]at*;subst c4 B;rfl
  rw[C];exact hQ j d F λt B y=>by rw[<-hI t B y];exact Y t y
end
end Go.Proofs.YtalgmjmibamdfaaGreatDoor
namespace Go.Proofs.YtalgmjmibamdfaaGreatDoor
open Go.Proofs.Tryz
open Go.RowKit Tw
theorem O4{P:Program}{w w':World}{o:Oper}{a:Operand->Value}{s x:Operand}{t b:TypeId}{vs vx c:Value}(d:o.op=.call {callee:=.builtin .append,args:= #[s,x],argTypes:= #[t,b]})(hs:a s=vs)(hx:a x=vx)(e:(Builtin.append_ #[t,b] o.type #[vs,vx]).run P w=.ok c w'):
 (execOp a o).run P w=.ok (.value c) w':=by
 unfold execOp;simp only[d,resolve,invoke,builtin,Sem.run_bind,Sem.run_pure,Result.andThen_ok,List.map_toArray,List.map_cons,List.map_nil,hs,hx,e]
theorem QR{w:World}{B:Bd}{c:Nat}{A:Option Addr}{mode value:Int}{l:List Fm}(h:S8 w B 42 A c l)(hl:Jb l):
 Calls prog 11 #[.agg #[.int .i64 mode,.int .i64 value,.slice A l.length c]] w λe w'=>Below w.heap.size w w'/\ ∃A' c',e=.returned (.slice A' (K4 ⟨mode,value,l.map Prod.fst⟩).length c')/\w'.ownsRow w.heap.size 3 1 (.slice A' (K4 ⟨mode,value,l.map Prod.fst⟩).length c') (K4 ⟨mode,value,l.map Prod.fst⟩).length (iC (K4 ⟨mode,value,l.map Prod.fst⟩)):=by
 rw[Xe];have H:=zh h;have HL:=zh hl;have a7:=hl.1;clear h hl;have b:=zh (y9 w (.cells #[.int .i64 mode,.int .i64 value,.slice A l.length c] 45));have r:=zh ((y7 w.heap.size w).alloc (y6 _) (.cells #[.int .i64 mode,.int .i64 value,.slice A l.length c] 45))
 go_enter func11,ntmps11
 go_upto_region 1 with(fail)
 generalize World.alloc _ _=w0 at b r|-
 generalize O:w.heap.size=s at b r|-
 have a:=zh O;clear O;have m0:=y5 b.out 0;have m1:=y5 b.out 1;have m2:=y5 b.out 2;have t:=I7 b.out;have n:=zh (r.out.trans (((y7 w0.heap.size w0).alloc (y6 _) (.cells #[.int .i64 mode,.int .i64 value,.int .i64 l.length] 3)).mono (I0 t)));have E:=zh (World.ownsRow_lit (base:=s) (e:=3) (size:=1) w0 #[.int .i64 mode,.int .i64 value,.int .i64 l.length] 3 (I0 t) (by decide) rfl);have G:=zh ((D4 w0 (.cells #[.int .i64 mode,.int .i64 value,.int .i64 l.length] 3) t).trans b.out)
 go_upto_region 2 with(fail)
 clear m0 m1 m2;generalize World.alloc _ _=w1 at n E G|-
 generalize w0.heap.size=g1 at E|-
 have P:Hid (w1.ownsRow s 3 1 (.slice (some ⟨g1,0,none⟩) ([mode,value,(l.length:Int)]++yb (l.take 0)).length 3) ([mode,value,(l.length:Int)]++yb (l.take 0)).length (iC ([mode,value,(l.length:Int)]++yb (l.take 0)))):=E;have m2:=y5 G.out 2;clear E b r t
 go_wp2_with fail
 clear m2
 go_loopw[3,17] (λtv iv wr=> ∃(j:Nat)(f:List Int)(Q:Option Addr)(R:Nat),j<=l.length/\tv=.slice Q f.length R/\iv=.int .i64 j/\Hid (f=[mode,value,(l.length:Int)]++yb (l.take j))/\Hid (wr.ownsRow s 3 1 (.slice Q f.length R) f.length (iC f))/\Hid (Below s w wr)) (λ_ iv _=>l.length-(intOf iv).toNat)
 case atStart=>exact⟨0,_,_,_,E2 _,rfl,rfl,zh rfl,P,n⟩
 case round=>
  clear P n G;obtain⟨j,f,Q,R,hj,rfl,rfl,u,E,n⟩:=hrel
  by_cases S:j<l.length
  ·obtain⟨x,T⟩: ∃x,l[j]?=some x:=⟨_,y8 S⟩
   obtain⟨⟨fn,i,k,q⟩,vv,sv⟩:=x;obtain⟨gc,b0,rfl,-,U,⟨d0,d1,d2,d3⟩,-⟩:=H.out.at T;have g:=I7 U;rw[a.out]at g;replace d0:=(n.out.cell (p:=⟨gc,j*4,none⟩) g).trans d0;replace d1:=(n.out.cell (p:=⟨gc,j*4+1,none⟩) g).trans d1;replace d2:=(n.out.cell (p:=⟨gc,j*4+2,none⟩) g).trans d2;replace d3:=(n.out.cell (p:=⟨gc,j*4+3,none⟩) g).trans d3;obtain⟨rv,rs⟩:=H.out.R9.at T;have HV:Hid (K9 w (λ_=>True) vv k):=zh (Y9 rv λ_ _=>trivial);have HS:Hid (K9 w (λ_=>True) sv q):=zh (Y9 rs λ_ _=>trivial);obtain⟨V,W,rfl⟩:=HV.out.zM;obtain⟨X,Y,rfl⟩:=HS.out.zM;have b1:f.length<=3+700*j/\k.length<=64/\q.length<=600:=by
    have h1:=Qz HL.out j;have h2:=HL.out.2 _ (B7 T);have h3:=I1 List.length u.out;simp at h3 h2;omega
   have HE:=zh (JN T);have k0:(0:Int)<=(j:Int):=by omega
   have k1:(j:Int)<(l.length:Int):=by omega
   have v:=n.out.size;rw[a.out]at v;have d:=zh (y9 wr (.cells #[.int .i64 fn,.int .i64 i,.slice V k.length W,.slice X q.length Y] 42));have I:=(y7 wr.heap.size wr).alloc (y6 _) (.cells #[.int .i64 fn,.int .i64 i,.slice V k.length W,.slice X q.length Y] 42);have Z:=zh (K6 E.out I);have a0:=zh (n.out.trans (I.mono v));clear I rv rs T U g
   go_upto_region 5 with(fail)
   clear d0 d1 d2 d3;have y:wr.heap.size<(wr.alloc (.cells #[.int .i64 fn,.int .i64 i,.slice V k.length W,.slice X q.length Y] 42)).heap.size:=by simp
   generalize World.alloc _ _=m at d Z a0 y|-
   have z:s<=m.heap.size:=by omega
   generalize wr.heap.size=C at d y v|-
   have D:=zh ((J5 m).trans ((y7 m.drew.heap.size m.drew).alloc (y6 _) (.cells #[.int .i64 fn,.int .i64 i] 3)));have a2:Hid (K9 (m.drew.alloc (.cells #[.int .i64 fn,.int .i64 i] 3)) (λ_=>True) (.slice (some ⟨m.drew.heap.size,0,none⟩) 2 2) [(fn:Int),(i:Int)]):=zh (U1 (l:=[(fn:Int),(i:Int)]) (y9 m.drew _) trivial);have o1:=K6 Z.out D.out;have s1:=D.out.size;have M:=(D.out.block C y).trans d.out;obtain⟨A2,c2,w2,r2,o2,g2,-⟩:=Z6 22 o1 a2.out (by simp;omega) (C4 z s1);have b2:Below s w w2:=L8 (a0.out.trans (D.out.mono z)) o1 (y6 _) (C4 z s1) g2;have N:=(g2.block C (I7 M) (λe=>L9 o1 M (by decide) e.symm)).trans M;have J:=b2;rw[<-a.out]at J;obtain⟨A3,c3,w3,r3,o3,g3,-⟩:=Z6 22 o2 (HV.out.low J) (by simp;omega) (by have:=b2.size;rw[a.out]at this;exact this);have b3:Below s w w3:=L8 b2 o2 (y6 _) (by have:=b2.size;rw[a.out]at this;exact this) g3;have X3:=(g3.block C (I7 N) (λe=>L9 o2 N (by decide) e.symm)).trans N;have K:=b3;rw[<-a.out]at K;obtain⟨A4,c4,w4,r4,o4,g4,-⟩:=Z6 22 o3 (HS.out.low K) (by simp;omega) (by have:=b3.size;rw[a.out]at this;exact this);have b4:Below s w w4:=L8 b3 o3 (y6 _) (by have:=b3.size;rw[a.out]at this;exact this) g4;have q0:=y5 d.out 0;have q1:=y5 d.out 1;have q2:=y5 d.out 2;have q3:=y5 d.out 3;have y2:(m.alloc (.cells #[.int .i64 fn,.int .i64 i] 3)).cell? ⟨C,2,none⟩=some (.slice V k.length W):=y5 M 2;have y3:(m.alloc (.cells #[.int .i64 fn,.int .i64 i] 3)).cell? ⟨C,3,none⟩=some (.slice X q.length Y):=y5 M 3;have z2:=y5 N 2;have z3:=y5 N 3;have v3:=y5 X3 3;clear o1 s1 M o2 g2 N b2 J o3 g3 X3 b3 K g4 v y z;have a1:=zh o4;have a3:=zh b4;clear o4 b4;refine L4 (by kernel_rfl) [(0,21,.slice Q f.length R),(1,22,.pointer (some ⟨C,0,none⟩)),(2,23,.int .i64 fn),(3,24,.pointer (some ⟨C,1,none⟩)),(4,25,.int .i64 i),(5,26,.slice (some ⟨m.drew.heap.size,0,none⟩) 2 2),(6,27,.slice A2 (f.length+2) c2),(7,28,.pointer (some ⟨C,2,none⟩)),(8,29,.slice V k.length W),(9,30,.slice A3 (f.length+2+k.length) c3),(10,31,.pointer (some ⟨C,3,none⟩)),(11,32,.slice X q.length Y),(12,33,.slice A4 (f.length+2+k.length+q.length) c4)] [(13,3,.slice A4 (f.length+2+k.length+q.length) c4)] _ _ rfl rfl [5,6,9,12] (λj=>match j with|0=>m.drew|1=>m.drew.alloc (.cells #[.int .i64 fn,.int .i64 i] 3)|2=>w2|3=>w3|_=>w4) [(0,0),(0,1),(1,0),(2,0),(3,0),(4,0),(5,0),(6,1),(7,0),(7,1),(7,2),(8,0),(8,1),(8,2),(9,2),(10,0),(10,1),(10,2),(10,3),(11,0),(11,1),(11,2),(11,3),(12,3),(13,4)] (by kernel_rfl) (by kernel_rfl) (by rfl) rfl ?_ ?_
   ·generalize hF:J8 _ _=F
    simp[J8]at hF;subst hF
    repeat' (first|refine List.forall_mem_cons.2 ⟨?_,?_⟩|exact List.forall_mem_nil _)
    all_goals
     intro o ho;injection ho with ho
     subst ho
    rotate_left 7
    ·exact O4 rfl rfl rfl r2
    rotate_left 6
    ·exact O4 rfl rfl rfl r3
    rotate_left 8
    ·exact O4 rfl rfl rfl r4
    all_goals simp[X9,execOp,go_sem,q0,q1,q2,q3,y2,y3,z2,z3,v3]
   ·clear r2 r3 r4 q0 q1 q2 q3 y2 y3 z2 z3 v3
    obtain⟨L,hL⟩: ∃L,f++[(fn:Int),(i:Int)]++k++q=L:=⟨_,rfl⟩;have e4:f.length+2+k.length+q.length=L.length:=by rw[<-hL];simp;omega
    have a4:Hid (w4.ownsRow s 3 1 (.slice A4 L.length c4) L.length (iC L)):=zh (by rw[<-e4,<-hL];exact a1.out);rw[e4];have a5:=zh hL;clear e4 hL a1;simp only[J8,B6,C0,List.foldl];go_simp
    go_wp2_with fail
    go_roundw
    case rel=>exact⟨j+1,_,A4,c4,S,rfl,by go_num,zh (by rw[<-a5.out,u.out,HE.out];simp),a4,a3⟩
    case measure=>simp[intOf];omega
  ·obtain rfl:j=l.length:=by omega
   rw[F6]at u;have a6:=u.out;subst a6
   go_wp2_with fail
   go_ret;exact⟨by rw[a.out];exact n.out,Q,R,rfl,by rw[a.out];exact E.out⟩
def Fo(a:Nat)(w w':World):Prop:= ∀(b:Nat)(cs:Array Value)(t:Nat)(fr:Nat×Nat),w.heap[b]?=some (.cells cs t fr)->t≠a->t≠3->w'.heap[b]?=w.heap[b]?
theorem Fo.of{a:Nat}{w w':World}(h:Below w.heap.size w w'):Fo a w w':=λb _ _ _ d _ _=>h.block b (I7 d)
theorem Fo.trans{a:Nat}{w w' w2:World}(h:Fo a w w')(i:Fo a w' w2):Fo a w w2:=λb cs t fr d e g=>(i b cs t fr ((h b cs t fr d e g).trans d) e g).trans (h b cs t fr d e g)
theorem Fo.set{d g t:Nat}{w:World}{cs:Array Value}{fr:Nat×Nat}(i:w.heap[g]?=some (.cells cs t fr))(k:t=d\/t=3)(j:Nat)(u:Value):Fo d w (w.setCell ⟨g,j,none⟩ u):=λb _ _ _ a m n=>
 (J2 w g j u).block b (I7 a) λe=>by
  injection e with e;subst e;rw[i]at a;injection a with a;injection a with _ e;subst e
  rcases k with h|h
  ·exact m h
  ·exact n h
theorem Fo.W8{a e base size n:Nat}{w w':World}{v:Value}{xs:List Value}(g:w.ownsRow base e size v n xs)(i:e=a\/e=3)(j:w.grownBy w' v.ownBlock):Fo a w w':=λb _ _ _ d k m=>
 j.block b (I7 d) λo=>L9 g d (λe=>by subst e;rcases i with h|h;exact k h;exact m h) o.symm
structure qF(w:World)(B:Bd)(rb:Nat)(mode value:Int)(A:Option Addr)(c:Nat)(l:List Fm):Prop where
 lo:B<=rb
 K3:w.heap[rb]?=some (.cells #[.int .i64 mode,.int .i64 value,.slice A l.length c] 45 (0,0))
 T9:S8 w B 42 A c l
section
variable {B:Bd}{rb c gc:Nat}{w w':World}{A As:Option Addr}{mode value:Int}{l low:List Fm}{x:Fm}{f:Fq}{v:Value}{cs:Nat}
theorem qF.below(h:qF w B rb mode value A c l)(a:Below w.heap.size w w'):qF w' B rb mode value A c l:=
 ⟨h.lo,(a.block rb (I7 h.K3)).trans h.K3,h.T9.below a⟩
theorem qF.hk(h:qF w B rb mode value A c l){Z:Nat}(a:Hk Z w w'){S:Nat->Prop}(b:JP w' ⟨B.n,S⟩)(hs: ∀k,S k->B.S k\/w.heap.size<=k):qF w' ⟨B.n,S⟩ rb mode value A c l:=
 ⟨h.lo,(a.K3 rb _ _ _ h.K3 (by unfold xo;decide)).trans h.K3,h.T9.host (λg cs t d e=>a.K3 g cs t _ d (by unfold xo;rcases e with rfl|rfl<;>decide)) b hs⟩
theorem qF.of(h:qF w B rb mode value A c l){l':List Fm}(a:Fo 42 w w')(hf:S8 w' B 42 A c l')(b:l'.length=l.length):qF w' B rb mode value A c l':=
 ⟨h.lo,by rw[a rb _ _ _ h.K3 (by decide) (by decide),b];exact h.K3,hf⟩
theorem qF.bd(h:qF w B rb mode value A c l):B<=w.heap.size:=C4 h.lo (I0 (I7 h.K3))
theorem qw{g:Nat}{s:Value}(h:S8 w B g A c (low++[(f,v,s)])):
 ∃gc a d e As cs,A=some ⟨gc,0,none⟩/\B<=gc/\w.heap[gc]?=some (.cells a g (0,0))/\v=.slice d f.vars.length e/\s=.slice As f.I8.length cs/\w.cell? ⟨gc,low.length*4,none⟩=some (.int .i64 f.fn)/\w.cell? ⟨gc,low.length*4+1,none⟩=some (.int .i64 f.pc)/\w.cell? ⟨gc,low.length*4+2,none⟩=some v/\w.cell? ⟨gc,low.length*4+3,none⟩=some s/\
  w.frozen? ⟨gc,low.length*4+1,none⟩=false/\w.frozen? ⟨gc,low.length*4+3,none⟩=false/\f.I8.length<=cs:=by
 obtain⟨gc,a,rfl,j,k,⟨m,n,o,p⟩,b⟩:=h.at (i:=low.length) (x:=(f,v,s)) (by simp);obtain⟨⟨d,e,rfl⟩,As,cs,rfl⟩:=h.R9.zM (i:=low.length) (f:=f) (v:=v) (s:=s) (by simp);exact⟨gc,a,d,e,As,cs,rfl,j,k,rfl,rfl,m,n,o,p,b _,b _,(N9 h.R9.yd.2.1).1⟩
theorem zfX{s:Value}(h:qF w B rb mode value (some ⟨gc,0,none⟩) c (low++[(f,v,s)]))(p:Nat):
 qF (w.setCell ⟨gc,low.length*4+1,none⟩ (.int .i64 p)) B rb mode value (some ⟨gc,0,none⟩) c (low++[({f with pc:=p},v,s)])/\Vo B w (w.setCell ⟨gc,low.length*4+1,none⟩ (.int .i64 p)):=by
 obtain⟨e,g,-,-,-,-,a,d,b,-⟩:=qw h.T9;injection a with a;injection a with a
 subst a;exact⟨h.of (.set b (.inl rfl) _ _) (h.T9.X5 (by decide) p) (by simp),.set b d (by simp[xm]) _ _⟩
theorem zdu(h:qF w B rb mode value (some ⟨gc,0,none⟩) c (low++[(f,v,.slice As f.I8.length cs)]))(k:Nat)(e:k<=f.I8.length):
 qF (w.setCell ⟨gc,low.length*4+3,none⟩ (.slice As k cs)) B rb mode value (some ⟨gc,0,none⟩) c (low++[({f with I8:=f.I8.take k},v,.slice As k cs)])/\Vo B w (w.setCell ⟨gc,low.length*4+3,none⟩ (.slice As k cs)):=by
 obtain⟨g,i,-,-,-,-,a,d,b,-⟩:=qw h.T9;injection a with a;injection a with a
 subst a;exact⟨h.of (.set b (.inl rfl) _ _) (h.T9.cut (by decide) rfl e) (by simp),.set b d (by simp[xm]) _ _⟩
theorem zdH{s s':Value}{S:List Int}(h:qF w B rb mode value (some ⟨gc,0,none⟩) c (low++[(f,v,s)]))(b:Below w.heap.size w w')(hs:w'.ownsRow w.heap.size 3 1 s' S.length (iC S)):
 w'.cell? ⟨gc,low.length*4+3,none⟩=some s/\w'.frozen? ⟨gc,low.length*4+3,none⟩=false/\qF (w'.setCell ⟨gc,low.length*4+3,none⟩ s') B rb mode value (some ⟨gc,0,none⟩) c (low++[({f with I8:=S},v,s')])/\Vo B w (w'.setCell ⟨gc,low.length*4+3,none⟩ s'):=by
 obtain⟨o,p,u,y,As,cs,i,n,j,z,C,D,E,F,q,G,r,-⟩:=qw h.T9;injection i with i;injection i with i
 subst i;have d:=(b.block gc (I7 j));have m:=d.trans j;refine⟨(E9 (a:=⟨gc,low.length*4+3,none⟩) d).trans q,(World.frozen?_of_block (a:=⟨gc,low.length*4+3,none⟩) d).trans r,h.of (Fo.trans (.of b) (.set m (.inl rfl) _ _)) ?_ (by simp),(Vo.of b h.bd).trans (.set m n (by simp[xm]) _ _)⟩;exact h.T9.stk (by decide) (w':=w') ⟨b.os,b.tape,b.output,b.size,λk t _=>b.block k t⟩ (f':={f with I8:=S}) rfl rfl rfl (hs.mono h.bd) (λg e=>.inr (hs.lt g e).1)
theorem zg2{a m:Nat}{s:Value}(h:qF w B rb mode value (some ⟨gc,0,none⟩) c (low++[(f,.slice (some ⟨a,0,none⟩) f.vars.length m,s)]))(k:Nat)(x:Int):
 qF (w.setCell ⟨a,k,none⟩ (.int .i64 x)) B rb mode value (some ⟨gc,0,none⟩) c (low++[({f with vars:=f.vars.set k x},.slice (some ⟨a,0,none⟩) f.vars.length m,s)])/\Vo B w (w.setCell ⟨a,k,none⟩ (.int .i64 x)):=by
 have b:=h.T9.R9.yd.1;simp only at b;obtain⟨o,d⟩: ∃cs,w.heap[a]?=some (.cells cs 3 (0,0)):=by
  rcases b.2 with⟨e,-⟩|⟨g,p,q,e,-,i,-⟩
  ·cases e
  ·injection e with e;injection e with e;injection e with e
   subst e;exact⟨_,i⟩
 have j:=(b.stored k (.int .i64 x)).1;have n:=J2 w a k (.int .i64 x);have r:=h.T9.jq;refine⟨h.of (.set d (.inr rfl) _ _) ⟨?_,?_⟩ (by simp),.set d (b.lt a rfl).1 (.int (h.T9.R9.ZF.1 a rfl)) _ _⟩
 ·have:=M4 r λg cs e i=>n.block g (I7 i) λt=>L9 b i (by decide) (by rw[t];rfl)
  simpa[List.flatMap_append,Fm.cells]using this
 ·exact h.T9.R9.Zw n (f:={f with vars:=f.vars.set k x}) rfl (by
   have e:iC (f.vars.set k x)=(iC f.vars).set k (.int .i64 x):=by unfold iC;rw[List.map_set]
   simp only[List.length_set,e];exact j)
theorem qF.pop(h:qF w B rb mode value A c (low++[x])):qF (w.setCell ⟨rb,2,none⟩ (.slice A low.length c)) B rb mode value A c low/\Vo B w (w.setCell ⟨rb,2,none⟩ (.slice A low.length c)):=
 ⟨⟨h.lo,z5 w rb 2 _ _ _ h.K3,(h.T9.else h.K3 (by decide) (by decide) 2 _).pop⟩,.set h.K3 h.lo (by simp[xm]) _ _⟩
theorem qF.stop(h:qF w B rb mode value A c l)(m y:Int):qF (((w.setCell ⟨rb,0,none⟩ (.int .i64 m)).setCell ⟨rb,1,none⟩ (.int .i64 y)).setCell ⟨rb,2,none⟩ (.slice none 0 0)) B rb m y none 0 []/\
 Vo B w (((w.setCell ⟨rb,0,none⟩ (.int .i64 m)).setCell ⟨rb,1,none⟩ (.int .i64 y)).setCell ⟨rb,2,none⟩ (.slice none 0 0)):=by
 have a:=z5 w rb 0 _ _ (.int .i64 m) h.K3;have b:=z5 _ rb 1 _ _ (.int .i64 y) a;have e:=z5 _ rb 2 _ _ (.slice none 0 0) b;have d:=(Vo.set h.K3 h.lo (by simp[xm]) 0 (.int .i64 m)).trans ((Vo.set a h.lo (by simp[xm]) 1 (.int .i64 y)).trans (Vo.set b h.lo (by simp[xm]) 2 (.slice none 0 0)));exact⟨⟨h.lo,e,Zc _ _ _ (d.szs h.T9.R9.1)⟩,d⟩
theorem qM(h:qF w B rb mode value A c l):w.cell? ⟨rb,0,none⟩=some (.int .i64 mode)/\w.cell? ⟨rb,1,none⟩=some (.int .i64 value)/\w.cell? ⟨rb,2,none⟩=some (.slice A l.length c)/\w.frozen? ⟨rb,0,none⟩=false/\w.frozen? ⟨rb,1,none⟩=false/\w.frozen? ⟨rb,2,none⟩=false:=
 ⟨y5 h.K3 0,y5 h.K3 1,y5 h.K3 2,B4 h.K3 0,B4 h.K3 1,B4 h.K3 2⟩
end
section
variable {B:Bd}{rb c gc fp mp:Nat}{w:World}{A As:Option Addr}{mode value:Int}{l low:List Fm}{f:Fq}{v s:Value}{cs:Nat}{fr:Nat×Nat}
theorem zhj(h:qF w B rb mode value (some ⟨gc,0,none⟩) c (low++[(f,v,.slice As f.I8.length cs)]))(r:w.heap[fp]?=some (.cells #[.pointer (some ⟨gc,low.length*4,none⟩)] 146 fr)){S:List Int}{a:Int}(hs:f.I8=S++[a])(W:f.I8.length<=2000):
 Calls prog 75 #[.pointer (some ⟨fp,0,none⟩)] w λe w'=>e=.returned (.int .i64 a)/\qF w' B rb mode value (some ⟨gc,0,none⟩) c (low++[({f with I8:=S},v,.slice As S.length cs)])/\Vo B w w':=by
 have d:f.I8.length=S.length+1:=by rw[hs];simp
 have g:=h.below (J5 w);obtain⟨j,t⟩:=zdu g S.length (by omega);rw[hs]at j;simp only[List.take_left']at j;have J:=zh j;have K:=zh ((Vo.of (J5 w) h.bd).trans t);have b:=h.T9.R9.yd.2.1;simp only at b;obtain⟨m,rfl,X⟩:=qI b (k:=S.length) (a:=a) (by rw[hs];simp);obtain⟨L,M,Y,Z,As,cs,i,-,-,-,n,N,O,P,p,Q,u,q⟩:=qw h.T9;injection i with i;injection i with i
 injection n with n R T
 subst i n T;have y:=y5 r 0;rw[d]at p q;have U:IntKind.i64.wrap ((S.length:Int)+1-1)=(S.length:Int):=by rw[show(S.length:Int)+1-1=S.length by omega];exact IntWalk.i64_in _ (by omega)
 have V:wrap64 (S.length:Int)=(S.length:Int):=IntWalk.wrap64_in _ (by omega);have C:(0:Int)<=(S.length:Int):=by omega
 have D:(S.length:Int)<(S.length:Int)+1:=by omega
 have E: ¬((S.length:Int)+1<=(S.length:Int)):=by omega
 have G: ¬((cs:Int)<(S.length:Int)):=by omega
 have H:(S.length:Int)<=(cs:Int):=by omega
 clear h d g j t b hs R r
 go_enter func75,ntmps75
 go_upto_region 3 with(fail)
 refine L4 (by kernel_rfl) [(0,17,.pointer (some ⟨gc,low.length*4,none⟩)),(1,18,.pointer (some ⟨gc,low.length*4,none⟩)),(2,19,.pointer (some ⟨gc,low.length*4,none⟩)),(3,20,.pointer (some ⟨gc,low.length*4+3,none⟩)),(4,21,.slice (some ⟨m,0,none⟩) (S.length+1) cs),(5,22,.int .i64 S.length),(6,23,.slice (some ⟨m,0,none⟩) S.length cs),(7,24,.pointer (some ⟨gc,low.length*4,none⟩)),(8,25,.pointer (some ⟨gc,low.length*4+3,none⟩))] [] _ _ rfl rfl [9] (λz=>match z with|0=>w.drew|_=>w.drew.setCell ⟨gc,low.length*4+3,none⟩ (.slice (some ⟨m,0,none⟩) S.length cs)) [(0,0),(1,0),(2,0),(3,0),(4,0),(5,0),(6,0),(7,0),(8,0),(9,0)] (by kernel_rfl) (by kernel_rfl) (by rfl) rfl ?_ ?_
 ·generalize I:J8 _ _=F
  simp[J8]at I;subst I
  repeat' (first|refine List.forall_mem_cons.2 ⟨?_,?_⟩|exact List.forall_mem_nil _)
  all_goals
   intro o b;injection b with b
   subst b
  all_goals simp[X9,execOp,go_sem,y,p,u,C,D,E,G,H,V]
 clear y N O P p Q u C D E G H U;simp only[J8,B6,C0,List.append_nil,List.foldl];go_simp
 go_wp2_with fail
 go_ret;exact⟨rfl,J.out,K.out⟩
theorem zfu(h:qF w B rb mode value A c l)(a:w.heap[mp]?=some (.cells #[.pointer (some ⟨rb,0,none⟩)] 145 fr))(b:Int):
 Calls prog 77 #[.int .i64 b,.pointer (some ⟨mp,0,none⟩)] w λe w'=>e=.returned (.tuple #[])/\qF w' B rb 2 b none 0 []/\Vo B w w':=by
 have d:mp≠rb:=λe=>by subst e;rw[h.K3]at a;injection a with a;injection a with _ e;exact I2 e (by decide)
 obtain⟨i,j⟩:=(h.below (J5 w)).stop 2 b;have y:=zh i;have C:=zh ((Vo.of (J5 w) h.bd).trans j);obtain⟨k,m,n,p,q,r⟩:=qM h;have t:=y5 a 0;clear h i j a
 go_enter func77,ntmps77
 go_upto_region 0 with(fail)
 refine L4 (by kernel_rfl) [(0,3,.pointer (some ⟨rb,0,none⟩)),(1,4,.pointer (some ⟨rb,0,none⟩)),(2,5,.pointer (some ⟨rb,0,none⟩)),(3,6,.int .i64 b),(4,7,.pointer (some ⟨rb,0,none⟩)),(5,8,.pointer (some ⟨rb,0,none⟩)),(7,9,.pointer (some ⟨rb,0,none⟩)),(8,10,.pointer (some ⟨rb,1,none⟩)),(10,11,.pointer (some ⟨rb,0,none⟩)),(11,12,.pointer (some ⟨rb,2,none⟩))] [] _ _ rfl rfl [6,9,12] (λz=>match z with|0=>w.drew|1=>w.drew.setCell ⟨rb,0,none⟩ (.int .i64 2)|2=>(w.drew.setCell ⟨rb,0,none⟩ (.int .i64 2)).setCell ⟨rb,1,none⟩ (.int .i64 b)|_=>((w.drew.setCell ⟨rb,0,none⟩ (.int .i64 2)).setCell ⟨rb,1,none⟩ (.int .i64 b)).setCell ⟨rb,2,none⟩ (.slice none 0 0)) [(0,0),(1,0),(1,1),(2,0),(2,1),(2,2),(3,0),(3,1),(4,0),(5,0),(6,0),(7,1),(8,1),(9,1),(10,2),(11,2),(12,2)] (by kernel_rfl) (by kernel_rfl) (by rfl) rfl ?_ ?_
 ·generalize u:J8 _ _=F
  simp[J8]at u;subst u
  repeat' (first|refine List.forall_mem_cons.2 ⟨?_,?_⟩|exact List.forall_mem_nil _)
  all_goals
   intro o g;injection g with g
   subst g
  all_goals simp[X9,execOp,go_sem,t,k,m,n,p,q,r,d]
 clear t k m n p q r;simp only[J8,B6,C0,List.append_nil,List.foldl];go_simp;go_end0;exact⟨rfl,y.out,C.out⟩
theorem zeL(h:qF w B rb mode value (some ⟨gc,0,none⟩) c (low++[(f,v,s)]))(E:w.heap[fp]?=some (.cells #[.pointer (some ⟨gc,low.length*4,none⟩)] 146 fr))(hn:f.I8.length<=2000)(x:Int):
 Calls prog 76 #[.int .i64 x,.pointer (some ⟨fp,0,none⟩)] w λe w'=>e=.returned (.tuple #[])/\(∃s',qF w' B rb mode value (some ⟨gc,0,none⟩) c (low++[({f with I8:=f.I8++[x]},v,s')]))/\Vo B w w':=by
 obtain⟨M,N,Av,cv,As,cs,t,-,u,-,rfl,O,P,Q,R,S,z3,T⟩:=qw h.T9;injection t with t;injection t with t
 subst t;have U:=y5 E 0;have b:=h.T9.R9.yd.2.1;simp only at b;have V:=I7 E;have G:=I7 u;have J:Hid (∀W,Below w.heap.size w W->Calls prog 44 #[.slice As f.I8.length cs] W λe w'=>Below W.heap.size W w'/\ ∃i k,e=.returned (.slice i f.I8.length k)/\w'.ownsRow W.heap.size 3 1 (.slice i f.I8.length k) f.I8.length (iC f.I8)):=zh (λW X=>jo (F:=λ_=>True) (Y9 (K6 b X) λ_ _=>trivial) (by
  rcases(N9 b).2 with rfl|⟨g,rfl⟩
  ·rcases N8 b with⟨e,-⟩|⟨g9,c9,e,-⟩
   ·injection e with _ _ e;exact .inl ⟨rfl,e⟩
   ·injection e with e;cases e
  ·exact .inr ⟨_,_,rfl⟩) (by omega))
 have H:=zh h;clear h b E u O P Q S
 go_enter func76,ntmps76
 go_upto_region 0 with(fail)
 refine W4 (D:=Value×Value×Nat×World) (by kernel_rfl) [(0,3),(1,4),(2,5),(3,6),(4,7),(5,8),(6,9),(7,10),(8,11),(9,12),(10,13)] [5,7,8,11] [[],[7],[5],[5,7],[5,7,8],[5,7,8,11]]
  (λ_ d=>[(0,3,.pointer (some ⟨gc,low.length*4,none⟩)),(1,4,.pointer (some ⟨gc,low.length*4,none⟩)),(2,5,.pointer (some ⟨gc,low.length*4,none⟩)),(3,6,.pointer (some ⟨gc,low.length*4+3,none⟩)),(4,7,.slice As f.I8.length cs),(5,8,d.1),(6,9,.int .i64 x),(7,10,.slice (some ⟨d.2.2.1,0,none⟩) 1 1),(8,11,d.2.1),(9,12,.pointer (some ⟨gc,low.length*4,none⟩)),(10,13,.pointer (some ⟨gc,low.length*4+3,none⟩))])
  (λ_ d=>d.2.2.2)
  (λj d=>(j<5->Below w.heap.size w d.2.2.2)/\match j with
   |0=>True
   |1=>d.2.2.2.heap[d.2.2.1]?=some (.cells #[.int .i64 x] 3 (0,0))
   |2=>(∃A c,d.1=.slice A f.I8.length c)/\d.2.2.2.ownsRow w.heap.size 3 1 d.1 f.I8.length (iC f.I8)
   |3=>d.2.2.2.heap[d.2.2.1]?=some (.cells #[.int .i64 x] 3 (0,0))/\(∃A c,d.1=.slice A f.I8.length c)/\d.2.2.2.ownsRow w.heap.size 3 1 d.1 f.I8.length (iC f.I8)
   |4=>(∃A c,d.2.1=.slice A (f.I8.length+1) c)/\d.2.2.2.ownsRow w.heap.size 3 1 d.2.1 (f.I8++[x]).length (iC (f.I8++[x]))
   |_=>(∃s',qF d.2.2.2 B rb mode value (some ⟨gc,0,none⟩) c (low++[({f with I8:=f.I8++[x]},v,s')]))/\Vo B w d.2.2.2)
  [(0,0),(0,1),(0,2),(0,3),(0,4),(1,0),(1,1),(2,0),(2,1),(3,0),(3,1),(4,0),(4,1),(5,0),(5,1),(6,0),(6,2),(7,0),(7,2),(8,3),(9,4),(10,4),(11,4)] (by kernel_rfl) (by kernel_rfl) (λ_ _=>rfl) (by rfl) (undef,undef,0,w.drew) rfl ⟨λ_=>J5 w,trivial⟩ rfl ?_ ?_
 ·repeat' (first|refine List.forall_mem_cons.2 ⟨?_,?_⟩|exact List.forall_mem_nil _)
  all_goals
   intro o b;injection b with b
   subst b;rintro⟨C,y,r,W⟩ ⟨a,m⟩;simp only at a m;replace a:=a (by decide);have Y:W.cell? ⟨fp,0,none⟩=some (.pointer (some ⟨gc,low.length*4,none⟩)):=(a.cell (p:=⟨fp,0,none⟩) V).trans U;have Z:W.cell? ⟨gc,low.length*4+3,none⟩=some (.slice As f.I8.length cs):=(a.cell (p:=⟨gc,low.length*4+3,none⟩) G).trans R
  rotate_left 13
  ·refine .call 44 #[.slice As f.I8.length cs] (by simp[J8,execOp,go_sem]) ((J.out W a).mono ?_)
   rintro e z ⟨q,i,k,rfl,b⟩;exact⟨_,2,(.slice i f.I8.length k,y,r,z),rfl,.of (by decide) ⟨λ_=>a.trans (q.mono a.size),⟨_,_,rfl⟩,b.mono a.size⟩ rfl rfl,rfl,rfl⟩
  ·refine .call 44 #[.slice As f.I8.length cs] (by simp[J8,execOp,go_sem]) ((J.out W a).mono ?_)
   rintro e z ⟨q,i,k,rfl,b⟩;exact⟨_,3,(.slice i f.I8.length k,y,r,z),rfl,.of (by decide) ⟨λ_=>a.trans (q.mono a.size),(q.block r (I7 m)).trans m,⟨_,_,rfl⟩,b.mono a.size⟩ rfl rfl,rfl,rfl⟩
  rotate_left 2
  ·have I:=a.alloc a.size (.cells #[.int .i64 x] 3)
   exact .qU 1 (C,y,W.heap.size,W.alloc (.cells #[.int .i64 x] 3)) (.of (by decide) ⟨λ_=>I,y9 W _⟩ rfl rfl) (by simp[J8,X9,execOp,go_sem])
  ·have I:=a.alloc a.size (.cells #[.int .i64 x] 3)
   exact .qU 3 (C,y,W.heap.size,W.alloc (.cells #[.int .i64 x] 3)) (.of (by decide) ⟨λ_=>I,y9 W _,m.1,K6 m.2 ((y7 W.heap.size W).alloc (y6 _) _)⟩ rfl rfl) (by simp[J8,X9,execOp,go_sem])
  ·obtain⟨hx,⟨i,k,rfl⟩,b⟩:=m
   have hX:K9 W (λ_=>True) (.slice (some ⟨r,0,none⟩) 1 1) [x]:=U1 (l:=[x]) hx trivial;obtain⟨A2,c2,z,K,L,g2,-⟩:=Z6 22 b hX (by simp;omega) a.size;simp only[List.length_singleton]at K L;exact .qU 4 (.slice i f.I8.length k,.slice A2 (f.I8.length+1) c2,r,z) (.of (by decide) ⟨λ_=>L8 a b (y6 _) a.size g2,⟨_,_,rfl⟩,by rw[z9];exact L⟩ rfl rfl) (O4 (vs:=.slice i f.I8.length k) (vx:=.slice (some ⟨r,0,none⟩) 1 1) rfl (by simp[J8,go_sem]) (by simp[J8,go_sem]) K)
  rotate_left 2
  ·obtain⟨⟨i,k,rfl⟩,b⟩:=m
   obtain⟨e1,t,h5,v5⟩:=zdH H.out a b;exact .qU 5 (C,.slice i (f.I8.length+1) k,r,W.setCell ⟨gc,low.length*4+3,none⟩ (.slice i (f.I8.length+1) k)) (.of (by decide) ⟨λh=>I2 h (by decide),⟨_,h5⟩,v5⟩ rfl rfl) (by simp[J8,X9,execOp,go_sem,e1,t])
  all_goals exact .xk rfl (by simp[J8,X9,execOp,go_sem,Y,Z])
 ·rintro j ⟨C,y,r,W⟩ ⟨-,m⟩ hd
  have hj:=hd 11 (by decide) (by decide)
  match j,m,hj with
  |5,m,_=>
   simp only[J8,B6,C0,List.append_nil,List.foldl];go_simp;have H5:=zh m.1;have V5:=zh m.2;go_end0;exact⟨rfl,H5.out,V5.out⟩
  |0,_,h|1,_,h|2,_,h|3,_,h|4,_,h=>cases h
  |n+6,_,h=>cases h
end
end Go.Proofs.YtalgmjmibamdfaaGreatDoor
