/- Merged. -/
import Derived.Test.YtmngofgminlloaaGreatDoorCT19
set_option linter.all false
set_option maxHeartbeats 16000000
set_option maxRecDepth 100000
namespace Go.Proofs.YtmngofgminlloaaGreatDoor
open Go.Proofs.Tryz
open Go.RowKit Tw
structure Qk(wr W:World)(rb b0 bf base:Nat)(v:Value)(ws:List Wd)(i en:Nat)(nm:ByteArray)(An:Option Addr)(cn:Nat)(ns:List ByteArray)(At:Option Addr)(ct:Nat)(ts:List Int)(out:Int)(vb:Value)(pos:Int):Prop where
 rd:Rq W rb v ws i en
 fb:W.heap[bf]?=some (.cells #[.string nm,.slice An ns.length cn,.slice At ts.length ct,.int .i64 out,vb,.int .i64 pos] 32 (0,0))
 zD:W.heap[b0]?=some (.cells #[.string ⟨#[]⟩,.slice none 0 0,.slice none 0 0,.int .i64 0,.slice none 0 0,.int .i64 0] 32 (0,0))
 gr:wr.grownBy W (some rb)
 gl:O4 W
 rn:O8 S1 W base 9 1 (.slice An ns.length cn) ns
 rt:O8 zm W base 3 1 (.slice At ts.length ct) ts
 ne: ∀g,(Value.slice An ns.length cn).ownBlock=some g->(Value.slice At ts.length ct).ownBlock≠some g
 r0:10<rb
 z0:rb<wr.heap.size
 z1:wr.heap.size<=bf
 zb:wr.heap.size<=b0/\b0<bf
 z2:bf<base
 z3:base<=W.heap.size
section
variable {wr W W':World}{rb b0 bf base:Nat}{v:Value}{ws:List Wd}{i en:Nat}{nm:ByteArray}{An:Option Addr}{cn:Nat}{ns:List ByteArray}{At:Option Addr}{ct:Nat}{ts:List Int}{out:Int}{vb:Value}{pos:Int}
theorem Qk.L9{b:Nat}(h:Qk wr W rb b0 bf base v ws i en nm An cn ns At ct ts out vb pos)(c:Rq W' rb v ws b en)(a:W.grownBy W' (some rb)):Qk wr W' rb b0 bf base v ws b en nm An cn ns At ct ts out vb pos:=by
 have d:=h.z0;have f:=h.z1;have g:=h.z2;have j:=h.z3;have l:=h.zb;exact⟨c,(a.block bf (by omega) (by simp;omega)).trans h.fb,(a.block b0 (by omega) (by simp;omega)).trans h.zD,I4 h.gr a,h.gl.of a h.r0,h.rn.kept a (λk e=>.inl (by cases e;omega)),h.rt.kept a (λk e=>.inl (by cases e;omega)),h.ne,h.r0,d,f,h.zb,g,C1 j a.size⟩
theorem Qk.below(h:Qk wr W rb b0 bf base v ws i en nm An cn ns At ct ts out vb pos)(a:Below W.heap.size W W'):Qk wr W' rb b0 bf base v ws i en nm An cn ns At ct ts out vb pos:=h.L9 (h.rd.K7 a) (I7 a _)
theorem Qk.cell{x}(h:Qk wr W rb b0 bf base v ws i en nm An cn ns At ct ts out vb pos)(j:Nat):W.grownBy (W.setCell ⟨bf,j,none⟩ x) (some bf)/\Rq (W.setCell ⟨bf,j,none⟩ x) rb v ws i en/\wr.grownBy (W.setCell ⟨bf,j,none⟩ x) (some rb)/\O4 (W.setCell ⟨bf,j,none⟩ x)/\O8 S1 (W.setCell ⟨bf,j,none⟩ x) base 9 1 (.slice An ns.length cn) ns/\O8 zm (W.setCell ⟨bf,j,none⟩ x) base 3 1 (.slice At ts.length ct) ts/\(W.setCell ⟨bf,j,none⟩ x).heap[b0]?=some (.cells #[.string ⟨#[]⟩,.slice none 0 0,.slice none 0 0,.int .i64 0,.slice none 0 0,.int .i64 0] 32 (0,0)):=by
 have c:=h.z0;have d:=h.z1;have f:=h.z2;have l:=h.z3;have m:=h.zb;have a:=I8 W bf j x;exact⟨a,h.rd.grown a (by omega),P5 h.gr a (by omega),h.gl.Z3 a.size (λg b=>a.block g (by have:=h.r0;omega) (by simp;have:=h.r0;omega)),h.rn.kept a (λk e=>.inl (by cases e;omega)),h.rt.kept a (λk e=>.inl (by cases e;omega)),(a.block b0 (by omega) (by simp;omega)).trans h.zD⟩
theorem Qk.s0(h:Qk wr W rb b0 bf base v ws i en nm An cn ns At ct ts out vb pos)(x:ByteArray):Qk wr (W.setCell ⟨bf,0,none⟩ (.string x)) rb b0 bf base v ws i en x An cn ns At ct ts out vb pos:=by
 obtain⟨a,b,c,d,e,f,g⟩:=h.cell (x:=(.string x)) 0;exact⟨b,by simpa using A6 W bf 0 _ _ (.string x) h.fb,g,c,d,e,f,h.ne,h.r0,h.z0,h.z1,h.zb,h.z2,C1 h.z3 a.size⟩
theorem Qk.s3(h:Qk wr W rb b0 bf base v ws i en nm An cn ns At ct ts out vb pos)(x:Int):Qk wr (W.setCell ⟨bf,3,none⟩ (.int .i64 x)) rb b0 bf base v ws i en nm An cn ns At ct ts x vb pos:=by
 obtain⟨a,b,c,d,e,f,g⟩:=h.cell (x:=(.int .i64 x)) 3;exact⟨b,by simpa using A6 W bf 3 _ _ (.int .i64 x) h.fb,g,c,d,e,f,h.ne,h.r0,h.z0,h.z1,h.zb,h.z2,C1 h.z3 a.size⟩
theorem Qk.s4(h:Qk wr W rb b0 bf base v ws i en nm An cn ns At ct ts out vb pos)(x):Qk wr (W.setCell ⟨bf,4,none⟩ x) rb b0 bf base v ws i en nm An cn ns At ct ts out x pos:=by
 obtain⟨a,b,c,d,e,f,g⟩:=h.cell (x:=x) 4;exact⟨b,by simpa using A6 W bf 4 _ _ x h.fb,g,c,d,e,f,h.ne,h.r0,h.z0,h.z1,h.zb,h.z2,C1 h.z3 a.size⟩
theorem Qk.J2{s:ByteArray}{g cap k:Nat}(h:Qk wr W rb b0 bf base v ws i en nm An cn ns At ct ts out vb pos)(u:W'.ownsRow base 9 1 (.slice (some ⟨g,0,none⟩) (ns.length+1) cap) (ns.length+1) (ns.flatMap S1.cells++S1.cells s))(c:W.grownBy W' (Value.slice An ns.length cn).ownBlock)(d:(Value.slice An ns.length cn).ownBlock=some g\/g=W.heap.size)(w:k=ns.length+1):
 Qk wr (W'.setCell ⟨bf,1,none⟩ (.slice (some ⟨g,0,none⟩) k cap)) rb b0 bf base v ws i en nm (some ⟨g,0,none⟩) cap (ns++[s]) At ct ts out vb pos:=by
 subst w;have x:=h.z0;have y:=h.z1;have z:=h.z2;have A:=h.z3;have D:=h.zb;have j:=h.rn.1.lt;have b: ∀k,(Value.slice An ns.length cn).ownBlock=some k->base<=k:=λk e=>(j k e).1
 have l:O8 S1 W' base 9 1 (.slice (some ⟨g,0,none⟩) (ns.length+1) cap) (ns++[s]):=O8.qv (F:=λ_=>False) h.rn trivial (λ_ h=>h.elim) u c d;have m:O8 zm W' base 3 1 (.slice At ts.length ct) ts:=h.rt.zb6 (λ_ _ _=>trivial) c (by
  cases B:(Value.slice At ts.length ct).ownBlock with
  |none=>exact .inl rfl
  |some k=>right;intro e;exact h.ne k e.symm B)
 have n:O4 W':=h.gl.Z3 c.size (λq f=>c.block q (by have:=h.r0;omega) (λe=>by have:=b q e.symm;have:=h.r0;omega));have a:=I8 W' bf 1 (.slice (some ⟨g,0,none⟩) (ns.length+1) cap);have o:W'.heap[bf]?=some (.cells #[.string nm,.slice An ns.length cn,.slice At ts.length ct,.int .i64 out,vb,.int .i64 pos] 32 (0,0)):=(c.block bf (by omega) (λe=>by have:=b bf e.symm;omega)).trans h.fb;have p:wr.grownBy W' (some rb):=⟨c.os.trans h.gr.os,c.tape.trans h.gr.tape,c.output.trans h.gr.output,C1 h.gr.size c.size,λq f C=>(c.block q (A7 f h.gr.size) (λe=>by have:=b q e.symm;omega)).trans (h.gr.block q f C)⟩;have r:Rq W' rb v ws i en:=⟨(c.block rb h.rd.lt (λe=>by have:=b rb e.symm;omega)).trans h.rd.P6,h.rd.row.Z3 λq f=>c.block q (Nat.lt_trans f h.rd.lt) (λe=>by have:=b q e.symm;omega),h.rd.X5,h.rd.pos⟩;have t:(ns++[s]).length=ns.length+1:=by simp
 refine⟨r.grown a (by omega),by rw[t];simpa using A6 W' bf 1 _ _ (.slice (some ⟨g,0,none⟩) (ns.length+1) cap) o,(a.block b0 (by have:=c.size;omega) (by simp;omega)).trans ((c.block b0 (by omega) (λe=>by have:=b b0 e.symm;omega)).trans h.zD),P5 p a (by omega),n.Z3 a.size (λq f=>a.block q (by have:=h.r0;have:=c.size;omega) (by simp;have:=h.r0;omega)),
  by rw[t];exact l.kept a (λk e=>.inl (by cases e;omega)),m.kept a (λk e=>.inl (by cases e;omega)),?_,h.r0,x,y,h.zb,z,C1 A (C1 c.size a.size)⟩
 intro q f e;simp[Value.ownBlock]at f;subst f
 rcases d with d|d
 ·exact h.ne g d e
 ·have:=(h.rt.1.lt g e).2;omega
theorem Qk.JN{s:Int}{g cap k:Nat}(h:Qk wr W rb b0 bf base v ws i en nm An cn ns At ct ts out vb pos)(u:W'.ownsRow base 3 1 (.slice (some ⟨g,0,none⟩) (ts.length+1) cap) (ts.length+1) (ts.flatMap zm.cells++zm.cells s))(c:W.grownBy W' (Value.slice At ts.length ct).ownBlock)(d:(Value.slice At ts.length ct).ownBlock=some g\/g=W.heap.size)(w:k=ts.length+1):
 Qk wr (W'.setCell ⟨bf,2,none⟩ (.slice (some ⟨g,0,none⟩) k cap)) rb b0 bf base v ws i en nm An cn ns (some ⟨g,0,none⟩) cap (ts++[s]) out vb pos:=by
 subst w;have x:=h.z0;have y:=h.z1;have z:=h.z2;have A:=h.z3;have D:=h.zb;have j:=h.rt.1.lt;have b: ∀k,(Value.slice At ts.length ct).ownBlock=some k->base<=k:=λk e=>(j k e).1
 have l:O8 zm W' base 3 1 (.slice (some ⟨g,0,none⟩) (ts.length+1) cap) (ts++[s]):=O8.qv (F:=λ_=>False) h.rt trivial (λ_ h=>h.elim) u c d;have m:O8 S1 W' base 9 1 (.slice An ns.length cn) ns:=h.rn.zb6 (λ_ _ _=>trivial) c (by
  cases B:(Value.slice An ns.length cn).ownBlock with
  |none=>exact .inl rfl
  |some k=>right;intro e;exact h.ne k B e.symm)
 have n:O4 W':=h.gl.Z3 c.size (λq f=>c.block q (by have:=h.r0;omega) (λe=>by have:=b q e.symm;have:=h.r0;omega));have a:=I8 W' bf 2 (.slice (some ⟨g,0,none⟩) (ts.length+1) cap);have o:W'.heap[bf]?=some (.cells #[.string nm,.slice An ns.length cn,.slice At ts.length ct,.int .i64 out,vb,.int .i64 pos] 32 (0,0)):=(c.block bf (by omega) (λe=>by have:=b bf e.symm;omega)).trans h.fb;have p:wr.grownBy W' (some rb):=⟨c.os.trans h.gr.os,c.tape.trans h.gr.tape,c.output.trans h.gr.output,C1 h.gr.size c.size,λq f C=>(c.block q (A7 f h.gr.size) (λe=>by have:=b q e.symm;omega)).trans (h.gr.block q f C)⟩;have r:Rq W' rb v ws i en:=⟨(c.block rb h.rd.lt (λe=>by have:=b rb e.symm;omega)).trans h.rd.P6,h.rd.row.Z3 λq f=>c.block q (Nat.lt_trans f h.rd.lt) (λe=>by have:=b q e.symm;omega),h.rd.X5,h.rd.pos⟩;have t:(ts++[s]).length=ts.length+1:=by simp
 refine⟨r.grown a (by omega),by rw[t];simpa using A6 W' bf 2 _ _ (.slice (some ⟨g,0,none⟩) (ts.length+1) cap) o,(a.block b0 (by have:=c.size;omega) (by simp;omega)).trans ((c.block b0 (by omega) (λe=>by have:=b b0 e.symm;omega)).trans h.zD),P5 p a (by omega),n.Z3 a.size (λq f=>a.block q (by have:=h.r0;have:=c.size;omega) (by simp;have:=h.r0;omega)),
  m.kept a (λk e=>.inl (by cases e;omega)),by rw[t];exact l.kept a (λk e=>.inl (by cases e;omega)),?_,h.r0,x,y,h.zb,z,C1 A (C1 c.size a.size)⟩
 intro q f e;simp[Value.ownBlock]at e;subst e
 rcases d with d|d
 ·exact h.ne g f d
 ·have:=(h.rn.1.lt g f).2;omega
end
theorem zpw{w:World}{b t:Nat}{j k l m n o}(a c d e f g:Value)(h:w.heap[b]?=some (.cells #[j,k,l,m,n,o] t (0,0))):
 ((((((w.setCell ⟨b,0,none⟩ a).setCell ⟨b,1,none⟩ c).setCell ⟨b,2,none⟩ d).setCell ⟨b,3,none⟩ e).setCell ⟨b,4,none⟩ f).setCell ⟨b,5,none⟩ g).heap[b]?=some (.cells #[a,c,d,e,f,g] t (0,0)):=by
 have p:=A6 _ b 0 _ _ a h;have q:=A6 _ b 1 _ _ c p;have r:=A6 _ b 2 _ _ d q;have s:=A6 _ b 3 _ _ e r;have u:=A6 _ b 4 _ _ f s;have x:=A6 _ b 5 _ _ g u;simpa using x
theorem zmj(w:World)(b:Nat)(a c d e f g):w.grownBy ((((((w.setCell ⟨b,0,none⟩ a).setCell ⟨b,1,none⟩ c).setCell ⟨b,2,none⟩ d).setCell ⟨b,3,none⟩ e).setCell ⟨b,4,none⟩ f).setCell ⟨b,5,none⟩ g) (some b):=
 I4 (I4 (I4 (I4 (I4 (I8 _ _ _ _) (I8 _ _ _ _)) (I8 _ _ _ _)) (I8 _ _ _ _)) (I8 _ _ _ _)) (I8 _ _ _ _)
theorem zmc:(Tryz.prog.info? 32).map (·.size)=some 6:=by kernel_rfl
theorem qP.later{w w'}{F F':Nat->Prop}{v l}(h:qP w F v l)(row)(a:w.grownBy w' row)(d: ∀g,F g->row≠some g)(f: ∀g,F g->F' g):qP w' F' v l:=
 h.K7 λg b c=>⟨f g b,A7 c a.size,a.block g c (λe=>d g b e.symm)⟩
theorem zn.later{w w'}{F F':Nat->Prop}{v l}(h:zn w F v l)(row)(a:w.grownBy w' row)(d: ∀g,F g->row≠some g)(f: ∀g,F g->F' g):zn w' F' v l:=
 h.K7 λg b c=>⟨f g b,A7 c a.size,a.block g c (λe=>d g b e.symm)⟩
def FnR(w:World)(rb:Nat)(v:Value)(ws:List Wd)(en:Nat)(r:Rf)(e:Ending)(w':World):Prop:=
 match r with
 |.fn f j=> ∃An cn At ct a b,e=.returned (.agg #[.string f.J2,.slice An f.J1.length cn,.slice At f.K4.length ct,.int .i64 f.out,.slice a f.J0.length b,.int .i64 f.pos])/\qP w' (λg=>w.heap.size<=g) (.slice An f.J1.length cn) f.J1/\zn w' (λg=>w.heap.size<=g) (.slice At f.K4.length ct) f.K4/\K9 w' (λg=>w.heap.size<=g) (.slice a f.J0.length b) f.J0/\Rq w' rb v ws j en/\w.grownBy w' (some rb)
 |.J9 j=>e=Y3 ws en j/\w.grownBy w' (some rb)
def FnP(rb:Nat)(v:Value)(ws:List Wd)(en i:Nat):Prop:=
 ∀r,Df ws en i r-> ∀w,Rq w rb v ws i en->O4 w->Calls prog 83 #[.pointer (some ⟨rb,0,none⟩)] w λe a=>FnR w rb v ws en r e a
theorem Qk.qi{wr W:World}{rb b0 bf base:Nat}{v:Value}{ws:List Wd}{i en:Nat}{nm:ByteArray}{An:Option Addr}{cn:Nat}{ns:List ByteArray}{At:Option Addr}{ct:Nat}{ts:List Int}{out:Int}{b:Option Addr}{c:Nat}{a:List Sm}{pos:Int}
 (h:Qk wr W rb b0 bf base v ws i en nm An cn ns At ct ts out (.slice b a.length c) pos) (e:K9 W (λg=>base<=g) (.slice b a.length c) a):
 FnR wr rb v ws en (.fn ⟨nm,ns,ts,out,a,pos⟩ i) (.returned (.agg #[.string nm,.slice An ns.length cn,.slice At ts.length ct,.int .i64 out,.slice b a.length c,.int .i64 pos]))
  ((((((W.setCell ⟨b0,0,none⟩ (.string nm)).setCell ⟨b0,1,none⟩ (.slice An ns.length cn)).setCell ⟨b0,2,none⟩ (.slice At ts.length ct)).setCell ⟨b0,3,none⟩ (.int .i64 out)).setCell ⟨b0,4,none⟩ (.slice b a.length c)).setCell ⟨b0,5,none⟩ (.int .i64 pos)):=by
 have d:=zmj W b0 (.string nm) (.slice An ns.length cn) (.slice At ts.length ct) (.int .i64 out) (.slice b a.length c) (.int .i64 pos);have j:=h.z0;have k:=h.z1;have l:=h.z2;have f:=h.zb;exact⟨An,cn,At,ct,b,c,rfl,h.rn.zoH.later _ d (λg (q:base<=g)=>by simp;omega) (λg q=>by omega),h.rt.zoF.later _ d (λg (q:base<=g)=>by simp;omega) (λg q=>by omega),e.later _ d (λg (q:base<=g)=>by simp;omega) (λg q=>by omega),h.rd.grown d (by omega),P5 h.gr d f.1⟩
end Go.Proofs.YtmngofgminlloaaGreatDoor
namespace Go.Proofs.YtmngofgminlloaaGreatDoor
open Go.RowKit Tw
def Jn(a:List ByteArray)(ts:List Int):Rp->Rp
 |.ok b us j=>.ok (a++b) (ts++us) j
 |r=>r
theorem zfH(r):Jn [] [] r=r:=by cases r<;>simp[Jn]
theorem zd8(a b ts us r):Jn a ts (Jn b us r)=Jn (a++b) (ts++us) r:=by cases r<;>simp[Jn]
section
variable {ws:List Wd}{en i k:Nat}{r:Rf}{q:Rp}
theorem zh0(h:Dp ws en k i q)(a:J3 ws i N4=true):q=.ok [] [] (i+1):=by
 cases h with
 |U4 _=>rfl
 |ZO g=>rw[a]at g;cases g
 |J2 g=>rw[a]at g;cases g
 |JN g=>rw[a]at g;cases g
 |next g=>rw[a]at g;cases g
 |qY g=>rw[a]at g;cases g
theorem zjZ(h:Dp ws en k i q)(f:J3 ws i N4=false):
 (k≠0/\J3 ws i U0=false/\q=.J9 i)\/((k≠0->J3 ws i U0=true)/\((L3 ws (V9 k i)≠2/\q=.J9 (V9 k i))\/
  (L3 ws (V9 k i)=2/\((∃j,jV ws (V9 k i+1)=.J9 j/\q=.J9 j)\/ ∃t e,jV ws (V9 k i+1)=.ok t/\Dp ws en (k+1) (V9 k i+3) e/\q=Jn [L8 ws (V9 k i)] [t] e)))):=by
 cases h with
 |U4 g=>rw[f]at g;cases g
 |ZO _ a b=>exact .inl ⟨a,b,rfl⟩
 |J2 _ a b=>exact .inr ⟨a,.inl ⟨b,rfl⟩⟩
 |JN _ a b c=>exact .inr ⟨a,.inr ⟨b,.inl ⟨_,c,rfl⟩⟩⟩
 |next _ a b c d=>exact .inr ⟨a,.inr ⟨b,.inr ⟨_,_,c,d,rfl⟩⟩⟩
 |qY _ a b c d=>exact .inr ⟨a,.inr ⟨b,.inr ⟨_,_,c,d,rfl⟩⟩⟩
theorem zgX(h:Df ws en i r):
 (J3 ws i Xg=false/\r=.J9 i)\/(J3 ws i Xg=true/\((L3 ws (i+1)≠2/\r=.J9 (i+1))\/(L3 ws (i+1)=2/\((J3 ws (i+2) O6=false/\r=.J9 (i+2))\/
  (J3 ws (i+2) O6=true/\ ∃q,Dp ws en 0 (i+3) q/\(∀j,q=.J9 j->r=.J9 j)/\(∀d ts j,q=.ok d ts j->(∃k,jV ws j=.J9 k/\r=.J9 k)\/ ∃t,jV ws j=.ok t/\
   ((∃k,Ds ws en (.block (j+2)) (.J9 k)/\r=.J9 k)\/ ∃l k,Ds ws en (.block (j+2)) (.Zn l k)/\r=.fn ⟨L8 ws (i+1),d,ts,t,l,J4 ws i en⟩ k))))))):=by
 cases h with
 |zad g=>exact .inl ⟨g,rfl⟩
 |QU g a=>exact .inr ⟨g,.inl ⟨a,rfl⟩⟩
 |QV g a b=>exact .inr ⟨g,.inr ⟨a,.inl ⟨b,rfl⟩⟩⟩
 |par g a b c=>exact .inr ⟨g,.inr ⟨a,.inr ⟨b,_,c,λj e=>(by injection e with e;rw[e]),λd ts j e=>by cases e⟩⟩⟩
 |JN g a b c f=>exact .inr ⟨g,.inr ⟨a,.inr ⟨b,_,c,λj e=>(by cases e),λd ts j e=>(by injection e with m n o;subst m;subst n;subst o;exact .inl ⟨_,f,rfl⟩)⟩⟩⟩
 |J0 g a b c f p=>exact .inr ⟨g,.inr ⟨a,.inr ⟨b,_,c,λj e=>(by cases e),λd ts j e=>(by injection e with m n o;subst m;subst n;subst o;exact .inr ⟨_,f,.inl ⟨_,p,rfl⟩⟩)⟩⟩⟩
 |fn g a b c f p=>exact .inr ⟨g,.inr ⟨a,.inr ⟨b,_,c,λj e=>(by cases e),λd ts j e=>(by injection e with m n o;subst m;subst n;subst o;exact .inr ⟨_,f,.inr ⟨_,_,p,rfl⟩⟩)⟩⟩⟩
end
end Go.Proofs.YtmngofgminlloaaGreatDoor
namespace Go.Proofs.YtmngofgminlloaaGreatDoor
open Go.Proofs.Tryz
open Go.RowKit Tw
section
variable {ws:List Wd}{en i:Nat}{r:Rs}
theorem zdN{s t:ByteArray}(h:J3 ws i s=true)(a:s.data.toList≠t.data.toList):J3 ws i t=false:=by
 unfold J3 at h|-;cases b:ws[i]? with
 |none=>rfl
 |some x=>
  rw[b]at h;simp only[beq_iff_eq,C7]at h;simp only[B0,C7];rw[h];exact a
theorem hs1(h:J3 ws i QY=true):L7 ws i=1:=by unfold L7;rw[C8 h]
theorem hs3(h:J3 ws i Xq=true):L7 ws i=3:=by
 unfold L7;rw[B5 (by rw[zdN h (by decide)];decide),C8 h]
theorem hs4(a:J3 ws i QY=false)(b:J3 ws i Xq=false)(h:J3 ws i ji=true):L7 ws i=4:=by unfold L7;simp[a,b,h]
theorem hs5(a:J3 ws i QY=false)(b:J3 ws i Xq=false)(c:J3 ws i ji=false)(h:J3 ws i qr=true):L7 ws i=5:=by unfold L7;simp[a,b,c,h]
theorem hs6(a:J3 ws i QY=false)(b:J3 ws i Xq=false)(c:J3 ws i ji=false)(d:J3 ws i qr=false)(h:J3 ws i xw=true):L7 ws i=6:=by unfold L7;simp[a,b,c,d,h]
theorem Xr(a:J3 ws i QY=false)(b:J3 ws i Xq=false)(c:J3 ws i ji=false)(d:J3 ws i qr=false)(e:J3 ws i xw=false)(h:L3 ws i=2/\J3 ws (i+1) yW=true):L7 ws i=2:=by unfold L7;simp[a,b,c,d,e,h]
theorem hs7(a:J3 ws i QY=false)(b:J3 ws i Xq=false)(c:J3 ws i ji=false)(d:J3 ws i qr=false)(e:J3 ws i xw=false)(h: ¬(L3 ws i=2/\J3 ws (i+1) yW=true)):L7 ws i=7:=by
 unfold L7;simp only[a,b,c,d,e,C2,if_false];rw[B5 h]
structure yV(ws:List Wd)(i kd:Nat)(nm:ByteArray)(i3:Nat):Prop where
 hk:kd=L7 ws i
 n3:kd≠3
 n4:kd≠4
 hn:nm=Z4 ws i
 hi:i3=X3 ws i
 le:L7 ws i=1->L3 ws (i+1)=2/\J3 ws (i+2) yW=true
theorem zhu(h:L7 ws i=1)(a:L3 ws (i+1)=2)(b:J3 ws (i+2) yW=true):yV ws i 1 (L8 ws (i+1)) (i+3):=
 ⟨h.symm,by decide,by decide,by unfold Z4;rw[C8 h],by unfold X3;rw[C8 h],λ_=>⟨a,b⟩⟩
theorem ziu(h:L7 ws i=2):yV ws i 2 (L8 ws i) (i+2):=
 ⟨h.symm,by decide,by decide,by unfold Z4;rw[B5 (by omega),C8 h],by unfold X3;rw[B5 (by omega),C8 h],λe=>by omega⟩
theorem zgW(h:L7 ws i=5):yV ws i 5 L1 (i+1):=
 ⟨h.symm,by decide,by decide,by unfold Z4;rw[B5 (by omega),B5 (by omega)],by unfold X3;rw[B5 (by omega),B5 (by omega),B5 (by omega)],λe=>by omega⟩
theorem zhA(h:L7 ws i=6):yV ws i 6 L1 (i+1):=
 ⟨h.symm,by decide,by decide,by unfold Z4;rw[B5 (by omega),B5 (by omega)],by unfold X3;rw[B5 (by omega),B5 (by omega),B5 (by omega)],λe=>by omega⟩
theorem zg4(h:L7 ws i=7):yV ws i 7 L1 i:=
 ⟨h.symm,by decide,by decide,by unfold Z4;rw[B5 (by omega),B5 (by omega)],by unfold X3;rw[B5 (by omega),B5 (by omega),C8 h],λe=>by omega⟩
theorem zhx{e c:Nat}{nm:ByteArray}(h:Ds ws en (.zO i) r)(g:yV ws i e nm c):
 (∃j,De ws en (.lvl 1 c) (.J9 j)/\r=.J9 j)\/(∃x j,De ws en (.lvl 1 c) (.ex x j)/\J3 ws j Qu=false/\r=.J9 j)\/
 ∃x j,De ws en (.lvl 1 c) (.ex x j)/\J3 ws j Qu=true/\r=.st (.mk e nm x [] [] (J4 ws i en)) (j+1):=by
 obtain⟨rfl,k,l,rfl,rfl,b⟩:=g;cases h with
 |zdr d a=>exact H9 (b d).1 a
 |zdt d a f=>rw[(b d).2]at f;cases f
 |XE _ _ _ h=>exact .inl ⟨_,h,rfl⟩
 |XF _ _ _ h a=>exact .inr (.inl ⟨_,_,h,a,rfl⟩)
 |simp _ _ _ h a=>exact .inr (.inr ⟨_,_,h,a,rfl⟩)
 |Qy h=>omega
 |QB h=>omega
 |_=>omega
theorem zmh(h:Ds ws en (.zO i) r)(a:L7 ws i=1):
 (L3 ws (i+1)≠2/\r=.J9 (i+1))\/(L3 ws (i+1)=2/\J3 ws (i+2) yW=false/\r=.J9 (i+2))\/(L3 ws (i+1)=2/\J3 ws (i+2) yW=true):=by
 cases h with
 |zdr _ b=>exact .inl ⟨b,rfl⟩
 |zdt _ b c=>exact .inr (.inl ⟨b,c,rfl⟩)
 |XE _ _ h _=>exact .inr (.inr (h a))
 |XF _ _ h _ _=>exact .inr (.inr (h a))
 |simp _ _ h _ _=>exact .inr (.inr (h a))
 |Qy h=>omega
 |QB h=>omega
 |_=>omega
theorem zez(h:Ds ws en (.zO i) r)(n:L7 ws i=3\/L7 ws i=4):
 (∃j,De ws en (.lvl 1 (i+1)) (.J9 j)/\r=.J9 j)\/ ∃x j,De ws en (.lvl 1 (i+1)) (.ex x j)/\((∃k,Ds ws en (.block j) (.J9 k)/\r=.J9 k)\/
  ∃l k,Ds ws en (.block j) (.Zn l k)/\(L7 ws i=4->r=.st (.mk 4 L1 x l [] (J4 ws i en)) k)/\
   (L7 ws i=3->J3 ws k xu=false->r=.st (.mk 3 L1 x l [] (J4 ws i en)) k)/\
   (L7 ws i=3->J3 ws k xu=true->J3 ws (k+1) Xq=true->(∃m,Ds ws en (.zO (k+1)) (.J9 m)/\r=.J9 m)\/ ∃s m,Ds ws en (.zO (k+1)) (.st s m)/\r=.st (.mk 3 L1 x l [s] (J4 ws i en)) m)/\
   (L7 ws i=3->J3 ws k xu=true->J3 ws (k+1) Xq=false->(∃m,Ds ws en (.block (k+1)) (.J9 m)/\r=.J9 m)\/ ∃s m,Ds ws en (.block (k+1)) (.Zn s m)/\r=.st (.mk 3 L1 x l s (J4 ws i en)) m)):=by
 cases h with
 |zdr h=>omega
 |zdt h=>omega
 |XE g a=>omega
 |XF g a=>omega
 |simp g a=>omega
 |Qy _ h=>exact .inl ⟨_,h,rfl⟩
 |QB _ h a=>exact .inr ⟨_,_,h,.inl ⟨_,a,rfl⟩⟩
 |whil f h a=>exact .inr ⟨_,_,h,.inr ⟨_,_,a,λ_=>rfl,λe=>(by omega),λe=>(by omega),λe=>(by omega)⟩⟩
 |if0 f h a b=>exact .inr ⟨_,_,h,.inr ⟨_,_,a,λe=>(by omega),λ_ _=>rfl,λ_ e=>(by rw[b]at e;cases e),λ_ e=>(by rw[b]at e;cases e)⟩⟩
 |ifE f h a b c d=>exact .inr ⟨_,_,h,.inr ⟨_,_,a,λe=>(by omega),λ_ e=>(by rw[b]at e;cases e),λ_ _ e=>(by rw[c]at e;cases e),λ_ _ _=>.inr ⟨_,_,d,rfl⟩⟩⟩
 |zes f h a b c d=>exact .inr ⟨_,_,h,.inr ⟨_,_,a,λe=>(by omega),λ_ e=>(by rw[b]at e;cases e),λ_ _ e=>(by rw[c]at e;cases e),λ_ _ _=>.inl ⟨_,d,rfl⟩⟩⟩
 |ifI f h a b c d=>exact .inr ⟨_,_,h,.inr ⟨_,_,a,λe=>(by omega),λ_ e=>(by rw[b]at e;cases e),λ_ _ _=>.inr ⟨_,_,d,rfl⟩,λ_ _ e=>(by rw[c]at e;cases e)⟩⟩
 |zek f h a b c d=>exact .inr ⟨_,_,h,.inr ⟨_,_,a,λe=>(by omega),λ_ e=>(by rw[b]at e;cases e),λ_ _ _=>.inl ⟨_,d,rfl⟩,λ_ _ e=>(by rw[c]at e;cases e)⟩⟩
end
def zcL(a:Nat)(v:Value)(ws:List Wd)(en i:Nat):Prop:=
 ∀r,L7 ws i=3->Ds ws en (.zO i) r-> ∀w,Rq w a v ws (i+1) en->O4 w->Calls prog 223 #[.pointer (some ⟨a,0,none⟩),.agg #[.int .i64 0,.string ⟨#[]⟩,.int .i64 0,.int .i64 0,.string ⟨#[]⟩,.slice none 0 0,.int .i64 0,.slice none 0 0,.slice none 0 0,.int .i64 (J4 ws i en)]] w λe b=>SmR w a v ws en r e b
theorem JU{w0 w:World}{p q t u x y z A B C:Value}{m b b1:Nat}{v:Value}{ws:List Wd}{o en:Nat}{s:Sm}{Aa d f:Option Addr}{ca j k:Nat}{F:Nat->Prop}
 (h:xO w0 w m b b1 v ws o en p q t u x y z A B C) (D:J7 w F (.slice Aa s.a.args.length ca) s.a.args) (E:K9 w F (.slice d s.J0.length j) s.J0) (G:K9 w F (.slice f s.M9.length k) s.M9) (c: ∀g,F g->w0.heap.size<=g/\g≠b):
 SmR w0 m v ws en (.st s o) (.returned (.agg #[.int .i64 s.I9,.string s.J2,.int .i64 s.a.I9,.int .i64 s.a.n,.string s.a.K0,.slice Aa s.a.args.length ca,.int .i64 s.a.pos,.slice d s.J0.length j,.slice f s.M9.length k,.int .i64 s.pos]))
  ((((((((((w.setCell ⟨b,0,none⟩ (.int .i64 s.I9)).setCell ⟨b,1,none⟩ (.string s.J2)).setCell ⟨b,2,none⟩ (.int .i64 s.a.I9)).setCell ⟨b,3,none⟩ (.int .i64 s.a.n)).setCell ⟨b,4,none⟩ (.string s.a.K0)).setCell ⟨b,5,none⟩ (.slice Aa s.a.args.length ca)).setCell ⟨b,6,none⟩ (.int .i64 s.a.pos)).setCell ⟨b,7,none⟩ (.slice d s.J0.length j)).setCell ⟨b,8,none⟩ (.slice f s.M9.length k)).setCell ⟨b,9,none⟩ (.int .i64 s.pos)):=by
 have l:=ze9 w b (.int .i64 s.I9) (.string s.J2) (.int .i64 s.a.I9) (.int .i64 s.a.n) (.string s.a.K0) (.slice Aa s.a.args.length ca) (.int .i64 s.a.pos) (.slice d s.J0.length j) (.slice f s.M9.length k) (.int .i64 s.pos);have I:=h.z0;have H:=h.z1;exact⟨Aa,ca,d,j,f,k,rfl,D.later _ l (λg h=>by simp;exact λe=>(c g h).2 e.symm) (λg h=>(c g h).1),E.later _ l (λg h=>by simp;exact λe=>(c g h).2 e.symm) (λg h=>(c g h).1),G.later _ l (λg h=>by simp;exact λe=>(c g h).2 e.symm) (λg h=>(c g h).1),h.rd.grown l (by omega),P5 h.gr l H⟩
def zl6(rb:Nat)(v ws)(en i:Nat)(hN:zV ws)(hr:10<rb)(h1:zcL rb v ws en i)(I: ∀j,i<j->JP rb v ws en j):zfg rb v ws en i:=by
 intro r hd w h hG;have H1:=qh h1;have H2:=qh I;have HR:=qh h;have HG:=qh hG;have HN:=qh hN;have HD:=qh hd;have b8:=h.lt;clear h1 I h hG hN hd
 go_enter func191,ntmps191
 go_wp2_with fail
 refine(zam (HR.out.K7 ((x8 _ _).alloc (x7 _) _))).mono ?_;rintro e w1 ⟨rfl,hb⟩;have C:Below w.heap.size w w1:=((x8 _ _).alloc (x7 _) _).trans (hb.mono (by simp))
 have b:Hid (xO w _ rb w.heap.size w1.heap.size v ws i en (.int .i64 0) (.string ⟨#[]⟩) (.int .i64 0) (.int .i64 0) (.string ⟨#[]⟩) (.slice none 0 0) (.int .i64 0) (.slice none 0 0) (.slice none 0 0) (.int .i64 (J4 ws i en))):=
  qh (xO.start (HR.out.K7 C) (HG.out.to C) hr (I7 C _) b8 (x7 _) (by have:=hb.size;simp at this;omega) ((hb.block _ (by simp)).trans (A5 w _)) _ _ _ _ _ _ _ _ _ _)
 clear hb C
 go_upto_block 0 with(fail)
 generalize w1.alloc _=W1 at b|-;generalize w1.heap.size=d at b|-;obtain⟨b0,C⟩: ∃b0,w.heap.size=b0:=⟨_,rfl⟩;rw[C]at b;simp only[C];have e5:=qh C;clear C;clear HR
 go_cut[] (λW=> ∃(kd i3:Nat)(nm:ByteArray),Hid (yV ws i kd nm i3)/\Hid (xO w W rb b0 d v ws i3 en (.int .i64 kd) (.string nm) (.int .i64 0) (.int .i64 0) (.string ⟨#[]⟩) (.slice none 0 0) (.int .i64 0) (.slice none 0 0) (.slice none 0 0) (.int .i64 (J4 ws i en))))
 case first=>
  go_wp2_with fail
  obtain⟨t1,a1⟩: ∃t,J3 ws i QY=t:=⟨_,rfl⟩;have T1:=qh a1;clear a1;refine(Z5 QY (R1 (by decide)) t1 b.out.rd T1.out).mono ?_;rintro e w2 ⟨rfl,f,c⟩;replace b:=qh (b.out.L9 f c);clear f c;cases t1 with
  |true=>
   simp only[if_true]at b;have J:=qh (hs1 T1.out)
   rcases zmh HD.out J.out with⟨hk,rfl⟩|⟨hk,ha,rfl⟩|⟨hk,ha⟩
   ·have HK:=qh hk;clear hk
    go_wp2_with fail
    refine(ZX 2 b.out.rd HK.out).mono ?_;rintro e w9 ⟨rfl,c⟩;have o:=qh (I4 b.out.gr c);clear c;unfold Y3
    go_wp2_with fail
    exact⟨rfl,rfl,o.out⟩
   ·have HK:=qh hk;have p:=qh ha;clear hk ha
    go_wp2_with fail
    refine(yU 2 (by decide) b.out.rd HK.out).mono ?_;rintro e B ⟨rfl,f,c⟩;replace b:=qh (b.out.L9 f c);clear f c;obtain⟨⟨D,K,L,M,m,N,O,G,P,Q⟩,E,R,S,T,U,V,X,H,Y,Z⟩:=J5 b.out.ex
    go_wp2_with fail
    clear D K L M m N O G P Q E R S T U V X H Y Z;replace b:=qh ((b.out.s0 (.int .i64 1)).s1 (.string (L8 ws (i+1))));generalize((B.setCell ⟨d,0,none⟩ _).setCell ⟨d,1,none⟩ _)=W5 at b|-;refine(jl yW (R1 (by decide)) b.out.rd p.out).mono ?_;rintro e w9 ⟨rfl,c⟩;have o:=qh (I4 b.out.gr c);clear c;unfold Y3
    go_wp2_with fail
    exact⟨rfl,rfl,o.out⟩
   ·have HK:=qh hk;have p:=qh ha;clear hk ha
    go_wp2_with fail
    refine(yU 2 (by decide) b.out.rd HK.out).mono ?_;rintro e B ⟨rfl,f,c⟩;replace b:=qh (b.out.L9 f c);clear f c;obtain⟨⟨D,K,L,M,m,N,O,G,P,Q⟩,E,R,S,T,U,V,X,H,Y,Z⟩:=J5 b.out.ex
    go_wp2_with fail
    clear D K L M m N O G P Q E R S T U V X H Y Z;replace b:=qh ((b.out.s0 (.int .i64 1)).s1 (.string (L8 ws (i+1))));generalize((B.setCell ⟨d,0,none⟩ _).setCell ⟨d,1,none⟩ _)=W5 at b|-;refine(jH yW (R1 (by decide)) b.out.rd p.out).mono ?_;rintro e w6 ⟨rfl,f,c⟩;replace b:=qh (b.out.L9 f c);clear f c
    go_wp2_with fail
    go_meet
    case rel=>exact⟨1,i+3,_,qh (zhu J.out HK.out p.out),b⟩
  |false=>
   simp only[C2,if_false]at b
   go_wp2_with fail
   obtain⟨t3,a8⟩: ∃t,J3 ws i Xq=t:=⟨_,rfl⟩;have T3:=qh a8;clear a8;refine(Z5 Xq (R1 (by decide)) t3 b.out.rd T3.out).mono ?_;rintro e w2 ⟨rfl,f,c⟩;replace b:=qh (b.out.L9 f c);clear f c;cases t3 with
   |true=>
    simp only[if_true]at b;have J:=qh (hs3 T3.out);obtain⟨⟨D,K,L,M,m,N,O,G,P,Q⟩,E,R,S,T,U,V,X,H,Y,Z⟩:=J5 b.out.ex
    go_wp2_with fail
    clear D K L M m N O G P Q E R S T U V X H Y Z;refine(H1.out r J.out HD.out w2 b.out.rd b.out.gl).mono ?_;intro e B hS;cases r with
    |st s j=>
     obtain⟨Aa,ca,Ab,cb,Ae,ce,rfl,hA,hB,hE,f,c⟩:=hS;have a4:=b.out.gr.size;have a2:=b.out.z5;have e6:=b.out.z3;have a5:=b.out.z1;have a6:=b.out.z4;have p:Hid (J7 B (λg=>w.heap.size<=g/\g≠b0/\g≠d) (.slice Aa s.a.args.length ca) s.a.args):=qh (hA.K7 λg (h1:w2.heap.size<=g) I=>⟨⟨by omega,by omega,by omega⟩,I,rfl⟩);have HB:Hid (K9 B (λg=>w.heap.size<=g/\g≠b0/\g≠d) (.slice Ab s.J0.length cb) s.J0):=qh (hB.K7 λg (h1:w2.heap.size<=g) I=>⟨⟨by omega,by omega,by omega⟩,I,rfl⟩);have HE:Hid (K9 B (λg=>w.heap.size<=g/\g≠b0/\g≠d) (.slice Ae s.M9.length ce) s.M9):=qh (hE.K7 λg (h1:w2.heap.size<=g) I=>⟨⟨by omega,by omega,by omega⟩,I,rfl⟩);replace b:=qh (b.out.L9 f c);clear f c hA hB hE;obtain⟨⟨d0,d1,d2,d3,d4,d5,d6,d7,d8,d9⟩,g0,g1,g2,g3,g4,g5,g6,g7,g8,g9⟩:=J5 b.out.zD;have HW:=qh (Zr (.int .i64 s.I9) (.string s.J2) (.int .i64 s.a.I9) (.int .i64 s.a.n) (.string s.a.K0) (.slice Aa s.a.args.length ca) (.int .i64 s.a.pos) (.slice Ab s.J0.length cb) (.slice Ae s.M9.length ce) (.int .i64 s.pos) b.out.zD)
     go_wp2_with fail
     (try simp only[Exit.inBlock,Exit.then])
     refine E9 (F2 rfl _ _ b0 _ _ _ _ rfl HW.out underlying188 rfl xA) rfl ?_;have HZ:=qh (JU (s:=s) (F:=λg=>w.heap.size<=g/\g≠b0/\g≠d) b.out p.out HB.out HE.out (λg h=>⟨h.1,h.2.1⟩));exact HZ.out
    |J9 j=>
     obtain⟨rfl,c⟩:=hS;have o:=qh (I4 b.out.gr c);clear c;unfold Y3
     go_wp2_with fail
     exact⟨rfl,rfl,o.out⟩
    |Zn l j=>exact hS.elim
   |false=>
    simp only[C2,if_false]at b
    go_wp2_with fail
    obtain⟨t4,a9⟩: ∃t,J3 ws i ji=t:=⟨_,rfl⟩;have T4:=qh a9;clear a9;refine(Z5 ji (R1 (by decide)) t4 b.out.rd T4.out).mono ?_;rintro e w2 ⟨rfl,f,c⟩;replace b:=qh (b.out.L9 f c);clear f c;cases t4 with
    |true=>
     simp only[if_true]at b;have J:=qh (hs4 T1.out T3.out T4.out)
     rcases zez HD.out (.inr J.out)with⟨j,q,rfl⟩|⟨x,j,q,hm⟩
     ·have HY:=qh q;clear q
      go_wp2_with fail
      refine(QE rb v ws en _ 0 hr HN.out _ (De.zag HY.out (by decide) (by decide)) w2 b.out.rd b.out.gl).mono ?_;rintro e w9 ⟨rfl,c⟩;have o:=qh (I4 b.out.gr c);clear c;unfold Y3
      go_wp2_with fail
      exact⟨rfl,rfl,o.out⟩
     ·have HY:=qh q;have HM:=qh hm;clear q hm
      have b2:i<j:=by have h:i+1<j:=HY.out.on;omega
      go_wp2_with fail
      refine(QE rb v ws en _ 0 hr HN.out _ (De.zag HY.out (by decide) (by decide)) w2 b.out.rd b.out.gl).mono ?_;rintro e B ⟨A4,c4,rfl,hA,f,c⟩;have b3:=b.out.z3;have a4:=b.out.gr.size;have a5:=b.out.z2;have a2:=b.out.z5;have hs:=c.size;have a6:=b.out.z4;have a3:=b.out.z0;have p:Hid (J7 B (λg=>w.heap.size<=g/\g≠b0/\g≠d) (.slice A4 x.args.length c4) x.args):=qh (hA.K7 λg (h1:w2.heap.size<=g) I=>⟨⟨by omega,by omega,by omega⟩,I,rfl⟩);replace b:=qh (b.out.L9 f c);clear f c hA;obtain⟨⟨D,K,L,M,m,N,O,G,P,Q⟩,E,R,S,T,U,V,X,H,Y,Z⟩:=J5 b.out.ex
      go_wp2_with fail
      clear D K L M m N O G P Q E R S T U V X H Y Z;have A:=qh (p.out.later (some d) (I4 (I8 B d 0 (.int .i64 4)) (I4 (I4 (I4 (I4 (I8 _ d 2 (.int .i64 x.I9)) (I8 _ d 3 (.int .i64 x.n))) (I8 _ d 4 (.string x.K0))) (I8 _ d 5 (.slice A4 x.args.length c4))) (I8 _ d 6 (.int .i64 x.pos)))) (λg h=>by simp;omega) (λg h=>h));replace b:=qh ((((((b.out.s0 (.int .i64 4)).s2 (.int .i64 x.I9)).s3 (.int .i64 x.n)).s4 (.string x.K0)).s5 (.slice A4 x.args.length c4)).s6 (.int .i64 x.pos));clear p;generalize((((((B.setCell ⟨d,0,none⟩ _).setCell ⟨d,2,none⟩ _).setCell ⟨d,3,none⟩ _).setCell ⟨d,4,none⟩ _).setCell ⟨d,5,none⟩ _).setCell ⟨d,6,none⟩ _)=w5 at b A|-;have p:=A;clear A
      rcases HM.out with⟨k,q,rfl⟩|⟨l,k,q,hm,-⟩
      ·have a7:=qh q;clear q
       refine(H2.out j b2 _ a7.out w5 b.out.rd b.out.gl).mono ?_;rintro e w9 ⟨rfl,c⟩;have o:=qh (I4 b.out.gr c);clear c;unfold Y3
       go_wp2_with fail
       exact⟨rfl,rfl,o.out⟩
      ·have a7:=qh q;clear q
       have hq:=hm J.out;subst hq;refine(H2.out j b2 _ a7.out w5 b.out.rd b.out.gl).mono ?_;rintro e w6 ⟨Ab,cb,rfl,hB,f,c⟩;have a2:=b.out.z3;have e0:=b.out.gr.size;have e2:=b.out.z5;have a3:=b.out.z0;have e3:=b.out.z4;replace b:=qh (b.out.L9 f c);replace p:=qh (p.out.later (some rb) c (λg h=>by simp;omega) (λg h=>h));have HB:Hid (K9 w6 (λg=>w.heap.size<=g/\g≠b0/\g≠d) (.slice Ab l.length cb) l):=qh (hB.K7 λg (h1:w5.heap.size<=g) I=>⟨⟨by omega,by omega,by omega⟩,I,rfl⟩);clear f c hB hm;have G:=(J5 b.out.ex).1.2.2.2.2.2.2.2.1;have H:=(J5 b.out.ex).2.2.2.2.2.2.2.2.1
       go_upto_region 11 with(fail)
       clear G H;replace b:=qh (b.out.s7 (.slice Ab l.length cb));replace p:=qh (p.out.later (some d) (I8 w6 d 7 (.slice Ab l.length cb)) (λg h=>by simp;omega) (λg h=>h));replace HB:=qh (HB.out.later (some d) (I8 w6 d 7 (.slice Ab l.length cb)) (λg h=>by simp;omega) (λg h=>h));generalize w6.setCell ⟨d,7,none⟩ _=w7 at b p HB|-;obtain⟨⟨D,K,L,M,m,N,O,G,P,Q⟩,E,R,S,T,U,V,X,H,Y,Z⟩:=J5 b.out.ex;obtain⟨⟨d0,d1,d2,d3,d4,d5,d6,d7,d8,d9⟩,g0,g1,g2,g3,g4,g5,g6,g7,g8,g9⟩:=J5 b.out.zD;have HW:=qh (Zr (.int .i64 4) (.string L1) (.int .i64 x.I9) (.int .i64 x.n) (.string x.K0) (.slice A4 x.args.length c4) (.int .i64 x.pos) (.slice Ab l.length cb) (.slice none 0 0) (.int .i64 (J4 ws i en)) b.out.zD)
       go_wp2_with fail
       (try simp only[Exit.inBlock,Exit.then])
       refine E9 (F2 rfl _ _ b0 _ _ _ _ rfl HW.out underlying188 rfl xA) rfl ?_;have HZ:=qh (JU (s:=.mk 4 L1 x l [] (J4 ws i en)) (F:=λg=>w.heap.size<=g/\g≠b0/\g≠d) b.out p.out HB.out (.nil none 0) (λg h=>⟨h.1,h.2.1⟩));simp only[Sm.I9,Sm.J2,Sm.a,Sm.J0,Sm.M9,Sm.pos]at HZ;exact HZ.out
    |false=>
     simp only[C2,if_false]at b
     go_wp2_with fail
     obtain⟨t5,b4⟩: ∃t,J3 ws i qr=t:=⟨_,rfl⟩;have T5:=qh b4;clear b4;refine(Z5 qr (R1 (by decide)) t5 b.out.rd T5.out).mono ?_;rintro e w2 ⟨rfl,f,c⟩;replace b:=qh (b.out.L9 f c);clear f c;cases t5 with
     |true=>
      simp only[if_true]at b;have J:=qh (hs5 T1.out T3.out T4.out T5.out);have D:=(J5 b.out.ex).1.1;have E:=(J5 b.out.ex).2.1
      go_wp2_with fail
      go_meet
      case rel=>exact⟨5,i+1,L1,qh (zgW J.out),qh (b.out.s0 _)⟩
     |false=>
      simp only[C2,if_false]at b
      go_wp2_with fail
      obtain⟨t6,b5⟩: ∃t,J3 ws i xw=t:=⟨_,rfl⟩;have T6:=qh b5;clear b5;refine(Z5 xw (R1 (by decide)) t6 b.out.rd T6.out).mono ?_;rintro e w2 ⟨rfl,f,c⟩;replace b:=qh (b.out.L9 f c);clear f c;cases t6 with
      |true=>
       simp only[if_true]at b;have J:=qh (hs6 T1.out T3.out T4.out T5.out T6.out);have D:=(J5 b.out.ex).1.1;have E:=(J5 b.out.ex).2.1
       go_wp2_with fail
       go_meet
       case rel=>exact⟨6,i+1,L1,qh (zhA J.out),qh (b.out.s0 _)⟩
      |false=>
       simp only[C2,if_false]at b;obtain⟨wa,rfl⟩: ∃wo:World,wo=w2:=⟨_,rfl⟩
       go_upto_region 16 with(fail)
       go_cut[42] (λu W=> ∃t:Bool,u=.bool t/\Hid (t=true↔(L3 ws i=2/\J3 ws (i+1) yW=true))/\Hid (Below wa.heap.size wa W))
       case first=>
        have r0:=b.out.rd.c0;have r1:=b.out.rd.c1;have hn:=b.out.rd.X5;have hp:=b.out.rd.pos;obtain⟨A0,e4,rfl,a0⟩:=b.out.rd.row.jJ;have b6:=qh a0;clear a0
        by_cases b9:i+1<ws.length
        ·obtain⟨y,q⟩: ∃y,ws[i]?=some y:=⟨_,x9 (by omega)⟩
         obtain⟨z,hz⟩: ∃y,ws[i+1]?=some y:=⟨_,x9 b9⟩;obtain⟨g,rfl,c,d0,-,-⟩:=b6.out i y q;obtain⟨g',b7,-,-,d1,-⟩:=b6.out (i+1) z hz;obtain rfl:g'=g:=by injection b7 with h1;injection h1 with h1;exact h1.symm
         have k0:(0:Int)<=(i:Int):=by omega
         have k1:(i:Int)<(ws.length:Int):=by omega
         have k2:(0:Int)<=(i:Int)+1:=by omega
         have k3:(i:Int)+1<(ws.length:Int):=by omega
         have HY:Hid (L3 ws i=y.I9):=qh (by unfold L3;rw[q]);have HZ:Hid (J3 ws (i+1) yW=(z.K0.toList==yW.toList)):=qh (by unfold J3;rw[hz]);obtain⟨t1,a1⟩: ∃t,((y.I9:Int)==2)=t:=⟨_,rfl⟩;have T9:=qh a1;clear q hz b7;have q0:((i:Int)+1).toNat=i+1:=by omega
         have q1:IntKind.i64.wrap ((i:Int)+1)=(i:Int)+1:=IntWalk.i64_in _ (by omega);cases t1 with
         |false=>
          go_quiet (fail)
          go_wp2_with fail
          go_meet
          case rel=>exact⟨false,rfl,qh ⟨by simp,λe=>by have:=T9.out;rw[<-HY.out]at this;rw[e.1]at this;exact H9 this (by decide)⟩,qh (J6 (x8 _ _) _)⟩
         |true=>
          have HS:Hid (yW.toList=[61]):=qh (by simp[yW,C7]<;>rfl)
          go_quiet (fail)
          go_wp2_with fail
          go_meet
          case rel=>exact⟨z.K0.toList==[61],rfl,qh ⟨λe=>⟨by rw[HY.out];have:=beq_iff_eq.1 T9.out;omega,by rw[HZ.out,HS.out];exact e⟩,λe=>by rw[HZ.out,HS.out]at e;exact e.2⟩,qh (J6 (x8 _ _) _)⟩
        ·have q1:IntKind.i64.wrap ((i:Int)+1)=(i:Int)+1:=IntWalk.i64_in _ (by omega)
         have e1:decide ((i:Int)+1<(ws.length:Int))=false:=G1 (by omega);have HX:Hid (J3 ws (i+1) yW=false):=qh (by unfold J3;rw[C5 (by omega)])
         go_quiet (fail)
         go_wp2_with fail
         go_meet
         case rel=>exact⟨false,rfl,qh ⟨by simp,λe=>by rw[HX.out]at e;exact e.2⟩,qh (J6 (x8 _ _) _)⟩
       case rest=>
        obtain⟨t,rfl,HT,HB⟩:=hcut;replace b:=qh (b.out.below HB.out);clear HB;cases t with
        |true=>
         have hx:=HT.out.1 rfl;have J:=qh (Xr T1.out T3.out T4.out T5.out T6.out hx);have HX:=qh hx;clear hx
         go_wp2_with fail
         refine(yU 2 (by decide) b.out.rd HX.out.1).mono ?_;rintro e B ⟨rfl,f,c⟩;replace b:=qh (b.out.L9 f c);clear f c;obtain⟨⟨D,K,L,M,m,N,O,G,P,Q⟩,E,R,S,T,U,V,X,H,Y,Z⟩:=J5 b.out.ex
         go_wp2_with fail
         clear D K L M m N O G P Q E R S T U V X H Y Z;replace b:=qh ((b.out.s0 (.int .i64 2)).s1 (.string (L8 ws i)));generalize((B.setCell ⟨d,0,none⟩ _).setCell ⟨d,1,none⟩ _)=W5 at b|-;refine(jH yW (R1 (by decide)) b.out.rd HX.out.2).mono ?_;rintro e w6 ⟨rfl,f,c⟩;replace b:=qh (b.out.L9 f c);clear f c
         go_wp2_with fail
         go_meet
         case rel=>exact⟨2,i+2,_,qh (ziu J.out),b⟩
        |false=>
         have J:=qh (hs7 T1.out T3.out T4.out T5.out T6.out (λe=>H9 (HT.out.2 e) (by decide)));have D:=(J5 b.out.ex).1.1;have E:=(J5 b.out.ex).2.1
         go_wp2_with fail
         go_meet
         case rel=>exact⟨7,i,L1,qh (zg4 J.out),qh (b.out.s0 _)⟩
 case rest=>
  clear b;obtain⟨kd,i3,nm,HP,b⟩:=hcut
  rcases zhx HD.out HP.out with⟨j,q,rfl⟩|⟨x,j,q,ha,rfl⟩|⟨x,j,q,ha,rfl⟩
  ·have HY:=qh q;clear q
   go_wp2_with fail
   refine(QE rb v ws en _ 0 hr HN.out _ (De.zag HY.out (by decide) (by decide)) wc b.out.rd b.out.gl).mono ?_;rintro e w9 ⟨rfl,c⟩;have o:=qh (I4 b.out.gr c);clear c;unfold Y3
   go_wp2_with fail
   exact⟨rfl,rfl,o.out⟩
  ·have HY:=qh q;have HX:=qh ha;clear q ha
   go_wp2_with fail
   refine(QE rb v ws en _ 0 hr HN.out _ (De.zag HY.out (by decide) (by decide)) wc b.out.rd b.out.gl).mono ?_;rintro e B ⟨A4,c4,rfl,hA,f,c⟩;have b3:=b.out.z3;have a4:=b.out.gr.size;have a5:=b.out.z2;have a2:=b.out.z5;have hs:=c.size;have a6:=b.out.z4;have a3:=b.out.z0;have p:Hid (J7 B (λg=>w.heap.size<=g/\g≠b0/\g≠d) (.slice A4 x.args.length c4) x.args):=qh (hA.K7 λg (h1:wc.heap.size<=g) I=>⟨⟨by omega,by omega,by omega⟩,I,rfl⟩);replace b:=qh (b.out.L9 f c);clear f c hA;obtain⟨⟨D,K,L,M,m,N,O,G,P,Q⟩,E,R,S,T,U,V,X,H,Y,Z⟩:=J5 b.out.ex
   go_wp2_with fail
   clear D K L M m N O G P Q E R S T U V X H Y Z;have A:=qh (p.out.later (some d) (I4 (I4 (I4 (I4 (I8 B d 2 (.int .i64 x.I9)) (I8 _ d 3 (.int .i64 x.n))) (I8 _ d 4 (.string x.K0))) (I8 _ d 5 (.slice A4 x.args.length c4))) (I8 _ d 6 (.int .i64 x.pos))) (λg h=>by simp;omega) (λg h=>h));replace b:=qh (((((b.out.s2 (.int .i64 x.I9)).s3 (.int .i64 x.n)).s4 (.string x.K0)).s5 (.slice A4 x.args.length c4)).s6 (.int .i64 x.pos));clear p;generalize(((((B.setCell ⟨d,2,none⟩ _).setCell ⟨d,3,none⟩ _).setCell ⟨d,4,none⟩ _).setCell ⟨d,5,none⟩ _).setCell ⟨d,6,none⟩ _)=w5 at b A|-;have p:=A;clear A;refine(jl Qu (R1 (by decide)) b.out.rd HX.out).mono ?_;rintro e w9 ⟨rfl,c⟩;have o:=qh (I4 b.out.gr c);clear c;unfold Y3
   go_wp2_with fail
   exact⟨rfl,rfl,o.out⟩
  ·have HY:=qh q;have HX:=qh ha;clear q ha
   go_wp2_with fail
   refine(QE rb v ws en _ 0 hr HN.out _ (De.zag HY.out (by decide) (by decide)) wc b.out.rd b.out.gl).mono ?_;rintro e B ⟨A4,c4,rfl,hA,f,c⟩;have b3:=b.out.z3;have a4:=b.out.gr.size;have a5:=b.out.z2;have a2:=b.out.z5;have hs:=c.size;have a6:=b.out.z4;have a3:=b.out.z0;have p:Hid (J7 B (λg=>w.heap.size<=g/\g≠b0/\g≠d) (.slice A4 x.args.length c4) x.args):=qh (hA.K7 λg (h1:wc.heap.size<=g) I=>⟨⟨by omega,by omega,by omega⟩,I,rfl⟩);replace b:=qh (b.out.L9 f c);clear f c hA;obtain⟨⟨D,K,L,M,m,N,O,G,P,Q⟩,E,R,S,T,U,V,X,H,Y,Z⟩:=J5 b.out.ex
   go_wp2_with fail
   clear D K L M m N O G P Q E R S T U V X H Y Z;have A:=qh (p.out.later (some d) (I4 (I4 (I4 (I4 (I8 B d 2 (.int .i64 x.I9)) (I8 _ d 3 (.int .i64 x.n))) (I8 _ d 4 (.string x.K0))) (I8 _ d 5 (.slice A4 x.args.length c4))) (I8 _ d 6 (.int .i64 x.pos))) (λg h=>by simp;omega) (λg h=>h));replace b:=qh (((((b.out.s2 (.int .i64 x.I9)).s3 (.int .i64 x.n)).s4 (.string x.K0)).s5 (.slice A4 x.args.length c4)).s6 (.int .i64 x.pos));clear p;generalize(((((B.setCell ⟨d,2,none⟩ _).setCell ⟨d,3,none⟩ _).setCell ⟨d,4,none⟩ _).setCell ⟨d,5,none⟩ _).setCell ⟨d,6,none⟩ _)=w5 at b A|-;have p:=A;clear A;refine(jH Qu (R1 (by decide)) b.out.rd HX.out).mono ?_;rintro e w6 ⟨rfl,f,c⟩;have a3:=b.out.z0;replace b:=qh (b.out.L9 f c);replace p:=qh (p.out.later (some rb) c (λg h=>by simp;omega) (λg h=>h));clear f c;obtain⟨⟨D,K,L,M,m,N,O,G,P,Q⟩,E,R,S,T,U,V,X,H,Y,Z⟩:=J5 b.out.ex;obtain⟨⟨d0,d1,d2,d3,d4,d5,d6,d7,d8,d9⟩,g0,g1,g2,g3,g4,g5,g6,g7,g8,g9⟩:=J5 b.out.zD;have HW:=qh (Zr (.int .i64 kd) (.string nm) (.int .i64 x.I9) (.int .i64 x.n) (.string x.K0) (.slice A4 x.args.length c4) (.int .i64 x.pos) (.slice none 0 0) (.slice none 0 0) (.int .i64 (J4 ws i en)) b.out.zD)
   go_wp2_with fail
   (try simp only[Exit.inBlock,Exit.then])
   refine E9 (F2 rfl _ _ b0 _ _ _ _ rfl HW.out underlying188 rfl xA) rfl ?_;have HZ:=qh (JU (s:=.mk kd nm x [] [] (J4 ws i en)) (F:=λg=>w.heap.size<=g/\g≠b0/\g≠d) b.out p.out (.nil none 0) (.nil none 0) (λg h=>⟨h.1,h.2.1⟩));simp only[Sm.I9,Sm.J2,Sm.a,Sm.J0,Sm.M9,Sm.pos]at HZ;exact HZ.out
def zmd(p:Nat)(v ws)(en i:Nat)(hN:zV ws)(hr:10<p)(h1: ∀j,i<j->JP p v ws en j)(G: ∀j,i<j->zcL p v ws en j):zcL p v ws en i:=by
 intro r hq hd w h hG;have H1:=qh h1;have H2:=qh G;have HR:=qh h;have HG:=qh hG;have HN:=qh hN;have HD:=qh hd;have HQ:=qh hq;have b:=qh (xO.zmU HR.out HG.out hr (.int .i64 0) (.string ⟨#[]⟩) (.int .i64 0) (.int .i64 0) (.string ⟨#[]⟩) (.slice none 0 0) (.int .i64 0) (.slice none 0 0) (.slice none 0 0) (.int .i64 (J4 ws i en)));have e1:=h.lt;clear h1 G h hG hN hd hq
 go_enter func223,ntmps223
 go_upto_region 1 with(fail)
 have a8:w.heap.size+1=w.heap.size+1:=rfl;generalize(w.alloc _).alloc _=w2 at b|-;obtain⟨b0,B⟩: ∃b0,w.heap.size+1=b0:=⟨_,rfl⟩;obtain⟨b1,C⟩: ∃b1,w.heap.size=b1:=⟨_,rfl⟩;rw[B,C]at b;simp only[B];simp only[C];have e2:=qh B;have a9:=qh C;clear B C a8;clear HR
 rcases zez HD.out (.inl HQ.out)with⟨j,f,rfl⟩|⟨x,j,f,hm⟩
 ·have HY:=qh f;clear f
  go_wp2_with fail
  refine(QE p v ws en _ 0 hr HN.out _ (De.zag HY.out (by decide) (by decide)) w2 b.out.rd b.out.gl).mono ?_;rintro e H ⟨rfl,c⟩;have y:=qh (I4 b.out.gr c);clear c;unfold Y3
  go_wp2_with fail
  exact⟨rfl,rfl,y.out⟩
 ·have HY:=qh f;have HM:=qh hm;clear f hm
  have a0:i<j:=by have h:i+1<j:=HY.out.on;omega
  go_wp2_with fail
  refine(QE p v ws en _ 0 hr HN.out _ (De.zag HY.out (by decide) (by decide)) w2 b.out.rd b.out.gl).mono ?_;rintro e w4 ⟨V,X,rfl,hA,q,c⟩;have e3:=b.out.z3;have e4:=b.out.gr.size;have e5:=b.out.z2;have b2:=b.out.z5;have hs:=c.size;have e6:=b.out.z4;have M:=b.out.z0;have b3:=a9.out;have d:Hid (J7 w4 (λg=>w.heap.size<=g/\g≠b0/\g≠b1) (.slice V x.args.length X) x.args):=qh (hA.K7 λg (h1:w2.heap.size<=g) G=>⟨⟨by omega,by omega,by omega⟩,G,rfl⟩);replace b:=qh (b.out.L9 q c);clear q c hA b3;obtain⟨⟨c0,c1,c2,c3,D,c5,c6,Y,I,c9⟩,f0,f1,f2,f3,f4,f5,f6,Z,J,f9⟩:=J5 b.out.ex
  go_wp2_with fail
  clear c0 c1 c2 c3 D c5 c6 Y I c9 f0 f1 f2 f3 f4 f5 f6 Z J f9;have N:=qh (d.out.later (some b1) (I4 (I8 w4 b1 0 (.int .i64 3)) (I4 (I4 (I4 (I4 (I8 _ b1 2 (.int .i64 x.I9)) (I8 _ b1 3 (.int .i64 x.n))) (I8 _ b1 4 (.string x.K0))) (I8 _ b1 5 (.slice V x.args.length X))) (I8 _ b1 6 (.int .i64 x.pos)))) (λg h=>by simp;omega) (λg h=>h));replace b:=qh ((((((b.out.s0 (.int .i64 3)).s2 (.int .i64 x.I9)).s3 (.int .i64 x.n)).s4 (.string x.K0)).s5 (.slice V x.args.length X)).s6 (.int .i64 x.pos));clear d;generalize((((((w4.setCell ⟨b1,0,none⟩ _).setCell ⟨b1,2,none⟩ _).setCell ⟨b1,3,none⟩ _).setCell ⟨b1,4,none⟩ _).setCell ⟨b1,5,none⟩ _).setCell ⟨b1,6,none⟩ _)=w5 at b N|-;have d:=N;clear N
  rcases HM.out with⟨k,f,rfl⟩|⟨l,k,f,-,q1,q2,q3⟩
  ·have E:=qh f;clear f
   refine(H1.out j a0 _ E.out w5 b.out.rd b.out.gl).mono ?_;rintro e H ⟨rfl,c⟩;have y:=qh (I4 b.out.gr c);clear c;unfold Y3
   go_wp2_with fail
   exact⟨rfl,rfl,y.out⟩
  ·have E:=qh f;have Q1:=qh q1;have Q2:=qh q2;have Q3:=qh q3;clear f q1 q2 q3
   have b6:j<k:=E.out.on;refine(H1.out j a0 _ E.out w5 b.out.rd b.out.gl).mono ?_;rintro e w6 ⟨O,P,rfl,K,q,c⟩;have b2:=b.out.z3;have b7:=b.out.gr.size;have b8:=b.out.z5;have M:=b.out.z0;have b9:=b.out.z4;replace b:=qh (b.out.L9 q c);replace d:=qh (d.out.later (some p) c (λg h=>by simp;omega) (λg h=>h));have o:Hid (K9 w6 (λg=>w.heap.size<=g/\g≠b0/\g≠b1) (.slice O l.length P) l):=qh (K.K7 λg (h1:w5.heap.size<=g) G=>⟨⟨by omega,by omega,by omega⟩,G,rfl⟩);clear q c K;have Y:=(J5 b.out.ex).1.2.2.2.2.2.2.2.1;have Z:=(J5 b.out.ex).2.2.2.2.2.2.2.2.1
   go_upto_region 3 with(fail)
   clear Y Z;replace b:=qh (b.out.s7 (.slice O l.length P));replace d:=qh (d.out.later (some b1) (I8 w6 b1 7 (.slice O l.length P)) (λg h=>by simp;omega) (λg h=>h));replace o:=qh (o.out.later (some b1) (I8 w6 b1 7 (.slice O l.length P)) (λg h=>by simp;omega) (λg h=>h));generalize w6.setCell ⟨b1,7,none⟩ _=w7 at b d o|-;obtain⟨t2,a1⟩: ∃t,J3 ws k xu=t:=⟨_,rfl⟩;have T2:=qh a1;clear a1
   go_wp2_with fail
   refine(Z5 xu (R1 (by decide)) t2 b.out.rd T2.out).mono ?_;rintro e w8 ⟨rfl,q,c⟩;replace b:=qh (b.out.L9 q c);replace d:=qh (d.out.later (some p) c (λg h=>by simp;omega) (λg h=>h));replace o:=qh (o.out.later (some p) c (λg h=>by simp;omega) (λg h=>h));clear q c;cases t2 with
   |true=>
    simp only[if_true]at b
    go_wp2_with fail
    refine(zam b.out.rd).mono ?_;rintro e wa ⟨rfl,hb⟩;have c:=I7 hb (some p);have e0:=b.out.z0;replace b:=qh (b.out.below hb);replace d:=qh (d.out.later (some p) c (λg h=>by simp;omega) (λg h=>h));replace o:=qh (o.out.later (some p) c (λg h=>by simp;omega) (λg h=>h));clear hb c;obtain⟨t3,a2⟩: ∃t,J3 ws (k+1) Xq=t:=⟨_,rfl⟩;have T3:=qh a2;clear a2
    go_wp2_with fail
    refine(Z5 Xq (R1 (by decide)) t3 b.out.rd T3.out).mono ?_;rintro e H ⟨rfl,q,c⟩;replace b:=qh (b.out.L9 q c);replace d:=qh (d.out.later (some p) c (λg h=>by simp;omega) (λg h=>h));replace o:=qh (o.out.later (some p) c (λg h=>by simp;omega) (λg h=>h));clear q c;cases t3 with
    |true=>
     simp only[if_true]at b
     rcases Q2.out HQ.out T2.out T3.out with⟨m,f,rfl⟩|⟨s,m,f,rfl⟩
     ·have z:=qh f;clear f
      go_wp2_with fail
      refine(H2.out (k+1) (by omega) _ (hs3 T3.out) z.out _ b.out.rd b.out.gl).mono ?_;rintro e H ⟨rfl,c⟩;have y:=qh (I4 b.out.gr c);clear c;unfold Y3
      go_wp2_with fail
      exact⟨rfl,rfl,y.out⟩
     ·have z:=qh f;clear f
      have b4:=b.out.z3;have a3:=b.out.gr.size;have a4:=b.out.z5;have M:=b.out.z0
      go_wp2_with fail
      refine(H2.out (k+1) (by omega) _ (hs3 T3.out) z.out H b.out.rd b.out.gl).mono ?_;rintro e A ⟨Aa,ca,Ac,cc,Q,R,rfl,hA,K,hE,q,c⟩;have b5:=c.size;replace b:=qh (b.out.L9 q c);replace d:=qh (d.out.later (some p) c (λg h=>by simp;omega) (λg h=>h));replace o:=qh (o.out.later (some p) c (λg h=>by simp;omega) (λg h=>h));have a5:=qh hA;have a6:=qh K;have a7:=qh hE;clear q c hA K hE;have I:=(J5 b.out.ex).1.2.2.2.2.2.2.2.2.1;have J:=(J5 b.out.ex).2.2.2.2.2.2.2.2.2.1;have e7:=b.out.z3
      go_upto_region 8 with(fail)
      clear I J;have u:=I8 A b1 8 (.slice (some ⟨A.heap.size,0,none⟩) 1 1);have S:=qh (za1 (W:=A.setCell ⟨b1,8,none⟩ (.slice (some ⟨A.heap.size,0,none⟩) 1 1)) (cap:=1) (T:=188) (F:=λg=>w.heap.size<=g/\g≠b0/\g≠b1) a5.out a6.out a7.out u (λg (h:H.heap.size<=g)=>⟨by omega,by omega,by omega,by omega⟩) (n:=A.heap.size) (by simp) ⟨by omega,by omega,by omega⟩);have U:=I4 u (I7 ((x8 _ _).alloc (x7 _) (.cells #[.int .i64 s.I9,.string s.J2,.int .i64 s.a.I9,.int .i64 s.a.n,.string s.a.K0,.slice Aa s.a.args.length ca,.int .i64 s.a.pos,.slice Ac s.J0.length cc,.slice Q s.M9.length R,.int .i64 s.pos] 188)) (some b1));replace b:=qh ((b.out.s8 (.slice (some ⟨A.heap.size,0,none⟩) 1 1)).below ((x8 _ _).alloc (x7 _) (.cells #[.int .i64 s.I9,.string s.J2,.int .i64 s.a.I9,.int .i64 s.a.n,.string s.a.K0,.slice Aa s.a.args.length ca,.int .i64 s.a.pos,.slice Ac s.J0.length cc,.slice Q s.M9.length R,.int .i64 s.pos] 188)));replace d:=qh (d.out.later (some b1) U (λg h=>by simp;omega) (λg h=>h));replace o:=qh (o.out.later (some b1) U (λg h=>by simp;omega) (λg h=>h));clear u U a5 a6 a7;generalize((A.setCell ⟨b1,8,none⟩ _).alloc _)=wy at b d o S|-;generalize A.heap.size=n1 at b S|-;obtain⟨⟨c0,c1,c2,c3,D,c5,c6,Y,I,c9⟩,f0,f1,f2,f3,f4,f5,f6,Z,J,f9⟩:=J5 b.out.ex;obtain⟨⟨d0,d1,d2,d3,d4,d5,d6,d7,d8,d9⟩,g0,g1,g2,g3,g4,g5,g6,g7,g8,g9⟩:=J5 b.out.zD;have HW:=qh (Zr (.int .i64 3) (.string L1) (.int .i64 x.I9) (.int .i64 x.n) (.string x.K0) (.slice V x.args.length X) (.int .i64 x.pos) (.slice O l.length P) (.slice (some ⟨n1,0,none⟩) 1 1) (.int .i64 (J4 ws i en)) b.out.zD)
      go_wp2_with fail
      (try simp only[Exit.inBlock,Exit.then])
      refine E9 (F2 rfl _ _ b0 _ _ _ _ rfl HW.out underlying188 rfl xA) rfl ?_;have L:=qh (JU (s:=.mk 3 L1 x l [s] (J4 ws i en)) (F:=λg=>w.heap.size<=g/\g≠b0/\g≠b1) b.out d.out o.out S.out (λg h=>⟨h.1,h.2.1⟩));simp only[Sm.I9,Sm.J2,Sm.a,Sm.J0,Sm.M9,Sm.pos]at L;exact L.out
    |false=>
     simp only[C2,if_false]at b
     rcases Q3.out HQ.out T2.out T3.out with⟨m,f,rfl⟩|⟨ls,m,f,rfl⟩
     ·have z:=qh f;clear f
      go_wp2_with fail
      refine(H1.out (k+1) (by omega) _ z.out _ b.out.rd b.out.gl).mono ?_;rintro e H ⟨rfl,c⟩;have y:=qh (I4 b.out.gr c);clear c;unfold Y3
      go_wp2_with fail
      exact⟨rfl,rfl,y.out⟩
     ·have z:=qh f;clear f
      have b4:=b.out.z3;have a3:=b.out.gr.size;have a4:=b.out.z5;have M:=b.out.z0
      go_wp2_with fail
      refine(H1.out (k+1) (by omega) _ z.out H b.out.rd b.out.gl).mono ?_;rintro e A ⟨Q,R,rfl,K,q,c⟩;have b5:=c.size;replace b:=qh (b.out.L9 q c);replace d:=qh (d.out.later (some p) c (λg h=>by simp;omega) (λg h=>h));replace o:=qh (o.out.later (some p) c (λg h=>by simp;omega) (λg h=>h));have HE:Hid (K9 A (λg=>w.heap.size<=g/\g≠b0/\g≠b1) (.slice Q ls.length R) ls):=qh (K.K7 λg (h1:H.heap.size<=g) G=>⟨⟨by omega,by omega,by omega⟩,G,rfl⟩);clear q c K;have I:=(J5 b.out.ex).1.2.2.2.2.2.2.2.2.1;have J:=(J5 b.out.ex).2.2.2.2.2.2.2.2.2.1
      go_upto_region 8 with(fail)
      clear I J;have u:=I8 A b1 8 (.slice Q ls.length R);replace b:=qh (b.out.s8 (.slice Q ls.length R));replace d:=qh (d.out.later (some b1) u (λg h=>by simp;omega) (λg h=>h));replace o:=qh (o.out.later (some b1) u (λg h=>by simp;omega) (λg h=>h));replace HE:=qh (HE.out.later (some b1) u (λg h=>by simp;omega) (λg h=>h));clear u;generalize(A.setCell ⟨b1,8,none⟩ _)=wy at b d o HE|-;obtain⟨⟨c0,c1,c2,c3,D,c5,c6,Y,I,c9⟩,f0,f1,f2,f3,f4,f5,f6,Z,J,f9⟩:=J5 b.out.ex;obtain⟨⟨d0,d1,d2,d3,d4,d5,d6,d7,d8,d9⟩,g0,g1,g2,g3,g4,g5,g6,g7,g8,g9⟩:=J5 b.out.zD;have HW:=qh (Zr (.int .i64 3) (.string L1) (.int .i64 x.I9) (.int .i64 x.n) (.string x.K0) (.slice V x.args.length X) (.int .i64 x.pos) (.slice O l.length P) (.slice Q ls.length R) (.int .i64 (J4 ws i en)) b.out.zD)
      go_wp2_with fail
      (try simp only[Exit.inBlock,Exit.then])
      refine E9 (F2 rfl _ _ b0 _ _ _ _ rfl HW.out underlying188 rfl xA) rfl ?_;have L:=qh (JU (s:=.mk 3 L1 x l ls (J4 ws i en)) (F:=λg=>w.heap.size<=g/\g≠b0/\g≠b1) b.out d.out o.out HE.out (λg h=>⟨h.1,h.2.1⟩));simp only[Sm.I9,Sm.J2,Sm.a,Sm.J0,Sm.M9,Sm.pos]at L;exact L.out
   |false=>
    simp only[C2,if_false]at b;obtain rfl:=Q1.out HQ.out T2.out;obtain⟨⟨c0,c1,c2,c3,D,c5,c6,Y,I,c9⟩,f0,f1,f2,f3,f4,f5,f6,Z,J,f9⟩:=J5 b.out.ex;obtain⟨⟨d0,d1,d2,d3,d4,d5,d6,d7,d8,d9⟩,g0,g1,g2,g3,g4,g5,g6,g7,g8,g9⟩:=J5 b.out.zD;have HW:=qh (Zr (.int .i64 3) (.string L1) (.int .i64 x.I9) (.int .i64 x.n) (.string x.K0) (.slice V x.args.length X) (.int .i64 x.pos) (.slice O l.length P) (.slice none 0 0) (.int .i64 (J4 ws i en)) b.out.zD)
    go_wp2_with fail
    (try simp only[Exit.inBlock,Exit.then])
    refine E9 (F2 rfl _ _ b0 _ _ _ _ rfl HW.out underlying188 rfl xA) rfl ?_;have L:=qh (JU (s:=.mk 3 L1 x l [] (J4 ws i en)) (F:=λg=>w.heap.size<=g/\g≠b0/\g≠b1) b.out d.out o.out (.nil none 0) (λg h=>⟨h.1,h.2.1⟩));simp only[Sm.I9,Sm.J2,Sm.a,Sm.J0,Sm.M9,Sm.pos]at L;exact L.out
def zdS(b:Nat)(v ws)(en:Nat)(e:zV ws)(d:10<b): ∀k i,ws.length<i+k->zfg b v ws en i/\zcL b v ws en i/\JP b v ws en i:=by
 intro k
 induction k with
 |zero=>
  intro i g;exact⟨λ_ _ w h=>H9 h.pos (by omega),λ_ _ _ w h=>H9 h.pos (by omega),λ_ _ w h=>H9 h.pos (by omega)⟩
 |succ k l=>
  intro i g;have a: ∀j,i<j->zfg b v ws en j/\zcL b v ws en j/\JP b v ws en j:=λj c=>l j (by omega)
  have f:=zmd b v ws en i e d (λj c=>(a j c).2.2) (λj c=>(a j c).2.1);exact⟨zl6 b v ws en i e d f (λj c=>(a j c).2.2),f,zjC b v ws en i d (λj c=>(a j c).1)⟩
def zcy(a:Nat)(v:Value)(ws:List Wd)(en i:Nat)(b:zV ws)(c:10<a):JP a v ws en i:=(zdS a v ws en b c (ws.length+1) i (by omega)).2.2
end Go.Proofs.YtmngofgminlloaaGreatDoor
