/-
  The frame of the program's fun(): its result (b0), what is written of the function (bf), its rows; and what fun() answers.
  What stands there when the program's fun() goes its ways, in plain Lean.
  What stands there when the program's stmt() and cond() go their ways, in plain Lean; the answer of the frame.
  The program's stmt(), of whatever its callees answer by contract.
-/
import Derived.Test.YtmngofgminlloaaGreatDoorTN21
import Derived.Test.YtmngofgminlloaaGreatDoorTN12
import Derived.Test.YtmngofgminlloaaGreatDoorTN08
import Derived.Outline
import Derived.Deep.DeepCutAuto
set_option linter.unusedSimpArgs false
set_option linter.unusedVariables false
namespace Go.Proofs.YtmngofgminlloaaGreatDoor
open Go.RowKit Tw

/-- The frame of one function: what is written of it lies in bf; its rows lie in new blocks. -/
structure FrG (wr W : World) (rb b0 bf base : Nat) (v : Value) (ws : List Wd) (i en : Nat) (nm : ByteArray) (An : Option Addr) (cn : Nat) (ns : List ByteArray) (At : Option Addr) (ct : Nat) (ts : List Int) (out : Int) (vb : Value) (pos : Int) : Prop where
  rd : Rq W rb v ws i en
  fb : W.heap[bf]? = some (.cells #[.string nm, .slice An ns.length cn, .slice At ts.length ct, .int .i64 out, vb, .int .i64 pos] 32 (0, 0))
  res : W.heap[b0]? = some (.cells #[.string ⟨#[]⟩, .slice none 0 0, .slice none 0 0, .int .i64 0, .slice none 0 0, .int .i64 0] 32 (0, 0))
  gr : wr.grownBy W (some rb)
  gl : Glob W
  rn : GRow strElem W base 9 1 (.slice An ns.length cn) ns
  rt : GRow intElem W base 3 1 (.slice At ts.length ct) ts
  ne : ∀ g, (Value.slice An ns.length cn).ownBlock = some g → (Value.slice At ts.length ct).ownBlock ≠ some g
  r0 : 10 < rb
  z0 : rb < wr.heap.size
  z1 : wr.heap.size ≤ bf
  zb : wr.heap.size ≤ b0 ∧ b0 < bf
  z2 : bf < base
  z3 : base ≤ W.heap.size
section
variable {wr W W' : World} {rb b0 bf base : Nat} {v : Value} {ws : List Wd} {i en : Nat} {nm : ByteArray} {An : Option Addr} {cn : Nat} {ns : List ByteArray} {At : Option Addr} {ct : Nat} {ts : List Int} {out : Int} {vb : Value} {pos : Int}
theorem FrG.step {i' : Nat} (h : FrG wr W rb b0 bf base v ws i en nm An cn ns At ct ts out vb pos) (hr : Rq W' rb v ws i' en) (hg : W.grownBy W' (some rb)) : FrG wr W' rb b0 bf base v ws i' en nm An cn ns At ct ts out vb pos := by
  have h0 := h.z0; have h1 := h.z1; have h2 := h.z2; have h3 := h.z3; have hb := h.zb
  exact ⟨hr, (hg.block bf (by omega) (by simp; omega)).trans h.fb, (hg.block b0 (by omega) (by simp; omega)).trans h.res, grown_trans h.gr hg, h.gl.of hg h.r0, h.rn.kept hg (fun k e => .inl (by cases e; omega)), h.rt.kept hg (fun k e => .inl (by cases e; omega)), h.ne, h.r0, h0, h1, h.zb, h2, Nat.le_trans h3 hg.size⟩
theorem FrG.below (h : FrG wr W rb b0 bf base v ws i en nm An cn ns At ct ts out vb pos) (hb : Below W.heap.size W W') : FrG wr W' rb b0 bf base v ws i en nm An cn ns At ct ts out vb pos := h.step (h.rd.keep hb) (grown_of_below hb _)
/-- A write of a cell of the function's. -/
theorem FrG.cell {x : Value} (h : FrG wr W rb b0 bf base v ws i en nm An cn ns At ct ts out vb pos) (j : Nat) : W.grownBy (W.setCell ⟨bf, j, none⟩ x) (some bf) ∧ Rq (W.setCell ⟨bf, j, none⟩ x) rb v ws i en ∧ wr.grownBy (W.setCell ⟨bf, j, none⟩ x) (some rb) ∧ Glob (W.setCell ⟨bf, j, none⟩ x) ∧ GRow strElem (W.setCell ⟨bf, j, none⟩ x) base 9 1 (.slice An ns.length cn) ns ∧ GRow intElem (W.setCell ⟨bf, j, none⟩ x) base 3 1 (.slice At ts.length ct) ts ∧ (W.setCell ⟨bf, j, none⟩ x).heap[b0]? = some (.cells #[.string ⟨#[]⟩, .slice none 0 0, .slice none 0 0, .int .i64 0, .slice none 0 0, .int .i64 0] 32 (0, 0)) := by
  have h0 := h.z0; have h1 := h.z1; have h2 := h.z2; have h3 := h.z3; have hb := h.zb
  have hg := grown_set W bf j x
  exact ⟨hg, h.rd.grown hg (by omega), grown_new h.gr hg (by omega), h.gl.same hg.size (fun g hg' => hg.block g (by have := h.r0; omega) (by simp; have := h.r0; omega)), h.rn.kept hg (fun k e => .inl (by cases e; omega)), h.rt.kept hg (fun k e => .inl (by cases e; omega)), (hg.block b0 (by omega) (by simp; omega)).trans h.res⟩
theorem FrG.s0 (h : FrG wr W rb b0 bf base v ws i en nm An cn ns At ct ts out vb pos) (x : ByteArray) : FrG wr (W.setCell ⟨bf, 0, none⟩ (.string x)) rb b0 bf base v ws i en x An cn ns At ct ts out vb pos := by
  obtain ⟨h1, h2, h3, h4, h5, h6, h7⟩ := h.cell (x := (.string x)) 0
  exact ⟨h2, by simpa using heap_setCell_same W bf 0 _ _ (.string x) h.fb, h7, h3, h4, h5, h6, h.ne, h.r0, h.z0, h.z1, h.zb, h.z2, Nat.le_trans h.z3 h1.size⟩
theorem FrG.s3 (h : FrG wr W rb b0 bf base v ws i en nm An cn ns At ct ts out vb pos) (x : Int) : FrG wr (W.setCell ⟨bf, 3, none⟩ (.int .i64 x)) rb b0 bf base v ws i en nm An cn ns At ct ts x vb pos := by
  obtain ⟨h1, h2, h3, h4, h5, h6, h7⟩ := h.cell (x := (.int .i64 x)) 3
  exact ⟨h2, by simpa using heap_setCell_same W bf 3 _ _ (.int .i64 x) h.fb, h7, h3, h4, h5, h6, h.ne, h.r0, h.z0, h.z1, h.zb, h.z2, Nat.le_trans h.z3 h1.size⟩
theorem FrG.s4 (h : FrG wr W rb b0 bf base v ws i en nm An cn ns At ct ts out vb pos) (x : Value) : FrG wr (W.setCell ⟨bf, 4, none⟩ x) rb b0 bf base v ws i en nm An cn ns At ct ts out x pos := by
  obtain ⟨h1, h2, h3, h4, h5, h6, h7⟩ := h.cell (x := x) 4
  exact ⟨h2, by simpa using heap_setCell_same W bf 4 _ _ x h.fb, h7, h3, h4, h5, h6, h.ne, h.r0, h.z0, h.z1, h.zb, h.z2, Nat.le_trans h.z3 h1.size⟩
/-- One name more. -/
theorem FrG.name {s : ByteArray} {g cap k : Nat} (h : FrG wr W rb b0 bf base v ws i en nm An cn ns At ct ts out vb pos) (ho : W'.ownsRow base 9 1 (.slice (some ⟨g, 0, none⟩) (ns.length + 1) cap) (ns.length + 1) (ns.flatMap strElem.cells ++ strElem.cells s)) (hg : W.grownBy W' (Value.slice An ns.length cn).ownBlock) (hat : (Value.slice An ns.length cn).ownBlock = some g ∨ g = W.heap.size) (hk : k = ns.length + 1) :
    FrG wr (W'.setCell ⟨bf, 1, none⟩ (.slice (some ⟨g, 0, none⟩) k cap)) rb b0 bf base v ws i en nm (some ⟨g, 0, none⟩) cap (ns ++ [s]) At ct ts out vb pos := by
  subst hk
  have h0 := h.z0; have h1 := h.z1; have h2 := h.z2; have h3 := h.z3; have hb := h.zb
  have hlt := h.rn.1.lt
  have hrow : ∀ k, (Value.slice An ns.length cn).ownBlock = some k → base ≤ k := fun k e => (hlt k e).1
  have hrn : GRow strElem W' base 9 1 (.slice (some ⟨g, 0, none⟩) (ns.length + 1) cap) (ns ++ [s]) := GRow.app (F := fun _ => False) h.rn trivial (fun _ h => h.elim) ho hg hat
  have hrt : GRow intElem W' base 3 1 (.slice At ts.length ct) ts := h.rt.beside (fun _ _ _ => trivial) hg (by
    cases hv : (Value.slice At ts.length ct).ownBlock with
    | none => exact .inl rfl
    | some k => right; intro e; exact h.ne k e.symm hv)
  have hgl : Glob W' := h.gl.same hg.size (fun q hq => hg.block q (by have := h.r0; omega) (fun e => by have := hrow q e.symm; have := h.r0; omega))
  have hset := grown_set W' bf 1 (.slice (some ⟨g, 0, none⟩) (ns.length + 1) cap)
  have hfb : W'.heap[bf]? = some (.cells #[.string nm, .slice An ns.length cn, .slice At ts.length ct, .int .i64 out, vb, .int .i64 pos] 32 (0, 0)) := (hg.block bf (by omega) (fun e => by have := hrow bf e.symm; omega)).trans h.fb
  have hgr : wr.grownBy W' (some rb) := ⟨hg.os.trans h.gr.os, hg.tape.trans h.gr.tape, hg.output.trans h.gr.output, Nat.le_trans h.gr.size hg.size, fun q hq hr => (hg.block q (Nat.lt_of_lt_of_le hq h.gr.size) (fun e => by have := hrow q e.symm; omega)).trans (h.gr.block q hq hr)⟩
  have hrd : Rq W' rb v ws i en := ⟨(hg.block rb h.rd.lt (fun e => by have := hrow rb e.symm; omega)).trans h.rd.blk, h.rd.row.same fun q hq => hg.block q (Nat.lt_trans hq h.rd.lt) (fun e => by have := hrow q e.symm; omega), h.rd.len, h.rd.pos⟩
  have e1 : (ns ++ [s]).length = ns.length + 1 := by simp
  refine ⟨hrd.grown hset (by omega), by rw [e1]; simpa using heap_setCell_same W' bf 1 _ _ (.slice (some ⟨g, 0, none⟩) (ns.length + 1) cap) hfb, (hset.block b0 (by have := hg.size; omega) (by simp; omega)).trans ((hg.block b0 (by omega) (fun e => by have := hrow b0 e.symm; omega)).trans h.res), grown_new hgr hset (by omega), hgl.same hset.size (fun q hq => hset.block q (by have := h.r0; have := hg.size; omega) (by simp; have := h.r0; omega)),
    by rw [e1]; exact hrn.kept hset (fun k e => .inl (by cases e; omega)), hrt.kept hset (fun k e => .inl (by cases e; omega)), ?_, h.r0, h0, h1, h.zb, h2, Nat.le_trans h3 (Nat.le_trans hg.size hset.size)⟩
  intro q hq e
  simp [Value.ownBlock] at hq
  subst hq
  rcases hat with hat | hat
  · exact h.ne g hat e
  · have := (h.rt.1.lt g e).2; omega
/-- One type more. -/
theorem FrG.typ {s : Int} {g cap k : Nat} (h : FrG wr W rb b0 bf base v ws i en nm An cn ns At ct ts out vb pos) (ho : W'.ownsRow base 3 1 (.slice (some ⟨g, 0, none⟩) (ts.length + 1) cap) (ts.length + 1) (ts.flatMap intElem.cells ++ intElem.cells s)) (hg : W.grownBy W' (Value.slice At ts.length ct).ownBlock) (hat : (Value.slice At ts.length ct).ownBlock = some g ∨ g = W.heap.size) (hk : k = ts.length + 1) :
    FrG wr (W'.setCell ⟨bf, 2, none⟩ (.slice (some ⟨g, 0, none⟩) k cap)) rb b0 bf base v ws i en nm An cn ns (some ⟨g, 0, none⟩) cap (ts ++ [s]) out vb pos := by
  subst hk
  have h0 := h.z0; have h1 := h.z1; have h2 := h.z2; have h3 := h.z3; have hb := h.zb
  have hlt := h.rt.1.lt
  have hrow : ∀ k, (Value.slice At ts.length ct).ownBlock = some k → base ≤ k := fun k e => (hlt k e).1
  have hrt : GRow intElem W' base 3 1 (.slice (some ⟨g, 0, none⟩) (ts.length + 1) cap) (ts ++ [s]) := GRow.app (F := fun _ => False) h.rt trivial (fun _ h => h.elim) ho hg hat
  have hrn : GRow strElem W' base 9 1 (.slice An ns.length cn) ns := h.rn.beside (fun _ _ _ => trivial) hg (by
    cases hv : (Value.slice An ns.length cn).ownBlock with
    | none => exact .inl rfl
    | some k => right; intro e; exact h.ne k hv e.symm)
  have hgl : Glob W' := h.gl.same hg.size (fun q hq => hg.block q (by have := h.r0; omega) (fun e => by have := hrow q e.symm; have := h.r0; omega))
  have hset := grown_set W' bf 2 (.slice (some ⟨g, 0, none⟩) (ts.length + 1) cap)
  have hfb : W'.heap[bf]? = some (.cells #[.string nm, .slice An ns.length cn, .slice At ts.length ct, .int .i64 out, vb, .int .i64 pos] 32 (0, 0)) := (hg.block bf (by omega) (fun e => by have := hrow bf e.symm; omega)).trans h.fb
  have hgr : wr.grownBy W' (some rb) := ⟨hg.os.trans h.gr.os, hg.tape.trans h.gr.tape, hg.output.trans h.gr.output, Nat.le_trans h.gr.size hg.size, fun q hq hr => (hg.block q (Nat.lt_of_lt_of_le hq h.gr.size) (fun e => by have := hrow q e.symm; omega)).trans (h.gr.block q hq hr)⟩
  have hrd : Rq W' rb v ws i en := ⟨(hg.block rb h.rd.lt (fun e => by have := hrow rb e.symm; omega)).trans h.rd.blk, h.rd.row.same fun q hq => hg.block q (Nat.lt_trans hq h.rd.lt) (fun e => by have := hrow q e.symm; omega), h.rd.len, h.rd.pos⟩
  have e1 : (ts ++ [s]).length = ts.length + 1 := by simp
  refine ⟨hrd.grown hset (by omega), by rw [e1]; simpa using heap_setCell_same W' bf 2 _ _ (.slice (some ⟨g, 0, none⟩) (ts.length + 1) cap) hfb, (hset.block b0 (by have := hg.size; omega) (by simp; omega)).trans ((hg.block b0 (by omega) (fun e => by have := hrow b0 e.symm; omega)).trans h.res), grown_new hgr hset (by omega), hgl.same hset.size (fun q hq => hset.block q (by have := h.r0; have := hg.size; omega) (by simp; have := h.r0; omega)),
    hrn.kept hset (fun k e => .inl (by cases e; omega)), by rw [e1]; exact hrt.kept hset (fun k e => .inl (by cases e; omega)), ?_, h.r0, h0, h1, h.zb, h2, Nat.le_trans h3 (Nat.le_trans hg.size hset.size)⟩
  intro q hq e
  simp [Value.ownBlock] at e
  subst e
  rcases hat with hat | hat
  · exact h.ne g hq hat
  · have := (h.rn.1.lt g hq).2; omega
end
theorem set6 {w : World} {b t : Nat} {u0 u1 u2 u3 u4 u5 : Value} (v0 v1 v2 v3 v4 v5 : Value) (h : w.heap[b]? = some (.cells #[u0, u1, u2, u3, u4, u5] t (0, 0))) :
    ((((((w.setCell ⟨b, 0, none⟩ v0).setCell ⟨b, 1, none⟩ v1).setCell ⟨b, 2, none⟩ v2).setCell ⟨b, 3, none⟩ v3).setCell ⟨b, 4, none⟩ v4).setCell ⟨b, 5, none⟩ v5).heap[b]? = some (.cells #[v0, v1, v2, v3, v4, v5] t (0, 0)) := by
  have h0 := heap_setCell_same _ b 0 _ _ v0 h
  have h1 := heap_setCell_same _ b 1 _ _ v1 h0
  have h2 := heap_setCell_same _ b 2 _ _ v2 h1
  have h3 := heap_setCell_same _ b 3 _ _ v3 h2
  have h4 := heap_setCell_same _ b 4 _ _ v4 h3
  have h5 := heap_setCell_same _ b 5 _ _ v5 h4
  simpa using h5
theorem grown6 (w : World) (b : Nat) (v0 v1 v2 v3 v4 v5 : Value) : w.grownBy ((((((w.setCell ⟨b, 0, none⟩ v0).setCell ⟨b, 1, none⟩ v1).setCell ⟨b, 2, none⟩ v2).setCell ⟨b, 3, none⟩ v3).setCell ⟨b, 4, none⟩ v4).setCell ⟨b, 5, none⟩ v5) (some b) :=
  grown_trans (grown_trans (grown_trans (grown_trans (grown_trans (grown_set _ _ _ _) (grown_set _ _ _ _)) (grown_set _ _ _ _)) (grown_set _ _ _ _)) (grown_set _ _ _ _)) (grown_set _ _ _ _)
theorem fnInfo : (Tryz.prog.info? 32).map (·.size) = some 6 := by kernel_rfl
theorem StrsIn.later {w w' : World} {F F' : Nat → Prop} {v : Value} {l : List ByteArray} (h : StrsIn w F v l) (row : Option Nat) (hg : w.grownBy w' row) (hk : ∀ g, F g → row ≠ some g) (hF : ∀ g, F g → F' g) : StrsIn w' F' v l :=
  h.keep fun g h1 h2 => ⟨hF g h1, Nat.lt_of_lt_of_le h2 hg.size, hg.block g h2 (fun e => hk g h1 e.symm)⟩
theorem IntsIn.later {w w' : World} {F F' : Nat → Prop} {v : Value} {l : List Int} (h : IntsIn w F v l) (row : Option Nat) (hg : w.grownBy w' row) (hk : ∀ g, F g → row ≠ some g) (hF : ∀ g, F g → F' g) : IntsIn w' F' v l :=
  h.keep fun g h1 h2 => ⟨hF g h1, Nat.lt_of_lt_of_le h2 hg.size, hg.block g h2 (fun e => hk g h1 e.symm)⟩
/-- What fun() answers, by what stands there. -/
def FnR (w : World) (rb : Nat) (v : Value) (ws : List Wd) (en : Nat) (r : Rf) (e : Ending) (w' : World) : Prop :=
  match r with
  | .fn f j => ∃ An cn At ct Ab cb, e = .returned (.agg #[.string f.name, .slice An f.names.length cn, .slice At f.types.length ct, .int .i64 f.out, .slice Ab f.body.length cb, .int .i64 f.pos]) ∧ StrsIn w' (fun g => w.heap.size ≤ g) (.slice An f.names.length cn) f.names ∧ IntsIn w' (fun g => w.heap.size ≤ g) (.slice At f.types.length ct) f.types ∧ StmtsIn w' (fun g => w.heap.size ≤ g) (.slice Ab f.body.length cb) f.body ∧ Rq w' rb v ws j en ∧ w.grownBy w' (some rb)
  | .bad j => e = badP ws en j ∧ w.grownBy w' (some rb)
def FnP (rb : Nat) (v : Value) (ws : List Wd) (en i : Nat) : Prop :=
  ∀ r, Df ws en i r → ∀ w, Rq w rb v ws i en → Glob w → Calls Tryz.prog 83 #[.pointer (some ⟨rb, 0, none⟩)] w fun e w' => FnR w rb v ws en r e w'
theorem FrG.ret {wr W : World} {rb b0 bf base : Nat} {v : Value} {ws : List Wd} {i en : Nat} {nm : ByteArray} {An : Option Addr} {cn : Nat} {ns : List ByteArray} {At : Option Addr} {ct : Nat} {ts : List Int} {out : Int} {Ab : Option Addr} {cb : Nat} {lb : List Sm} {pos : Int}
    (h : FrG wr W rb b0 bf base v ws i en nm An cn ns At ct ts out (.slice Ab lb.length cb) pos) (hB : StmtsIn W (fun g => base ≤ g) (.slice Ab lb.length cb) lb) :
    FnR wr rb v ws en (.fn ⟨nm, ns, ts, out, lb, pos⟩ i) (.returned (.agg #[.string nm, .slice An ns.length cn, .slice At ts.length ct, .int .i64 out, .slice Ab lb.length cb, .int .i64 pos]))
      ((((((W.setCell ⟨b0, 0, none⟩ (.string nm)).setCell ⟨b0, 1, none⟩ (.slice An ns.length cn)).setCell ⟨b0, 2, none⟩ (.slice At ts.length ct)).setCell ⟨b0, 3, none⟩ (.int .i64 out)).setCell ⟨b0, 4, none⟩ (.slice Ab lb.length cb)).setCell ⟨b0, 5, none⟩ (.int .i64 pos)) := by
  have hg := grown6 W b0 (.string nm) (.slice An ns.length cn) (.slice At ts.length ct) (.int .i64 out) (.slice Ab lb.length cb) (.int .i64 pos)
  have h0 := h.z0; have h1 := h.z1; have h2 := h.z2; have hb := h.zb
  exact ⟨An, cn, At, ct, Ab, cb, rfl, h.rn.strs.later _ hg (fun g (q : base ≤ g) => by simp; omega) (fun g q => by omega), h.rt.ints.later _ hg (fun g (q : base ≤ g) => by simp; omega) (fun g q => by omega), hB.later _ hg (fun g (q : base ≤ g) => by simp; omega) (fun g q => by omega), h.rd.grown hg (by omega), grown_new h.gr hg hb.1⟩
end Go.Proofs.YtmngofgminlloaaGreatDoor

namespace Go.Proofs.YtmngofgminlloaaGreatDoor
open Go.RowKit Tw

def joinP (ns : List ByteArray) (ts : List Int) : Rp → Rp
  | .ok ms us j => .ok (ns ++ ms) (ts ++ us) j
  | r => r
theorem joinP_nil (r : Rp) : joinP [] [] r = r := by cases r <;> simp [joinP]
theorem joinP_join (ns ms : List ByteArray) (ts us : List Int) (r : Rp) : joinP ns ts (joinP ms us r) = joinP (ns ++ ms) (ts ++ us) r := by cases r <;> simp [joinP]
section
variable {ws : List Wd} {en i k : Nat} {r : Rf} {q : Rp}
theorem dp_close (h : Dp ws en k i q) (hc : isAt ws i sClose = true) : q = .ok [] [] (i + 1) := by
  cases h with
  | close _ => rfl
  | comma g => rw [hc] at g; cases g
  | name g => rw [hc] at g; cases g
  | typ g => rw [hc] at g; cases g
  | next g => rw [hc] at g; cases g
  | nextR g => rw [hc] at g; cases g
theorem dp_more (h : Dp ws en k i q) (hc : isAt ws i sClose = false) :
    (k ≠ 0 ∧ isAt ws i sComma = false ∧ q = .bad i) ∨ ((k ≠ 0 → isAt ws i sComma = true) ∧ ((kindAt ws (parAt k i) ≠ 2 ∧ q = .bad (parAt k i)) ∨
      (kindAt ws (parAt k i) = 2 ∧ ((∃ j, typF ws (parAt k i + 1) = .bad j ∧ q = .bad j) ∨ ∃ t q2, typF ws (parAt k i + 1) = .ok t ∧ Dp ws en (k + 1) (parAt k i + 3) q2 ∧ q = joinP [textAt ws (parAt k i)] [t] q2)))) := by
  cases h with
  | close g => rw [hc] at g; cases g
  | comma _ g1 g2 => exact .inl ⟨g1, g2, rfl⟩
  | name _ g1 g2 => exact .inr ⟨g1, .inl ⟨g2, rfl⟩⟩
  | typ _ g1 g2 g3 => exact .inr ⟨g1, .inr ⟨g2, .inl ⟨_, g3, rfl⟩⟩⟩
  | next _ g1 g2 g3 g4 => exact .inr ⟨g1, .inr ⟨g2, .inr ⟨_, _, g3, g4, rfl⟩⟩⟩
  | nextR _ g1 g2 g3 g4 => exact .inr ⟨g1, .inr ⟨g2, .inr ⟨_, _, g3, g4, rfl⟩⟩⟩
theorem df_cases (h : Df ws en i r) :
    (isAt ws i sFun = false ∧ r = .bad i) ∨ (isAt ws i sFun = true ∧ ((kindAt ws (i + 1) ≠ 2 ∧ r = .bad (i + 1)) ∨ (kindAt ws (i + 1) = 2 ∧ ((isAt ws (i + 2) sOpen = false ∧ r = .bad (i + 2)) ∨
      (isAt ws (i + 2) sOpen = true ∧ ∃ q, Dp ws en 0 (i + 3) q ∧ (∀ j, q = .bad j → r = .bad j) ∧ (∀ ns ts j, q = .ok ns ts j → (∃ k, typF ws j = .bad k ∧ r = .bad k) ∨ ∃ t, typF ws j = .ok t ∧
        ((∃ k, Ds ws en (.block (j + 2)) (.bad k) ∧ r = .bad k) ∨ ∃ l k, Ds ws en (.block (j + 2)) (.sts l k) ∧ r = .fn ⟨textAt ws (i + 1), ns, ts, t, l, posAt ws i en⟩ k))))))) := by
  cases h with
  | noFun g => exact .inl ⟨g, rfl⟩
  | noName g g1 => exact .inr ⟨g, .inl ⟨g1, rfl⟩⟩
  | noOpen g g1 g2 => exact .inr ⟨g, .inr ⟨g1, .inl ⟨g2, rfl⟩⟩⟩
  | par g g1 g2 g3 => exact .inr ⟨g, .inr ⟨g1, .inr ⟨g2, _, g3, fun j e => (by injection e with e; rw [e]), fun ns ts j e => by cases e⟩⟩⟩
  | typ g g1 g2 g3 g4 => exact .inr ⟨g, .inr ⟨g1, .inr ⟨g2, _, g3, fun j e => (by cases e), fun ns ts j e => (by injection e with e1 e2 e3; subst e1; subst e2; subst e3; exact .inl ⟨_, g4, rfl⟩)⟩⟩⟩
  | body g g1 g2 g3 g4 g5 => exact .inr ⟨g, .inr ⟨g1, .inr ⟨g2, _, g3, fun j e => (by cases e), fun ns ts j e => (by injection e with e1 e2 e3; subst e1; subst e2; subst e3; exact .inr ⟨_, g4, .inl ⟨_, g5, rfl⟩⟩)⟩⟩⟩
  | fn g g1 g2 g3 g4 g5 => exact .inr ⟨g, .inr ⟨g1, .inr ⟨g2, _, g3, fun j e => (by cases e), fun ns ts j e => (by injection e with e1 e2 e3; subst e1; subst e2; subst e3; exact .inr ⟨_, g4, .inr ⟨_, _, g5, rfl⟩⟩)⟩⟩⟩
end
end Go.Proofs.YtmngofgminlloaaGreatDoor

namespace Go.Proofs.YtmngofgminlloaaGreatDoor
open Go.RowKit Tw

section
variable {ws : List Wd} {en i : Nat} {r : Rs}
theorem isAt_other {s t : ByteArray} (h : isAt ws i s = true) (hn : s.data.toList ≠ t.data.toList) : isAt ws i t = false := by
  unfold isAt at h ⊢
  cases hx : ws[i]? with
  | none => rfl
  | some x =>
    rw [hx] at h
    simp only [beq_iff_eq, ByteArray.toList_eq] at h
    simp only [beq_eq_false_iff_ne, ByteArray.toList_eq]
    rw [h]; exact hn
theorem hs1 (h : isAt ws i sLet = true) : headS ws i = 1 := by unfold headS; rw [if_pos h]
theorem hs3 (h : isAt ws i sIf = true) : headS ws i = 3 := by
  unfold headS; rw [if_neg (by rw [isAt_other h (by decide)]; decide), if_pos h]
theorem hs4 (h1 : isAt ws i sLet = false) (h3 : isAt ws i sIf = false) (h : isAt ws i sWhile = true) : headS ws i = 4 := by unfold headS; simp [h1, h3, h]
theorem hs5 (h1 : isAt ws i sLet = false) (h3 : isAt ws i sIf = false) (h4 : isAt ws i sWhile = false) (h : isAt ws i sReturn = true) : headS ws i = 5 := by unfold headS; simp [h1, h3, h4, h]
theorem hs6 (h1 : isAt ws i sLet = false) (h3 : isAt ws i sIf = false) (h4 : isAt ws i sWhile = false) (h5 : isAt ws i sReturn = false) (h : isAt ws i sYield = true) : headS ws i = 6 := by unfold headS; simp [h1, h3, h4, h5, h]
theorem hs2 (h1 : isAt ws i sLet = false) (h3 : isAt ws i sIf = false) (h4 : isAt ws i sWhile = false) (h5 : isAt ws i sReturn = false) (h6 : isAt ws i sYield = false) (h : kindAt ws i = 2 ∧ isAt ws (i + 1) sEq = true) : headS ws i = 2 := by unfold headS; simp [h1, h3, h4, h5, h6, h]
theorem hs7 (h1 : isAt ws i sLet = false) (h3 : isAt ws i sIf = false) (h4 : isAt ws i sWhile = false) (h5 : isAt ws i sReturn = false) (h6 : isAt ws i sYield = false) (h : ¬ (kindAt ws i = 2 ∧ isAt ws (i + 1) sEq = true)) : headS ws i = 7 := by
  unfold headS; simp only [h1, h3, h4, h5, h6, Bool.false_eq_true, if_false]; rw [if_neg h]
/-- What is ready to be read as the expression of a plain statement. -/
structure Plainly (ws : List Wd) (i kd : Nat) (nm : ByteArray) (i3 : Nat) : Prop where
  hk : kd = headS ws i
  n3 : kd ≠ 3
  n4 : kd ≠ 4
  hn : nm = nameS ws i
  hi : i3 = exprS ws i
  le : headS ws i = 1 → kindAt ws (i + 1) = 2 ∧ isAt ws (i + 2) sEq = true
theorem plainly1 (h : headS ws i = 1) (h2 : kindAt ws (i + 1) = 2) (h3 : isAt ws (i + 2) sEq = true) : Plainly ws i 1 (textAt ws (i + 1)) (i + 3) :=
  ⟨h.symm, by decide, by decide, by unfold nameS; rw [if_pos h], by unfold exprS; rw [if_pos h], fun _ => ⟨h2, h3⟩⟩
theorem plainly2 (h : headS ws i = 2) : Plainly ws i 2 (textAt ws i) (i + 2) :=
  ⟨h.symm, by decide, by decide, by unfold nameS; rw [if_neg (by omega), if_pos h], by unfold exprS; rw [if_neg (by omega), if_pos h], fun e => by omega⟩
theorem plainly5 (h : headS ws i = 5) : Plainly ws i 5 sNone (i + 1) :=
  ⟨h.symm, by decide, by decide, by unfold nameS; rw [if_neg (by omega), if_neg (by omega)], by unfold exprS; rw [if_neg (by omega), if_neg (by omega), if_neg (by omega)], fun e => by omega⟩
theorem plainly6 (h : headS ws i = 6) : Plainly ws i 6 sNone (i + 1) :=
  ⟨h.symm, by decide, by decide, by unfold nameS; rw [if_neg (by omega), if_neg (by omega)], by unfold exprS; rw [if_neg (by omega), if_neg (by omega), if_neg (by omega)], fun e => by omega⟩
theorem plainly7 (h : headS ws i = 7) : Plainly ws i 7 sNone i :=
  ⟨h.symm, by decide, by decide, by unfold nameS; rw [if_neg (by omega), if_neg (by omega)], by unfold exprS; rw [if_neg (by omega), if_neg (by omega), if_pos h], fun e => by omega⟩
theorem ds_plain {kd i3 : Nat} {nm : ByteArray} (h : Ds ws en (.stmt i) r) (hp : Plainly ws i kd nm i3) :
    (∃ j, De ws en (.lvl 1 i3) (.bad j) ∧ r = .bad j) ∨ (∃ x j, De ws en (.lvl 1 i3) (.ex x j) ∧ isAt ws j sSemi = false ∧ r = .bad j) ∨
    ∃ x j, De ws en (.lvl 1 i3) (.ex x j) ∧ isAt ws j sSemi = true ∧ r = .st (.mk kd nm x [] [] (posAt ws i en)) (j + 1) := by
  obtain ⟨rfl, n3, n4, rfl, rfl, hle⟩ := hp
  cases h with
  | letN h1 h2 => exact absurd (hle h1).1 h2
  | letE h1 h2 h3 => rw [(hle h1).2] at h3; cases h3
  | simpB _ _ _ h => exact .inl ⟨_, h, rfl⟩
  | simpC _ _ _ h h2 => exact .inr (.inl ⟨_, _, h, h2, rfl⟩)
  | simp _ _ _ h h2 => exact .inr (.inr ⟨_, _, h, h2, rfl⟩)
  | condB h => omega
  | condD h => omega
  | _ => omega
theorem ds_let (h : Ds ws en (.stmt i) r) (h1 : headS ws i = 1) :
    (kindAt ws (i + 1) ≠ 2 ∧ r = .bad (i + 1)) ∨ (kindAt ws (i + 1) = 2 ∧ isAt ws (i + 2) sEq = false ∧ r = .bad (i + 2)) ∨ (kindAt ws (i + 1) = 2 ∧ isAt ws (i + 2) sEq = true) := by
  cases h with
  | letN _ h2 => exact .inl ⟨h2, rfl⟩
  | letE _ h2 h3 => exact .inr (.inl ⟨h2, h3, rfl⟩)
  | simpB _ _ h _ => exact .inr (.inr (h h1))
  | simpC _ _ h _ _ => exact .inr (.inr (h h1))
  | simp _ _ h _ _ => exact .inr (.inr (h h1))
  | condB h => omega
  | condD h => omega
  | _ => omega
theorem ds_cond (h : Ds ws en (.stmt i) r) (h34 : headS ws i = 3 ∨ headS ws i = 4) :
    (∃ j, De ws en (.lvl 1 (i + 1)) (.bad j) ∧ r = .bad j) ∨ ∃ x j, De ws en (.lvl 1 (i + 1)) (.ex x j) ∧ ((∃ k, Ds ws en (.block j) (.bad k) ∧ r = .bad k) ∨
      ∃ l k, Ds ws en (.block j) (.sts l k) ∧ (headS ws i = 4 → r = .st (.mk 4 sNone x l [] (posAt ws i en)) k) ∧
        (headS ws i = 3 → isAt ws k sElse = false → r = .st (.mk 3 sNone x l [] (posAt ws i en)) k) ∧
        (headS ws i = 3 → isAt ws k sElse = true → isAt ws (k + 1) sIf = true → (∃ m, Ds ws en (.stmt (k + 1)) (.bad m) ∧ r = .bad m) ∨ ∃ s m, Ds ws en (.stmt (k + 1)) (.st s m) ∧ r = .st (.mk 3 sNone x l [s] (posAt ws i en)) m) ∧
        (headS ws i = 3 → isAt ws k sElse = true → isAt ws (k + 1) sIf = false → (∃ m, Ds ws en (.block (k + 1)) (.bad m) ∧ r = .bad m) ∨ ∃ s m, Ds ws en (.block (k + 1)) (.sts s m) ∧ r = .st (.mk 3 sNone x l s (posAt ws i en)) m)) := by
  cases h with
  | letN h => omega
  | letE h => omega
  | simpB h1 h2 => omega
  | simpC h1 h2 => omega
  | simp h1 h2 => omega
  | condB _ h => exact .inl ⟨_, h, rfl⟩
  | condD _ h h2 => exact .inr ⟨_, _, h, .inl ⟨_, h2, rfl⟩⟩
  | whil h0 h h2 => exact .inr ⟨_, _, h, .inr ⟨_, _, h2, fun _ => rfl, fun e => (by omega), fun e => (by omega), fun e => (by omega)⟩⟩
  | if0 h0 h h2 h3 => exact .inr ⟨_, _, h, .inr ⟨_, _, h2, fun e => (by omega), fun _ _ => rfl, fun _ e => (by rw [h3] at e; cases e), fun _ e => (by rw [h3] at e; cases e)⟩⟩
  | ifE h0 h h2 h3 h4 h5 => exact .inr ⟨_, _, h, .inr ⟨_, _, h2, fun e => (by omega), fun _ e => (by rw [h3] at e; cases e), fun _ _ e => (by rw [h4] at e; cases e), fun _ _ _ => .inr ⟨_, _, h5, rfl⟩⟩⟩
  | ifEB h0 h h2 h3 h4 h5 => exact .inr ⟨_, _, h, .inr ⟨_, _, h2, fun e => (by omega), fun _ e => (by rw [h3] at e; cases e), fun _ _ e => (by rw [h4] at e; cases e), fun _ _ _ => .inl ⟨_, h5, rfl⟩⟩⟩
  | ifI h0 h h2 h3 h4 h5 => exact .inr ⟨_, _, h, .inr ⟨_, _, h2, fun e => (by omega), fun _ e => (by rw [h3] at e; cases e), fun _ _ _ => .inr ⟨_, _, h5, rfl⟩, fun _ _ e => (by rw [h4] at e; cases e)⟩⟩
  | ifIB h0 h h2 h3 h4 h5 => exact .inr ⟨_, _, h, .inr ⟨_, _, h2, fun e => (by omega), fun _ e => (by rw [h3] at e; cases e), fun _ _ _ => .inl ⟨_, h5, rfl⟩, fun _ _ e => (by rw [h4] at e; cases e)⟩⟩
end
/-- The rest of an if that begins at i, whose word is read. -/
def CondP (rb : Nat) (v : Value) (ws : List Wd) (en i : Nat) : Prop :=
  ∀ r, headS ws i = 3 → Ds ws en (.stmt i) r → ∀ w, Rq w rb v ws (i + 1) en → Glob w → Calls Tryz.prog 223 #[.pointer (some ⟨rb, 0, none⟩), .agg #[.int .i64 0, .string ⟨#[]⟩, .int .i64 0, .int .i64 0, .string ⟨#[]⟩, .slice none 0 0, .int .i64 0, .slice none 0 0, .slice none 0 0, .int .i64 (posAt ws i en)]] w fun e w' => SmR w rb v ws en r e w'
theorem sm_ret {w0 w : World} {u0 u1 u2 u3 u4 u5 u6 u7 u8 u9 : Value} {rb b0 b1 : Nat} {v : Value} {ws : List Wd} {i' en : Nat} {s : Sm} {Aa Ab Ae : Option Addr} {ca cb ce : Nat} {F : Nat → Prop}
    (h : FrQ w0 w rb b0 b1 v ws i' en u0 u1 u2 u3 u4 u5 u6 u7 u8 u9) (hA : ArgsIn w F (.slice Aa s.a.args.length ca) s.a.args) (hB : StmtsIn w F (.slice Ab s.body.length cb) s.body) (hE : StmtsIn w F (.slice Ae s.els.length ce) s.els) (hF : ∀ g, F g → w0.heap.size ≤ g ∧ g ≠ b0) :
    SmR w0 rb v ws en (.st s i') (.returned (.agg #[.int .i64 s.kind, .string s.name, .int .i64 s.a.kind, .int .i64 s.a.n, .string s.a.text, .slice Aa s.a.args.length ca, .int .i64 s.a.pos, .slice Ab s.body.length cb, .slice Ae s.els.length ce, .int .i64 s.pos]))
      ((((((((((w.setCell ⟨b0, 0, none⟩ (.int .i64 s.kind)).setCell ⟨b0, 1, none⟩ (.string s.name)).setCell ⟨b0, 2, none⟩ (.int .i64 s.a.kind)).setCell ⟨b0, 3, none⟩ (.int .i64 s.a.n)).setCell ⟨b0, 4, none⟩ (.string s.a.text)).setCell ⟨b0, 5, none⟩ (.slice Aa s.a.args.length ca)).setCell ⟨b0, 6, none⟩ (.int .i64 s.a.pos)).setCell ⟨b0, 7, none⟩ (.slice Ab s.body.length cb)).setCell ⟨b0, 8, none⟩ (.slice Ae s.els.length ce)).setCell ⟨b0, 9, none⟩ (.int .i64 s.pos)) := by
  have hg := grown10 w b0 (.int .i64 s.kind) (.string s.name) (.int .i64 s.a.kind) (.int .i64 s.a.n) (.string s.a.text) (.slice Aa s.a.args.length ca) (.int .i64 s.a.pos) (.slice Ab s.body.length cb) (.slice Ae s.els.length ce) (.int .i64 s.pos)
  have h0 := h.z0; have h1 := h.z1
  exact ⟨Aa, ca, Ab, cb, Ae, ce, rfl, hA.later _ hg (fun g h => by simp; exact fun e => (hF g h).2 e.symm) (fun g h => (hF g h).1), hB.later _ hg (fun g h => by simp; exact fun e => (hF g h).2 e.symm) (fun g h => (hF g h).1), hE.later _ hg (fun g h => by simp; exact fun e => (hF g h).2 e.symm) (fun g h => (hF g h).1), h.rd.grown hg (by omega), grown_new h.gr hg h1⟩
end Go.Proofs.YtmngofgminlloaaGreatDoor

namespace Go.Proofs.YtmngofgminlloaaGreatDoor
open Go.RowKit Tw

set_option maxRecDepth 100000 in
set_option maxHeartbeats 16000000 in
theorem stmt_p (rb : Nat) (v : Value) (ws : List Wd) (en i : Nat) (hN : NumsOk ws) (hr : 10 < rb) (h1 : CondP rb v ws en i) (h2 : ∀ j, i < j → BlockP rb v ws en j) : StmtP rb v ws en i := by
  intro r hd w h hG
  have H1 := Lib.hid h1; have H2 := Lib.hid h2; have HR := Lib.hid h; have HG := Lib.hid hG; have HN := Lib.hid hN; have HD := Lib.hid hd
  have hrl := h.lt
  clear h1 h2 h hG hN hd
  go_enter Tryz.func191, Tryz.ntmps191
  go_wp2_with fail
  refine (at_p (HR.out.keep ((Below.refl _ _).alloc (Nat.le_refl _) _))).mono ?_
  rintro e w1 ⟨rfl, hb⟩
  have hb0 : Below w.heap.size w w1 := ((Below.refl _ _).alloc (Nat.le_refl _) _).trans (hb.mono (by simp))
  have HF : Hid (FrQ w _ rb w.heap.size w1.heap.size v ws i en (.int .i64 0) (.string ⟨#[]⟩) (.int .i64 0) (.int .i64 0) (.string ⟨#[]⟩) (.slice none 0 0) (.int .i64 0) (.slice none 0 0) (.slice none 0 0) (.int .i64 (posAt ws i en))) :=
    Lib.hid (FrQ.start (HR.out.keep hb0) (HG.out.to hb0) hr (grown_of_below hb0 _) hrl (Nat.le_refl _) (by have := hb.size; simp at this; omega) ((hb.block _ (by simp)).trans (heap_alloc_new w _)) _ _ _ _ _ _ _ _ _ _)
  clear hb hb0
  go_upto_block 0 with (fail)
  generalize w1.alloc _ = W1 at HF ⊢
  generalize w1.heap.size = b1 at HF ⊢
  obtain ⟨b0, hb0⟩ : ∃ b0, w.heap.size = b0 := ⟨_, rfl⟩
  rw [hb0] at HF
  simp only [hb0]
  have HB0 := Lib.hid hb0; clear hb0
  clear HR
  go_cut [] (fun W => ∃ (kd i3 : Nat) (nm : ByteArray), Hid (Plainly ws i kd nm i3) ∧ Hid (FrQ w W rb b0 b1 v ws i3 en (.int .i64 kd) (.string nm) (.int .i64 0) (.int .i64 0) (.string ⟨#[]⟩) (.slice none 0 0) (.int .i64 0) (.slice none 0 0) (.slice none 0 0) (.int .i64 (posAt ws i en))))
  case first =>
    go_wp2_with fail
    obtain ⟨t1, ht1⟩ : ∃ t, isAt ws i sLet = t := ⟨_, rfl⟩
    have T1 := Lib.hid ht1; clear ht1
    refine (take_p sLet (ne_of (by decide)) t1 HF.out.rd T1.out).mono ?_
    rintro e w2 ⟨rfl, hR, hg⟩
    replace HF := Lib.hid (HF.out.step hR hg)
    clear hR hg
    cases t1 with
    | true =>
      simp only [if_true] at HF
      have HQ := Lib.hid (hs1 T1.out)
      rcases ds_let HD.out HQ.out with ⟨hk, rfl⟩ | ⟨hk, ha, rfl⟩ | ⟨hk, ha⟩
      · have HK := Lib.hid hk; clear hk
        go_wp2_with fail
        refine (kind_pb 2 HF.out.rd HK.out).mono ?_
        rintro e w9 ⟨rfl, hg⟩
        have HGG := Lib.hid (grown_trans HF.out.gr hg); clear hg
        unfold badP
        go_wp2_with fail
        exact ⟨rfl, rfl, HGG.out⟩
      · have HK := Lib.hid hk; have HA := Lib.hid ha; clear hk ha
        go_wp2_with fail
        refine (kind_p 2 (by decide) HF.out.rd HK.out).mono ?_
        rintro e w4 ⟨rfl, hR, hg⟩
        replace HF := Lib.hid (HF.out.step hR hg)
        clear hR hg
        obtain ⟨⟨c0, c1, c2, c3, c4', c5, c6, c7, c8, c9⟩, f0, f1, f2, f3, f4, f5, f6, f7, f8, f9⟩ := facts10 HF.out.ex
        go_wp2_with fail
        clear c0 c1 c2 c3 c4' c5 c6 c7 c8 c9 f0 f1 f2 f3 f4 f5 f6 f7 f8 f9
        replace HF := Lib.hid ((HF.out.s0 (.int .i64 1)).s1 (.string (textAt ws (i + 1))))
        generalize ((w4.setCell ⟨b1, 0, none⟩ _).setCell ⟨b1, 1, none⟩ _) = W5 at HF ⊢
        refine (want_pb sEq (ne_of (by decide)) HF.out.rd HA.out).mono ?_
        rintro e w9 ⟨rfl, hg⟩
        have HGG := Lib.hid (grown_trans HF.out.gr hg); clear hg
        unfold badP
        go_wp2_with fail
        exact ⟨rfl, rfl, HGG.out⟩
      · have HK := Lib.hid hk; have HA := Lib.hid ha; clear hk ha
        go_wp2_with fail
        refine (kind_p 2 (by decide) HF.out.rd HK.out).mono ?_
        rintro e w4 ⟨rfl, hR, hg⟩
        replace HF := Lib.hid (HF.out.step hR hg)
        clear hR hg
        obtain ⟨⟨c0, c1, c2, c3, c4', c5, c6, c7, c8, c9⟩, f0, f1, f2, f3, f4, f5, f6, f7, f8, f9⟩ := facts10 HF.out.ex
        go_wp2_with fail
        clear c0 c1 c2 c3 c4' c5 c6 c7 c8 c9 f0 f1 f2 f3 f4 f5 f6 f7 f8 f9
        replace HF := Lib.hid ((HF.out.s0 (.int .i64 1)).s1 (.string (textAt ws (i + 1))))
        generalize ((w4.setCell ⟨b1, 0, none⟩ _).setCell ⟨b1, 1, none⟩ _) = W5 at HF ⊢
        refine (want_p sEq (ne_of (by decide)) HF.out.rd HA.out).mono ?_
        rintro e w6 ⟨rfl, hR, hg⟩
        replace HF := Lib.hid (HF.out.step hR hg)
        clear hR hg
        go_wp2_with fail
        go_meet
        case rel => exact ⟨1, i + 3, _, Lib.hid (plainly1 HQ.out HK.out HA.out), HF⟩
    | false =>
      simp only [Bool.false_eq_true, if_false] at HF
      go_wp2_with fail
      obtain ⟨t3, ht3⟩ : ∃ t, isAt ws i sIf = t := ⟨_, rfl⟩
      have T3 := Lib.hid ht3; clear ht3
      refine (take_p sIf (ne_of (by decide)) t3 HF.out.rd T3.out).mono ?_
      rintro e w2 ⟨rfl, hR, hg⟩
      replace HF := Lib.hid (HF.out.step hR hg)
      clear hR hg
      cases t3 with
      | true =>
        simp only [if_true] at HF
        have HQ := Lib.hid (hs3 T3.out)
        obtain ⟨⟨c0, c1, c2, c3, c4', c5, c6, c7, c8, c9⟩, f0, f1, f2, f3, f4, f5, f6, f7, f8, f9⟩ := facts10 HF.out.ex
        go_wp2_with fail
        clear c0 c1 c2 c3 c4' c5 c6 c7 c8 c9 f0 f1 f2 f3 f4 f5 f6 f7 f8 f9
        refine (H1.out r HQ.out HD.out w2 HF.out.rd HF.out.gl).mono ?_
        intro e w4 hS
        cases r with
        | st s j =>
          obtain ⟨Aa, ca, Ab, cb, Ae, ce, rfl, hA, hB, hE, hR, hg⟩ := hS
          have hz0 := HF.out.gr.size; have hz5 := HF.out.z5; have hz3 := HF.out.z3; have hz1 := HF.out.z1; have hz4 := HF.out.z4
          have HA : Hid (ArgsIn w4 (fun g => w.heap.size ≤ g ∧ g ≠ b0 ∧ g ≠ b1) (.slice Aa s.a.args.length ca) s.a.args) := Lib.hid (hA.keep fun g (h1 : w2.heap.size ≤ g) h2 => ⟨⟨by omega, by omega, by omega⟩, h2, rfl⟩)
          have HB : Hid (StmtsIn w4 (fun g => w.heap.size ≤ g ∧ g ≠ b0 ∧ g ≠ b1) (.slice Ab s.body.length cb) s.body) := Lib.hid (hB.keep fun g (h1 : w2.heap.size ≤ g) h2 => ⟨⟨by omega, by omega, by omega⟩, h2, rfl⟩)
          have HE : Hid (StmtsIn w4 (fun g => w.heap.size ≤ g ∧ g ≠ b0 ∧ g ≠ b1) (.slice Ae s.els.length ce) s.els) := Lib.hid (hE.keep fun g (h1 : w2.heap.size ≤ g) h2 => ⟨⟨by omega, by omega, by omega⟩, h2, rfl⟩)
          replace HF := Lib.hid (HF.out.step hR hg)
          clear hR hg hA hB hE
          obtain ⟨⟨d0, d1, d2, d3, d4, d5, d6, d7, d8, d9⟩, g0, g1, g2, g3, g4, g5, g6, g7, g8, g9⟩ := facts10 HF.out.res
          have HW := Lib.hid (set10 (.int .i64 s.kind) (.string s.name) (.int .i64 s.a.kind) (.int .i64 s.a.n) (.string s.a.text) (.slice Aa s.a.args.length ca) (.int .i64 s.a.pos) (.slice Ab s.body.length cb) (.slice Ae s.els.length ce) (.int .i64 s.pos) HF.out.res)
          go_wp2_with fail
          (try simp only [Exit.inBlock, Exit.then])
          refine bodyPost_ret (results_cell_row rfl _ _ b0 _ _ _ _ rfl HW.out Tryz.underlying188 rfl smInfo) rfl ?_
          have HZ := Lib.hid (sm_ret (s := s) (F := fun g => w.heap.size ≤ g ∧ g ≠ b0 ∧ g ≠ b1) HF.out HA.out HB.out HE.out (fun g h => ⟨h.1, h.2.1⟩))
          exact HZ.out
        | bad j =>
          obtain ⟨rfl, hg⟩ := hS
          have HGG := Lib.hid (grown_trans HF.out.gr hg); clear hg
          unfold badP
          go_wp2_with fail
          exact ⟨rfl, rfl, HGG.out⟩
        | sts l j => exact hS.elim
      | false =>
        simp only [Bool.false_eq_true, if_false] at HF
        go_wp2_with fail
        obtain ⟨t4, ht4⟩ : ∃ t, isAt ws i sWhile = t := ⟨_, rfl⟩
        have T4 := Lib.hid ht4; clear ht4
        refine (take_p sWhile (ne_of (by decide)) t4 HF.out.rd T4.out).mono ?_
        rintro e w2 ⟨rfl, hR, hg⟩
        replace HF := Lib.hid (HF.out.step hR hg)
        clear hR hg
        cases t4 with
        | true =>
          simp only [if_true] at HF
          have HQ := Lib.hid (hs4 T1.out T3.out T4.out)
          rcases ds_cond HD.out (.inr HQ.out) with ⟨j, hy, rfl⟩ | ⟨x, j, hy, hm⟩
          · have HY := Lib.hid hy; clear hy
            go_wp2_with fail
            refine (expr_r rb v ws en _ 0 hr HN.out _ (De.climb HY.out (by decide) (by decide)) w2 HF.out.rd HF.out.gl).mono ?_
            rintro e w9 ⟨rfl, hg⟩
            have HGG := Lib.hid (grown_trans HF.out.gr hg); clear hg
            unfold badP
            go_wp2_with fail
            exact ⟨rfl, rfl, HGG.out⟩
          · have HY := Lib.hid hy; have HM := Lib.hid hm; clear hy hm
            have hon : i < j := by have h : i + 1 < j := HY.out.on; omega
            go_wp2_with fail
            refine (expr_r rb v ws en _ 0 hr HN.out _ (De.climb HY.out (by decide) (by decide)) w2 HF.out.rd HF.out.gl).mono ?_
            rintro e w4 ⟨A4, c4, rfl, hA, hR, hg⟩
            have hz2 := HF.out.z3; have hz0 := HF.out.gr.size; have hz1 := HF.out.z2; have hz5 := HF.out.z5; have hs := hg.size; have hz4 := HF.out.z4; have hzr := HF.out.z0
            have HA : Hid (ArgsIn w4 (fun g => w.heap.size ≤ g ∧ g ≠ b0 ∧ g ≠ b1) (.slice A4 x.args.length c4) x.args) := Lib.hid (hA.keep fun g (h1 : w2.heap.size ≤ g) h2 => ⟨⟨by omega, by omega, by omega⟩, h2, rfl⟩)
            replace HF := Lib.hid (HF.out.step hR hg)
            clear hR hg hA
            obtain ⟨⟨c0, c1, c2, c3, c4', c5, c6, c7, c8, c9⟩, f0, f1, f2, f3, f4, f5, f6, f7, f8, f9⟩ := facts10 HF.out.ex
            go_wp2_with fail
            clear c0 c1 c2 c3 c4' c5 c6 c7 c8 c9 f0 f1 f2 f3 f4 f5 f6 f7 f8 f9
            have HA5 := Lib.hid (HA.out.later (some b1) (grown_trans (grown_set w4 b1 0 (.int .i64 4)) (grown_trans (grown_trans (grown_trans (grown_trans (grown_set _ b1 2 (.int .i64 x.kind)) (grown_set _ b1 3 (.int .i64 x.n))) (grown_set _ b1 4 (.string x.text))) (grown_set _ b1 5 (.slice A4 x.args.length c4))) (grown_set _ b1 6 (.int .i64 x.pos)))) (fun g h => by simp; omega) (fun g h => h))
            replace HF := Lib.hid ((((((HF.out.s0 (.int .i64 4)).s2 (.int .i64 x.kind)).s3 (.int .i64 x.n)).s4 (.string x.text)).s5 (.slice A4 x.args.length c4)).s6 (.int .i64 x.pos))
            clear HA
            generalize ((((((w4.setCell ⟨b1, 0, none⟩ _).setCell ⟨b1, 2, none⟩ _).setCell ⟨b1, 3, none⟩ _).setCell ⟨b1, 4, none⟩ _).setCell ⟨b1, 5, none⟩ _).setCell ⟨b1, 6, none⟩ _) = w5 at HF HA5 ⊢
            have HA := HA5
            clear HA5
            rcases HM.out with ⟨k, hy, rfl⟩ | ⟨l, k, hy, hm, -⟩
            · have HY2 := Lib.hid hy; clear hy
              refine (H2.out j hon _ HY2.out w5 HF.out.rd HF.out.gl).mono ?_
              rintro e w9 ⟨rfl, hg⟩
              have HGG := Lib.hid (grown_trans HF.out.gr hg); clear hg
              unfold badP
              go_wp2_with fail
              exact ⟨rfl, rfl, HGG.out⟩
            · have HY2 := Lib.hid hy; clear hy
              have hq := hm HQ.out
              subst hq
              refine (H2.out j hon _ HY2.out w5 HF.out.rd HF.out.gl).mono ?_
              rintro e w6 ⟨Ab, cb, rfl, hB, hR, hg⟩
              have hz5 := HF.out.z3; have hzw5 := HF.out.gr.size; have hz50 := HF.out.z5; have hzr := HF.out.z0; have hz14 := HF.out.z4
              replace HF := Lib.hid (HF.out.step hR hg)
              replace HA := Lib.hid (HA.out.later (some rb) hg (fun g h => by simp; omega) (fun g h => h))
              have HB : Hid (StmtsIn w6 (fun g => w.heap.size ≤ g ∧ g ≠ b0 ∧ g ≠ b1) (.slice Ab l.length cb) l) := Lib.hid (hB.keep fun g (h1 : w5.heap.size ≤ g) h2 => ⟨⟨by omega, by omega, by omega⟩, h2, rfl⟩)
              clear hR hg hB hm
              have c7 := (facts10 HF.out.ex).1.2.2.2.2.2.2.2.1
              have f7 := (facts10 HF.out.ex).2.2.2.2.2.2.2.2.1
              go_upto_region 11 with (fail)
              clear c7 f7
              replace HF := Lib.hid (HF.out.s7 (.slice Ab l.length cb))
              replace HA := Lib.hid (HA.out.later (some b1) (grown_set w6 b1 7 (.slice Ab l.length cb)) (fun g h => by simp; omega) (fun g h => h))
              replace HB := Lib.hid (HB.out.later (some b1) (grown_set w6 b1 7 (.slice Ab l.length cb)) (fun g h => by simp; omega) (fun g h => h))
              generalize w6.setCell ⟨b1, 7, none⟩ _ = w7 at HF HA HB ⊢
              obtain ⟨⟨c0, c1, c2, c3, c4', c5, c6, c7, c8, c9⟩, f0, f1, f2, f3, f4, f5, f6, f7, f8, f9⟩ := facts10 HF.out.ex
              obtain ⟨⟨d0, d1, d2, d3, d4, d5, d6, d7, d8, d9⟩, g0, g1, g2, g3, g4, g5, g6, g7, g8, g9⟩ := facts10 HF.out.res
              have HW := Lib.hid (set10 (.int .i64 4) (.string sNone) (.int .i64 x.kind) (.int .i64 x.n) (.string x.text) (.slice A4 x.args.length c4) (.int .i64 x.pos) (.slice Ab l.length cb) (.slice none 0 0) (.int .i64 (posAt ws i en)) HF.out.res)
              go_wp2_with fail
              (try simp only [Exit.inBlock, Exit.then])
              refine bodyPost_ret (results_cell_row rfl _ _ b0 _ _ _ _ rfl HW.out Tryz.underlying188 rfl smInfo) rfl ?_
              have HZ := Lib.hid (sm_ret (s := .mk 4 sNone x l [] (posAt ws i en)) (F := fun g => w.heap.size ≤ g ∧ g ≠ b0 ∧ g ≠ b1) HF.out HA.out HB.out (.nil none 0) (fun g h => ⟨h.1, h.2.1⟩))
              simp only [Sm.kind, Sm.name, Sm.a, Sm.body, Sm.els, Sm.pos] at HZ
              exact HZ.out
        | false =>
          simp only [Bool.false_eq_true, if_false] at HF
          go_wp2_with fail
          obtain ⟨t5, ht5⟩ : ∃ t, isAt ws i sReturn = t := ⟨_, rfl⟩
          have T5 := Lib.hid ht5; clear ht5
          refine (take_p sReturn (ne_of (by decide)) t5 HF.out.rd T5.out).mono ?_
          rintro e w2 ⟨rfl, hR, hg⟩
          replace HF := Lib.hid (HF.out.step hR hg)
          clear hR hg
          cases t5 with
          | true =>
            simp only [if_true] at HF
            have HQ := Lib.hid (hs5 T1.out T3.out T4.out T5.out)
            have c0 := (facts10 HF.out.ex).1.1
            have f0 := (facts10 HF.out.ex).2.1
            go_wp2_with fail
            go_meet
            case rel => exact ⟨5, i + 1, sNone, Lib.hid (plainly5 HQ.out), Lib.hid (HF.out.s0 _)⟩
          | false =>
            simp only [Bool.false_eq_true, if_false] at HF
            go_wp2_with fail
            obtain ⟨t6, ht6⟩ : ∃ t, isAt ws i sYield = t := ⟨_, rfl⟩
            have T6 := Lib.hid ht6; clear ht6
            refine (take_p sYield (ne_of (by decide)) t6 HF.out.rd T6.out).mono ?_
            rintro e w2 ⟨rfl, hR, hg⟩
            replace HF := Lib.hid (HF.out.step hR hg)
            clear hR hg
            cases t6 with
            | true =>
              simp only [if_true] at HF
              have HQ := Lib.hid (hs6 T1.out T3.out T4.out T5.out T6.out)
              have c0 := (facts10 HF.out.ex).1.1
              have f0 := (facts10 HF.out.ex).2.1
              go_wp2_with fail
              go_meet
              case rel => exact ⟨6, i + 1, sNone, Lib.hid (plainly6 HQ.out), Lib.hid (HF.out.s0 _)⟩
            | false =>
              simp only [Bool.false_eq_true, if_false] at HF
              obtain ⟨wa, rfl⟩ : ∃ wo : World, wo = w2 := ⟨_, rfl⟩
              go_upto_region 16 with (fail)
              go_cut [42] (fun u W => ∃ t : Bool, u = .bool t ∧ Hid (t = true ↔ (kindAt ws i = 2 ∧ isAt ws (i + 1) sEq = true)) ∧ Hid (Below wa.heap.size wa W))
              case first =>
                have r0 := HF.out.rd.c0; have r1 := HF.out.rd.c1
                have hn := HF.out.rd.len; have hp := HF.out.rd.pos
                obtain ⟨A0, cap0, rfl, hform⟩ := HF.out.rd.row.form
                have HFm := Lib.hid hform; clear hform
                by_cases hl1 : i + 1 < ws.length
                · obtain ⟨y, hy⟩ : ∃ y, ws[i]? = some y := ⟨_, List.getElem?_eq_getElem (by omega)⟩
                  obtain ⟨z, hz⟩ : ∃ y, ws[i + 1]? = some y := ⟨_, List.getElem?_eq_getElem hl1⟩
                  obtain ⟨g, rfl, hg, d0, -, -⟩ := HFm.out i y hy
                  obtain ⟨g', hgA, -, -, d1, -⟩ := HFm.out (i + 1) z hz
                  obtain rfl : g' = g := by injection hgA with h1; injection h1 with h1; exact h1.symm
                  have k0 : (0 : Int) ≤ (i : Int) := by omega
                  have k1 : (i : Int) < (ws.length : Int) := by omega
                  have k2 : (0 : Int) ≤ (i : Int) + 1 := by omega
                  have k3 : (i : Int) + 1 < (ws.length : Int) := by omega
                  have HY : Hid (kindAt ws i = y.kind) := Lib.hid (by unfold kindAt; rw [hy])
                  have HZ : Hid (isAt ws (i + 1) sEq = (z.text.toList == sEq.toList)) := Lib.hid (by unfold isAt; rw [hz])
                  obtain ⟨t1, ht1⟩ : ∃ t, ((y.kind : Int) == 2) = t := ⟨_, rfl⟩
                  have T9 := Lib.hid ht1
                  clear hy hz hgA
                  have q0 : ((i : Int) + 1).toNat = i + 1 := by omega
                  have q1 : IntKind.i64.wrap ((i : Int) + 1) = (i : Int) + 1 := IntWalk.i64_in _ (by omega)
                  cases t1 with
                  | false =>
                    go_quiet (fail)
                    go_wp2_with fail
                    go_meet
                    case rel => exact ⟨false, rfl, Lib.hid ⟨by simp, fun e => by have := T9.out; rw [← HY.out] at this; rw [e.1] at this; exact absurd this (by decide)⟩, Lib.hid (below_drewN (Below.refl _ _) _)⟩
                  | true =>
                    have HS : Hid (sEq.toList = [61]) := Lib.hid (by simp [sEq, ByteArray.toList_eq] <;> rfl)
                    go_quiet (fail)
                    go_wp2_with fail
                    go_meet
                    case rel => exact ⟨z.text.toList == [61], rfl, Lib.hid ⟨fun e => ⟨by rw [HY.out]; have := beq_iff_eq.1 T9.out; omega, by rw [HZ.out, HS.out]; exact e⟩, fun e => by rw [HZ.out, HS.out] at e; exact e.2⟩, Lib.hid (below_drewN (Below.refl _ _) _)⟩
                · have q1 : IntKind.i64.wrap ((i : Int) + 1) = (i : Int) + 1 := IntWalk.i64_in _ (by omega)
                  have e1 : decide ((i : Int) + 1 < (ws.length : Int)) = false := decide_eq_false (by omega)
                  have HX : Hid (isAt ws (i + 1) sEq = false) := Lib.hid (by unfold isAt; rw [List.getElem?_eq_none (by omega)])
                  go_quiet (fail)
                  go_wp2_with fail
                  go_meet
                  case rel => exact ⟨false, rfl, Lib.hid ⟨by simp, fun e => by rw [HX.out] at e; exact e.2⟩, Lib.hid (below_drewN (Below.refl _ _) _)⟩
              case rest =>
                obtain ⟨t, rfl, HT, HB⟩ := hcut
                replace HF := Lib.hid (HF.out.below HB.out)
                clear HB
                cases t with
                | true =>
                  have hx := HT.out.1 rfl
                  have HQ := Lib.hid (hs2 T1.out T3.out T4.out T5.out T6.out hx)
                  have HX := Lib.hid hx; clear hx
                  go_wp2_with fail
                  refine (kind_p 2 (by decide) HF.out.rd HX.out.1).mono ?_
                  rintro e w4 ⟨rfl, hR, hg⟩
                  replace HF := Lib.hid (HF.out.step hR hg)
                  clear hR hg
                  obtain ⟨⟨c0, c1, c2, c3, c4', c5, c6, c7, c8, c9⟩, f0, f1, f2, f3, f4, f5, f6, f7, f8, f9⟩ := facts10 HF.out.ex
                  go_wp2_with fail
                  clear c0 c1 c2 c3 c4' c5 c6 c7 c8 c9 f0 f1 f2 f3 f4 f5 f6 f7 f8 f9
                  replace HF := Lib.hid ((HF.out.s0 (.int .i64 2)).s1 (.string (textAt ws i)))
                  generalize ((w4.setCell ⟨b1, 0, none⟩ _).setCell ⟨b1, 1, none⟩ _) = W5 at HF ⊢
                  refine (want_p sEq (ne_of (by decide)) HF.out.rd HX.out.2).mono ?_
                  rintro e w6 ⟨rfl, hR, hg⟩
                  replace HF := Lib.hid (HF.out.step hR hg)
                  clear hR hg
                  go_wp2_with fail
                  go_meet
                  case rel => exact ⟨2, i + 2, _, Lib.hid (plainly2 HQ.out), HF⟩
                | false =>
                  have HQ := Lib.hid (hs7 T1.out T3.out T4.out T5.out T6.out (fun e => absurd (HT.out.2 e) (by decide)))
                  have c0 := (facts10 HF.out.ex).1.1
                  have f0 := (facts10 HF.out.ex).2.1
                  go_wp2_with fail
                  go_meet
                  case rel => exact ⟨7, i, sNone, Lib.hid (plainly7 HQ.out), Lib.hid (HF.out.s0 _)⟩
  case rest =>
    clear HF
    obtain ⟨kd, i3, nm, HP, HF⟩ := hcut
    rcases ds_plain HD.out HP.out with ⟨j, hy, rfl⟩ | ⟨x, j, hy, ha, rfl⟩ | ⟨x, j, hy, ha, rfl⟩
    · have HY := Lib.hid hy; clear hy
      go_wp2_with fail
      refine (expr_r rb v ws en _ 0 hr HN.out _ (De.climb HY.out (by decide) (by decide)) wc HF.out.rd HF.out.gl).mono ?_
      rintro e w9 ⟨rfl, hg⟩
      have HGG := Lib.hid (grown_trans HF.out.gr hg); clear hg
      unfold badP
      go_wp2_with fail
      exact ⟨rfl, rfl, HGG.out⟩
    · have HY := Lib.hid hy; have HX := Lib.hid ha; clear hy ha
      go_wp2_with fail
      refine (expr_r rb v ws en _ 0 hr HN.out _ (De.climb HY.out (by decide) (by decide)) wc HF.out.rd HF.out.gl).mono ?_
      rintro e w4 ⟨A4, c4, rfl, hA, hR, hg⟩
      have hz2 := HF.out.z3; have hz0 := HF.out.gr.size; have hz1 := HF.out.z2; have hz5 := HF.out.z5; have hs := hg.size; have hz4 := HF.out.z4; have hzr := HF.out.z0
      have HA : Hid (ArgsIn w4 (fun g => w.heap.size ≤ g ∧ g ≠ b0 ∧ g ≠ b1) (.slice A4 x.args.length c4) x.args) := Lib.hid (hA.keep fun g (h1 : wc.heap.size ≤ g) h2 => ⟨⟨by omega, by omega, by omega⟩, h2, rfl⟩)
      replace HF := Lib.hid (HF.out.step hR hg)
      clear hR hg hA
      obtain ⟨⟨c0, c1, c2, c3, c4', c5, c6, c7, c8, c9⟩, f0, f1, f2, f3, f4, f5, f6, f7, f8, f9⟩ := facts10 HF.out.ex
      go_wp2_with fail
      clear c0 c1 c2 c3 c4' c5 c6 c7 c8 c9 f0 f1 f2 f3 f4 f5 f6 f7 f8 f9
      have HA5 := Lib.hid (HA.out.later (some b1) (grown_trans (grown_trans (grown_trans (grown_trans (grown_set w4 b1 2 (.int .i64 x.kind)) (grown_set _ b1 3 (.int .i64 x.n))) (grown_set _ b1 4 (.string x.text))) (grown_set _ b1 5 (.slice A4 x.args.length c4))) (grown_set _ b1 6 (.int .i64 x.pos))) (fun g h => by simp; omega) (fun g h => h))
      replace HF := Lib.hid (((((HF.out.s2 (.int .i64 x.kind)).s3 (.int .i64 x.n)).s4 (.string x.text)).s5 (.slice A4 x.args.length c4)).s6 (.int .i64 x.pos))
      clear HA
      generalize (((((w4.setCell ⟨b1, 2, none⟩ _).setCell ⟨b1, 3, none⟩ _).setCell ⟨b1, 4, none⟩ _).setCell ⟨b1, 5, none⟩ _).setCell ⟨b1, 6, none⟩ _) = w5 at HF HA5 ⊢
      have HA := HA5
      clear HA5
      refine (want_pb sSemi (ne_of (by decide)) HF.out.rd HX.out).mono ?_
      rintro e w9 ⟨rfl, hg⟩
      have HGG := Lib.hid (grown_trans HF.out.gr hg); clear hg
      unfold badP
      go_wp2_with fail
      exact ⟨rfl, rfl, HGG.out⟩
    · have HY := Lib.hid hy; have HX := Lib.hid ha; clear hy ha
      go_wp2_with fail
      refine (expr_r rb v ws en _ 0 hr HN.out _ (De.climb HY.out (by decide) (by decide)) wc HF.out.rd HF.out.gl).mono ?_
      rintro e w4 ⟨A4, c4, rfl, hA, hR, hg⟩
      have hz2 := HF.out.z3; have hz0 := HF.out.gr.size; have hz1 := HF.out.z2; have hz5 := HF.out.z5; have hs := hg.size; have hz4 := HF.out.z4; have hzr := HF.out.z0
      have HA : Hid (ArgsIn w4 (fun g => w.heap.size ≤ g ∧ g ≠ b0 ∧ g ≠ b1) (.slice A4 x.args.length c4) x.args) := Lib.hid (hA.keep fun g (h1 : wc.heap.size ≤ g) h2 => ⟨⟨by omega, by omega, by omega⟩, h2, rfl⟩)
      replace HF := Lib.hid (HF.out.step hR hg)
      clear hR hg hA
      obtain ⟨⟨c0, c1, c2, c3, c4', c5, c6, c7, c8, c9⟩, f0, f1, f2, f3, f4, f5, f6, f7, f8, f9⟩ := facts10 HF.out.ex
      go_wp2_with fail
      clear c0 c1 c2 c3 c4' c5 c6 c7 c8 c9 f0 f1 f2 f3 f4 f5 f6 f7 f8 f9
      have HA5 := Lib.hid (HA.out.later (some b1) (grown_trans (grown_trans (grown_trans (grown_trans (grown_set w4 b1 2 (.int .i64 x.kind)) (grown_set _ b1 3 (.int .i64 x.n))) (grown_set _ b1 4 (.string x.text))) (grown_set _ b1 5 (.slice A4 x.args.length c4))) (grown_set _ b1 6 (.int .i64 x.pos))) (fun g h => by simp; omega) (fun g h => h))
      replace HF := Lib.hid (((((HF.out.s2 (.int .i64 x.kind)).s3 (.int .i64 x.n)).s4 (.string x.text)).s5 (.slice A4 x.args.length c4)).s6 (.int .i64 x.pos))
      clear HA
      generalize (((((w4.setCell ⟨b1, 2, none⟩ _).setCell ⟨b1, 3, none⟩ _).setCell ⟨b1, 4, none⟩ _).setCell ⟨b1, 5, none⟩ _).setCell ⟨b1, 6, none⟩ _) = w5 at HF HA5 ⊢
      have HA := HA5
      clear HA5
      refine (want_p sSemi (ne_of (by decide)) HF.out.rd HX.out).mono ?_
      rintro e w6 ⟨rfl, hR, hg⟩
      have hzr := HF.out.z0
      replace HF := Lib.hid (HF.out.step hR hg)
      replace HA := Lib.hid (HA.out.later (some rb) hg (fun g h => by simp; omega) (fun g h => h))
      clear hR hg
      obtain ⟨⟨c0, c1, c2, c3, c4', c5, c6, c7, c8, c9⟩, f0, f1, f2, f3, f4, f5, f6, f7, f8, f9⟩ := facts10 HF.out.ex
      obtain ⟨⟨d0, d1, d2, d3, d4, d5, d6, d7, d8, d9⟩, g0, g1, g2, g3, g4, g5, g6, g7, g8, g9⟩ := facts10 HF.out.res
      have HW := Lib.hid (set10 (.int .i64 kd) (.string nm) (.int .i64 x.kind) (.int .i64 x.n) (.string x.text) (.slice A4 x.args.length c4) (.int .i64 x.pos) (.slice none 0 0) (.slice none 0 0) (.int .i64 (posAt ws i en)) HF.out.res)
      go_wp2_with fail
      (try simp only [Exit.inBlock, Exit.then])
      refine bodyPost_ret (results_cell_row rfl _ _ b0 _ _ _ _ rfl HW.out Tryz.underlying188 rfl smInfo) rfl ?_
      have HZ := Lib.hid (sm_ret (s := .mk kd nm x [] [] (posAt ws i en)) (F := fun g => w.heap.size ≤ g ∧ g ≠ b0 ∧ g ≠ b1) HF.out HA.out (.nil none 0) (.nil none 0) (fun g h => ⟨h.1, h.2.1⟩))
      simp only [Sm.kind, Sm.name, Sm.a, Sm.body, Sm.els, Sm.pos] at HZ
      exact HZ.out
end Go.Proofs.YtmngofgminlloaaGreatDoor
