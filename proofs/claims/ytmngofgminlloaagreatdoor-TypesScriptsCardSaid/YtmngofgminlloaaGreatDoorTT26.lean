/-
  The frame of the program's fun(): its result (b0), what is written of the function (bf), its rows; and what fun() answers.
  What stands there when the program's fun() goes its ways, in plain Lean.
  What stands there when the program's stmt() and cond() go their ways, in plain Lean; the answer of the frame.
  The program's stmt(), of whatever its callees answer by contract.
  The program's cond(), of whatever its callees answer by contract; statements and blocks of the program's reader, all of them at once.
  The program's fun(), led by what stands there.
  What stands there when the program's Parse() reads functions, in plain Lean.
  The function that Parse defers: at a panic with a place it lays the results; at none it does nothing.
  The frame of the program's Parse(); what it reads from its result variables.
  The program's Parse answers of a text what the reference's Script answers.
  When two scripts are the same in what their kinds use (with positions, if q), in plain Lean.
  The reference's SameExpr: true of expressions that are the same in what their kinds use.
  The reference's SameStmts: true of statements that are the same in what their kinds use.
  The reference's SameStmts and its comparing function, of statements that are the same in what their kinds use.
  The reference's SameUnit: true of scripts that are the same in what their kinds use.
  The text that the law ParseTells tries first is a script of one function, in plain Lean.
  Script's answer is one thing; there is an answer; the law's first text.
  The walk of the law TypesTell: for every script and every text it returns true, and what was there is as it was. Condition: the library's variables are as the row lists them.
-/
import Derived.Test.YtmngofgminlloaaGreatDoorTT25
import Derived.Test.YtmngofgminlloaaGreatDoorTT15
import Derived.Test.YtmngofgminlloaaGreatDoorTT09
import Derived.Outline
import Derived.Deep.DeepCutAuto
import Derived.Test.YtmngofgminlloaaGreatDoorTT19
import Derived.RegionDies
import Derived.Defers
import Derived.Recover
import Derived.Test.YtmngofgminlloaaGreatDoorTT24
import Derived.Deep.RegionLaw
import Derived.Test.YtmngofgminlloaaGreatDoorTT11
import Derived.Test.YtmngofgminlloaaGreatDoorTT14
import Derived.Test.YtmngofgminlloaaGreatDoorShelf
import Derived.Test.YtmngofgminlloaaGreatDoorTT07
set_option linter.all false
namespace Go.Proofs.YtmngofgminlloaaGreatDoor
open Go.RowKit Tw

/-- The frame of one function: what is written of it lies in bf; its rows lie in new blocks. -/
structure FrG (wr W : World) (rb b0 bf base : Nat) (v : Value) (ws : List Wd) (i en : Nat) (nm : ByteArray) (An : Option Addr) (cn : Nat) (ns : List ByteArray) (At : Option Addr) (ct : Nat) (ts : List Int) (out : Int) (vb : Value) (pos : Int) : Prop where
  rd : Rq W rb v ws i en
  fb : W.heap[bf]? = some (.cells #[.string nm, .slice An ns.length cn, .slice At ts.length ct, .int .i64 out, vb, .int .i64 pos] 32 (0, 0))
  res : W.heap[b0]? = some (.cells #[.string ⟨#[]⟩, .slice none 0 0, .slice none 0 0, .int .i64 0, .slice none 0 0, .int .i64 0] 32 (0, 0))
  gr : wr.grownBy W (some rb)
  gl : Glob W
  rn : GRow strElem W base 9 1 (.slice An ns.length cn) ns
  rt : GRow intElem W base 3 1 (.slice At ts.length ct) ts
  ne : ∀ g, (Value.slice An ns.length cn).ownBlock = some g → (Value.slice At ts.length ct).ownBlock ≠ some g
  r0 : 10 < rb
  z0 : rb < wr.heap.size
  z1 : wr.heap.size ≤ bf
  zb : wr.heap.size ≤ b0 ∧ b0 < bf
  z2 : bf < base
  z3 : base ≤ W.heap.size
section
variable {wr W W' : World} {rb b0 bf base : Nat} {v : Value} {ws : List Wd} {i en : Nat} {nm : ByteArray} {An : Option Addr} {cn : Nat} {ns : List ByteArray} {At : Option Addr} {ct : Nat} {ts : List Int} {out : Int} {vb : Value} {pos : Int}
theorem FrG.step {i' : Nat} (h : FrG wr W rb b0 bf base v ws i en nm An cn ns At ct ts out vb pos) (hr : Rq W' rb v ws i' en) (hg : W.grownBy W' (some rb)) : FrG wr W' rb b0 bf base v ws i' en nm An cn ns At ct ts out vb pos := by
  have h0 := h.z0; have h1 := h.z1; have h2 := h.z2; have h3 := h.z3; have hb := h.zb
  exact ⟨hr, (hg.block bf (by omega) (by simp; omega)).trans h.fb, (hg.block b0 (by omega) (by simp; omega)).trans h.res, grown_trans h.gr hg, h.gl.of hg h.r0, h.rn.kept hg (fun k e => .inl (by cases e; omega)), h.rt.kept hg (fun k e => .inl (by cases e; omega)), h.ne, h.r0, h0, h1, h.zb, h2, Nat.le_trans h3 hg.size⟩
theorem FrG.below (h : FrG wr W rb b0 bf base v ws i en nm An cn ns At ct ts out vb pos) (hb : Below W.heap.size W W') : FrG wr W' rb b0 bf base v ws i en nm An cn ns At ct ts out vb pos := h.step (h.rd.keep hb) (grown_of_below hb _)
/-- A write of a cell of the function's. -/
theorem FrG.cell {x : Value} (h : FrG wr W rb b0 bf base v ws i en nm An cn ns At ct ts out vb pos) (j : Nat) : W.grownBy (W.setCell ⟨bf, j, none⟩ x) (some bf) ∧ Rq (W.setCell ⟨bf, j, none⟩ x) rb v ws i en ∧ wr.grownBy (W.setCell ⟨bf, j, none⟩ x) (some rb) ∧ Glob (W.setCell ⟨bf, j, none⟩ x) ∧ GRow strElem (W.setCell ⟨bf, j, none⟩ x) base 9 1 (.slice An ns.length cn) ns ∧ GRow intElem (W.setCell ⟨bf, j, none⟩ x) base 3 1 (.slice At ts.length ct) ts ∧ (W.setCell ⟨bf, j, none⟩ x).heap[b0]? = some (.cells #[.string ⟨#[]⟩, .slice none 0 0, .slice none 0 0, .int .i64 0, .slice none 0 0, .int .i64 0] 32 (0, 0)) := by
  have h0 := h.z0; have h1 := h.z1; have h2 := h.z2; have h3 := h.z3; have hb := h.zb
  have hg := grown_set W bf j x
  exact ⟨hg, h.rd.grown hg (by omega), grown_new h.gr hg (by omega), h.gl.same hg.size (fun g hg' => hg.block g (by have := h.r0; omega) (by simp; have := h.r0; omega)), h.rn.kept hg (fun k e => .inl (by cases e; omega)), h.rt.kept hg (fun k e => .inl (by cases e; omega)), (hg.block b0 (by omega) (by simp; omega)).trans h.res⟩
theorem FrG.s0 (h : FrG wr W rb b0 bf base v ws i en nm An cn ns At ct ts out vb pos) (x : ByteArray) : FrG wr (W.setCell ⟨bf, 0, none⟩ (.string x)) rb b0 bf base v ws i en x An cn ns At ct ts out vb pos := by
  obtain ⟨h1, h2, h3, h4, h5, h6, h7⟩ := h.cell (x := (.string x)) 0
  exact ⟨h2, by simpa using heap_setCell_same W bf 0 _ _ (.string x) h.fb, h7, h3, h4, h5, h6, h.ne, h.r0, h.z0, h.z1, h.zb, h.z2, Nat.le_trans h.z3 h1.size⟩
theorem FrG.s3 (h : FrG wr W rb b0 bf base v ws i en nm An cn ns At ct ts out vb pos) (x : Int) : FrG wr (W.setCell ⟨bf, 3, none⟩ (.int .i64 x)) rb b0 bf base v ws i en nm An cn ns At ct ts x vb pos := by
  obtain ⟨h1, h2, h3, h4, h5, h6, h7⟩ := h.cell (x := (.int .i64 x)) 3
  exact ⟨h2, by simpa using heap_setCell_same W bf 3 _ _ (.int .i64 x) h.fb, h7, h3, h4, h5, h6, h.ne, h.r0, h.z0, h.z1, h.zb, h.z2, Nat.le_trans h.z3 h1.size⟩
theorem FrG.s4 (h : FrG wr W rb b0 bf base v ws i en nm An cn ns At ct ts out vb pos) (x : Value) : FrG wr (W.setCell ⟨bf, 4, none⟩ x) rb b0 bf base v ws i en nm An cn ns At ct ts out x pos := by
  obtain ⟨h1, h2, h3, h4, h5, h6, h7⟩ := h.cell (x := x) 4
  exact ⟨h2, by simpa using heap_setCell_same W bf 4 _ _ x h.fb, h7, h3, h4, h5, h6, h.ne, h.r0, h.z0, h.z1, h.zb, h.z2, Nat.le_trans h.z3 h1.size⟩
/-- One name more. -/
theorem FrG.name {s : ByteArray} {g cap k : Nat} (h : FrG wr W rb b0 bf base v ws i en nm An cn ns At ct ts out vb pos) (ho : W'.ownsRow base 9 1 (.slice (some ⟨g, 0, none⟩) (ns.length + 1) cap) (ns.length + 1) (ns.flatMap strElem.cells ++ strElem.cells s)) (hg : W.grownBy W' (Value.slice An ns.length cn).ownBlock) (hat : (Value.slice An ns.length cn).ownBlock = some g ∨ g = W.heap.size) (hk : k = ns.length + 1) :
    FrG wr (W'.setCell ⟨bf, 1, none⟩ (.slice (some ⟨g, 0, none⟩) k cap)) rb b0 bf base v ws i en nm (some ⟨g, 0, none⟩) cap (ns ++ [s]) At ct ts out vb pos := by
  subst hk
  have h0 := h.z0; have h1 := h.z1; have h2 := h.z2; have h3 := h.z3; have hb := h.zb
  have hlt := h.rn.1.lt
  have hrow : ∀ k, (Value.slice An ns.length cn).ownBlock = some k → base ≤ k := fun k e => (hlt k e).1
  have hrn : GRow strElem W' base 9 1 (.slice (some ⟨g, 0, none⟩) (ns.length + 1) cap) (ns ++ [s]) := GRow.app (F := fun _ => False) h.rn trivial (fun _ h => h.elim) ho hg hat
  have hrt : GRow intElem W' base 3 1 (.slice At ts.length ct) ts := h.rt.beside (fun _ _ _ => trivial) hg (by
    cases hv : (Value.slice At ts.length ct).ownBlock with
    | none => exact .inl rfl
    | some k => right; intro e; exact h.ne k e.symm hv)
  have hgl : Glob W' := h.gl.same hg.size (fun q hq => hg.block q (by have := h.r0; omega) (fun e => by have := hrow q e.symm; have := h.r0; omega))
  have hset := grown_set W' bf 1 (.slice (some ⟨g, 0, none⟩) (ns.length + 1) cap)
  have hfb : W'.heap[bf]? = some (.cells #[.string nm, .slice An ns.length cn, .slice At ts.length ct, .int .i64 out, vb, .int .i64 pos] 32 (0, 0)) := (hg.block bf (by omega) (fun e => by have := hrow bf e.symm; omega)).trans h.fb
  have hgr : wr.grownBy W' (some rb) := ⟨hg.os.trans h.gr.os, hg.tape.trans h.gr.tape, hg.output.trans h.gr.output, Nat.le_trans h.gr.size hg.size, fun q hq hr => (hg.block q (Nat.lt_of_lt_of_le hq h.gr.size) (fun e => by have := hrow q e.symm; omega)).trans (h.gr.block q hq hr)⟩
  have hrd : Rq W' rb v ws i en := ⟨(hg.block rb h.rd.lt (fun e => by have := hrow rb e.symm; omega)).trans h.rd.blk, h.rd.row.same fun q hq => hg.block q (Nat.lt_trans hq h.rd.lt) (fun e => by have := hrow q e.symm; omega), h.rd.len, h.rd.pos⟩
  have e1 : (ns ++ [s]).length = ns.length + 1 := by simp
  refine ⟨hrd.grown hset (by omega), by rw [e1]; simpa using heap_setCell_same W' bf 1 _ _ (.slice (some ⟨g, 0, none⟩) (ns.length + 1) cap) hfb, (hset.block b0 (by have := hg.size; omega) (by simp; omega)).trans ((hg.block b0 (by omega) (fun e => by have := hrow b0 e.symm; omega)).trans h.res), grown_new hgr hset (by omega), hgl.same hset.size (fun q hq => hset.block q (by have := h.r0; have := hg.size; omega) (by simp; have := h.r0; omega)),
    by rw [e1]; exact hrn.kept hset (fun k e => .inl (by cases e; omega)), hrt.kept hset (fun k e => .inl (by cases e; omega)), ?_, h.r0, h0, h1, h.zb, h2, Nat.le_trans h3 (Nat.le_trans hg.size hset.size)⟩
  intro q hq e
  simp [Value.ownBlock] at hq
  subst hq
  rcases hat with hat | hat
  · exact h.ne g hat e
  · have := (h.rt.1.lt g e).2; omega
/-- One type more. -/
theorem FrG.typ {s : Int} {g cap k : Nat} (h : FrG wr W rb b0 bf base v ws i en nm An cn ns At ct ts out vb pos) (ho : W'.ownsRow base 3 1 (.slice (some ⟨g, 0, none⟩) (ts.length + 1) cap) (ts.length + 1) (ts.flatMap intElem.cells ++ intElem.cells s)) (hg : W.grownBy W' (Value.slice At ts.length ct).ownBlock) (hat : (Value.slice At ts.length ct).ownBlock = some g ∨ g = W.heap.size) (hk : k = ts.length + 1) :
    FrG wr (W'.setCell ⟨bf, 2, none⟩ (.slice (some ⟨g, 0, none⟩) k cap)) rb b0 bf base v ws i en nm An cn ns (some ⟨g, 0, none⟩) cap (ts ++ [s]) out vb pos := by
  subst hk
  have h0 := h.z0; have h1 := h.z1; have h2 := h.z2; have h3 := h.z3; have hb := h.zb
  have hlt := h.rt.1.lt
  have hrow : ∀ k, (Value.slice At ts.length ct).ownBlock = some k → base ≤ k := fun k e => (hlt k e).1
  have hrt : GRow intElem W' base 3 1 (.slice (some ⟨g, 0, none⟩) (ts.length + 1) cap) (ts ++ [s]) := GRow.app (F := fun _ => False) h.rt trivial (fun _ h => h.elim) ho hg hat
  have hrn : GRow strElem W' base 9 1 (.slice An ns.length cn) ns := h.rn.beside (fun _ _ _ => trivial) hg (by
    cases hv : (Value.slice An ns.length cn).ownBlock with
    | none => exact .inl rfl
    | some k => right; intro e; exact h.ne k hv e.symm)
  have hgl : Glob W' := h.gl.same hg.size (fun q hq => hg.block q (by have := h.r0; omega) (fun e => by have := hrow q e.symm; have := h.r0; omega))
  have hset := grown_set W' bf 2 (.slice (some ⟨g, 0, none⟩) (ts.length + 1) cap)
  have hfb : W'.heap[bf]? = some (.cells #[.string nm, .slice An ns.length cn, .slice At ts.length ct, .int .i64 out, vb, .int .i64 pos] 32 (0, 0)) := (hg.block bf (by omega) (fun e => by have := hrow bf e.symm; omega)).trans h.fb
  have hgr : wr.grownBy W' (some rb) := ⟨hg.os.trans h.gr.os, hg.tape.trans h.gr.tape, hg.output.trans h.gr.output, Nat.le_trans h.gr.size hg.size, fun q hq hr => (hg.block q (Nat.lt_of_lt_of_le hq h.gr.size) (fun e => by have := hrow q e.symm; omega)).trans (h.gr.block q hq hr)⟩
  have hrd : Rq W' rb v ws i en := ⟨(hg.block rb h.rd.lt (fun e => by have := hrow rb e.symm; omega)).trans h.rd.blk, h.rd.row.same fun q hq => hg.block q (Nat.lt_trans hq h.rd.lt) (fun e => by have := hrow q e.symm; omega), h.rd.len, h.rd.pos⟩
  have e1 : (ts ++ [s]).length = ts.length + 1 := by simp
  refine ⟨hrd.grown hset (by omega), by rw [e1]; simpa using heap_setCell_same W' bf 2 _ _ (.slice (some ⟨g, 0, none⟩) (ts.length + 1) cap) hfb, (hset.block b0 (by have := hg.size; omega) (by simp; omega)).trans ((hg.block b0 (by omega) (fun e => by have := hrow b0 e.symm; omega)).trans h.res), grown_new hgr hset (by omega), hgl.same hset.size (fun q hq => hset.block q (by have := h.r0; have := hg.size; omega) (by simp; have := h.r0; omega)),
    hrn.kept hset (fun k e => .inl (by cases e; omega)), by rw [e1]; exact hrt.kept hset (fun k e => .inl (by cases e; omega)), ?_, h.r0, h0, h1, h.zb, h2, Nat.le_trans h3 (Nat.le_trans hg.size hset.size)⟩
  intro q hq e
  simp [Value.ownBlock] at e
  subst e
  rcases hat with hat | hat
  · exact h.ne g hq hat
  · have := (h.rn.1.lt g hq).2; omega
end
theorem grown6 (w : World) (b : Nat) (v0 v1 v2 v3 v4 v5 : Value) : w.grownBy ((((((w.setCell ⟨b, 0, none⟩ v0).setCell ⟨b, 1, none⟩ v1).setCell ⟨b, 2, none⟩ v2).setCell ⟨b, 3, none⟩ v3).setCell ⟨b, 4, none⟩ v4).setCell ⟨b, 5, none⟩ v5) (some b) :=
  grown_trans (grown_trans (grown_trans (grown_trans (grown_trans (grown_set _ _ _ _) (grown_set _ _ _ _)) (grown_set _ _ _ _)) (grown_set _ _ _ _)) (grown_set _ _ _ _)) (grown_set _ _ _ _)
theorem StrsIn.later {w w' : World} {F F' : Nat → Prop} {v : Value} {l : List ByteArray} (h : StrsIn w F v l) (row : Option Nat) (hg : w.grownBy w' row) (hk : ∀ g, F g → row ≠ some g) (hF : ∀ g, F g → F' g) : StrsIn w' F' v l :=
  h.keep fun g h1 h2 => ⟨hF g h1, Nat.lt_of_lt_of_le h2 hg.size, hg.block g h2 (fun e => hk g h1 e.symm)⟩
theorem IntsIn.later {w w' : World} {F F' : Nat → Prop} {v : Value} {l : List Int} (h : IntsIn w F v l) (row : Option Nat) (hg : w.grownBy w' row) (hk : ∀ g, F g → row ≠ some g) (hF : ∀ g, F g → F' g) : IntsIn w' F' v l :=
  h.keep fun g h1 h2 => ⟨hF g h1, Nat.lt_of_lt_of_le h2 hg.size, hg.block g h2 (fun e => hk g h1 e.symm)⟩
/-- What fun() answers, by what stands there. -/
def FnR (w : World) (rb : Nat) (v : Value) (ws : List Wd) (en : Nat) (r : Rf) (e : Ending) (w' : World) : Prop :=
  match r with
  | .fn f j => ∃ An cn At ct Ab cb, e = .returned (.agg #[.string f.name, .slice An f.names.length cn, .slice At f.types.length ct, .int .i64 f.out, .slice Ab f.body.length cb, .int .i64 f.pos]) ∧ StrsIn w' (fun g => w.heap.size ≤ g) (.slice An f.names.length cn) f.names ∧ IntsIn w' (fun g => w.heap.size ≤ g) (.slice At f.types.length ct) f.types ∧ StmtsIn w' (fun g => w.heap.size ≤ g) (.slice Ab f.body.length cb) f.body ∧ Rq w' rb v ws j en ∧ w.grownBy w' (some rb)
  | .bad j => e = badP ws en j ∧ w.grownBy w' (some rb)
theorem FrG.ret {wr W : World} {rb b0 bf base : Nat} {v : Value} {ws : List Wd} {i en : Nat} {nm : ByteArray} {An : Option Addr} {cn : Nat} {ns : List ByteArray} {At : Option Addr} {ct : Nat} {ts : List Int} {out : Int} {Ab : Option Addr} {cb : Nat} {lb : List Sm} {pos : Int}
    (h : FrG wr W rb b0 bf base v ws i en nm An cn ns At ct ts out (.slice Ab lb.length cb) pos) (hB : StmtsIn W (fun g => base ≤ g) (.slice Ab lb.length cb) lb) :
    FnR wr rb v ws en (.fn ⟨nm, ns, ts, out, lb, pos⟩ i) (.returned (.agg #[.string nm, .slice An ns.length cn, .slice At ts.length ct, .int .i64 out, .slice Ab lb.length cb, .int .i64 pos]))
      ((((((W.setCell ⟨b0, 0, none⟩ (.string nm)).setCell ⟨b0, 1, none⟩ (.slice An ns.length cn)).setCell ⟨b0, 2, none⟩ (.slice At ts.length ct)).setCell ⟨b0, 3, none⟩ (.int .i64 out)).setCell ⟨b0, 4, none⟩ (.slice Ab lb.length cb)).setCell ⟨b0, 5, none⟩ (.int .i64 pos)) := by
  have hg := grown6 W b0 (.string nm) (.slice An ns.length cn) (.slice At ts.length ct) (.int .i64 out) (.slice Ab lb.length cb) (.int .i64 pos)
  have h0 := h.z0; have h1 := h.z1; have h2 := h.z2; have hb := h.zb
  exact ⟨An, cn, At, ct, Ab, cb, rfl, h.rn.strs.later _ hg (fun g (q : base ≤ g) => by simp; omega) (fun g q => by omega), h.rt.ints.later _ hg (fun g (q : base ≤ g) => by simp; omega) (fun g q => by omega), hB.later _ hg (fun g (q : base ≤ g) => by simp; omega) (fun g q => by omega), h.rd.grown hg (by omega), grown_new h.gr hg hb.1⟩
end Go.Proofs.YtmngofgminlloaaGreatDoor

namespace Go.Proofs.YtmngofgminlloaaGreatDoor
open Go.RowKit Tw

section
variable {ws : List Wd} {en i k : Nat} {r : Rf} {q : Rp}
end
end Go.Proofs.YtmngofgminlloaaGreatDoor

namespace Go.Proofs.YtmngofgminlloaaGreatDoor
open Go.RowKit Tw

section
variable {ws : List Wd} {en i : Nat} {r : Rs}
theorem isAt_other {s t : ByteArray} (h : isAt ws i s = true) (hn : s.data.toList ≠ t.data.toList) : isAt ws i t = false := by
  unfold isAt at h ⊢
  cases hx : ws[i]? with
  | none => rfl
  | some x =>
    rw [hx] at h
    simp only [beq_iff_eq, ByteArray.toList_eq] at h
    simp only [beq_eq_false_iff_ne, ByteArray.toList_eq]
    rw [h]; exact hn
theorem hs1 (h : isAt ws i sLet = true) : headS ws i = 1 := by unfold headS; rw [if_pos h]
theorem hs3 (h : isAt ws i sIf = true) : headS ws i = 3 := by
  unfold headS; rw [if_neg (by rw [isAt_other h (by decide)]; decide), if_pos h]
theorem hs4 (h1 : isAt ws i sLet = false) (h3 : isAt ws i sIf = false) (h : isAt ws i sWhile = true) : headS ws i = 4 := by unfold headS; simp [h1, h3, h]
theorem hs5 (h1 : isAt ws i sLet = false) (h3 : isAt ws i sIf = false) (h4 : isAt ws i sWhile = false) (h : isAt ws i sReturn = true) : headS ws i = 5 := by unfold headS; simp [h1, h3, h4, h]
theorem hs6 (h1 : isAt ws i sLet = false) (h3 : isAt ws i sIf = false) (h4 : isAt ws i sWhile = false) (h5 : isAt ws i sReturn = false) (h : isAt ws i sYield = true) : headS ws i = 6 := by unfold headS; simp [h1, h3, h4, h5, h]
theorem hs2 (h1 : isAt ws i sLet = false) (h3 : isAt ws i sIf = false) (h4 : isAt ws i sWhile = false) (h5 : isAt ws i sReturn = false) (h6 : isAt ws i sYield = false) (h : kindAt ws i = 2 ∧ isAt ws (i + 1) sEq = true) : headS ws i = 2 := by unfold headS; simp [h1, h3, h4, h5, h6, h]
theorem hs7 (h1 : isAt ws i sLet = false) (h3 : isAt ws i sIf = false) (h4 : isAt ws i sWhile = false) (h5 : isAt ws i sReturn = false) (h6 : isAt ws i sYield = false) (h : ¬ (kindAt ws i = 2 ∧ isAt ws (i + 1) sEq = true)) : headS ws i = 7 := by
  unfold headS; simp only [h1, h3, h4, h5, h6, Bool.false_eq_true, if_false]; rw [if_neg h]
end
end Go.Proofs.YtmngofgminlloaaGreatDoor

namespace Go.Proofs.YtmngofgminlloaaGreatDoor
open Go.RowKit Tw

end Go.Proofs.YtmngofgminlloaaGreatDoor

namespace Go.Proofs.YtmngofgminlloaaGreatDoor
open Go.RowKit Tw

end Go.Proofs.YtmngofgminlloaaGreatDoor

namespace Go.Proofs.YtmngofgminlloaaGreatDoor
open Go.RowKit Tw

section
variable {wr W W' : World} {rb b0 bf base : Nat} {v : Value} {ws : List Wd} {i en : Nat} {nm : ByteArray} {An : Option Addr} {cn : Nat} {ns : List ByteArray} {At : Option Addr} {ct : Nat} {ts : List Int} {out : Int} {vb : Value} {pos : Int}
theorem FrG.fbN (h : FrG wr W rb b0 bf base v ws i en nm An cn ns At ct ts out vb pos) (hg : W.grownBy W' (Value.slice An ns.length cn).ownBlock) : W'.heap[bf]? = some (.cells #[.string nm, .slice An ns.length cn, .slice At ts.length ct, .int .i64 out, vb, .int .i64 pos] 32 (0, 0)) := by
  have h2 := h.z2; have h3 := h.z3
  exact (hg.block bf (by omega) (fun e => by have := (h.rn.1.lt bf e.symm).1; omega)).trans h.fb
theorem FrG.fbT (h : FrG wr W rb b0 bf base v ws i en nm An cn ns At ct ts out vb pos) (hg : W.grownBy W' (Value.slice At ts.length ct).ownBlock) : W'.heap[bf]? = some (.cells #[.string nm, .slice An ns.length cn, .slice At ts.length ct, .int .i64 out, vb, .int .i64 pos] 32 (0, 0)) := by
  have h2 := h.z2; have h3 := h.z3
  exact (hg.block bf (by omega) (fun e => by have := (h.rt.1.lt bf e.symm).1; omega)).trans h.fb
end

end Go.Proofs.YtmngofgminlloaaGreatDoor

namespace Go.Proofs.YtmngofgminlloaaGreatDoor
open Go.RowKit Tw

section
variable {ws : List Wd} {en i k : Nat} {q : Ru}
def dpOn (i : Nat) : Rp → Prop
  | .ok _ _ j => i < j
  | _ => True
theorem Dp.on {r : Rp} (h : Dp ws en k i r) : dpOn i r := by
  induction h with
  | close => simp [dpOn]
  | next _ _ _ _ _ ih => simp only [dpOn] at *; unfold parAt at ih; split at ih <;> omega
  | _ => trivial
theorem Df.on {f : Fn} {j : Nat} (h : Df ws en i (.fn f j)) : i < j := by
  cases h with
  | fn _ _ _ h1 _ h2 =>
    have a : _ < _ := Dp.on h1
    have b : _ < _ := Ds.on h2
    omega
end
end Go.Proofs.YtmngofgminlloaaGreatDoor

namespace Go.Proofs.YtmngofgminlloaaGreatDoor
open Go.RowKit Tw

end Go.Proofs.YtmngofgminlloaaGreatDoor

namespace Go.Proofs.YtmngofgminlloaaGreatDoor
open Go.RowKit Tw

theorem wrow_beside {W W2 : World} {B bu : Nat} {v : Value} {ws : List Wd} {A : Option Addr} {n c T : Nat} (h : WRow W B v ws) (hu : W.heap[bu]? = some (.cells #[.slice A n c] T (0, 0))) (hg : W.grownBy W2 (some bu)) : WRow W2 B v ws := by
  rcases h with ⟨rfl, rfl⟩ | ⟨g, cap, rfl, hgB, hc⟩
  · exact .inl ⟨rfl, rfl⟩
  · refine .inr ⟨g, cap, rfl, hgB, fun j u hj => ?_⟩
    have hju := hc j u hj
    have hlt : g < W.heap.size := by
      rcases Nat.lt_or_ge g W.heap.size with h | h
      · exact h
      · unfold World.cell? at hju; rw [Array.getElem?_eq_none h] at hju; cases hju
    have hne : g ≠ bu := by
      rintro rfl
      cases ws with
      | nil => simp [wcells] at hj
      | cons x ws =>
        have h0 := hc 0 (.int .i64 x.kind) (by simp [wcells, Wd.cells])
        have h1 := Lib.cell_of_heap hu 0
        rw [h0] at h1
        simp at h1
    exact (World.cell?_of_block (a := ⟨g, j, none⟩) (hg.block g hlt (by simp; exact hne))).trans hju

structure FrW (w W : World) (rb bu bp be base : Nat) (v : Value) (ws : List Wd) (i en : Nat) (A : Option Addr) (c : Nat) (l : List (Fn × Value × Value × Value)) (p e : Int) : Prop where
  rd : Rq W rb v ws i en
  un : W.heap[bu]? = some (.cells #[.slice A l.length c] 24 (0, 0))
  pp : W.heap[bp]? = some (.cells #[.int .i64 p] 3 (0, 0))
  ee : W.heap[be]? = some (.cells #[.int .i64 e] 25 (0, 0))
  row : GRow fnElem W base 32 6 (.slice A l.length c) l
  bel : Below w.heap.size w W
  gl : Glob W
  r0 : 10 < rb
  gb : 10 < bu
  z0 : w.heap.size ≤ bu
  z1 : bu < bp
  z2 : bp < be
  z3 : be < rb
  z4 : rb < base
  z5 : base ≤ W.heap.size
section
variable {w W W' : World} {rb bu bp be base : Nat} {v : Value} {ws : List Wd} {i en : Nat} {A : Option Addr} {c : Nat} {l : List (Fn × Value × Value × Value)} {p e : Int}
theorem FrW.step {i' : Nat} (h : FrW w W rb bu bp be base v ws i en A c l p e) (hr : Rq W' rb v ws i' en) (hg : W.grownBy W' (some rb)) : FrW w W' rb bu bp be base v ws i' en A c l p e := by
  have h0 := h.z0; have h1 := h.z1; have h2 := h.z2; have h3 := h.z3; have h4 := h.z4; have h5 := h.z5
  exact ⟨hr, (hg.block bu (by omega) (by simp; omega)).trans h.un, (hg.block bp (by omega) (by simp; omega)).trans h.pp, (hg.block be (by omega) (by simp; omega)).trans h.ee, h.row.kept hg (fun k e => .inl (by cases e; omega)), below_grown h.bel hg (by omega) (by have := h.bel.size; omega), h.gl.of hg h.r0, h.r0, h.gb, h0, h1, h2, h3, h4, Nat.le_trans h5 hg.size⟩
theorem FrW.below (h : FrW w W rb bu bp be base v ws i en A c l p e) (hb : Below W.heap.size W W') : FrW w W' rb bu bp be base v ws i en A c l p e := h.step (h.rd.keep hb) (grown_of_below hb _)
theorem FrW.app_un {o : Obj} (h : FrW w W rb bu bp be base v ws i en A c l p e) (hg : (W.alloc o).grownBy W' (Value.slice A l.length c).ownBlock) : W'.heap[bu]? = some (.cells #[.slice A l.length c] 24 (0, 0)) := by
  have h1 := h.z1; have h2 := h.z2; have h3 := h.z3; have h4 := h.z4; have h5 := h.z5
  exact (hg.block bu (by simp; omega) (fun e => by have := (h.row.1.lt bu e.symm).1; omega)).trans ((heap_alloc_old W o (by omega)).trans h.un)
/-- One function more. -/
theorem FrW.app {a : Fn × Value × Value × Value} {F0 : Nat → Prop} {o : Obj} {g cap k0 : Nat}
    (h : FrW w W rb bu bp be base v ws i en A c l p e) (ha : fnElem.kid W F0 a) (hF0 : ∀ g, F0 g → base ≤ g ∧ (Value.slice A l.length c).ownBlock ≠ some g)
    (ho : W'.ownsRow base 32 6 (.slice (some ⟨g, 0, none⟩) (l.length + 1) cap) (l.length + 1) (l.flatMap fnElem.cells ++ fnElem.cells a)) (hg : (W.alloc o).grownBy W' (Value.slice A l.length c).ownBlock) (hat : (Value.slice A l.length c).ownBlock = some g ∨ g = (W.alloc o).heap.size) (hk0 : k0 = l.length + 1) :
    FrW w (W'.setCell ⟨bu, 0, none⟩ (.slice (some ⟨g, 0, none⟩) k0 cap)) rb bu bp be base v ws i en (some ⟨g, 0, none⟩) cap (l ++ [a]) p e := by
  subst hk0
  have h0 := h.z0; have h1 := h.z1; have h2 := h.z2; have h3 := h.z3; have h4 := h.z4; have h5 := h.z5; have hs0 := h.bel.size
  have hb : Below W.heap.size W (W.alloc o) := (Below.refl _ _).alloc (Nat.le_refl _) _
  have hA := h.step (h.rd.keep hb) (grown_of_below hb _)
  have hlt := h.row.1.lt
  have hrow : ∀ k, (Value.slice A l.length c).ownBlock = some k → base ≤ k := fun k e => (hlt k e).1
  have hk : fnElem.kid (W.alloc o) F0 a := fnElem.keep (fun q q1 q2 => ⟨q1, by simp; omega, heap_alloc_old W o q2⟩) ha
  have hr : GRow fnElem W' base 32 6 (.slice (some ⟨g, 0, none⟩) (l.length + 1) cap) (l ++ [a]) := GRow.app hA.row hk hF0 ho hg hat
  have hset := grown_set W' bu 0 (.slice (some ⟨g, 0, none⟩) (l.length + 1) cap)
  have e1 : (l ++ [a]).length = l.length + 1 := by simp
  have hz := hb.size
  have hz2 := hg.size
  have hz3 : (W.alloc o).heap.size = W.heap.size + 1 := by simp
  have hrd : Rq W' rb v ws i en := rq_app hA.rd hg (fun k e => by have := hrow k e; omega)
  have hbe : Below w.heap.size w W' := ⟨hg.os.trans hA.bel.os, hg.tape.trans hA.bel.tape, hg.output.trans hA.bel.output, Nat.le_trans hA.bel.size hg.size, fun k hk => (hg.block k (by omega) (fun e => by have := hrow k e.symm; omega)).trans (hA.bel.block k hk)⟩
  have keep : ∀ k, k < base → k ≠ bu → (W'.setCell ⟨bu, 0, none⟩ (.slice (some ⟨g, 0, none⟩) (l.length + 1) cap)).heap[k]? = (W.alloc o).heap[k]? := fun k q1 q2 =>
    (hset.block k (by omega) (by simp; omega)).trans (hg.block k (by omega) (fun e => by have := hrow k e.symm; omega))
  refine ⟨⟨(hset.block rb hrd.lt (by simp; omega)).trans hrd.blk, ?_, hrd.len, hrd.pos⟩, by rw [e1]; simpa using heap_setCell_same W' bu 0 _ _ (.slice (some ⟨g, 0, none⟩) (l.length + 1) cap) (h.app_un hg),
    (keep bp (by omega) (by omega)).trans hA.pp, (keep be (by omega) (by omega)).trans hA.ee,
    by rw [e1]; exact hr.kept hset (fun k e => .inl (by cases e; omega)), below_set hbe (by omega) _ _,
    (hA.gl.same hg.size (fun q hq => hg.block q (by have := h.r0; omega) (fun e => by have := hrow q e.symm; have := h.r0; omega))).same hset.size (fun q hq => ?_),
    h.r0, h.gb, h0, h1, h2, h3, h4, Nat.le_trans h5 (Nat.le_trans hz (Nat.le_trans hg.size hset.size))⟩
  · exact wrow_beside hrd.row (h.app_un hg) hset
  · exact hset.block q (by have := h.r0; omega) (by simp; have hbig := h.z0; have := h.gb; omega)
end
end Go.Proofs.YtmngofgminlloaaGreatDoor

namespace Go.Proofs.YtmngofgminlloaaGreatDoor
open Go.RowKit Tw

/-- What Parse answers. -/
def PRes (w : World) (src : ByteArray) (e : Ending) (w' : World) : Prop :=
  ∃ (l : List Fn) (A : Option Addr) (c : Nat) (p er : Int), e = .returned (.tuple #[.agg #[.slice A l.length c], .int .i64 p, .int .i64 er]) ∧ FnsIn w' (fun g => w.heap.size ≤ g) (.slice A l.length c) l ∧ Below w.heap.size w w' ∧ SRes src l p er
/-- The same, and the list is no longer than its room. -/
def PResC (w : World) (src : ByteArray) (e : Ending) (w' : World) : Prop :=
  ∃ (l : List Fn) (A : Option Addr) (c : Nat) (p er : Int), e = .returned (.tuple #[.agg #[.slice A l.length c], .int .i64 p, .int .i64 er]) ∧ FnsIn w' (fun g => w.heap.size ≤ g) (.slice A l.length c) l ∧ Below w.heap.size w w' ∧ SRes src l p er ∧ l.length ≤ c
theorem PResC.old {w w' : World} {src : ByteArray} {e : Ending} (h : PResC w src e w') : PRes w src e w' := by
  obtain ⟨l, A, c, p, er, h1, h2, h3, h4, -⟩ := h
  exact ⟨l, A, c, p, er, h1, h2, h3, h4⟩
end Go.Proofs.YtmngofgminlloaaGreatDoor

namespace Go.Proofs.YtmngofgminlloaaGreatDoor
open Go.RowKit Tw

end Go.Proofs.YtmngofgminlloaaGreatDoor

namespace Go.Proofs.YtmngofgminlloaaGreatDoor
open Go.RowKit Tw

end Go.Proofs.YtmngofgminlloaaGreatDoor

namespace Go.Proofs.YtmngofgminlloaaGreatDoor
open Go.RowKit Tw

end Go.Proofs.YtmngofgminlloaaGreatDoor

namespace Go.Proofs.YtmngofgminlloaaGreatDoor
open Go.RowKit Tw

end Go.Proofs.YtmngofgminlloaaGreatDoor

namespace Go.Proofs.YtmngofgminlloaaGreatDoor
open Go.RowKit Tw

end Go.Proofs.YtmngofgminlloaaGreatDoor

namespace Go.Proofs.YtmngofgminlloaaGreatDoor
open Go.RowKit Tw

end Go.Proofs.YtmngofgminlloaaGreatDoor

namespace Go.Proofs.YtmngofgminlloaaGreatDoor
open Go.RowKit Tw

/-- What Script has read is of sizes that memory has. -/
theorem sres_small {s : ByteArray} {l : List Fn} {p er : Int} (h : SRes s l p er) : (∀ f ∈ l, FnZ f) ∧ l.length ≤ 281474976710656 := by
  obtain ⟨p0, e0, ws, hw, h⟩ := h
  rcases h with ⟨_, rfl, _⟩ | ⟨_, ⟨j, _, rfl, _⟩ | ⟨m, hd, _, _, rfl⟩⟩
  · exact ⟨by simp, by simp⟩
  · exact ⟨by simp, by simp⟩
  · split
    · have := (hd.small hw.small) _ rfl
      exact ⟨this.2.2, by have h1 := this.1; have h2 := hw.small.1; omega⟩
    · exact ⟨by simp, by simp⟩
end Go.Proofs.YtmngofgminlloaaGreatDoor

namespace Go.Proofs.YtmngofgminlloaaGreatDoor
open Go.RowKit Tw

theorem unitT_nil : unitT [] = (0, 16) := by
  have h : unitF [] = 0 := by simp [unitF, fnsF]
  exact unitT_2 h rfl rfl
theorem fns_none (w : World) (F : Nat → Prop) : FnsIn w F (.slice none ([] : List Fn).length 0) [] := .inl ⟨_, _, rfl, rfl⟩
set_option maxRecDepth 100000 in
set_option maxHeartbeats 8000000 in
theorem typesTell_any (us : List Fn) (A : Option Addr) (c : Nat) (F0 : Nat → Prop) (src : ByteArray) (w : World) (hU : FnsIn w F0 (.slice A us.length c) us) (hZ : ∀ f ∈ us, FnZ f) (hlen : us.length ≤ 281474976710656) (hcap : us.length ≤ c) (hs : src.size ≤ maxLen) (hG : Glob w) :
    Calls Tryz.prog 4 #[.agg #[.slice A us.length c], .string src] w fun e w' => e = .returned (.bool true) ∧ Below w.heap.size w w' := by
  have hB1 : Below w.heap.size w (w.alloc (.cells #[.slice A us.length c] 24)) := (Below.refl _ _).alloc (Nat.le_refl _) _
  have HU : Hid (FnsIn (w.alloc (.cells #[.slice A us.length c] 24)) (fun _ => True) (.slice A us.length c) us) := Lib.hid (hU.keep (fun g h1 h2 => ⟨trivial, Nat.lt_of_lt_of_le h2 hB1.size, hB1.block g h2⟩))
  have HF0 : Hid (FrZ w (w.alloc (.cells #[.slice A us.length c] 24)) w.heap.size A us.length c) := Lib.hid ⟨heap_alloc_new w _, hB1, Nat.le_refl _, hG.big, hG.to hB1⟩
  have HZ := Lib.hid hZ; have HS := Lib.hid hs
  clear hU hZ hs hG hB1
  go_enter Tryz.func4, Tryz.ntmps4
  go_upto_region 1 with (fail)
  generalize w.alloc _ = w0 at HU HF0 ⊢
  obtain ⟨b1, hb1⟩ : ∃ b, w.heap.size = b := ⟨_, rfl⟩
  rw [hb1] at HF0
  simp only [hb1]
  clear hb1
  go_wp2_with fail
  refine (tcheck_c [] none 0 (fun _ => True) w0 (fns_none _ _) (by intro f hf; cases hf) (by simp) (by simp) HF0.out.gl).mono ?_
  rintro e w1 ⟨he, hb⟩
  rw [unitT_nil] at he
  have he' : e = .returned (.tuple #[.int .i64 0, .int .i64 16]) := he
  subst he'
  have HF1 := Lib.hid (HF0.out.later hb)
  have HU1 := Lib.hid (HU.out.keep (F' := fun _ => True) (w' := w1) (fun g h1 h2 => ⟨trivial, Nat.lt_of_lt_of_le h2 hb.size, hb.block g h2⟩))
  have c1 : w1.cell? ⟨b1, 0, none⟩ = some (.slice A us.length c) := Lib.cell_of_heap HF1.out.un 0
  clear he hb HF0 HU
  go_wp2_with fail
  refine (tcheck_c us A c (fun _ => True) w1 HU1.out HZ.out hlen hcap HF1.out.gl).mono ?_
  rintro e w2 ⟨rfl, hb⟩
  have HF2 := Lib.hid (HF1.out.later hb)
  have HU2 := Lib.hid (HU1.out.keep (F' := fun _ => True) (w' := w2) (fun g h1 h2 => ⟨trivial, Nat.lt_of_lt_of_le h2 hb.size, hb.block g h2⟩))
  clear c1 hb HF1 HU1
  have c1 : w2.cell? ⟨b1, 0, none⟩ = some (.slice A us.length c) := Lib.cell_of_heap HF2.out.un 0
  go_wp2_with fail
  refine (tfault_c us A c (fun _ => True) w2 HU2.out HZ.out hlen HF2.out.gl).mono ?_
  rintro e w3 ⟨rfl, hb⟩
  have HF3 := Lib.hid (HF2.out.later hb)
  clear c1 hb HF2 HU2 HZ
  generalize (unitT us).1 = z1
  generalize (unitT us).2 = z2
  have e1 : (z1 != z1) = false := bne_self_eq_false _
  have e2 : (z2 != z2) = false := bne_self_eq_false _
  go_wp2_with fail
  clear e1 e2
  refine (script_cc src w3 HS.out HF3.out.gl).mono ?_
  rintro e w4 ⟨l, A', c', p, er, rfl, hF, hb, hlc, hr⟩
  have HB4 := Lib.hid (HF3.out.bel.trans (hb.mono HF3.out.bel.size))
  have HG4 := Lib.hid (HF3.out.gl.to hb)
  have hb2 := (Below.refl w4.heap.size w4).alloc (Nat.le_refl _) (.cells #[.slice A' l.length c'] 24)
  have HX := Lib.hid (heap_alloc_new w4 (.cells #[.slice A' l.length c'] 24))
  have HL : Hid (FnsIn (w4.alloc (.cells #[.slice A' l.length c'] 24)) (fun _ => True) (.slice A' l.length c') l) := Lib.hid (hF.keep (fun g h1 h2 => ⟨trivial, Nat.lt_of_lt_of_le h2 hb2.size, hb2.block g h2⟩))
  have HLZ := Lib.hid (sres_small hr)
  have HB5 := Lib.hid (HB4.out.trans (hb2.mono HB4.out.size))
  have HG5 := Lib.hid (HG4.out.to hb2)
  clear hF hb hr hb2 HB4 HG4 HF3
  go_upto_region 9 with (fail)
  generalize w4.alloc _ = w5 at HX HL HB5 HG5 ⊢
  generalize w4.heap.size = bv at HX ⊢
  by_cases h0 : er = 0
  · subst h0
    have c1 : w5.cell? ⟨bv, 0, none⟩ = some (.slice A' l.length c') := Lib.cell_of_heap HX.out 0
    go_wp2_with fail
    refine (tcheck_c l A' c' (fun _ => True) w5 HL.out HLZ.out.1 HLZ.out.2 hlc HG5.out).mono ?_
    rintro e w6 ⟨rfl, hb⟩
    have HB6 := Lib.hid (HB5.out.trans (hb.mono HB5.out.size))
    have HG6 := Lib.hid (HG5.out.to hb)
    have HX6 := Lib.hid ((hb.block bv (lt_of_some HX.out)).trans HX.out)
    have HL6 := Lib.hid (HL.out.keep (F' := fun _ => True) (w' := w6) (fun g h1 h2 => ⟨trivial, Nat.lt_of_lt_of_le h2 hb.size, hb.block g h2⟩))
    clear c1 hb HX HL HB5 HG5
    have c1 : w6.cell? ⟨bv, 0, none⟩ = some (.slice A' l.length c') := Lib.cell_of_heap HX6.out 0
    go_wp2_with fail
    refine (tfault_c l A' c' (fun _ => True) w6 HL6.out HLZ.out.1 HLZ.out.2 HG6.out).mono ?_
    rintro e w7 ⟨rfl, hb⟩
    have HB7 := Lib.hid (HB6.out.trans (hb.mono HB6.out.size))
    clear c1 hb
    generalize (unitT l).1 = z3
    generalize (unitT l).2 = z4
    have e1 : (z3 == z3) = true := beq_self_eq_true _
    have e2 : (z4 == z4) = true := beq_self_eq_true _
    go_wp2_with fail
    go_ret
    exact ⟨rfl, HB7.out⟩
  · have e1 : (er != 0) = true := by simpa using h0
    clear h0
    go_wp2_with fail
    go_ret
    exact ⟨rfl, HB5.out⟩
end Go.Proofs.YtmngofgminlloaaGreatDoor
