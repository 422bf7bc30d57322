/-
  Memory: a value of one element appended to a slice of the call's own; facts of cells behind blocks that were made. Any program.
-/
import Derived.WalkKit
import Derived.WalkSpells
import Derived.WalkLawsBesides
import Derived.Laws.OwnMore
import Derived.Deep.AppendLies
import Derived.Deep.Draws
import Derived.Lib.Hide
namespace Go.Proofs.YtmngofgminlloaaDoor
open Go.RowKit

/-- What a slice type t with elements of type e (of so many cells) must have, as the program's tables give it. -/
structure ElemOk (P : Program) (t e size : Nat) : Prop where
  ut : P.underlying t = some (.slice e)
  inf : (P.info? e).map (fun i => (i.zero.map (fun z => z.cells.size), i.size, decide (i.bytes ≤ 256))) = some (some size, size, true)
  pos : 0 < size

section
variable {P : Program} {w : World}
theorem ElemOk.get {t e size : Nat} (h : ElemOk P t e size) : ∃ i z, P.info? e = some i ∧ i.zero = some z ∧ i.size = size ∧ i.bytes ≤ 256 ∧ z.cells.size = size := by
  have hi := h.inf
  cases hp : P.info? e with
  | none => rw [hp] at hi; cases hi
  | some i =>
    rw [hp] at hi
    simp only [Option.map_some, Option.some.injEq, Prod.mk.injEq, decide_eq_true_eq] at hi
    obtain ⟨h1, h2, h3⟩ := hi
    cases hz : i.zero with
    | none => rw [hz] at h1; cases h1
    | some z =>
      rw [hz] at h1
      exact ⟨i, z, rfl, hz, h2, h3, by simpa using h1⟩

theorem app_bytes {n b : Nat} (hb : b ≤ 256) (hn : n ≤ 500000000000) : n * b ≤ 140737488355328 := by
  have : n * b ≤ 500000000000 * 256 := Nat.mul_le_mul hn hb
  omega

/-- One element that lies in a block of its own is appended. -/
theorem wpList_app1 {ops : Array Oper} {rest : List Oper} {o : Oper} {a : Act} {Q : Exit → Act → World → Prop} {t e size : Nat} (E : ElemOk P t e size) (hgd : o.guard = none) (s x : Operand)
    (ho : o.op = .call { callee := .builtin .append, args := #[s, x], argTypes := #[t, t] })
    (base : Nat) (v : Value) (n : Nat) (xs : List Value) (hs : a.eval s = v) (hown : w.ownsRow base e size v n xs)
    (H c : Nat) (cs : Array Value) (hx : a.eval x = .slice (some ⟨H, 0, none⟩) 1 c) (hblk : w.heap[H]? = some (.cells cs e (0, 0))) (hl : cs.size = size) (h1 : ∀ u ∈ cs.toList, u.oneCell' = true)
    (hn : n + 1 ≤ 500000000000) (hbase : base ≤ w.heap.size)
    (h : ∀ g cap w', w'.ownsRow base e size (.slice (some ⟨g, 0, none⟩) (n + 1) cap) (n + 1) (xs ++ cs.toList) → w.grownBy w' v.ownBlock → (v.ownBlock = some g ∨ g = w.heap.size) → g < w'.heap.size → wpList P ops Q rest (a.put o.dst (.slice (some ⟨g, 0, none⟩) (n + 1) cap)) w') : wpList P ops Q (o :: rest) a w := by
  obtain ⟨i, z, hi, hz, hsz, hby, hzs⟩ := E.get
  exact wpList_append_lies w hgd s x t ho base e i z size i.bytes E.ut hi hz hsz rfl hzs E.pos v n xs hs hown ⟨H, 0, none⟩ 1 c cs.toList hx (by simp [hl]) (World.news_of_block hblk) h1
    (by omega) (by unfold maxLen; omega) (app_bytes hby hn) hbase w.heap.size rfl h

theorem below_drewN {B : Nat} {a w : World} (h : Below B a w) (n : Nat) : Below B a (w.drewN n) := ⟨h.os, h.tape, h.output, h.size, h.block⟩

theorem below_app {B : Nat} {w0 w' : World} {base : Nat} {e size n : Nat} {v : Value} {xs : List Value} (hb : Below B w0 w) (hown : w.ownsRow base e size v n xs) (hB : B ≤ base) (hB' : B ≤ w.heap.size) (hg : w.grownBy w' v.ownBlock) : Below B w0 w' :=
  hb.grown hg hB' fun k hk => Nat.le_trans hB (hown.lt k hk).1
end
end Go.Proofs.YtmngofgminlloaaDoor
