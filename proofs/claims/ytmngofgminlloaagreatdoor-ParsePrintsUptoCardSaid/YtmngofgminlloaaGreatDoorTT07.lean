/-
  Split and the reference's Words at every text, with one account of what they return; NameOK; keyed.
  Where scripts (trees) lie in memory. No program in sight.
  Rows of structures in memory that grow by append: what each element hangs on lies in other blocks. Any program; then rows of expressions, statements.
  What a reader by levels makes of a list of words, in plain Lean: expressions (De). No program in sight.
  What the walks of the reference's reader share: blocks of five cells, what is kept, and what its methods answer (RetE, LvlC, OneC).
  What one() has read, by the ways through it, in plain Lean.
-/
import Derived.Test.YtmngofgminlloaaGreatDoorTT05
import Derived.Test.YtmngofgminlloaaGreatDoorTT06
import Derived.RegionTactic
import Derived.Deep.RegionWith
import Derived.Deep.RegionHeld3
import Derived.Deep.DrawnRows
import Derived.Deep.RegionHeld2
import Derived.Lib.AtoiErrMem
set_option linter.all false
namespace Go.Proofs.YtmngofgminlloaaGreatDoor
open Go.RowKit Tw Go.Shelf

/-- What Split returns of a text: a position, an error number, and words. -/
def WRes (s : ByteArray) (p e : Int) (ws : List Wd) : Prop :=
  (4000 < s.size ∧ p = 0 ∧ e = 2 ∧ ws = []) ∨ (s.size ≤ 4000 ∧ ∃ r, Lex s 0 [] r ∧ p = posOf r ∧ e = codeOf r ∧ ws = r.2)
theorem WRes.total (s : ByteArray) : ∃ p e ws, WRes s p e ws := by
  by_cases h : s.size ≤ 4000
  · obtain ⟨r, hr⟩ := Lex.total s s.size 0 [] (by omega) (by omega)
    exact ⟨_, _, _, .inr ⟨h, r, hr, rfl, rfl, rfl⟩⟩
  · exact ⟨_, _, _, .inl ⟨by omega, rfl, rfl, rfl⟩⟩

theorem Tw.Lex.small {s : ByteArray} {k : Nat} {l : List Wd} {r : Option Nat × List Wd} (h : Lex s k l r) : l.length ≤ k → k ≤ s.size → (∀ x ∈ l, x.text.size ≤ s.size) → r.2.length ≤ s.size ∧ ∀ x ∈ r.2, x.text.size ≤ s.size := by
  induction h with
  | done e => intro h1 h2 h3; exact ⟨by simp; omega, h3⟩
  | bad _ _ => intro h1 h2 h3; exact ⟨by simp, by simp⟩
  | @skip i n l r h1 h2 h3 ih =>
    intro a b c
    rcases Nat.lt_or_ge s.size (i + n) with hgt | hle
    · cases h3 with
      | done e => omega
      | skip h => omega
      | word h => omega
      | bad h => omega
    · exact ih (by omega) hle c
  | @word i k n l r h1 h2 h3 ih =>
    intro a b c
    have hn := tok_word_bd h1 h2
    rcases Nat.lt_or_ge s.size (i + n) with hgt | hle
    · cases h3 with
      | done e => omega
      | skip h => omega
      | word h => omega
      | bad h => omega
    · refine ih (by simp; omega) hle fun x hx => ?_
      rcases List.mem_append.1 hx with hx | hx
      · exact c x hx
      · simp at hx; subst hx; simp; omega

theorem WRes.small {s : ByteArray} {p e : Int} {ws : List Wd} (h : WRes s p e ws) : ws.length ≤ 4000 ∧ ∀ x ∈ ws, x.text.size ≤ 4000 := by
  rcases h with ⟨_, _, _, rfl⟩ | ⟨h1, r, hr, _, _, rfl⟩
  · exact ⟨by simp, by simp⟩
  · obtain ⟨a, b⟩ := hr.small (by simp) (by omega) (by simp)
    exact ⟨by omega, fun x hx => Nat.le_trans (b x hx) h1⟩

set_option maxRecDepth 100000 in
set_option maxHeartbeats 1000000 in
theorem words_c (s : ByteArray) (w : World) (p e : Int) (ws : List Wd) (hs : s.size ≤ maxLen) (hm : Glob w) (hr : WRes s p e ws) :
    Calls Tryz.prog 20 #[.string s] w fun x w' => (∃ v, x = .returned (.tuple #[v, .int .i64 p, .int .i64 e]) ∧ WRow w' w'.heap.size v ws) ∧ Below w.heap.size w w' := by
  rcases hr with ⟨h1, rfl, rfl, rfl⟩ | ⟨h1, r, hr, rfl, rfl, rfl⟩
  · unfold maxLen at hs
    go_enter Tryz.func20, Tryz.ntmps20
    go_wp2_with fail
    go_ret3
    exact ⟨⟨_, rfl, .inl ⟨rfl, rfl⟩⟩, Below.refl _ _⟩
  · refine (words_any s w r h1 hm hr).mono ?_
    rintro x w' ⟨v, rfl, ho, hb⟩
    exact ⟨⟨v, rfl, WRow.of_own ho⟩, hb⟩
end Go.Proofs.YtmngofgminlloaaGreatDoor

namespace Go.Proofs.YtmngofgminlloaaGreatDoor
open Go.RowKit Tw

/-- The five cells of an expression whose arguments lie at va. -/
def exCells (x : Ex) (va : Value) : List Value := [.int .i64 x.kind, .int .i64 x.n, .string x.text, va, .int .i64 x.pos]
/-- The ten cells of a statement. -/
def smCells (s : Sm) (va vb ve : Value) : List Value := [.int .i64 s.kind, .string s.name, .int .i64 s.a.kind, .int .i64 s.a.n, .string s.a.text, va, .int .i64 s.a.pos, vb, ve, .int .i64 s.pos]
/-- The six cells of a function. -/
def fnCells (f : Fn) (vn vt vb : Value) : List Value := [.string f.name, vn, vt, .int .i64 f.out, vb, .int .i64 f.pos]

/-- These cells lie from there on. -/
def CellsAt (w : World) (g off : Nat) (l : List Value) : Prop := ∀ j u, l[j]? = some u → w.cell? ⟨g, off + j, none⟩ = some u

/-- The expressions l lie at the slice v, in blocks of F. -/
inductive ArgsIn (w : World) (F : Nat → Prop) : Value → List Ex → Prop
  | nil (a : Option Addr) (c : Nat) : ArgsIn w F (.slice a 0 c) []
  | row (g off cap : Nat) (l : List Ex) (vs : Nat → Value) (hF : F g) (hg : g < w.heap.size) (hc : ∀ k x, l[k]? = some x → CellsAt w g (off + k * 5) (exCells x (vs k)))
      (hr : ∀ k x, l[k]? = some x → ArgsIn w F (vs k) x.args) : ArgsIn w F (.slice (some ⟨g, off, none⟩) l.length cap) l
/-- The statements l lie at the slice v, in blocks of F. -/
inductive StmtsIn (w : World) (F : Nat → Prop) : Value → List Sm → Prop
  | nil (a : Option Addr) (c : Nat) : StmtsIn w F (.slice a 0 c) []
  | row (g off cap : Nat) (l : List Sm) (va vb ve : Nat → Value) (hF : F g) (hg : g < w.heap.size) (hc : ∀ k x, l[k]? = some x → CellsAt w g (off + k * 10) (smCells x (va k) (vb k) (ve k)))
      (ha : ∀ k x, l[k]? = some x → ArgsIn w F (va k) x.a.args) (hb : ∀ k x, l[k]? = some x → StmtsIn w F (vb k) x.body) (he : ∀ k x, l[k]? = some x → StmtsIn w F (ve k) x.els) :
      StmtsIn w F (.slice (some ⟨g, off, none⟩) l.length cap) l

/-- What holds of F's blocks is kept. -/
def Keeps (F F' : Nat → Prop) (w w' : World) : Prop := ∀ g, F g → g < w.heap.size → F' g ∧ g < w'.heap.size ∧ w'.heap[g]? = w.heap[g]?
theorem CellsAt.keep {w w' : World} {g off : Nat} {l : List Value} (h : CellsAt w g off l) (he : w'.heap[g]? = w.heap[g]?) : CellsAt w' g off l :=
  fun j u hu => (World.cell?_of_block (a := ⟨g, off + j, none⟩) he).trans (h j u hu)
theorem ArgsIn.keep {w w' : World} {F F' : Nat → Prop} (hk : Keeps F F' w w') {v : Value} {l : List Ex} (h : ArgsIn w F v l) : ArgsIn w' F' v l := by
  induction h with
  | nil a c => exact .nil a c
  | row g off cap l vs hF hg hc hr ih =>
    obtain ⟨h1, h2, h3⟩ := hk g hF hg
    exact .row g off cap l vs h1 h2 (fun k x hx => (hc k x hx).keep h3) ih
theorem StmtsIn.keep {w w' : World} {F F' : Nat → Prop} (hk : Keeps F F' w w') {v : Value} {l : List Sm} (h : StmtsIn w F v l) : StmtsIn w' F' v l := by
  induction h with
  | nil a c => exact .nil a c
  | row g off cap l va vb ve hF hg hc ha hb he ihb ihe =>
    obtain ⟨h1, h2, h3⟩ := hk g hF hg
    exact .row g off cap l va vb ve h1 h2 (fun k x hx => (hc k x hx).keep h3) (fun k x hx => (ha k x hx).keep hk) ihb ihe

end Go.Proofs.YtmngofgminlloaaGreatDoor

namespace Go.Proofs.YtmngofgminlloaaGreatDoor
open Go.RowKit Tw

/-- How the elements of a row are laid, and what hangs on each. -/
structure Elem (α : Type) where
  cells : α → List Value
  kid : World → (Nat → Prop) → α → Prop
  keep : ∀ {w w' : World} {F F' : Nat → Prop} {a : α}, Keeps F F' w w' → kid w F a → kid w' F' a

/-- The row of l lies at v, at the head of a block of the call's own. -/
def GRow {α : Type} (E : Elem α) (w : World) (base T sz : Nat) (v : Value) (l : List α) : Prop :=
  w.ownsRow base T sz v l.length (l.flatMap E.cells) ∧ ∀ a ∈ l, E.kid w (fun g => base ≤ g ∧ v.ownBlock ≠ some g) a

section
variable {α : Type} {E : Elem α} {w w' : World} {base T sz : Nat} {v : Value} {l : List α}
theorem GRow.nil (E : Elem α) (w : World) (base T sz : Nat) : GRow E w base T sz (.slice none 0 0) [] := ⟨World.ownsRow_nil w base T sz, by simp⟩
theorem GRow.kept {row : Option Nat} (h : GRow E w base T sz v l) (hg : w.grownBy w' row) (hr : ∀ k, row = some k → k < base ∨ w.heap.size ≤ k) : GRow E w' base T sz v l := by
  refine ⟨h.1.kept hg ?_, fun a ha => E.keep (fun g h1 h2 => ⟨h1, Nat.lt_of_lt_of_le h2 hg.size, hg.block g h2 ?_⟩) (h.2 a ha)⟩
  · cases hv : v.ownBlock with
    | none => exact .inl rfl
    | some k => right; intro e; have := h.1.lt k hv; have := hr k e.symm; omega
  · intro e; have := hr g e.symm; omega
theorem GRow.below (h : GRow E w base T sz v l) (hb : Below w.heap.size w w') : GRow E w' base T sz v l :=
  h.kept (row := none) ⟨hb.os, hb.tape, hb.output, hb.size, fun k hk _ => hb.block k hk⟩ (by simp)
/-- One element more: the world w2 is that of the append. -/
theorem GRow.app {a : α} {g cap : Nat} {F : Nat → Prop} (h : GRow E w base T sz v l) (ha : E.kid w F a) (hF : ∀ g, F g → base ≤ g ∧ v.ownBlock ≠ some g)
    (ho : w'.ownsRow base T sz (.slice (some ⟨g, 0, none⟩) (l.length + 1) cap) (l.length + 1) (l.flatMap E.cells ++ E.cells a)) (hg : w.grownBy w' v.ownBlock) (hat : v.ownBlock = some g ∨ g = w.heap.size) :
    GRow E w' base T sz (.slice (some ⟨g, 0, none⟩) (l.length + 1) cap) (l ++ [a]) := by
  have hk : ∀ F : Nat → Prop, (∀ g, F g → base ≤ g ∧ v.ownBlock ≠ some g) → Keeps F (fun k => base ≤ k ∧ (Value.slice (some ⟨g, 0, none⟩) (l.length + 1) cap).ownBlock ≠ some k) w w' := by
    intro F hF k h1 h2
    obtain ⟨h3, h4⟩ := hF k h1
    refine ⟨⟨h3, ?_⟩, Nat.lt_of_lt_of_le h2 hg.size, hg.block k h2 (fun e => h4 e.symm)⟩
    rintro e
    simp [Value.ownBlock] at e
    subst e
    rcases hat with e | e
    · exact h4 e
    · omega
  refine ⟨by simpa using ho, fun b hb => ?_⟩
  rcases List.mem_append.1 hb with hb | hb
  · exact E.keep (hk _ fun _ h => h) (h.2 b hb)
  · simp at hb; subst hb; exact E.keep (hk _ hF) ha
end

theorem flat_at {α : Type} (f : α → List Value) (sz : Nat) (hf : ∀ a, (f a).length = sz) : ∀ (l : List α) (k : Nat) (a : α), l[k]? = some a → ∀ (j : Nat) (u : Value), (f a)[j]? = some u → (l.flatMap f)[k * sz + j]? = some u := by
  intro l
  induction l with
  | nil => intro k a h; simp at h
  | cons b l ih =>
    intro k a h j u hu
    simp only [List.flatMap_cons]
    cases k with
    | zero =>
      simp at h; subst h
      have hj : j < (f b).length := by rcases Nat.lt_or_ge j (f b).length with h | h; exact h; rw [List.getElem?_eq_none h] at hu; cases hu
      rw [Nat.zero_mul, Nat.zero_add, List.getElem?_append_left hj]; exact hu
    | succ k =>
      have := ih k a (by simpa using h) j u hu
      rw [List.getElem?_append_right (by rw [hf, Nat.succ_mul]; omega), hf, show (k + 1) * sz + j - sz = k * sz + j by rw [Nat.succ_mul]; omega]
      exact this

/-- Expressions, each with the slice of its arguments. -/
def exElem : Elem (Ex × Value) where
  cells a := exCells a.1 a.2
  kid w F a := ArgsIn w F a.2 a.1.args
  keep hk h := h.keep hk
/-- Statements, each with its three slices. -/
def smElem : Elem (Sm × Value × Value × Value) where
  cells a := smCells a.1 a.2.1 a.2.2.1 a.2.2.2
  kid w F a := ArgsIn w F a.2.1 a.1.a.args ∧ StmtsIn w F a.2.2.1 a.1.body ∧ StmtsIn w F a.2.2.2 a.1.els
  keep hk h := ⟨h.1.keep hk, h.2.1.keep hk, h.2.2.keep hk⟩

theorem ArgsIn.of_list {w : World} {F : Nat → Prop} {g cap : Nat} (l : List (Ex × Value)) (hg : g < w.heap.size) (hF : F g) (hc : ∀ j u, (l.flatMap exElem.cells)[j]? = some u → w.cell? ⟨g, j, none⟩ = some u) (hk : ∀ a ∈ l, ArgsIn w F a.2 a.1.args) :
    ArgsIn w F (.slice (some ⟨g, 0, none⟩) l.length cap) (l.map (·.1)) := by
  have := ArgsIn.row (w := w) (F := F) g 0 cap (l.map (·.1)) (fun k => ((l[k]?).map (·.2)).getD undef) hF hg
    (fun k x hx j u hu => by
      obtain ⟨a, ha, rfl⟩ : ∃ a, l[k]? = some a ∧ a.1 = x := by simpa [List.getElem?_map, Option.map_eq_some_iff] using hx
      have := flat_at exElem.cells 5 (fun _ => rfl) l k a ha j u (by simpa [exElem, ha] using hu)
      have := hc _ _ this
      simpa using this)
    (fun k x hx => by
      obtain ⟨a, ha, rfl⟩ : ∃ a, l[k]? = some a ∧ a.1 = x := by simpa [List.getElem?_map, Option.map_eq_some_iff] using hx
      have := hk a (List.mem_of_getElem? ha)
      simpa [ha] using this)
  simpa using this
theorem StmtsIn.of_list {w : World} {F : Nat → Prop} {g cap : Nat} (l : List (Sm × Value × Value × Value)) (hg : g < w.heap.size) (hF : F g) (hc : ∀ j u, (l.flatMap smElem.cells)[j]? = some u → w.cell? ⟨g, j, none⟩ = some u) (hk : ∀ a ∈ l, smElem.kid w F a) :
    StmtsIn w F (.slice (some ⟨g, 0, none⟩) l.length cap) (l.map (·.1)) := by
  have hx : ∀ (k : Nat) (x : Sm), (l.map (·.1))[k]? = some x → ∃ a, l[k]? = some a ∧ a.1 = x := fun k x hx => by simpa [List.getElem?_map, Option.map_eq_some_iff] using hx
  have := StmtsIn.row (w := w) (F := F) g 0 cap (l.map (·.1)) (fun k => ((l[k]?).map (·.2.1)).getD undef) (fun k => ((l[k]?).map (·.2.2.1)).getD undef) (fun k => ((l[k]?).map (·.2.2.2)).getD undef) hF hg
    (fun k x h j u hu => by
      obtain ⟨a, ha, rfl⟩ := hx k x h
      have := flat_at smElem.cells 10 (fun _ => rfl) l k a ha j u (by simpa [smElem, ha] using hu)
      have := hc _ _ this
      simpa using this)
    (fun k x h => by
      obtain ⟨a, ha, rfl⟩ := hx k x h
      have := (hk a (List.mem_of_getElem? ha)).1
      simpa [ha] using this)
    (fun k x h => by
      obtain ⟨a, ha, rfl⟩ := hx k x h
      have := (hk a (List.mem_of_getElem? ha)).2.1
      simpa [ha] using this)
    (fun k x h => by
      obtain ⟨a, ha, rfl⟩ := hx k x h
      have := (hk a (List.mem_of_getElem? ha)).2.2
      simpa [ha] using this)
  simpa using this

theorem own_cells {w : World} {base T sz n : Nat} {v : Value} {xs : List Value} (h : w.ownsRow base T sz v n xs) : (v = .slice none 0 0 ∧ n = 0) ∨ ∃ g cap, v = .slice (some ⟨g, 0, none⟩) n cap ∧ base ≤ g ∧ g < w.heap.size ∧ ∀ j u, xs[j]? = some u → w.cell? ⟨g, j, none⟩ = some u := by
  rcases h.2 with hn | ⟨g, cap, cur, hv, hb, hg, _, _, _, ht⟩
  · exact .inl hn
  · refine .inr ⟨g, cap, hv, hb, (Array.getElem?_eq_some_iff.1 hg).1, fun j u hu => ?_⟩
    subst ht
    rw [Lib.cell_of_heap hg j]
    rw [List.getElem?_take] at hu
    split at hu
    · simpa using hu
    · cases hu
theorem GRow.args {w : World} {base T : Nat} {v : Value} {l : List (Ex × Value)} (h : GRow exElem w base T 5 v l) : ArgsIn w (fun g => base ≤ g) v (l.map (·.1)) := by
  have hk : ∀ a ∈ l, ArgsIn w (fun g => base ≤ g) a.2 a.1.args := fun a ha => (h.2 a ha).keep fun g h1 h2 => ⟨h1.1, h2, rfl⟩
  rcases own_cells h.1 with ⟨rfl, h0⟩ | ⟨g, cap, rfl, hb, hg, hc⟩
  · cases l with
    | nil => exact .nil none 0
    | cons => simp at h0
  · exact ArgsIn.of_list l hg hb hc hk
theorem GRow.stmts {w : World} {base T : Nat} {v : Value} {l : List (Sm × Value × Value × Value)} (h : GRow smElem w base T 10 v l) : StmtsIn w (fun g => base ≤ g) v (l.map (·.1)) := by
  have hk : ∀ a ∈ l, smElem.kid w (fun g => base ≤ g) a := fun a ha => smElem.keep (fun g h1 h2 => ⟨h1.1, h2, rfl⟩) (h.2 a ha)
  rcases own_cells h.1 with ⟨rfl, h0⟩ | ⟨g, cap, rfl, hb, hg, hc⟩
  · cases l with
    | nil => exact .nil none 0
    | cons => simp at h0
  · exact StmtsIn.of_list l hg hb hc hk
/-- A row that lies whole in a new block. -/
theorem ArgsIn.of_block {w : World} {F : Nat → Prop} {g cap T : Nat} (l : List (Ex × Value)) (cs : Array Value) (hcs : cs.toList = l.flatMap exElem.cells) (hb : w.heap[g]? = some (.cells cs T (0, 0))) (hF : F g) (hk : ∀ a ∈ l, ArgsIn w F a.2 a.1.args) :
    ArgsIn w F (.slice (some ⟨g, 0, none⟩) l.length cap) (l.map (·.1)) :=
  ArgsIn.of_list l (Array.getElem?_eq_some_iff.1 hb).1 hF (fun j u hu => by rw [Lib.cell_of_heap hb j, ← hu, ← hcs]; simp) hk
theorem StmtsIn.of_block {w : World} {F : Nat → Prop} {g cap T : Nat} (l : List (Sm × Value × Value × Value)) (cs : Array Value) (hcs : cs.toList = l.flatMap smElem.cells) (hb : w.heap[g]? = some (.cells cs T (0, 0))) (hF : F g) (hk : ∀ a ∈ l, smElem.kid w F a) :
    StmtsIn w F (.slice (some ⟨g, 0, none⟩) l.length cap) (l.map (·.1)) :=
  StmtsIn.of_list l (Array.getElem?_eq_some_iff.1 hb).1 hF (fun j u hu => by rw [Lib.cell_of_heap hb j, ← hu, ← hcs]; simp) hk
theorem row_cap {α : Type} {E : Elem α} {w : World} {base T sz c : Nat} {A : Option Addr} {l : List α} (h : GRow E w base T sz (.slice A l.length c) l) : l.length ≤ c := by
  obtain ⟨-, h2⟩ := h.1
  rcases h2 with ⟨e, h0⟩ | ⟨g, cap, cur, e, -, -, h4, -⟩
  · omega
  · cases e; exact h4
end Go.Proofs.YtmngofgminlloaaGreatDoor

namespace Go.Proofs.YtmngofgminlloaaGreatDoor
open Go.RowKit Tw

def sMinus : ByteArray := ⟨#[45]⟩
def sBang : ByteArray := ⟨#[33]⟩
def sOpen : ByteArray := ⟨#[40]⟩
def sClose : ByteArray := ⟨#[41]⟩
def sTrue : ByteArray := ⟨#[116, 114, 117, 101]⟩
def sFalse : ByteArray := ⟨#[102, 97, 108, 115, 101]⟩
def sHost : ByteArray := ⟨#[64]⟩
def sComma : ByteArray := ⟨#[44]⟩
def sNone : ByteArray := ⟨#[]⟩
/-- With what an operand begins at i. -/
def headQ (ws : List Wd) (i : Nat) : Nat :=
  if isAt ws i sMinus then 1 else if isAt ws i sBang then 2 else if isAt ws i sOpen then 3 else if isAt ws i sTrue then 4 else if isAt ws i sFalse then 5 else if isAt ws i sHost then 6
  else if kindAt ws i = 1 then 7 else if kindAt ws i = 2 then 8 else 0

inductive Qe where
  | lvl (n i : Nat) | rest (n : Nat) (a : Ex) (i : Nat) | one (i : Nat) | args (k i : Nat)
inductive Re where
  | ex (x : Ex) (j : Nat) | exs (l : List Ex) (j : Nat) | bad (j : Nat)
def Qe.at : Qe → Nat
  | .lvl _ i => i | .rest _ _ i => i | .one i => i | .args _ i => i

/-- The operator at j, over a and b. -/
def twoEx (ws : List Wd) (en j : Nat) (a b : Ex) : Ex := .mk 6 0 (textAt ws j) [a, b] (posAt ws j en)

/-- What an expression is. -/
inductive De (ws : List Wd) (en : Nat) : Qe → Re → Prop
  | lvl6 {i : Nat} {r : Re} : De ws en (.one i) r → De ws en (.lvl 6 i) r
  | lvl {n i j : Nat} {a : Ex} {r : Re} : n ≠ 6 → De ws en (.lvl (n + 1) i) (.ex a j) → De ws en (.rest n a j) r → De ws en (.lvl n i) r
  | lvlB {n i j : Nat} : n ≠ 6 → De ws en (.lvl (n + 1) i) (.bad j) → De ws en (.lvl n i) (.bad j)
  | stop {n j : Nat} {a : Ex} : lvAt ws j ≠ n → De ws en (.rest n a j) (.ex a j)
  | go {n j j' : Nat} {a b : Ex} {r : Re} : n ≠ 3 → lvAt ws j = n → De ws en (.lvl (n + 1) (j + 1)) (.ex b j') → De ws en (.rest n (twoEx ws en j a b) j') r → De ws en (.rest n a j) r
  | goB {n j j' : Nat} {a : Ex} : lvAt ws j = n → De ws en (.lvl (n + 1) (j + 1)) (.bad j') → De ws en (.rest n a j) (.bad j')
  | cmp {j j' : Nat} {a b : Ex} : lvAt ws j = 3 → De ws en (.lvl 4 (j + 1)) (.ex b j') → lvAt ws j' ≠ 3 → De ws en (.rest 3 a j) (.ex (twoEx ws en j a b) j')
  | cmpB {j j' : Nat} {a b : Ex} : lvAt ws j = 3 → De ws en (.lvl 4 (j + 1)) (.ex b j') → lvAt ws j' = 3 → De ws en (.rest 3 a j) (.bad j')
  | neg {i j : Nat} {y : Ex} : headQ ws i = 1 → De ws en (.one (i + 1)) (.ex y j) → De ws en (.one i) (.ex (.mk 4 0 sNone [y] (posAt ws i en)) j)
  | negB {i j : Nat} : headQ ws i = 1 → De ws en (.one (i + 1)) (.bad j) → De ws en (.one i) (.bad j)
  | not {i j : Nat} {y : Ex} : headQ ws i = 2 → De ws en (.one (i + 1)) (.ex y j) → De ws en (.one i) (.ex (.mk 5 0 sNone [y] (posAt ws i en)) j)
  | notB {i j : Nat} : headQ ws i = 2 → De ws en (.one (i + 1)) (.bad j) → De ws en (.one i) (.bad j)
  | par {i j : Nat} {x : Ex} : headQ ws i = 3 → De ws en (.lvl 1 (i + 1)) (.ex x j) → isAt ws j sClose = true → De ws en (.one i) (.ex x (j + 1))
  | parB {i j : Nat} : headQ ws i = 3 → De ws en (.lvl 1 (i + 1)) (.bad j) → De ws en (.one i) (.bad j)
  | parC {i j : Nat} {x : Ex} : headQ ws i = 3 → De ws en (.lvl 1 (i + 1)) (.ex x j) → isAt ws j sClose = false → De ws en (.one i) (.bad j)
  | tru {i : Nat} : headQ ws i = 4 → De ws en (.one i) (.ex (.mk 2 1 sNone [] (posAt ws i en)) (i + 1))
  | fls {i : Nat} : headQ ws i = 5 → De ws en (.one i) (.ex (.mk 2 0 sNone [] (posAt ws i en)) (i + 1))
  | host {i j : Nat} {l : List Ex} : headQ ws i = 6 → kindAt ws (i + 1) = 1 → isAt ws (i + 2) sOpen = true → De ws en (.args 0 (i + 3)) (.exs l j) → De ws en (.one i) (.ex (.mk 8 (numV (textAt ws (i + 1))) sNone l (posAt ws i en)) j)
  | hostB {i j : Nat} : headQ ws i = 6 → kindAt ws (i + 1) = 1 → isAt ws (i + 2) sOpen = true → De ws en (.args 0 (i + 3)) (.bad j) → De ws en (.one i) (.bad j)
  | hostC {i : Nat} : headQ ws i = 6 → kindAt ws (i + 1) = 1 → isAt ws (i + 2) sOpen = false → De ws en (.one i) (.bad (i + 2))
  | hostD {i : Nat} : headQ ws i = 6 → kindAt ws (i + 1) ≠ 1 → De ws en (.one i) (.bad (i + 1))
  | num {i : Nat} : headQ ws i = 7 → De ws en (.one i) (.ex (.mk 1 (numV (textAt ws i)) sNone [] (posAt ws i en)) (i + 1))
  | var {i : Nat} : headQ ws i = 8 → isAt ws (i + 1) sOpen = false → De ws en (.one i) (.ex (.mk 3 0 (textAt ws i) [] (posAt ws i en)) (i + 1))
  | call {i j : Nat} {l : List Ex} : headQ ws i = 8 → isAt ws (i + 1) sOpen = true → De ws en (.args 0 (i + 2)) (.exs l j) → De ws en (.one i) (.ex (.mk 7 0 (textAt ws i) l (posAt ws i en)) j)
  | callB {i j : Nat} : headQ ws i = 8 → isAt ws (i + 1) sOpen = true → De ws en (.args 0 (i + 2)) (.bad j) → De ws en (.one i) (.bad j)
  | nobody {i : Nat} : headQ ws i = 0 → De ws en (.one i) (.bad i)
  | close {k i : Nat} : isAt ws i sClose = true → De ws en (.args k i) (.exs [] (i + 1))
  | first {i j j' : Nat} {x : Ex} {l : List Ex} : isAt ws i sClose = false → De ws en (.lvl 1 i) (.ex x j) → De ws en (.args 1 j) (.exs l j') → De ws en (.args 0 i) (.exs (x :: l) j')
  | firstR {i j j' : Nat} {x : Ex} : isAt ws i sClose = false → De ws en (.lvl 1 i) (.ex x j) → De ws en (.args 1 j) (.bad j') → De ws en (.args 0 i) (.bad j')
  | firstB {i j : Nat} : isAt ws i sClose = false → De ws en (.lvl 1 i) (.bad j) → De ws en (.args 0 i) (.bad j)
  | next {k i j j' : Nat} {x : Ex} {l : List Ex} : isAt ws i sClose = false → isAt ws i sComma = true → De ws en (.lvl 1 (i + 1)) (.ex x j) → De ws en (.args (k + 2) j) (.exs l j') → De ws en (.args (k + 1) i) (.exs (x :: l) j')
  | nextR {k i j j' : Nat} {x : Ex} : isAt ws i sClose = false → isAt ws i sComma = true → De ws en (.lvl 1 (i + 1)) (.ex x j) → De ws en (.args (k + 2) j) (.bad j') → De ws en (.args (k + 1) i) (.bad j')
  | nextB {k i j : Nat} : isAt ws i sClose = false → isAt ws i sComma = true → De ws en (.lvl 1 (i + 1)) (.bad j) → De ws en (.args (k + 1) i) (.bad j)
  | nextC {k i : Nat} : isAt ws i sClose = false → isAt ws i sComma = false → De ws en (.args (k + 1) i) (.bad i)
end Go.Proofs.YtmngofgminlloaaGreatDoor

namespace Go.Proofs.YtmngofgminlloaaGreatDoor
open Go.RowKit Tw

theorem facts5 {w : World} {b t : Nat} {u0 u1 u2 u3 u4 : Value} (h : w.heap[b]? = some (.cells #[u0, u1, u2, u3, u4] t (0, 0))) :
    (w.cell? ⟨b, 0, none⟩ = some u0 ∧ w.cell? ⟨b, 1, none⟩ = some u1 ∧ w.cell? ⟨b, 2, none⟩ = some u2 ∧ w.cell? ⟨b, 3, none⟩ = some u3 ∧ w.cell? ⟨b, 4, none⟩ = some u4) ∧
    w.frozen? ⟨b, 0, none⟩ = false ∧ w.frozen? ⟨b, 1, none⟩ = false ∧ w.frozen? ⟨b, 2, none⟩ = false ∧ w.frozen? ⟨b, 3, none⟩ = false ∧ w.frozen? ⟨b, 4, none⟩ = false :=
  ⟨⟨Lib.cell_of_heap h 0, Lib.cell_of_heap h 1, Lib.cell_of_heap h 2, Lib.cell_of_heap h 3, Lib.cell_of_heap h 4⟩, Lib.frozen_of_heap h 0, Lib.frozen_of_heap h 1, Lib.frozen_of_heap h 2, Lib.frozen_of_heap h 3, Lib.frozen_of_heap h 4⟩
theorem set5 {w : World} {b t : Nat} {u0 u1 u2 u3 u4 : Value} (v0 v1 v2 v3 v4 : Value) (h : w.heap[b]? = some (.cells #[u0, u1, u2, u3, u4] t (0, 0))) :
    (((((w.setCell ⟨b, 0, none⟩ v0).setCell ⟨b, 1, none⟩ v1).setCell ⟨b, 2, none⟩ v2).setCell ⟨b, 3, none⟩ v3).setCell ⟨b, 4, none⟩ v4).heap[b]? = some (.cells #[v0, v1, v2, v3, v4] t (0, 0)) := by
  have h0 := heap_setCell_same w b 0 _ _ v0 h
  have h1 := heap_setCell_same _ b 1 _ _ v1 h0
  have h2 := heap_setCell_same _ b 2 _ _ v2 h1
  have h3 := heap_setCell_same _ b 3 _ _ v3 h2
  have h4 := heap_setCell_same _ b 4 _ _ v4 h3
  simpa using h4
theorem grown5 (w : World) (b : Nat) (v0 v1 v2 v3 v4 : Value) : w.grownBy (((((w.setCell ⟨b, 0, none⟩ v0).setCell ⟨b, 1, none⟩ v1).setCell ⟨b, 2, none⟩ v2).setCell ⟨b, 3, none⟩ v3).setCell ⟨b, 4, none⟩ v4) (some b) :=
  grown_trans (grown_trans (grown_trans (grown_trans (grown_set _ _ _ _) (grown_set _ _ _ _)) (grown_set _ _ _ _)) (grown_set _ _ _ _)) (grown_set _ _ _ _)
theorem exInfo : (Tryz.prog.info? 186).map (·.size) = some 5 := by kernel_rfl

theorem tab_same {n : String} {g : Nat} {k : IntKind} {zs : List Int} {w w' : World} (hg : Tryz.prog.globalNamed n = some g) (h : Lib.TabIs Tryz.prog w n k zs) (hb : w'.heap[g]? = w.heap[g]?) : Lib.TabIs Tryz.prog w' n k zs := by
  unfold Lib.TabIs World.var? at h ⊢
  rw [hg] at h ⊢
  simp only [Option.bind_some] at h ⊢
  rw [hb]; exact h
theorem Glob.same {w w' : World} (h : Glob w) (hz : w.heap.size ≤ w'.heap.size) (hk : ∀ g, g ≤ 10 → w'.heap[g]? = w.heap[g]?) : Glob w' where
  maxLen := by
    obtain ⟨m, hm⟩ := h.maxLen
    exact ⟨m, (World.cell?_of_block (hk _ (by decide))).trans hm⟩
  errs := by
    obtain ⟨⟨v1, h1, e1⟩, v2, h2, e2⟩ := h.errs
    exact ⟨⟨v1, (World.cell?_of_block (hk _ (by decide))).trans h1, e1⟩, v2, (World.cell?_of_block (hk _ (by decide))).trans h2, e2⟩
  pow := tab_same (g := 5) (by kernel_rfl) h.pow (hk _ (by decide))
  spc := tab_same (g := 0) (by kernel_rfl) h.spc (hk _ (by decide))
  big := Nat.lt_of_lt_of_le h.big hz
theorem Glob.of {w w' : World} {rb : Nat} (h : Glob w) (hk : w.grownBy w' (some rb)) (hr : 10 < rb) : Glob w' :=
  h.same hk.size fun g hg => hk.block g (Nat.lt_of_le_of_lt hg h.big) (by simp; omega)

/-- A world that differs from w at most in the reader's block and in new blocks, after one more write into a new block. -/
theorem grown_new {w w' w2 : World} {r b : Nat} (h : w.grownBy w' (some r)) (k : w'.grownBy w2 (some b)) (hb : w.heap.size ≤ b) : w.grownBy w2 (some r) :=
  ⟨k.os.trans h.os, k.tape.trans h.tape, k.output.trans h.output, Nat.le_trans h.size k.size, fun j hj hr => (k.block j (Nat.lt_of_lt_of_le hj h.size) (by simp; omega)).trans (h.block j hj hr)⟩
theorem grown_pre {w w1 w2 : World} {r : Nat} (h : Below w.heap.size w w1) (k : w1.grownBy w2 (some r)) : w.grownBy w2 (some r) :=
  grown_trans (grown_of_below h _) k
theorem Rd.grown {w w' : World} {rb : Nat} {v : Value} {ws : List Wd} {i en : Nat} {b : Bool} {k : Nat} (h : Rd w rb v ws i en b) (hg : w.grownBy w' (some k)) (hk : rb < k) : Rd w' rb v ws i en b :=
  ⟨(hg.block rb h.lt (by simp; omega)).trans h.blk, h.row.same fun j hj => hg.block j (Nat.lt_trans hj h.lt) (by simp; omega), h.len, h.pos⟩
/-- A list of expressions is kept by a write into a block that is not of it. -/
theorem ArgsIn.grown {w w' : World} {F F' : Nat → Prop} {k : Nat} {v : Value} {l : List Ex} (h : ArgsIn w F v l) (hg : w.grownBy w' (some k)) (hk : ∀ g, F g → g ≠ k) (hF : ∀ g, F g → F' g) : ArgsIn w' F' v l :=
  h.keep fun g h1 h2 => ⟨hF g h1, Nat.lt_of_lt_of_le h2 hg.size, hg.block g h2 (by simp; exact hk g h1)⟩

/-- What the answer of a method says: in the state (i, b) it returns x and goes over into (i', b'). -/
def OutE (ws : List Wd) (en : Nat) (q : Qe) (b : Bool) (x : Ex) (i' : Nat) (b' : Bool) : Prop :=
  q.at ≤ i' ∧ (b = true → b' = true ∧ i' = q.at) ∧ (b = false → b' = false → q.at < i' ∧ De ws en q (.ex x i')) ∧ (b = false → b' = true → De ws en q (.bad i'))
/-- The call returns an expression that lies in new blocks. -/
def RetE (w : World) (rb : Nat) (v : Value) (ws : List Wd) (en : Nat) (q : Qe) (b : Bool) (e : Ending) (w' : World) : Prop :=
  ∃ x A c i' b', e = .returned (.agg #[.int .i64 x.kind, .int .i64 x.n, .string x.text, .slice A x.args.length c, .int .i64 x.pos]) ∧ ArgsIn w' (fun g => w.heap.size ≤ g) (.slice A x.args.length c) x.args ∧ Rd w' rb v ws i' en b' ∧ OutE ws en q b x i' b' ∧ w.grownBy w' (some rb)
def LvlC (rb : Nat) (v : Value) (ws : List Wd) (en n i : Nat) : Prop :=
  ∀ (w : World) (b : Bool), Rd w rb v ws i en b → Glob w → Calls Tryz.prog 163 #[.pointer (some ⟨rb, 0, none⟩), .int .i64 n] w fun e w' => RetE w rb v ws en (.lvl n i) b e w'
def OneC (rb : Nat) (v : Value) (ws : List Wd) (en i : Nat) : Prop :=
  ∀ (w : World) (b : Bool), Rd w rb v ws i en b → Glob w → Calls Tryz.prog 203 #[.pointer (some ⟨rb, 0, none⟩)] w fun e w' => RetE w rb v ws en (.one i) b e w'

def placeOf (w : World) (rb : Nat) : Nat := match w.cell? ⟨rb, 1, none⟩ with | some v => (intOf v).toNat | none => 0
theorem Rd.place {w : World} {rb : Nat} {v : Value} {ws : List Wd} {i en : Nat} {b : Bool} (h : Rd w rb v ws i en b) : placeOf w rb = i := by
  unfold placeOf; rw [h.c1]; simp [intOf]
/-- What has become of the question q when its first operand has been read, and more. -/
def OutL (ws : List Wd) (en n i : Nat) (b : Bool) (a : Ex) (i' : Nat) (b' : Bool) : Prop :=
  i ≤ i' ∧ (b = true → b' = true ∧ i' = i) ∧ (b = false → b' = false → i < i' ∧ ∀ r, De ws en (.rest n a i') r → De ws en (.lvl n i) r) ∧ (b = false → b' = true → De ws en (.lvl n i) (.bad i'))

theorem ArgsIn.drewN {w : World} {F : Nat → Prop} {v : Value} {l : List Ex} (h : ArgsIn w F v l) (n : Nat) : ArgsIn (w.drewN n) F v l := by
  have hk : Keeps F F w (w.drewN n) := fun g h1 h2 => ⟨h1, h2, rfl⟩
  exact h.keep hk
/-- What a region of the reader's reads: four cells, and that nothing old has turned. -/
theorem sc_keep {wr W W' : World} {p0 p1 p2 p3 : Addr} {u0 u1 u2 u3 : Value} (h : W.cell? p0 = some u0 ∧ W.cell? p1 = some u1 ∧ W.cell? p2 = some u2 ∧ W.cell? p3 = some u3 ∧ Below wr.heap.size wr W) (hb : Below W.heap.size W W')
    (h0 : p0.block < wr.heap.size) (h1 : p1.block < wr.heap.size) (h2 : p2.block < wr.heap.size) (h3 : p3.block < wr.heap.size) :
    W'.cell? p0 = some u0 ∧ W'.cell? p1 = some u1 ∧ W'.cell? p2 = some u2 ∧ W'.cell? p3 = some u3 ∧ Below wr.heap.size wr W' := by
  obtain ⟨a0, a1, a2, a3, hB⟩ := h
  have hs := hB.size
  exact ⟨(hb.cell (by omega)).trans a0, (hb.cell (by omega)).trans a1, (hb.cell (by omega)).trans a2, (hb.cell (by omega)).trans a3, hB.trans (hb.mono hs)⟩
theorem sc_first {wr : World} {p0 p1 p2 p3 : Addr} {u0 u1 u2 u3 : Value} (h0 : wr.cell? p0 = some u0) (h1 : wr.cell? p1 = some u1) (h2 : wr.cell? p2 = some u2) (h3 : wr.cell? p3 = some u3) :
    wr.drew.cell? p0 = some u0 ∧ wr.drew.cell? p1 = some u1 ∧ wr.drew.cell? p2 = some u2 ∧ wr.drew.cell? p3 = some u3 ∧ Below wr.heap.size wr wr.drew := ⟨h0, h1, h2, h3, ⟨rfl, rfl, rfl, Nat.le_refl _, fun _ _ => rfl⟩⟩
theorem drew_le0 (w : World) : w.heap.size ≤ w.drew.heap.size := Nat.le_refl _
theorem sc_keep5 {wr W : World} {p0 p1 p2 p3 : Addr} {u0 u1 u2 u3 : Value} {b : Nat} {v0 v1 v2 v3 v4 : Value} (h : W.cell? p0 = some u0 ∧ W.cell? p1 = some u1 ∧ W.cell? p2 = some u2 ∧ W.cell? p3 = some u3 ∧ Below wr.heap.size wr W) (hb : wr.heap.size ≤ b)
    (h0 : p0.block < wr.heap.size) (h1 : p1.block < wr.heap.size) (h2 : p2.block < wr.heap.size) (h3 : p3.block < wr.heap.size) :
    (((((W.setCell ⟨b, 0, none⟩ v0).setCell ⟨b, 1, none⟩ v1).setCell ⟨b, 2, none⟩ v2).setCell ⟨b, 3, none⟩ v3).setCell ⟨b, 4, none⟩ v4).cell? p0 = some u0 ∧
    (((((W.setCell ⟨b, 0, none⟩ v0).setCell ⟨b, 1, none⟩ v1).setCell ⟨b, 2, none⟩ v2).setCell ⟨b, 3, none⟩ v3).setCell ⟨b, 4, none⟩ v4).cell? p1 = some u1 ∧
    (((((W.setCell ⟨b, 0, none⟩ v0).setCell ⟨b, 1, none⟩ v1).setCell ⟨b, 2, none⟩ v2).setCell ⟨b, 3, none⟩ v3).setCell ⟨b, 4, none⟩ v4).cell? p2 = some u2 ∧
    (((((W.setCell ⟨b, 0, none⟩ v0).setCell ⟨b, 1, none⟩ v1).setCell ⟨b, 2, none⟩ v2).setCell ⟨b, 3, none⟩ v3).setCell ⟨b, 4, none⟩ v4).cell? p3 = some u3 ∧
    Below wr.heap.size wr (((((W.setCell ⟨b, 0, none⟩ v0).setCell ⟨b, 1, none⟩ v1).setCell ⟨b, 2, none⟩ v2).setCell ⟨b, 3, none⟩ v3).setCell ⟨b, 4, none⟩ v4) := by
  generalize hW : (((((W.setCell ⟨b, 0, none⟩ v0).setCell ⟨b, 1, none⟩ v1).setCell ⟨b, 2, none⟩ v2).setCell ⟨b, 3, none⟩ v3).setCell ⟨b, 4, none⟩ v4) = W'
  have hg : W.grownBy W' (some b) := hW ▸ grown5 W b v0 v1 v2 v3 v4
  obtain ⟨a0, a1, a2, a3, hB⟩ := h
  have hs := hB.size
  have hb : Below wr.heap.size W W' := ⟨hg.os, hg.tape, hg.output, hg.size, fun k hk => hg.block k (by omega) (by simp; omega)⟩
  exact ⟨(hb.cell h0).trans a0, (hb.cell h1).trans a1, (hb.cell h2).trans a2, (hb.cell h3).trans a3, hB.trans hb⟩
theorem sc_realloc {wr W : World} {p0 p1 p2 p3 : Addr} {u0 u1 u2 u3 : Value} {o1 o2 : Obj} (h : (W.alloc o1).cell? p0 = some u0 ∧ (W.alloc o1).cell? p1 = some u1 ∧ (W.alloc o1).cell? p2 = some u2 ∧ (W.alloc o1).cell? p3 = some u3 ∧ Below wr.heap.size wr (W.alloc o1)) (hb : wr.heap.size ≤ W.heap.size)
    (h0 : p0.block < wr.heap.size) (h1 : p1.block < wr.heap.size) (h2 : p2.block < wr.heap.size) (h3 : p3.block < wr.heap.size) :
    (W.alloc o2).cell? p0 = some u0 ∧ (W.alloc o2).cell? p1 = some u1 ∧ (W.alloc o2).cell? p2 = some u2 ∧ (W.alloc o2).cell? p3 = some u3 ∧ Below wr.heap.size wr (W.alloc o2) := by
  obtain ⟨a0, a1, a2, a3, hB⟩ := h
  have e : ∀ p : Addr, p.block < wr.heap.size → (W.alloc o2).cell? p = (W.alloc o1).cell? p := fun p hp =>
    (World.cell?_of_block (heap_alloc_old W o2 (by omega))).trans (World.cell?_of_block (heap_alloc_old W o1 (by omega))).symm
  exact ⟨(e _ h0).trans a0, (e _ h1).trans a1, (e _ h2).trans a2, (e _ h3).trans a3, ⟨hB.os, hB.tape, hB.output, by simp; omega, fun k hk => ((heap_alloc_old W o2 (by omega)).trans (heap_alloc_old W o1 (by omega)).symm).trans (hB.block k hk)⟩⟩
theorem bel_drew (w : World) : Below w.heap.size w w.drew := ⟨rfl, rfl, rfl, Nat.le_refl _, fun _ _ => rfl⟩
theorem alloc_drew_lt (w : World) (o : Obj) : w.heap.size < (w.alloc o).drew.heap.size := by
  show w.heap.size < (w.alloc o).heap.size
  simp
theorem cell_cond (w5 : World) {W w6 : World} (hb : Below W.heap.size W w6) (j : Nat) (h : w5.heap.size < W.heap.size) : w6.cell? ⟨w5.heap.size, j, none⟩ = W.cell? ⟨w5.heap.size, j, none⟩ := hb.cell (p := ⟨w5.heap.size, j, none⟩) h
theorem frozen_cond (w5 : World) {W w6 : World} (hb : Below W.heap.size W w6) (j : Nat) (h : w5.heap.size < W.heap.size) : w6.frozen? ⟨w5.heap.size, j, none⟩ = W.frozen? ⟨w5.heap.size, j, none⟩ := World.frozen?_of_block (hb.block _ h)
theorem sc_le {wr W w6 : World} {p0 p1 p2 p3 : Addr} {u0 u1 u2 u3 : Value} (h : W.cell? p0 = some u0 ∧ W.cell? p1 = some u1 ∧ W.cell? p2 = some u2 ∧ W.cell? p3 = some u3 ∧ Below wr.heap.size wr W) (hb : Below W.heap.size W w6) : wr.heap.size ≤ w6.heap.size := Nat.le_trans h.2.2.2.2.size hb.size
theorem sc_glob {wr W : World} {p0 p1 p2 p3 : Addr} {u0 u1 u2 u3 : Value} (hG : Glob wr) (h : W.cell? p0 = some u0 ∧ W.cell? p1 = some u1 ∧ W.cell? p2 = some u2 ∧ W.cell? p3 = some u3 ∧ Below wr.heap.size wr W) : Glob W := hG.to h.2.2.2.2
theorem sc_rd {wr W : World} {p0 p1 p2 p3 : Addr} {u0 u1 u2 u3 : Value} {rb : Nat} {v : Value} {ws : List Wd} {i en : Nat} {b : Bool} (hR : Rd wr rb v ws i en b) (h : W.cell? p0 = some u0 ∧ W.cell? p1 = some u1 ∧ W.cell? p2 = some u2 ∧ W.cell? p3 = some u3 ∧ Below wr.heap.size wr W) : Rd W rb v ws i en b := hR.keep h.2.2.2.2

/-- The answer, when the expression's cells are written to the result's. -/
theorem ret5 {w W : World} {rb b4 : Nat} {v : Value} {ws : List Wd} {en i' : Nat} {b b' : Bool} {q : Qe} {x : Ex} {A : Option Addr} {c : Nat} {F : Nat → Prop} (hA : ArgsIn W F (.slice A x.args.length c) x.args) (hF : ∀ g, F g → w.heap.size ≤ g ∧ g ≠ b4)
    (hR : Rd W rb v ws i' en b') (hO : OutE ws en q b x i' b') (hG : w.grownBy W (some rb)) (hb : w.heap.size ≤ b4) (hrb : rb < b4) :
    RetE w rb v ws en q b (.returned (.agg #[.int .i64 x.kind, .int .i64 x.n, .string x.text, .slice A x.args.length c, .int .i64 x.pos]))
      (((((W.setCell ⟨b4, 0, none⟩ (.int .i64 x.kind)).setCell ⟨b4, 1, none⟩ (.int .i64 x.n)).setCell ⟨b4, 2, none⟩ (.string x.text)).setCell ⟨b4, 3, none⟩ (.slice A x.args.length c)).setCell ⟨b4, 4, none⟩ (.int .i64 x.pos)) := by
  have hg5 := grown5 W b4 (.int .i64 x.kind) (.int .i64 x.n) (.string x.text) (.slice A x.args.length c) (.int .i64 x.pos)
  exact ⟨x, A, c, i', b', rfl, hA.grown hg5 (fun g h => (hF g h).2) (fun g h => (hF g h).1), hR.grown hg5 hrb, hO, grown_new hG hg5 hb⟩


/-- The frame of a method: the reader; the cells of its result (b0), of its expression (b1); what has turned since w0. -/
structure Fr2 (w0 w : World) (rb b0 b1 : Nat) (v : Value) (ws : List Wd) (i en : Nat) (b : Bool) (u0 u1 u2 u3 u4 : Value) : Prop where
  rd : Rd w rb v ws i en b
  res : w.heap[b0]? = some (.cells #[.int .i64 0, .int .i64 0, .string ⟨#[]⟩, .slice none 0 0, .int .i64 0] 186 (0, 0))
  ex : w.heap[b1]? = some (.cells #[u0, u1, u2, u3, u4] 186 (0, 0))
  gr : w0.grownBy w (some rb)
  gl : Glob w
  r0 : 10 < rb
  z0 : rb < w0.heap.size
  z1 : w0.heap.size ≤ b0
  z2 : b0 < b1
  z3 : b1 < w.heap.size
theorem Fr2.step {w0 w w' : World} {rb b0 b1 : Nat} {v : Value} {ws : List Wd} {i en : Nat} {b : Bool} {u0 u1 u2 u3 u4 : Value} {i' : Nat} {b' : Bool}
    (h : Fr2 w0 w rb b0 b1 v ws i en b u0 u1 u2 u3 u4) (hr : Rd w' rb v ws i' en b') (hg : w.grownBy w' (some rb)) : Fr2 w0 w' rb b0 b1 v ws i' en b' u0 u1 u2 u3 u4 := by
  have h0 := h.z0; have h1 := h.z1; have h2 := h.z2; have h3 := h.z3
  exact ⟨hr, (hg.block b0 (by omega) (by simp; omega)).trans h.res, (hg.block b1 h3 (by simp; omega)).trans h.ex, grown_trans h.gr hg, h.gl.of hg h.r0, h.r0, h0, h1, h2, Nat.lt_of_lt_of_le h3 hg.size⟩
theorem Fr2.below {w0 w w' : World} {rb b0 b1 : Nat} {v : Value} {ws : List Wd} {i en : Nat} {b : Bool} {u0 u1 u2 u3 u4 : Value}
    (h : Fr2 w0 w rb b0 b1 v ws i en b u0 u1 u2 u3 u4) (hb : Below w.heap.size w w') : Fr2 w0 w' rb b0 b1 v ws i en b u0 u1 u2 u3 u4 :=
  h.step (h.rd.keep hb) (grown_of_below hb _)
/-- A write of the expression's cells. -/
theorem Fr2.set {w0 w w' : World} {rb b0 b1 : Nat} {v : Value} {ws : List Wd} {i en : Nat} {b : Bool} {u0 u1 u2 u3 u4 v0 v1 v2 v3 v4 : Value}
    (h : Fr2 w0 w rb b0 b1 v ws i en b u0 u1 u2 u3 u4) (hg : w.grownBy w' (some b1)) (he : w'.heap[b1]? = some (.cells #[v0, v1, v2, v3, v4] 186 (0, 0))) : Fr2 w0 w' rb b0 b1 v ws i en b v0 v1 v2 v3 v4 := by
  have h0 := h.z0; have h1 := h.z1; have h2 := h.z2; have h3 := h.z3; have hz := h.gr.size
  exact ⟨h.rd.grown hg (by omega), (hg.block b0 (by omega) (by simp; omega)).trans h.res, he, grown_new h.gr hg (by omega), h.gl.same hg.size (fun g hg' => hg.block g (by have := h.r0; omega) (by simp; have := h.r0; omega)), h.r0, h0, h1, h2, Nat.lt_of_lt_of_le h3 hg.size⟩
section
variable {w0 w : World} {rb b0 b1 : Nat} {v : Value} {ws : List Wd} {i en : Nat} {b : Bool} {u0 u1 u2 u3 u4 : Value}
theorem Fr2.s0 (h : Fr2 w0 w rb b0 b1 v ws i en b u0 u1 u2 u3 u4) (x : Value) : Fr2 w0 (w.setCell ⟨b1, 0, none⟩ x) rb b0 b1 v ws i en b x u1 u2 u3 u4 := h.set (grown_set _ _ _ _) (by simpa using heap_setCell_same w b1 0 _ _ x h.ex)
theorem Fr2.s1 (h : Fr2 w0 w rb b0 b1 v ws i en b u0 u1 u2 u3 u4) (x : Value) : Fr2 w0 (w.setCell ⟨b1, 1, none⟩ x) rb b0 b1 v ws i en b u0 x u2 u3 u4 := h.set (grown_set _ _ _ _) (by simpa using heap_setCell_same w b1 1 _ _ x h.ex)
theorem Fr2.s2 (h : Fr2 w0 w rb b0 b1 v ws i en b u0 u1 u2 u3 u4) (x : Value) : Fr2 w0 (w.setCell ⟨b1, 2, none⟩ x) rb b0 b1 v ws i en b u0 u1 x u3 u4 := h.set (grown_set _ _ _ _) (by simpa using heap_setCell_same w b1 2 _ _ x h.ex)
theorem Fr2.s3 (h : Fr2 w0 w rb b0 b1 v ws i en b u0 u1 u2 u3 u4) (x : Value) : Fr2 w0 (w.setCell ⟨b1, 3, none⟩ x) rb b0 b1 v ws i en b u0 u1 u2 x u4 := h.set (grown_set _ _ _ _) (by simpa using heap_setCell_same w b1 3 _ _ x h.ex)
theorem Fr2.s4 (h : Fr2 w0 w rb b0 b1 v ws i en b u0 u1 u2 u3 u4) (x : Value) : Fr2 w0 (w.setCell ⟨b1, 4, none⟩ x) rb b0 b1 v ws i en b u0 u1 u2 u3 x := h.set (grown_set _ _ _ _) (by simpa using heap_setCell_same w b1 4 _ _ x h.ex)
end
theorem Fr2.start {w0 w : World} {rb b0 : Nat} {v : Value} {ws : List Wd} {i en : Nat} {b : Bool} (hR : Rd w rb v ws i en b) (hG : Glob w) (hr : 10 < rb) (hg : w0.grownBy w (some rb)) (h0 : rb < w0.heap.size) (h1 : w0.heap.size ≤ b0) (h2 : b0 < w.heap.size)
    (hz : w.heap[b0]? = some (.cells #[.int .i64 0, .int .i64 0, .string ⟨#[]⟩, .slice none 0 0, .int .i64 0] 186 (0, 0))) (u0 u1 u2 u3 u4 : Value) :
    Fr2 w0 (w.alloc (.cells #[u0, u1, u2, u3, u4] 186)) rb b0 w.heap.size v ws i en b u0 u1 u2 u3 u4 :=
  ⟨hR.keep ((Below.refl _ _).alloc (Nat.le_refl _) _), (heap_alloc_old w _ h2).trans hz, heap_alloc_new w _, grown_trans hg (grown_of_below ((Below.refl _ _).alloc (Nat.le_refl _) _) _), hG.to ((Below.refl _ _).alloc (Nat.le_refl _) _), hr, h0, h1, h2, by simp⟩
/-- The answer: the expression's cells are written to the result's. -/
theorem Fr2.ret {w0 w : World} {rb b0 b1 : Nat} {v : Value} {ws : List Wd} {i' en : Nat} {b b' : Bool} {q : Qe} {x : Ex} {A : Option Addr} {c : Nat} {F : Nat → Prop}
    (h : Fr2 w0 w rb b0 b1 v ws i' en b' (.int .i64 x.kind) (.int .i64 x.n) (.string x.text) (.slice A x.args.length c) (.int .i64 x.pos)) (hA : ArgsIn w F (.slice A x.args.length c) x.args) (hF : ∀ g, F g → w0.heap.size ≤ g ∧ g ≠ b0) (hO : OutE ws en q b x i' b') :
    RetE w0 rb v ws en q b (.returned (.agg #[.int .i64 x.kind, .int .i64 x.n, .string x.text, .slice A x.args.length c, .int .i64 x.pos]))
      (((((w.setCell ⟨b0, 0, none⟩ (.int .i64 x.kind)).setCell ⟨b0, 1, none⟩ (.int .i64 x.n)).setCell ⟨b0, 2, none⟩ (.string x.text)).setCell ⟨b0, 3, none⟩ (.slice A x.args.length c)).setCell ⟨b0, 4, none⟩ (.int .i64 x.pos)) :=
  ret5 hA hF h.rd hO h.gr h.z1 (Nat.lt_of_lt_of_le h.z0 h.z1)
/-- A list of expressions of new blocks is kept while the frame goes on. -/
theorem ArgsIn.later {w w' : World} {F F' : Nat → Prop} {v : Value} {l : List Ex} (h : ArgsIn w F v l) (row : Option Nat) (hg : w.grownBy w' row) (hk : ∀ g, F g → row ≠ some g) (hF : ∀ g, F g → F' g) : ArgsIn w' F' v l :=
  h.keep fun g h1 h2 => ⟨hF g h1, Nat.lt_of_lt_of_le h2 hg.size, hg.block g h2 (fun e => hk g h1 e.symm)⟩

/-- strconv.Atoi of a short text: its number, and some error. -/
theorem num_c (s : ByteArray) (hs : s.size ≤ 18) (w : World) (hG : Glob w) : Calls Tryz.prog 231 #[.string s] w fun e w' => (∃ er, e = .returned (.tuple #[.int .i64 (numV s), er])) ∧ Below w.heap.size w w' := by
  cases h : Lib.atoi s.data.toList with
  | some n =>
    have hn : numV s = n := by unfold numV; rw [h]; rfl
    rw [hn]
    refine (Tryz.strconv_Atoi s n hs h w).mono ?_
    rintro e w' ⟨rfl, t, rfl⟩
    exact ⟨⟨_, rfl⟩, Lib.bytesWorld_below _ _ _⟩
  | none =>
    have hn : numV s = 0 := by unfold numV; rw [h]; rfl
    rw [hn]
    obtain ⟨⟨ev, hv, hev⟩, _⟩ := hG.errs
    refine (Tryz.strconv_Atoi_err s hs h ev w hv hev).mono ?_
    rintro e w' ⟨N, rfl, _, _, hb⟩
    exact ⟨⟨_, rfl⟩, hb⟩
/-- Number words are short. -/
def NumsOk (ws : List Wd) : Prop := ∀ x ∈ ws, x.kind = 1 → x.text.size ≤ 18
/-- What the answer of args() says. -/
def OutA (ws : List Wd) (en k i : Nat) (b : Bool) (l : List Ex) (i' : Nat) (b' : Bool) : Prop :=
  i ≤ i' ∧ (b = true → b' = true ∧ i' = i) ∧ (b = false → b' = false → i < i' ∧ De ws en (.args k i) (.exs l i')) ∧ (b = false → b' = true → De ws en (.args k i) (.bad i'))
def ArgsC (rb : Nat) (v : Value) (ws : List Wd) (en i : Nat) : Prop :=
  ∀ (w : World) (b : Bool), Rd w rb v ws i en b → Glob w → Calls Tryz.prog 232 #[.pointer (some ⟨rb, 0, none⟩)] w fun e w' =>
    ∃ l A c i' b', e = .returned (.slice A l.length c) ∧ ArgsIn w' (fun g => w.heap.size ≤ g) (.slice A l.length c) l ∧ Rd w' rb v ws i' en b' ∧ w.grownBy w' (some rb) ∧ OutA ws en 0 i b l i' b'

theorem seeB_yes {ws : List Wd} {i : Nat} {b : Bool} {s : ByteArray} (h : seeB ws i b s = true) : b = false ∧ isAt ws i s = true := by
  unfold seeB at h; cases b <;> simp_all
theorem seeB_no {ws : List Wd} {i : Nat} {s : ByteArray} (h : seeB ws i false s = false) : isAt ws i s = false := by
  unfold seeB at h; simpa using h
theorem want_cases {ws : List Wd} {s : ByteArray} {i : Nat} {b : Bool} {i' : Nat} {b' : Bool} (h : WantS ws s i b i' b') :
    (b = false ∧ isAt ws i s = true ∧ i' = i + 1 ∧ b' = false) ∨ (b = false ∧ isAt ws i s = false ∧ i' = i ∧ b' = true) ∨ (b = true ∧ i' = i ∧ b' = true) := by
  rcases h with ⟨h1, h2, h3⟩ | ⟨h1, h2, h3⟩
  · obtain ⟨e, h⟩ := seeB_yes h1; subst e; exact .inl ⟨rfl, h, h2, h3⟩
  · cases b with
    | false => exact .inr (.inl ⟨rfl, seeB_no h1, h2, h3⟩)
    | true => exact .inr (.inr ⟨rfl, h2, h3⟩)
theorem kind_cases {ws : List Wd} {k : Nat} (hk : k ≠ 0) {i : Nat} {b : Bool} {s : ByteArray} {i' : Nat} {b' : Bool} (h : KindS ws k i b s i' b') :
    (b = false ∧ kindAt ws i = k ∧ s = textAt ws i ∧ i' = i + 1 ∧ b' = false) ∨ (b = false ∧ kindAt ws i ≠ k ∧ s = sNone ∧ i' = i ∧ b' = true) ∨ (b = true ∧ s = sNone ∧ i' = i ∧ b' = true) := by
  rcases h with ⟨h1, ⟨x, h2, h3, h4⟩, h5, h6⟩ | ⟨h1, h2, h3, h4⟩
  · refine .inl ⟨h1, ?_, ?_, h5, h6⟩
    · unfold kindAt; rw [h2]; exact Int.ofNat_inj.1 h3
    · unfold textAt; rw [h2]; exact h4
  · cases b with
    | false =>
      refine .inr (.inl ⟨rfl, ?_, h2, h3, h4⟩)
      unfold kindAt
      cases hx : ws[i]? with
      | none => exact fun e => hk e.symm
      | some x => exact fun e => h1 rfl x hx (by have : x.kind = k := e; omega)
    | true => exact .inr (.inr ⟨rfl, h2, h3, h4⟩)
end Go.Proofs.YtmngofgminlloaaGreatDoor

namespace Go.Proofs.YtmngofgminlloaaGreatDoor
open Go.RowKit Tw

section
variable {ws : List Wd} {en i : Nat}
theorem out_neg {y : Ex} {i' : Nat} {b' : Bool} (hh : headQ ws i = 1) (hO : OutE ws en (.one (i + 1)) false y i' b') : OutE ws en (.one i) false (.mk 4 0 sNone [y] (posAt ws i en)) i' b' := by
  have h0 := hO.1
  simp only [Qe.at] at h0
  exact ⟨by simp only [Qe.at]; omega, by simp, fun _ e => ⟨by simp only [Qe.at]; omega, .neg hh (hO.2.2.1 rfl e).2⟩, fun _ e => .negB hh (hO.2.2.2 rfl e)⟩
theorem out_not {y : Ex} {i' : Nat} {b' : Bool} (hh : headQ ws i = 2) (hO : OutE ws en (.one (i + 1)) false y i' b') : OutE ws en (.one i) false (.mk 5 0 sNone [y] (posAt ws i en)) i' b' := by
  have h0 := hO.1
  simp only [Qe.at] at h0
  exact ⟨by simp only [Qe.at]; omega, by simp, fun _ e => ⟨by simp only [Qe.at]; omega, .not hh (hO.2.2.1 rfl e).2⟩, fun _ e => .notB hh (hO.2.2.2 rfl e)⟩
theorem out_par {y : Ex} {i' i2 : Nat} {b' b2 : Bool} (hh : headQ ws i = 3) (hO : OutE ws en (.lvl 1 (i + 1)) false y i' b') (hW : WantS ws sClose i' b' i2 b2) : OutE ws en (.one i) false y i2 b2 := by
  have h0 := hO.1
  simp only [Qe.at] at h0
  rcases want_cases hW with ⟨rfl, h1, rfl, rfl⟩ | ⟨rfl, h1, rfl, rfl⟩ | ⟨rfl, rfl, rfl⟩
  · exact ⟨by simp only [Qe.at]; omega, by simp, fun _ _ => ⟨by simp only [Qe.at]; omega, .par hh (hO.2.2.1 rfl rfl).2 h1⟩, by simp⟩
  · exact ⟨by simp only [Qe.at]; omega, by simp, by simp, fun _ _ => .parC hh (hO.2.2.1 rfl rfl).2 h1⟩
  · exact ⟨by simp only [Qe.at]; omega, by simp, by simp, fun _ _ => .parB hh (hO.2.2.2 rfl rfl)⟩
theorem out_tru (hh : headQ ws i = 4) : OutE ws en (.one i) false (.mk 2 1 sNone [] (posAt ws i en)) (i + 1) false :=
  ⟨by simp only [Qe.at]; omega, by simp, fun _ _ => ⟨by simp only [Qe.at]; omega, .tru hh⟩, by simp⟩
theorem out_fls (hh : headQ ws i = 5) : OutE ws en (.one i) false (.mk 2 0 sNone [] (posAt ws i en)) (i + 1) false :=
  ⟨by simp only [Qe.at]; omega, by simp, fun _ _ => ⟨by simp only [Qe.at]; omega, .fls hh⟩, by simp⟩
theorem out_host {s : ByteArray} {i1 i2 i3 : Nat} {b1 b2 b3 : Bool} {l : List Ex} (hh : headQ ws i = 6) (hK : KindS ws (1 : Nat) (i + 1) false s i1 b1) (hW : WantS ws sOpen i1 b1 i2 b2) (hA : OutA ws en 0 i2 b2 l i3 b3) :
    OutE ws en (.one i) false (.mk 8 (numV s) sNone l (posAt ws i en)) i3 b3 := by
  have h0 := hA.1
  rcases kind_cases (by decide) hK with ⟨_, hk, rfl, rfl, rfl⟩ | ⟨_, hk, rfl, rfl, rfl⟩ | ⟨h, _⟩
  · rcases want_cases hW with ⟨_, h1, rfl, rfl⟩ | ⟨_, h1, rfl, rfl⟩ | ⟨h, _⟩
    · exact ⟨by simp only [Qe.at]; omega, by simp, fun _ e => ⟨by simp only [Qe.at]; omega, .host hh hk h1 (hA.2.2.1 rfl e).2⟩, fun _ e => .hostB hh hk h1 (hA.2.2.2 rfl e)⟩
    · obtain ⟨rfl, rfl⟩ := hA.2.1 rfl
      exact ⟨by simp only [Qe.at]; omega, by simp, by simp, fun _ _ => .hostC hh hk h1⟩
    · cases h
  · rcases want_cases hW with ⟨h, _⟩ | ⟨h, _⟩ | ⟨_, rfl, rfl⟩
    · cases h
    · cases h
    · obtain ⟨rfl, rfl⟩ := hA.2.1 rfl
      exact ⟨by simp only [Qe.at]; omega, by simp, by simp, fun _ _ => .hostD hh hk⟩
  · cases h
/-- The six signs with which an operand begins do not stand there. -/
def NoHead (ws : List Wd) (i : Nat) : Prop :=
  isAt ws i sMinus = false ∧ isAt ws i sBang = false ∧ isAt ws i sOpen = false ∧ isAt ws i sTrue = false ∧ isAt ws i sFalse = false ∧ isAt ws i sHost = false
theorem NoHead.q {ws : List Wd} {i : Nat} (h : NoHead ws i) : headQ ws i = if kindAt ws i = 1 then 7 else if kindAt ws i = 2 then 8 else 0 := by
  obtain ⟨h1, h2, h3, h4, h5, h6⟩ := h
  unfold headQ; simp [h1, h2, h3, h4, h5, h6]
theorem out_num {s : ByteArray} {i1 : Nat} {b1 : Bool} (hn : NoHead ws i) (hk : kindAt ws i = 1) (hK : KindS ws (1 : Nat) i false s i1 b1) : OutE ws en (.one i) false (.mk 1 (numV s) sNone [] (posAt ws i en)) i1 b1 := by
  have hh : headQ ws i = 7 := by rw [hn.q, if_pos hk]
  rcases kind_cases (by decide) hK with ⟨_, _, rfl, rfl, rfl⟩ | ⟨_, h, _⟩ | ⟨h, _⟩
  · exact ⟨by simp only [Qe.at]; omega, by simp, fun _ _ => ⟨by simp only [Qe.at]; omega, .num hh⟩, by simp⟩
  · exact absurd hk h
  · cases h
theorem out_var {s : ByteArray} {i1 : Nat} {b b1 : Bool} (hh : b = false → NoHead ws i ∧ kindAt ws i ≠ 1) (hK : KindS ws (2 : Nat) i b s i1 b1) (hs : seeB ws i1 b1 sOpen = false) : OutE ws en (.one i) b (.mk 3 0 s [] (posAt ws i en)) i1 b1 := by
  rcases kind_cases (by decide) hK with ⟨rfl, hk, rfl, rfl, rfl⟩ | ⟨rfl, hk, rfl, rfl, rfl⟩ | ⟨rfl, rfl, rfl, rfl⟩
  · have hq : headQ ws i = 8 := by rw [(hh rfl).1.q, if_neg (hh rfl).2, if_pos hk]
    exact ⟨by simp only [Qe.at]; omega, by simp, fun _ _ => ⟨by simp only [Qe.at]; omega, .var hq (seeB_no hs)⟩, by simp⟩
  · exact ⟨by simp only [Qe.at]; omega, by simp, by simp, fun _ _ => .nobody (by rw [(hh rfl).1.q, if_neg (hh rfl).2, if_neg hk])⟩
  · exact ⟨by simp only [Qe.at]; omega, fun _ => ⟨rfl, rfl⟩, by simp, by simp⟩
theorem out_call {s : ByteArray} {i1 i3 : Nat} {b b1 b3 : Bool} {l : List Ex} (hh : b = false → NoHead ws i ∧ kindAt ws i ≠ 1) (hK : KindS ws (2 : Nat) i b s i1 b1) (hs : seeB ws i1 b1 sOpen = true) (hA : OutA ws en 0 (i1 + 1) b1 l i3 b3) :
    OutE ws en (.one i) b (.mk 7 0 s l (posAt ws i en)) i3 b3 := by
  have h0 := hA.1
  rcases kind_cases (by decide) hK with ⟨rfl, hk, rfl, rfl, rfl⟩ | ⟨rfl, hk, rfl, rfl, rfl⟩ | ⟨rfl, rfl, rfl, rfl⟩
  · have hq : headQ ws i = 8 := by rw [(hh rfl).1.q, if_neg (hh rfl).2, if_pos hk]
    exact ⟨by simp only [Qe.at]; omega, by simp, fun _ e => ⟨by simp only [Qe.at]; omega, .call hq (seeB_yes hs).2 (hA.2.2.1 rfl e).2⟩, fun _ e => .callB hq (seeB_yes hs).2 (hA.2.2.2 rfl e)⟩
  · exact absurd (seeB_yes hs).1 (by simp)
  · exact absurd (seeB_yes hs).1 (by simp)
theorem head1 (h1 : isAt ws i sMinus = true) : headQ ws i = 1 := by unfold headQ; simp [h1]
theorem head2 (h1 : isAt ws i sMinus = false) (h2 : isAt ws i sBang = true) : headQ ws i = 2 := by unfold headQ; simp [h1, h2]
theorem head3 (h1 : isAt ws i sMinus = false) (h2 : isAt ws i sBang = false) (h3 : isAt ws i sOpen = true) : headQ ws i = 3 := by unfold headQ; simp [h1, h2, h3]
theorem head4 (h1 : isAt ws i sMinus = false) (h2 : isAt ws i sBang = false) (h3 : isAt ws i sOpen = false) (h4 : isAt ws i sTrue = true) : headQ ws i = 4 := by unfold headQ; simp [h1, h2, h3, h4]
theorem head5 (h1 : isAt ws i sMinus = false) (h2 : isAt ws i sBang = false) (h3 : isAt ws i sOpen = false) (h4 : isAt ws i sTrue = false) (h5 : isAt ws i sFalse = true) : headQ ws i = 5 := by unfold headQ; simp [h1, h2, h3, h4, h5]
theorem head6 (h1 : isAt ws i sMinus = false) (h2 : isAt ws i sBang = false) (h3 : isAt ws i sOpen = false) (h4 : isAt ws i sTrue = false) (h5 : isAt ws i sFalse = false) (h6 : isAt ws i sHost = true) : headQ ws i = 6 := by unfold headQ; simp [h1, h2, h3, h4, h5, h6]
end

theorem kind_size {ws : List Wd} {i : Nat} {b : Bool} {s : ByteArray} {i' : Nat} {b' : Bool} (hN : NumsOk ws) (h : KindS ws 1 i b s i' b') : s.size ≤ 18 := by
  rcases h with ⟨_, ⟨x, h2, h3, rfl⟩, _⟩ | ⟨_, rfl, _⟩
  · exact hN x (List.mem_of_getElem? h2) (Int.ofNat_inj.1 h3)
  · decide
theorem host_lt {ws : List Wd} {i : Nat} {b : Bool} {s s' : ByteArray} {i1 i2 : Nat} {b1 b2 : Bool} (h : KindS ws 1 (i + 1) b s i1 b1) (hW : WantS ws s' i1 b1 i2 b2) : i < i2 := by
  have h1 : i < i1 := by rcases h with ⟨_, _, h, _⟩ | ⟨_, _, h, _⟩ <;> omega
  rcases hW with ⟨_, h, _⟩ | ⟨_, h, _⟩ <;> omega

theorem out_var_le {ws : List Wd} {k : Int} {i : Nat} {b : Bool} {s : ByteArray} {i1 : Nat} {b1 : Bool} (h : KindS ws k i b s i1 b1) : i ≤ i1 := by
  rcases h with ⟨_, _, h, _⟩ | ⟨_, _, h, _⟩ <;> omega

theorem args_one {w W : World} {F0 F : Nat → Prop} {y : Ex} {va : Value} {n b1 cap T : Nat} (hA : ArgsIn w F0 va y.args) (hg : w.grownBy W (some b1)) (hF0 : ∀ g, F0 g → g ≠ b1 ∧ F g) (hn : W.heap.size = n) (hFn : F n) :
    ArgsIn (W.alloc (.cells #[.int .i64 y.kind, .int .i64 y.n, .string y.text, va, .int .i64 y.pos] T)) F (.slice (some ⟨n, 0, none⟩) 1 cap) [y] := by
  subst hn
  refine ArgsIn.of_block [(y, va)] #[.int .i64 y.kind, .int .i64 y.n, .string y.text, va, .int .i64 y.pos] rfl (heap_alloc_new W _) hFn fun a ha => ?_
  simp at ha; subst ha
  refine hA.keep fun g h1 h2 => ⟨(hF0 g h1).2, ?_, ?_⟩
  · have := hg.size; simp; omega
  · rw [heap_alloc_old W _ (Nat.lt_of_lt_of_le h2 hg.size)]
    exact hg.block g h2 (by simp; exact (hF0 g h1).1)
end Go.Proofs.YtmngofgminlloaaGreatDoor
