/-
  A row of words in memory.
  Scripts as trees, and a list of words as a reader sees it, in plain Lean. No program in sight.
  The small methods of the reference's reader: at, see, take, want, kind, typ; each at a reader whose words lie in an older block.
  More small methods of the reference's reader: kind, typ.
  The contract of strconv.ParseUint(s, 10, 62). Conditions: s is not empty, and at most 4000 bytes; the variables ErrSyntax and ErrRange of the library hold an error each.
  The contract of strconv.FormatUint(u, 10): the decimal numeral of u. Conditions: u is less than 2^64, and the table of powers of ten of the library is as its initialiser lays it.
  The contracts of the reference's function 'in' and of the library's trims at the sets of letters and digits; of its search for a keyword.
  Plain lemmas on decimal numerals: a text is a number of at most 12 digits just if it is read as one whose numeral it is. No program is named here.
-/
import Derived.Test.YtmngofgminlloaaGreatDoorTT04
import Derived.Test.YtmngofgminlloaaGreatDoorTT03
import Derived.Lib.Atoi
import Derived.Deep.QuietTactic
import Derived.BigQuiet
import Derived.Lib.ParseIntBMem
import Derived.Lib.ConvBytes
import Derived.Lib.Walk
import Derived.Laws.Strings3
import Derived.Laws.Closers25
import Derived.Laws.Closers25b
import Derived.BigCall
import Derived.BigGuard
import Derived.Shelf.Strconv.Itoa3
import Derived.Lib.AppendIntMem
import Derived.Shelf.Strings.SlTrimAscii
import Derived.Lib.ItoaNum
import Derived.Lib.ParseIntB
set_option linter.all false
namespace Go.Proofs.YtmngofgminlloaaGreatDoor
open Go.RowKit Tw

theorem wcells_at (ws : List Wd) : ∀ (k : Nat) (x : Wd), ws[k]? = some x → (wcells ws)[k * 3]? = some (.int .i64 x.kind) ∧ (wcells ws)[k * 3 + 1]? = some (.string x.text) ∧ (wcells ws)[k * 3 + 2]? = some (.int .i64 x.pos) := by
  induction ws with
  | nil => intro k x h; simp at h
  | cons y ws ih =>
    intro k x h
    have e : wcells (y :: ws) = Value.int .i64 y.kind :: Value.string y.text :: Value.int .i64 y.pos :: wcells ws := by simp [wcells, Wd.cells]
    cases k with
    | zero => simp at h; subst h; rw [e]; exact ⟨rfl, rfl, rfl⟩
    | succ k =>
      have := ih k x (by simpa using h)
      rw [e, show (k + 1) * 3 = k * 3 + 1 + 1 + 1 by omega]
      exact this

/-- The words ws lie at the slice v, below block B. -/
def WRow (w : World) (B : Nat) (v : Value) (ws : List Wd) : Prop :=
  (v = .slice none 0 0 ∧ ws = []) ∨ ∃ g cap, v = .slice (some ⟨g, 0, none⟩) ws.length cap ∧ g < B ∧ ∀ j u, (wcells ws)[j]? = some u → w.cell? ⟨g, j, none⟩ = some u

section
variable {w w' : World} {B : Nat} {v : Value} {ws : List Wd}
theorem WRow.below {B' : Nat} (h : WRow w B v ws) (hb : Below B' w w') (hB : B ≤ B') : WRow w' B v ws := by
  rcases h with h | ⟨g, cap, hv, hg, hc⟩
  · exact .inl h
  · exact .inr ⟨g, cap, hv, hg, fun j u hu => (hb.cell (p := ⟨g, j, none⟩) (Nat.lt_of_lt_of_le hg hB)).trans (hc j u hu)⟩
theorem WRow.of_own {base t : Nat} (h : w.ownsRow base t 3 v ws.length (wcells ws)) : WRow w w.heap.size v ws := by
  rcases h.2 with ⟨hv, h0⟩ | ⟨g, cap, cur, hv, _⟩
  · exact .inl ⟨hv, List.eq_nil_of_length_eq_zero h0⟩
  · right
    subst hv
    have hl := (h.lt g rfl).2
    refine ⟨g, cap, rfl, hl, fun j u hu => ?_⟩
    have := h.cells (g := g) rfl j u hu
    have e : (⟨g, 0, none⟩ : Addr).add j = ⟨g, j, none⟩ := by unfold Addr.add; split <;> simp_all
    rwa [e] at this
theorem WRow.mono {B' : Nat} (h : WRow w B v ws) (hB : B ≤ B') : WRow w B' v ws := by
  rcases h with h | ⟨g, cap, hv, hg, hc⟩
  · exact .inl h
  · exact .inr ⟨g, cap, hv, Nat.lt_of_lt_of_le hg hB, hc⟩
end
end Go.Proofs.YtmngofgminlloaaGreatDoor

namespace Go.Proofs.YtmngofgminlloaaGreatDoor
open Go.RowKit Tw

inductive Ex where
  | mk (kind n : Int) (text : ByteArray) (args : List Ex) (pos : Int)
instance : Inhabited Ex := ⟨.mk 0 0 ⟨#[]⟩ [] 0⟩
namespace Ex
def kind : Ex → Int | .mk k _ _ _ _ => k
def n : Ex → Int | .mk _ n _ _ _ => n
def text : Ex → ByteArray | .mk _ _ t _ _ => t
def args : Ex → List Ex | .mk _ _ _ a _ => a
def pos : Ex → Int | .mk _ _ _ _ p => p
end Ex
inductive Sm where
  | mk (kind : Int) (name : ByteArray) (a : Ex) (body els : List Sm) (pos : Int)
namespace Sm
def kind : Sm → Int | .mk k _ _ _ _ _ => k
def name : Sm → ByteArray | .mk _ n _ _ _ _ => n
def a : Sm → Ex | .mk _ _ a _ _ _ => a
def body : Sm → List Sm | .mk _ _ _ b _ _ => b
def els : Sm → List Sm | .mk _ _ _ _ e _ => e
def pos : Sm → Int | .mk _ _ _ _ _ p => p
end Sm
structure Fn where
  name : ByteArray
  names : List ByteArray
  types : List Int
  out : Int
  body : List Sm
  pos : Int

/-- The position of the word at i, or the end. -/
def posAt (ws : List Wd) (i en : Nat) : Nat := match ws[i]? with | some x => x.pos | none => en
/-- Is the word at i this text? -/
def isAt (ws : List Wd) (i : Nat) (s : ByteArray) : Bool := match ws[i]? with | some x => x.text.toList == s.toList | none => false
def seeB (ws : List Wd) (i : Nat) (b : Bool) (s : ByteArray) : Bool := !b && isAt ws i s

/-- The text at i; the empty text at the end. -/
def txt (ws : List Wd) (i : Nat) : Bs := match ws[i]? with | some x => x.text.data.toList | none => []
def sb (l : Bs) : ByteArray := ⟨l.toArray⟩
/-- How strongly an operator binds (0: it is none). -/
def lv (s : Bs) : Nat :=
  if s = [124, 124] then 1 else if s = [38, 38] then 2
  else if s = [60] ∨ s = [60, 61] ∨ s = [62] ∨ s = [62, 61] ∨ s = [61, 61] ∨ s = [33, 61] then 3
  else if s = [43] ∨ s = [45] then 4 else if s = [42] ∨ s = [47] ∨ s = [37] then 5 else 0
def kindAt (ws : List Wd) (i : Nat) : Nat := match ws[i]? with | some x => x.kind | none => 0
def textAt (ws : List Wd) (i : Nat) : ByteArray := match ws[i]? with | some x => x.text | none => ⟨#[]⟩
def lvAt (ws : List Wd) (i : Nat) : Nat := match ws[i]? with | some x => lv x.text.data.toList | none => 0
/-- The value of a numeral. -/
def numV (s : ByteArray) : Int := (Lib.atoi s.data.toList).getD 0

end Go.Proofs.YtmngofgminlloaaGreatDoor

namespace Go.Proofs.YtmngofgminlloaaGreatDoor
open Go.RowKit Tw

theorem WRow.form {w : World} {B : Nat} {v : Value} {ws : List Wd} (h : WRow w B v ws) : ∃ A cap, v = .slice A ws.length cap ∧ ∀ (k : Nat) (x : Wd), ws[k]? = some x → ∃ g, A = some ⟨g, 0, none⟩ ∧ g < B ∧ w.cell? ⟨g, k * 3, none⟩ = some (.int .i64 x.kind) ∧ w.cell? ⟨g, k * 3 + 1, none⟩ = some (.string x.text) ∧ w.cell? ⟨g, k * 3 + 2, none⟩ = some (.int .i64 x.pos) := by
  rcases h with ⟨rfl, rfl⟩ | ⟨g, cap, rfl, hg, hc⟩
  · exact ⟨none, 0, rfl, fun k x hx => by simp at hx⟩
  · refine ⟨_, cap, rfl, fun k x hx => ⟨g, rfl, hg, ?_⟩⟩
    have := wcells_at ws k x hx
    exact ⟨hc _ _ this.1, hc _ _ this.2.1, hc _ _ this.2.2⟩
theorem WRow.same {w w' : World} {B : Nat} {v : Value} {ws : List Wd} (h : WRow w B v ws) (hb : ∀ k, k < B → w'.heap[k]? = w.heap[k]?) : WRow w' B v ws := by
  rcases h with h | ⟨g, cap, hv, hg, hc⟩
  · exact .inl h
  · exact .inr ⟨g, cap, hv, hg, fun j u hu => (World.cell?_of_block (hb g hg)).trans (hc j u hu)⟩

/-- The reader: its block holds the words, the place, the text's length, and whether it has failed. -/
structure Rd (w : World) (rb : Nat) (v : Value) (ws : List Wd) (i en : Nat) (b : Bool) : Prop where
  blk : w.heap[rb]? = some (.cells #[v, .int .i64 i, .int .i64 en, .bool b] 115 (0, 0))
  row : WRow w rb v ws
  len : ws.length ≤ 4000
  pos : i ≤ ws.length

section
variable {w w' : World} {rb : Nat} {v : Value} {ws : List Wd} {i en : Nat} {b : Bool}
theorem Rd.lt (h : Rd w rb v ws i en b) : rb < w.heap.size := by
  rcases Nat.lt_or_ge rb w.heap.size with h' | h'
  · exact h'
  · have := h.blk; simp [Array.getElem?_eq_none h'] at this
theorem Rd.c0 (h : Rd w rb v ws i en b) : w.cell? ⟨rb, 0, none⟩ = some v := Lib.cell_of_heap h.blk 0
theorem Rd.c1 (h : Rd w rb v ws i en b) : w.cell? ⟨rb, 1, none⟩ = some (.int .i64 i) := Lib.cell_of_heap h.blk 1
theorem Rd.c2 (h : Rd w rb v ws i en b) : w.cell? ⟨rb, 2, none⟩ = some (.int .i64 en) := Lib.cell_of_heap h.blk 2
theorem Rd.c3 (h : Rd w rb v ws i en b) : w.cell? ⟨rb, 3, none⟩ = some (.bool b) := Lib.cell_of_heap h.blk 3
theorem Rd.fz (h : Rd w rb v ws i en b) (j : Nat) : w.frozen? ⟨rb, j, none⟩ = false := Lib.frozen_of_heap h.blk j
theorem Rd.keep (h : Rd w rb v ws i en b) (hb : Below w.heap.size w w') : Rd w' rb v ws i en b :=
  ⟨(hb.block rb h.lt).trans h.blk, h.row.same fun k hk => hb.block k (Nat.lt_trans hk h.lt), h.len, h.pos⟩
theorem Rd.setI (h : Rd w rb v ws i en b) (j : Nat) (hj : j ≤ ws.length) : Rd (w.setCell ⟨rb, 1, none⟩ (.int .i64 j)) rb v ws j en b := by
  refine ⟨?_, h.row.same fun k hk => Below.heap_setCell w ⟨rb, 1, none⟩ _ k (by simp; omega), h.len, hj⟩
  have := heap_setCell_same w rb 1 _ _ (.int .i64 j) h.blk
  simpa using this
theorem Rd.setB (h : Rd w rb v ws i en b) : Rd (w.setCell ⟨rb, 3, none⟩ (.bool true)) rb v ws i en true := by
  refine ⟨?_, h.row.same fun k hk => Below.heap_setCell w ⟨rb, 3, none⟩ _ k (by simp; omega), h.len, h.pos⟩
  have := heap_setCell_same w rb 3 _ _ (.bool true) h.blk
  simpa using this
end
theorem grown_of_below {w w' : World} (h : Below w.heap.size w w') (r : Option Nat) : w.grownBy w' r := ⟨h.os, h.tape, h.output, h.size, fun k hk _ => h.block k hk⟩
theorem grown_set (w : World) (rb j : Nat) (u : Value) : w.grownBy (w.setCell ⟨rb, j, none⟩ u) (some rb) :=
  ⟨rfl, rfl, rfl, by simp, fun k _ hk => Below.heap_setCell w ⟨rb, j, none⟩ u k (fun e => hk (by simp [e]))⟩
theorem grown_trans {w w' w2 : World} {r : Option Nat} (h : w.grownBy w' r) (k : w'.grownBy w2 r) : w.grownBy w2 r :=
  ⟨k.os.trans h.os, k.tape.trans h.tape, k.output.trans h.output, Nat.le_trans h.size k.size, fun j hj hr => (k.block j (Nat.lt_of_lt_of_le hj h.size) hr).trans (h.block j hj hr)⟩

set_option maxHeartbeats 1000000 in
theorem at_r {w : World} {rb : Nat} {v : Value} {ws : List Wd} {i en : Nat} {b : Bool} (h : Rd w rb v ws i en b) :
    Calls Tryz.prog 51 #[.pointer (some ⟨rb, 0, none⟩)] w fun e w' => e = .returned (.int .i64 (posAt ws i en)) ∧ Below w.heap.size w w' := by
  obtain ⟨A, cap, rfl, hform⟩ := h.row.form
  have c0 := h.c0; have c1 := h.c1; have c2 := h.c2
  have hn := h.len; have hp := h.pos
  by_cases hlt : i < ws.length
  · obtain ⟨x, hx⟩ : ∃ x, ws[i]? = some x := ⟨_, List.getElem?_eq_getElem hlt⟩
    obtain ⟨g, rfl, hg, d0, d1, d2⟩ := hform i x hx
    have hP : posAt ws i en = x.pos := by unfold posAt; rw [hx]
    rw [hP]
    have k0 : (0 : Int) ≤ (i : Int) := by omega
    have k1 : (i : Int) < (ws.length : Int) := by omega
    clear hx hP hform h d0 d1 c2
    go_enter Tryz.func51, Tryz.ntmps51
    go_wp2_with fail
    go_quiet (fail)
    go_wp2_with fail
    go_quiet (fail)
    go_wp2_with fail
    go_ret
    exact ⟨rfl, below_drewN (below_drewN (Below.refl _ _) _) _⟩
  · have hP : posAt ws i en = en := by unfold posAt; rw [List.getElem?_eq_none (by omega)]
    rw [hP]
    have hi : i = ws.length := by omega
    clear hP hform h
    go_enter Tryz.func51, Tryz.ntmps51
    go_wp2_with fail
    go_quiet (fail)
    go_wp2_with fail
    go_ret
    exact ⟨rfl, below_drewN (Below.refl _ _) _⟩

set_option maxHeartbeats 1000000 in
theorem see_r {w : World} {rb : Nat} {v : Value} {ws : List Wd} {i en : Nat} {b : Bool} (s : ByteArray) (t : Bool) (h : Rd w rb v ws i en b) (ht : seeB ws i b s = t) :
    Calls Tryz.prog 107 #[.pointer (some ⟨rb, 0, none⟩), .string s] w fun e w' => e = .returned (.bool t) ∧ Below w.heap.size w w' := by
  obtain ⟨A, cap, rfl, hform⟩ := h.row.form
  have c0 := h.c0; have c1 := h.c1; have c3 := h.c3
  have hn := h.len; have hp := h.pos
  unfold seeB at ht
  cases b with
  | true =>
    simp only [Bool.not_true, Bool.false_and] at ht
    subst ht
    clear hform h
    go_enter Tryz.func107, Tryz.ntmps107
    go_wp2_with fail
    go_quiet (fail)
    go_wp2_with fail
    go_ret
    exact ⟨rfl, below_drewN (Below.refl _ _) _⟩
  | false =>
    by_cases hlt : i < ws.length
    · obtain ⟨x, hx⟩ : ∃ x, ws[i]? = some x := ⟨_, List.getElem?_eq_getElem hlt⟩
      obtain ⟨g, rfl, hg, d0, d1, d2⟩ := hform i x hx
      have hP : isAt ws i s = (x.text.toList == s.toList) := by unfold isAt; rw [hx]
      simp only [Bool.not_false, Bool.true_and, hP] at ht
      have k0 : (0 : Int) ≤ (i : Int) := by omega
      have k1 : (i : Int) < (ws.length : Int) := by omega
      clear hx hP hform h d0 d2
      go_enter Tryz.func107, Tryz.ntmps107
      go_wp2_with fail
      go_quiet (fail)
      go_wp2_with fail
      go_ret
      exact ⟨by first | rfl | rw [ht], below_drewN (Below.refl _ _) _⟩
    · have hP : isAt ws i s = false := by unfold isAt; rw [List.getElem?_eq_none (by omega)]
      simp only [hP, Bool.and_false] at ht
      subst ht
      have hi : i = ws.length := by omega
      clear hP hform h
      go_enter Tryz.func107, Tryz.ntmps107
      go_wp2_with fail
      go_quiet (fail)
      go_wp2_with fail
      go_ret
      exact ⟨rfl, below_drewN (Below.refl _ _) _⟩
theorem isAt_lt {ws : List Wd} {i : Nat} {s : ByteArray} (h : isAt ws i s = true) : i < ws.length := by
  unfold isAt at h
  rcases Nat.lt_or_ge i ws.length with h' | h'
  · exact h'
  · rw [List.getElem?_eq_none h'] at h; cases h

set_option maxHeartbeats 1000000 in
theorem take_r {w : World} {rb : Nat} {v : Value} {ws : List Wd} {i en : Nat} {b : Bool} (s : ByteArray) (t : Bool) (h : Rd w rb v ws i en b) (ht : seeB ws i b s = t) :
    Calls Tryz.prog 54 #[.pointer (some ⟨rb, 0, none⟩), .string s] w fun e w' => e = .returned (.bool t) ∧ Rd w' rb v ws (if t then i + 1 else i) en b ∧ w.grownBy w' (some rb) := by
  have hlt : t = true → i < ws.length := fun e => by
    subst e
    unfold seeB at ht
    exact isAt_lt (Bool.and_eq_true_iff.1 ht).2
  have hS := see_r s t h ht
  have HR := Lib.hid h; have HS := Lib.hid hS; have HL := Lib.hid hlt
  clear h ht hS hlt
  go_enter Tryz.func54, Tryz.ntmps54
  go_wp2_with fail
  refine HS.out.mono ?_
  rintro e w1 ⟨rfl, hb⟩
  have HR1 := Lib.hid (HR.out.keep hb)
  have HG := Lib.hid (grown_of_below hb (some rb))
  clear hb
  have c1 := HR1.out.c1
  have hf := HR1.out.fz 1
  cases t with
  | true =>
    have hn := HR1.out.len
    have hl := HL.out rfl
    go_wp2_with fail
    go_ret
    exact ⟨rfl, HR1.out.setI (i + 1) hl, grown_trans HG.out (grown_set _ _ _ _)⟩
  | false =>
    go_wp2_with fail
    go_ret
    exact ⟨rfl, HR1.out, HG.out⟩

/-- What want(s) makes of the state (i, b). -/
def WantS (ws : List Wd) (s : ByteArray) (i : Nat) (b : Bool) (i' : Nat) (b' : Bool) : Prop :=
  (seeB ws i b s = true ∧ i' = i + 1 ∧ b' = b) ∨ (seeB ws i b s = false ∧ i' = i ∧ b' = true)
set_option maxHeartbeats 1000000 in
theorem want_r {w : World} {rb : Nat} {v : Value} {ws : List Wd} {i en : Nat} {b : Bool} (s : ByteArray) (h : Rd w rb v ws i en b) :
    Calls Tryz.prog 52 #[.pointer (some ⟨rb, 0, none⟩), .string s] w fun e w' => e = .returned (.tuple #[]) ∧ (∃ i' b', Rd w' rb v ws i' en b' ∧ WantS ws s i b i' b') ∧ w.grownBy w' (some rb) := by
  obtain ⟨t, ht⟩ : ∃ t, seeB ws i b s = t := ⟨_, rfl⟩
  have hS := take_r s t h ht
  have HS := Lib.hid hS; have HT := Lib.hid ht
  clear h ht hS
  go_enter Tryz.func52, Tryz.ntmps52
  go_wp2_with fail
  refine HS.out.mono ?_
  rintro e w1 ⟨rfl, hr, hg⟩
  have HR1 := Lib.hid hr
  have HG := Lib.hid hg
  clear hr hg
  cases t with
  | true =>
    go_wp2_with fail
    go_end0
    exact ⟨rfl, ⟨_, _, HR1.out, .inl ⟨HT.out, rfl, rfl⟩⟩, HG.out⟩
  | false =>
    have c3 := HR1.out.c3
    have hf := HR1.out.fz 3
    go_wp2_with fail
    go_end0
    exact ⟨rfl, ⟨_, _, HR1.out.setB, .inr ⟨HT.out, rfl, rfl⟩⟩, grown_trans HG.out (grown_set _ _ _ _)⟩
end Go.Proofs.YtmngofgminlloaaGreatDoor

namespace Go.Proofs.YtmngofgminlloaaGreatDoor
open Go.RowKit Tw

/-- What kind(k) makes of the state (i, b), and the text that it returns. -/
def KindS (ws : List Wd) (k : Int) (i : Nat) (b : Bool) (s : ByteArray) (i' : Nat) (b' : Bool) : Prop :=
  (b = false ∧ (∃ x, ws[i]? = some x ∧ (x.kind : Int) = k ∧ s = x.text) ∧ i' = i + 1 ∧ b' = false) ∨ ((b = false → ∀ x, ws[i]? = some x → (x.kind : Int) ≠ k) ∧ s = ⟨#[]⟩ ∧ i' = i ∧ b' = true)
set_option maxHeartbeats 1000000 in
theorem kind_r {w : World} {rb : Nat} {v : Value} {ws : List Wd} {i en : Nat} {b : Bool} (k : Int) (h : Rd w rb v ws i en b) :
    Calls Tryz.prog 53 #[.pointer (some ⟨rb, 0, none⟩), .int .i64 k] w fun e w' => (∃ s i' b', e = .returned (.string s) ∧ Rd w' rb v ws i' en b' ∧ KindS ws k i b s i' b') ∧ w.grownBy w' (some rb) := by
  obtain ⟨A, cap, rfl, hform⟩ := h.row.form
  have c0 := h.c0; have c1 := h.c1; have c3 := h.c3
  have hn := h.len; have hp := h.pos
  have hf := h.fz 3; have hf1 := h.fz 1
  have HR := Lib.hid h; clear h
  cases b with
  | true =>
    clear hform
    go_enter Tryz.func53, Tryz.ntmps53
    go_wp2_with fail
    go_quiet (fail)
    go_wp2_with fail
    go_ret
    exact ⟨⟨_, _, _, rfl, (HR.out.keep (below_drewN (Below.refl _ _) _)).setB, .inr ⟨(fun e => by cases e), rfl, rfl, rfl⟩⟩, grown_trans (grown_of_below (below_drewN (Below.refl _ _) _) _) (grown_set _ _ _ _)⟩
  | false =>
    by_cases hlt : i < ws.length
    · obtain ⟨x, hx⟩ : ∃ x, ws[i]? = some x := ⟨_, List.getElem?_eq_getElem hlt⟩
      obtain ⟨g, rfl, hg, d0, d1, d2⟩ := hform i x hx
      have k0 : (0 : Int) ≤ (i : Int) := by omega
      have k1 : (i : Int) < (ws.length : Int) := by omega
      have HX := Lib.hid hx
      clear hx hform d2
      by_cases hk : (x.kind : Int) = k
      · have e0 : ((x.kind : Int) != k) = false := by simpa using hk
        go_enter Tryz.func53, Tryz.ntmps53
        go_wp2_with fail
        go_quiet (fail)
        go_wp2_with fail
        have hgn : g ≠ rb := by omega
        have hgn' : rb ≠ g := by omega
        have q0 : (0 : Int) ≤ (i : Int) + 1 - 1 := by omega
        have q1 : (i : Int) + 1 - 1 < (ws.length : Int) := by omega
        have q2 : ((i : Int) + 1 - 1) = (i : Int) := by omega
        go_quiet (fail)
        go_wp2_with fail
        go_ret
        refine ⟨⟨_, _, _, rfl, ((HR.out.keep (below_drewN (Below.refl _ _) _)).setI (i + 1) hlt).keep (below_drewN (Below.refl _ _) _), .inl ⟨rfl, ⟨x, HX.out, hk, rfl⟩, rfl, rfl⟩⟩, ?_⟩
        exact grown_trans (grown_trans (grown_of_below (below_drewN (Below.refl _ _) _) _) (grown_set _ rb 1 _)) (grown_of_below (below_drewN (Below.refl _ _) _) _)
      · have e0 : ((x.kind : Int) != k) = true := by simpa using hk
        have HK := Lib.hid hk; clear hk
        go_enter Tryz.func53, Tryz.ntmps53
        go_wp2_with fail
        go_quiet (fail)
        go_wp2_with fail
        go_ret
        exact ⟨⟨_, _, _, rfl, (HR.out.keep (below_drewN (Below.refl _ _) _)).setB, .inr ⟨(fun _ y hy => by have := HX.out.symm.trans hy; cases this; exact HK.out), rfl, rfl, rfl⟩⟩, grown_trans (grown_of_below (below_drewN (Below.refl _ _) _) _) (grown_set _ _ _ _)⟩
    · have hi : i = ws.length := by omega
      clear hform
      go_enter Tryz.func53, Tryz.ntmps53
      go_wp2_with fail
      go_quiet (fail)
      go_wp2_with fail
      go_ret
      exact ⟨⟨_, _, _, rfl, (HR.out.keep (below_drewN (Below.refl _ _) _)).setB, .inr ⟨(fun _ y hy => by rw [List.getElem?_eq_none (by omega)] at hy; cases hy), rfl, rfl, rfl⟩⟩, grown_trans (grown_of_below (below_drewN (Below.refl _ _) _) _) (grown_set _ _ _ _)⟩

def sColon : ByteArray := ⟨#[58]⟩
def sInt : ByteArray := ⟨#[105, 110, 116]⟩
def sBool : ByteArray := ⟨#[98, 111, 111, 108]⟩
/-- What typ makes of the state (i, b), and the type that it returns. -/
def TypS (ws : List Wd) (i : Nat) (b : Bool) (t : Int) (i' : Nat) (b' : Bool) : Prop :=
  ∃ i1 b1, WantS ws sColon i b i1 b1 ∧ ((seeB ws i1 b1 sInt = true ∧ t = 1 ∧ i' = i1 + 1 ∧ b' = b1) ∨ (seeB ws i1 b1 sInt = false ∧ seeB ws i1 b1 sBool = true ∧ t = 2 ∧ i' = i1 + 1 ∧ b' = b1) ∨ (seeB ws i1 b1 sInt = false ∧ seeB ws i1 b1 sBool = false ∧ t = 0 ∧ i' = i1 ∧ b' = true))
set_option maxHeartbeats 1000000 in
theorem typ_r {w : World} {rb : Nat} {v : Value} {ws : List Wd} {i en : Nat} {b : Bool} (h : Rd w rb v ws i en b) :
    Calls Tryz.prog 55 #[.pointer (some ⟨rb, 0, none⟩)] w fun e w' => (∃ (t : Int) (i' : Nat) (b' : Bool), e = .returned (.int .i64 t) ∧ Rd w' rb v ws i' en b' ∧ TypS ws i b t i' b') ∧ w.grownBy w' (some rb) := by
  have HR := Lib.hid h; clear h
  go_enter Tryz.func55, Tryz.ntmps55
  go_wp2_with fail
  refine (want_r sColon HR.out).mono ?_
  rintro e w1 ⟨rfl, ⟨i1, b1, h1, hs1⟩, hg1⟩
  have HR1 := Lib.hid h1; have HS1 := Lib.hid hs1; have HG1 := Lib.hid hg1
  clear h1 hs1 hg1
  obtain ⟨ti, hti⟩ : ∃ t, seeB ws i1 b1 sInt = t := ⟨_, rfl⟩
  have HI := Lib.hid hti; clear hti
  go_wp2_with fail
  refine (take_r sInt ti HR1.out HI.out).mono ?_
  rintro e w2 ⟨rfl, h2, hg2⟩
  have HR2 := Lib.hid h2; have HG2 := Lib.hid (grown_trans HG1.out hg2)
  clear h2 hg2
  cases ti with
  | true =>
    go_wp2_with fail
    go_ret
    exact ⟨⟨_, _, _, rfl, HR2.out, i1, b1, HS1.out, .inl ⟨HI.out, rfl, rfl, rfl⟩⟩, HG2.out⟩
  | false =>
    obtain ⟨tb, htb⟩ : ∃ t, seeB ws i1 b1 sBool = t := ⟨_, rfl⟩
    have HB := Lib.hid htb; clear htb
    go_wp2_with fail
    refine (take_r sBool tb HR2.out HB.out).mono ?_
    rintro e w3 ⟨rfl, h3, hg3⟩
    have HR3 := Lib.hid h3; have HG3 := Lib.hid (grown_trans HG2.out hg3)
    clear h3 hg3
    cases tb with
    | true =>
      go_wp2_with fail
      go_ret
      exact ⟨⟨_, _, _, rfl, HR3.out, i1, b1, HS1.out, .inr (.inl ⟨HI.out, HB.out, rfl, rfl, rfl⟩)⟩, HG3.out⟩
    | false =>
      have c3 := HR3.out.c3
      have hf := HR3.out.fz 3
      go_wp2_with fail
      go_ret
      exact ⟨⟨_, _, _, rfl, HR3.out.setB, i1, b1, HS1.out, .inr (.inr ⟨HI.out, HB.out, rfl, rfl, rfl⟩)⟩, grown_trans HG3.out (grown_set _ _ _ _)⟩
end Go.Proofs.YtmngofgminlloaaGreatDoor

namespace Go.Proofs.YtmngofgminlloaaGreatDoor
open Go.RowKit Tw

set_option maxHeartbeats 32000000 in
set_option maxRecDepth 100000 in
theorem iparse62 (t : ByteArray) (hne : t.size ≠ 0) (hmax : t.size ≤ 4000) (w : World) :
    Calls Tryz.prog 127 #[.string t, .int .i64 10, .int .i64 62] w fun e w' => e = .returned (Lib.uintTupleM 252 4611686018427387903 (Lib.parseUintM 4611686018427387903 0 t.data.toList)) ∧ w' = Lib.bytesWorld w 5 t := by
  have hemp : t.toList.isEmpty = false := by
    rw [← decide_eq_emptyBytes]
    exact decide_eq_false (fun h => hne (by rw [h]; rfl))
  have hcv := Lib.run_convert_string_bytes (P := Tryz.prog) w 9 50 5 t (u := .string) Tryz.underlying9 Tryz.underlying50 Tryz.underlying5
  have hB : ∀ j, j < t.size → (Lib.bytesWorld w 5 t).cell? ⟨w.heap.size, j, none⟩ = some (.int .u8 (t.data.toList.getD j 0).toNat) := fun j hj => Lib.bytesWorld_cell w 5 t j hj
  obtain ⟨W1, hW1⟩ : ∃ W1, W1 = Lib.bytesWorld w 5 t := ⟨_, rfl⟩
  rw [← hW1] at hcv hB ⊢
  clear hW1
  obtain ⟨bs, hL⟩ : ∃ bs, bs = t.data.toList := ⟨_, rfl⟩
  have hLn : bs.length = t.size := by rw [hL, Lib.size_eq]
  rw [← hL] at hB ⊢
  clear hL
  have hmv : IntKind.u64.wrap (IntKind.u64.wrap 4611686018427387904 - 1) = 4611686018427387903 := by
    rw [IntKind.wrap_u64, IntKind.wrap_u64]
    decide
  go_enter Tryz.func127, Tryz.ntmps127
  go_wp2
  go_loop [12, 13, 101] (fun vu vn vi => ∃ (k acc : Nat) (a : Int), vu = .bool false ∧ vn = .int .u64 a ∧ vi = .int .i64 k ∧ k ≤ t.size ∧ Hid (a = (acc : Int) ∧ acc ≤ 4611686018427387903 ∧ Lib.parseUintM 4611686018427387903 0 bs = Lib.parseUintM 4611686018427387903 acc (bs.drop k)))
    (fun _ _ vi => t.size - (intOf vi).toNat)
  case atStart => exact ⟨0, 0, 0, rfl, rfl, rfl, by omega, rfl, by omega, rfl⟩
  case round =>
    obtain ⟨k, acc, a, rfl, rfl, rfl, hk, hh⟩ := hrel
    obtain ⟨ha, hacc, hdec⟩ := hh.out
    clear hh
    have a0 : 0 ≤ a := by omega
    have a1 : a ≤ 4611686018427387903 := by omega
    by_cases hkn : k < t.size
    · have hc := hB k hkn
      have hdrop : bs.drop k = bs[k]'(by omega) :: bs.drop (k + 1) := List.drop_eq_getElem_cons (by omega)
      have hget : bs.getD k 0 = bs[k]'(by omega) := by simp [List.getD, List.getElem?_eq_getElem (show k < bs.length by omega)]
      rw [hdrop] at hdec
      rw [hget] at hc
      generalize bs[k]'(by omega) = c at hc hdec
      have hc256 : c.toNat < 256 := c.toNat_lt
      clear hB hdrop hget
      by_cases hdig : 48 ≤ c.toNat ∧ c.toNat ≤ 57
      · obtain ⟨hd0, hd1⟩ := hdig
        by_cases hcut : 1844674407370955162 ≤ acc
        · have hF : Lib.parseUintM 4611686018427387903 acc (c :: bs.drop (k + 1)) = .range := by simp [Lib.parseUintM, hd0, hd1, hcut]
          rw [hF] at hdec
          have icut : 1844674407370955162 ≤ a := by omega
          clear hcut hacc hF ha
          go_wp2
          go_ret2
          exact ⟨rfl, rfl⟩
        by_cases hov : 4611686018427387903 < acc * 10 + (c.toNat - 48)
        · have hF : Lib.parseUintM 4611686018427387903 acc (c :: bs.drop (k + 1)) = .range := by simp [Lib.parseUintM, hd0, hd1, hcut, hov]
          rw [hF] at hdec
          have icut : a < 1844674407370955162 := by omega
          by_cases hov2 : 18446744073709551616 ≤ acc * 10 + (c.toNat - 48)
          · have iov : 18446744073709551616 ≤ a * 10 + ((c.toNat : Int) - 48) := by omega
            have hwr : IntKind.u64.wrap (a * 10 + ((c.toNat : Int) - 48)) = a * 10 + ((c.toNat : Int) - 48) - 18446744073709551616 := by
              rw [IntKind.wrap_u64]
              omega
            clear hcut hacc hF hov hov2 ha
            go_wp2
            go_ret2
            exact ⟨rfl, rfl⟩
          · have iov : 4611686018427387903 < a * 10 + ((c.toNat : Int) - 48) := by omega
            have iov2 : a * 10 + ((c.toNat : Int) - 48) < 18446744073709551616 := by omega
            clear hcut hacc hF hov hov2 ha
            go_wp2
            go_ret2
            exact ⟨rfl, rfl⟩
        · have hF : Lib.parseUintM 4611686018427387903 acc (c :: bs.drop (k + 1)) = Lib.parseUintM 4611686018427387903 (acc * 10 + (c.toNat - 48)) (bs.drop (k + 1)) := by simp [Lib.parseUintM, hd0, hd1, hcut, hov]
          have HN : Hid (a * 10 + ((c.toNat : Int) - 48) = ((acc * 10 + (c.toNat - 48) : Nat) : Int) ∧ acc * 10 + (c.toNat - 48) ≤ 4611686018427387903 ∧ Lib.parseUintM 4611686018427387903 0 bs = Lib.parseUintM 4611686018427387903 (acc * 10 + (c.toNat - 48)) (bs.drop (k + 1))) := Lib.hid ⟨by omega, by omega, hdec.trans hF⟩
          have iov : a * 10 + ((c.toNat : Int) - 48) ≤ 4611686018427387903 := by omega
          clear hcut hacc hF hov hdec ha
          go_wp2
          refine ⟨⟨k + 1, acc * 10 + (c.toNat - 48), a * 10 + ((c.toNat : Int) - 48), rfl, (by first | rfl | (congr 1; omega)), (by first | rfl | (congr 1; omega)), by omega, HN⟩, by simp [intOf]; omega⟩
      · have hF : Lib.parseUintM 4611686018427387903 acc (c :: bs.drop (k + 1)) = .syntax := by simp [Lib.parseUintM, hdig]
        rw [hF] at hdec
        clear hacc hF ha
        have hv0 := bits_lo_u8 .or (c.toNat : Int) 32
        have hv1 := bits_hi_u8 .or (c.toNat : Int) 32
        have hu0 := bits_lo_u8 .or 95 32
        have hu1 := bits_hi_u8 .or 95 32
        go_wp2_with (go_at_call 178; refine (Tryz.internal_strconv_lower _ _).mono ?_; rintro e w' ⟨rfl, rfl⟩)
        all_goals go_ret2
        all_goals first | exact ⟨rfl, rfl⟩ | exact ⟨by rw [hdec]; rfl, rfl⟩
    · have hkk : k = t.size := by omega
      subst hkk
      have hF : Lib.parseUintM 4611686018427387903 acc (bs.drop t.size) = .ok acc := by rw [List.drop_eq_nil_of_le (by omega)]; rfl
      rw [hF] at hdec
      subst ha
      clear hacc hF a0 a1
      go_wp2
      go_ret2
      exact ⟨rfl, rfl⟩
end Go.Proofs.YtmngofgminlloaaGreatDoor

namespace Go.Proofs.YtmngofgminlloaaGreatDoor
open Go.RowKit Tw Go.Shelf Go.Sort

theorem below_grow (w : World) (k : Nat) (os : Array Obj) : Below w.heap.size w (grow (w.drewN k) os) := by
  refine ⟨rfl, rfl, rfl, by simp [grow, World.drewN], fun i hi => ?_⟩
  simp only [grow]
  rw [Array.getElem?_append_left (by simpa using hi)]
  simp [World.drewN]

set_option maxHeartbeats 6400000 in
set_option maxRecDepth 100000 in
theorem ifmtU (u : Nat) (hu64 : u < 18446744073709551616) (w : World) (htab : Lib.TabIs Tryz.prog w "internal/strconv.uint64pow10" .u64 Lib.pow10Tab) :
    Calls Tryz.prog 129 #[.int .u64 u, .int .i64 10] w fun e w' => e = .returned (.string ⟨(Lib.decDigits u).toArray⟩) ∧ Below w.heap.size w w' := by
  by_cases hs : u < 100
  · go_enter Tryz.func129, Tryz.ntmps129
    go_wp2_with (go_at_call 184; refine (Tryz.internal_strconv_small u hs _).mono ?_; rintro e w' ⟨rfl, rfl⟩)
    go_ret
    exact ⟨rfl, Below.refl _ _⟩
  · have hu1 : 1 ≤ u := by omega
    have hnd20 : Lib.nDigits u ≤ 20 := by have := Lib.numDigits_eq u hu1 hu64; split at this <;> omega
    have hal : Tryz.prog.arrayLen 258 = 24 := by kernel_rfl
    have hsl1 : ∀ W, (Instr.sliceAt 258 (.pointer (some ⟨w.heap.size, 0, none⟩)) none (some (.int .i64 (Lib.nDigits u : Int))) none).run Tryz.prog W = .ok (.slice (some ⟨w.heap.size, 0, none⟩) (Lib.nDigits u) 24) W := fun W => by
      rw [run_sliceAt_array_h W 258 ⟨w.heap.size, 0, none⟩ (by simp [Program.arrayLen, Program.elem, Tryz.underlying258]) .i64 (Lib.nDigits u : Int) (by omega) (by rw [hal]; omega)]
      go_simp
    have hH0 := Lib.holds_zero0 w 258 (Lib.nDigits u) (by omega)
    have hfmt := Tryz.internal_strconv_formatBase10 w.heap.size 0 24 u (Array.replicate (Lib.nDigits u) 0) (w.alloc (.cells Lib.zeros24 258)) hH0 (by rw [Array.size_replicate]; exact Lib.lt_pow_nDigits u) hu64 (by rw [Array.size_replicate]; omega)
    rw [Array.size_replicate] at hfmt
    have HH0 := Lib.hid hH0
    clear hH0 hal
    go_enter Tryz.func129, Tryz.ntmps129
    go_wp2_with (go_at_call 185; refine (Tryz.internal_strconv_numDigits u hu1 hu64 _ (Lib.tabIs_alloc htab _)).mono ?_; rintro e w' ⟨rfl, rfl⟩)
    go_at_call 186
    refine hfmt.mono ?_
    rintro e w' ⟨rfl, k, v', dk, rfl, hF⟩
    have hcv : (convert 50 9 (.slice (some ⟨w.heap.size, 0, none⟩) (Lib.nDigits u) 24)).run Tryz.prog ((putRow (fun (b : UInt8) => Value.int .u8 (b.toNat : Int)) (w.alloc (.cells Lib.zeros24 258)) w.heap.size 0 dk).drewN k) = .ok (.string ⟨(Lib.decDigits u).toArray⟩) ((putRow (fun (b : UInt8) => Value.int .u8 (b.toNat : Int)) (w.alloc (.cells Lib.zeros24 258)) w.heap.size 0 dk).drewN k) := by
      have h := run_convert_bytes_back (P := Tryz.prog) ((putRow (fun (b : UInt8) => Value.int .u8 (b.toNat : Int)) (w.alloc (.cells Lib.zeros24 258)) w.heap.size 0 dk).drewN k) 50 9 5 ⟨w.heap.size, 0, none⟩ 24 (Lib.decDigits u) Tryz.underlying50 Tryz.underlying5 Tryz.underlying9 (fun j hj => by
        rw [Lib.row_is_numeral hF j hj, Lib.add_plain, World.cell?_drewN]
        exact cell?_putRow (fun (b : UInt8) => Value.int .u8 (b.toNat : Int)) _ w.heap.size 0 _ dk HH0.out (by rw [hF.size, Array.size_replicate]) j (by rw [hF.size]; rw [Lib.decDigits_length] at hj; exact hj))
      rw [Lib.decDigits_length] at h
      exact h
    go_wp2
    go_ret
    refine ⟨rfl, ?_⟩
    rw [alloc_eq_grow]
    obtain ⟨os', _, e⟩ := putRow_grow_new (fun (b : UInt8) => Value.int .u8 (b.toNat : Int)) w #[.cells Lib.zeros24 258] w.heap.size 0 dk (Nat.le_refl _)
    rw [e]
    exact below_grow w k os'

set_option maxHeartbeats 400000 in
theorem fmtU (u : Nat) (hu64 : u < 18446744073709551616) (w : World) (htab : Lib.TabIs Tryz.prog w "internal/strconv.uint64pow10" .u64 Lib.pow10Tab) :
    Calls Tryz.prog 77 #[.int .u64 u, .int .i64 10] w fun e w' => e = .returned (.string ⟨(Lib.decDigits u).toArray⟩) ∧ Below w.heap.size w w' := by
  have H := Lib.hid (ifmtU u hu64 w htab)
  go_enter Tryz.func77, Tryz.ntmps77
  go_wp2_with fail
  refine H.out.mono ?_
  rintro e w' ⟨rfl, hb⟩
  go_wp2_with fail
  go_ret
  exact ⟨rfl, hb⟩

theorem parseM_le (M : Nat) (l : Bs) : ∀ (a u : Nat), Lib.parseUintM M a l = .ok u → a ≤ M → u ≤ M := by
  induction l with
  | nil => intro a u h ha; simp only [Lib.parseUintM] at h; cases h; exact ha
  | cons c l ih =>
    intro a u h ha
    simp only [Lib.parseUintM] at h
    repeat' (split at h)
    all_goals first | (cases h; done) | exact ih _ _ h (by omega)

/-- Nil, or some error. -/
def ErrVal (v : Value) : Prop := v = .nilIface ∨ ∃ te pe, v = .iface te pe
/-- What is known of the two error variables. -/
def ErrVars (w : World) : Prop := (∃ v, w.cell? ⟨3, 0, none⟩ = some v ∧ ErrVal v) ∧ (∃ v, w.cell? ⟨4, 0, none⟩ = some v ∧ ErrVal v)

set_option maxHeartbeats 4000000 in
set_option maxRecDepth 100000 in
/-- strconv.ParseUint(s, 10, 62): the number and nil; or some number and an error. -/
theorem parse62 (s : ByteArray) (hne : s.size ≠ 0) (hmax : s.size ≤ 4000) (w : World) (hv : ErrVars w) (h5 : 5 < w.heap.size) :
    Calls Tryz.prog 76 #[.string s, .int .i64 10, .int .i64 62] w fun e w' => (∃ (u : Nat) (ev : Value), e = .returned (.tuple #[.int .u64 u, ev]) ∧ u < 18446744073709551616 ∧
      ((Lib.parseUintM 4611686018427387903 0 s.data.toList = .ok u ∧ ev = .nilIface) ∨ ((∀ n, Lib.parseUintM 4611686018427387903 0 s.data.toList ≠ .ok n) ∧ ∃ te pe, ev = .iface te (.pointer pe)))) ∧ Below w.heap.size w w' := by
  obtain ⟨⟨ev1, hv1, he1⟩, ⟨ev2, hv2, he2⟩⟩ := hv
  have hI := iparse62 s hne hmax w
  have hbw := Lib.bytesWorld_below w 5 s
  cases hp : Lib.parseUintM 4611686018427387903 0 s.data.toList with
  | ok u =>
    have hu : u < 18446744073709551616 := by
      have := parseM_le _ _ _ _ hp (Nat.zero_le _); omega
    rw [hp] at hI
    have hI : Calls Tryz.prog 127 #[.string s, .int .i64 10, .int .i64 62] w fun e w' => e = .returned (.tuple #[.int .u64 u, .nilIface]) ∧ w' = Lib.bytesWorld w 5 s := hI
    have HI := Lib.hid hI; have HU := Lib.hid hu; have HB := Lib.hid hbw
    clear hI hp hu hbw hv1 hv2 he1 he2
    go_enter Tryz.func76, Tryz.ntmps76
    go_wp2_with fail
    refine HI.out.mono ?_
    rintro e W1 ⟨rfl, hW⟩
    have HW := Lib.hid hW; clear hW
    go_wp2
    go_ret2
    exact ⟨⟨u, _, rfl, HU.out, .inl ⟨rfl, rfl⟩⟩, by rw [HW.out]; exact HB.out⟩
  | range =>
    rw [hp] at hI
    have hI : Calls Tryz.prog 127 #[.string s, .int .i64 10, .int .i64 62] w fun e w' => e = .returned (.tuple #[.int .u64 4611686018427387903, .iface 252 (.int .i64 1)]) ∧ w' = Lib.bytesWorld w 5 s := hI
    have HI := Lib.hid hI; have HB := Lib.hid hbw
    have HV : ∀ W, Below w.heap.size w W → W.cell? ⟨4, 0, none⟩ = some ev2 := fun W h => (h.cell (p := ⟨4, 0, none⟩) (by show 4 < _; omega)).trans hv2
    have HV := Lib.hid HV
    clear hI hp hbw hv1 hv2
    go_enter Tryz.func76, Tryz.ntmps76
    go_wp2_with fail
    refine HI.out.mono ?_
    rintro e W1 ⟨rfl, hW⟩
    have HB1 : Hid (Below w.heap.size w W1) := Lib.hid (by rw [hW]; exact HB.out)
    clear hW
    go_wp2_with fail
    refine (Tryz.strconv_toError_range ⟨#[80, 97, 114, 115, 101, 85, 105, 110, 116]⟩ s 10 62 ev2 _ (by omega) (HV.out _ HB1.out) he2).mono ?_
    rintro e W2 ⟨N, rfl, h1, h2, h3⟩
    have HB2 : Hid (Below w.heap.size w W2) := Lib.hid (HB1.out.trans (h3.mono HB1.out.size))
    clear h1 h2 h3
    go_wp2
    go_ret2
    exact ⟨⟨4611686018427387903, _, rfl, by omega, .inr ⟨(fun n h => by cases h), _, _, rfl⟩⟩, HB2.out⟩
  | _ =>
    rw [hp] at hI
    have hI : Calls Tryz.prog 127 #[.string s, .int .i64 10, .int .i64 62] w fun e w' => e = .returned (.tuple #[.int .u64 0, .iface 252 (.int .i64 2)]) ∧ w' = Lib.bytesWorld w 5 s := hI
    have HI := Lib.hid hI; have HB := Lib.hid hbw
    have HV : ∀ W, Below w.heap.size w W → W.cell? ⟨3, 0, none⟩ = some ev1 := fun W h => (h.cell (p := ⟨3, 0, none⟩) (by show 3 < _; omega)).trans hv1
    have HV := Lib.hid HV
    clear hI hp hbw hv1 hv2
    go_enter Tryz.func76, Tryz.ntmps76
    go_wp2_with fail
    refine HI.out.mono ?_
    rintro e W1 ⟨rfl, hW⟩
    have HB1 : Hid (Below w.heap.size w W1) := Lib.hid (by rw [hW]; exact HB.out)
    clear hW
    go_wp2_with fail
    refine (Tryz.strconv_toError_syntax ⟨#[80, 97, 114, 115, 101, 85, 105, 110, 116]⟩ s 10 62 ev1 _ (by omega) (HV.out _ HB1.out) he1).mono ?_
    rintro e W2 ⟨N, rfl, h1, h2, h3⟩
    have HB2 : Hid (Below w.heap.size w W2) := Lib.hid (HB1.out.trans (h3.mono HB1.out.size))
    clear h1 h2 h3
    go_wp2
    go_ret2
    exact ⟨⟨0, _, rfl, by omega, .inr ⟨(fun n h => by cases h), _, _, rfl⟩⟩, HB2.out⟩
end Go.Proofs.YtmngofgminlloaaGreatDoor

namespace Go.Proofs.YtmngofgminlloaaGreatDoor
open Go.RowKit Tw Go.Shelf

def setA : Bs := [97, 98, 99, 100, 101, 102, 103, 104, 105, 106, 107, 108, 109, 110, 111, 112, 113, 114, 115, 116, 117, 118, 119, 120, 121, 122, 95, 48, 49, 50, 51, 52, 53, 54, 55, 56, 57]
def setL : Bs := [97, 98, 99, 100, 101, 102, 103, 104, 105, 106, 107, 108, 109, 110, 111, 112, 113, 114, 115, 116, 117, 118, 119, 120, 121, 122, 95]
def setD : Bs := [48, 49, 50, 51, 52, 53, 54, 55, 56, 57]
def setS : Bs := [32, 10, 9]
theorem set_iff (l : Bs) (p : UInt8 → Bool) (h : ∀ n : Fin 256, l.contains (UInt8.ofFin n) = p (UInt8.ofFin n)) (c : UInt8) : l.contains c = p c := by
  have := h c.toFin
  simpa using this
theorem setA_eq (c : UInt8) : setA.contains c = isA c := set_iff _ _ (by decide +kernel) c
theorem setL_eq (c : UInt8) : setL.contains c = isL c := set_iff _ _ (by decide +kernel) c
theorem setD_eq (c : UInt8) : setD.contains c = isD c := set_iff _ _ (by decide +kernel) c
theorem setS_eq (c : UInt8) : setS.contains c = isSp c := set_iff _ _ (by decide +kernel) c

theorem dropWhile_nil_iff (p : UInt8 → Bool) (l : Bs) : l.dropWhile p = [] ↔ l.all p = true := by
  induction l with
  | nil => simp
  | cons c l ih =>
    cases h : p c
    · simp [h]
    · simp [h, ih]
theorem trimS_nil (l cs : Bs) : (Lib.trimS l cs).isEmpty = l.all (cs.contains ·) := by
  rw [Bool.eq_iff_iff, List.isEmpty_iff]
  unfold Lib.trimS Lib.trimLeftS Lib.trimRightS
  rw [dropWhile_nil_iff]
  constructor
  · intro h
    rw [List.all_reverse] at h
    by_cases hd : l.reverse.dropWhile (cs.contains ·) = []
    · rw [dropWhile_nil_iff, List.all_reverse] at hd; exact hd
    · exfalso
      rcases he : l.reverse.dropWhile (cs.contains ·) with _ | ⟨a, r⟩
      · exact hd he
      · have h1 := List.head_dropWhile_not (fun x => cs.contains x) (l := l.reverse) (by rw [he]; simp)
        simp only [he, List.head_cons] at h1
        rw [he] at h
        simp only [List.all_cons, Bool.and_eq_true] at h
        rw [h.1] at h1
        simp at h1
  · intro h
    have : l.reverse.dropWhile (cs.contains ·) = [] := by rw [dropWhile_nil_iff, List.all_reverse]; exact h
    rw [this]; rfl

theorem trim_c (s cs : ByteArray) (w : World) (hs : s.size ≤ 9223372036854775807) (hcs : cs.size < 4294967281) (ha : ∀ (j : Nat) b, cs.data.toList[j]? = some b → b.toNat < 128) :
    Calls Tryz.prog 125 #[.string s, .string cs] w fun e w' => e = .returned (.string ⟨(Lib.trimS s.data.toList cs.data.toList).toArray⟩) ∧ Below w.heap.size w w' :=
  Any.strings_Trim_laid Tryz.lays160 (by kernel_rfl) s cs w hs hcs ha
theorem trimLeft_c (s cs : ByteArray) (w : World) (hcs : cs.size < 4294967281) (ha : ∀ (j : Nat) b, cs.data.toList[j]? = some b → b.toNat < 128) :
    Calls Tryz.prog 73 #[.string s, .string cs] w fun e w' => e = .returned (.string ⟨(Lib.trimLeftS s.data.toList cs.data.toList).toArray⟩) ∧ Below w.heap.size w w' :=
  Any.strings_TrimLeft_laid Tryz.lays161 (by kernel_rfl) s cs w hcs ha

set_option maxHeartbeats 400000 in
theorem in_c (s cs : ByteArray) (t : Bool) (w : World) (hs : s.size ≤ 9223372036854775807) (hcs : cs.size < 4294967281) (ha : ∀ (j : Nat) b, cs.data.toList[j]? = some b → b.toNat < 128)
    (ht : s.data.toList.all (cs.data.toList.contains ·) = t) :
    Calls Tryz.prog 74 #[.string s, .string cs] w fun e w' => e = .returned (.bool t) ∧ Below w.heap.size w w' := by
  have H := Lib.hid (trim_c s cs w hs hcs ha)
  have HT : Hid ((Lib.trimS s.data.toList cs.data.toList).isEmpty = t) := Lib.hid (by rw [trimS_nil]; exact ht)
  clear ha ht hcs
  go_enter Tryz.func74, Tryz.ntmps74
  go_wp2_with fail
  refine H.out.mono ?_
  rintro e w' ⟨rfl, hb⟩
  have ht := HT.out
  generalize Lib.trimS s.data.toList cs.data.toList = y at ht ⊢
  go_wp2_with fail
  go_ret
  exact ⟨rfl, hb⟩

theorem all_ext (s : ByteArray) (k : Nat) : (s.extract k s.size).data.toList = s.data.toList.drop k := by
  rw [data_ext, List.take_of_length_le (by simp)]
theorem one_ext (s : ByteArray) (k : Nat) (h : k < s.size) : ((s.extract k s.size).extract 0 1).data.toList = [s[k]] := by
  rw [data_ext, all_ext, List.drop_zero, drop_head s k h]; rfl
theorem cut_ext (s : ByteArray) (k m : Nat) : ((s.extract k s.size).extract 0 m).data.toList = (s.data.toList.drop k).take m := by
  rw [data_ext, all_ext, List.drop_zero]; rfl
theorem cut_eq (s : ByteArray) (k m : Nat) : (s.extract k s.size).extract 0 m = s.extract k (k + m) := by
  apply ByteArray.ext
  apply Array.ext'
  rw [cut_ext, data_ext]; congr 1; omega

theorem in_one (s : ByteArray) (k : Nat) (h : k < s.size) (cs : ByteArray) (p : UInt8 → Bool) (t : Bool) (w : World) (hcs : cs.size < 4294967281) (ha : ∀ (j : Nat) b, cs.data.toList[j]? = some b → b.toNat < 128)
    (hp : ∀ c, cs.data.toList.contains c = p c) (ht : p s[k] = t) :
    Calls Tryz.prog 74 #[.string ((s.extract k s.size).extract 0 1), .string cs] w fun e w' => e = .returned (.bool t) ∧ Below w.heap.size w w' :=
  in_c _ cs t w (by simp; omega) hcs ha (by rw [one_ext s k h]; simp only [List.all_cons, List.all_nil, Bool.and_true]; exact (hp _).trans ht)
theorem in_S (s : ByteArray) (k : Nat) (h : k < s.size) (t : Bool) (w : World) (ht : isSp s[k] = t) :
    Calls Tryz.prog 74 #[.string ((s.extract k s.size).extract 0 1), .string ⟨#[32, 10, 9]⟩] w fun e w' => e = .returned (.bool t) ∧ Below w.heap.size w w' :=
  in_one s k h _ isSp t w (by decide) (ascii_of_all (by decide)) setS_eq ht
theorem in_D (s : ByteArray) (k : Nat) (h : k < s.size) (t : Bool) (w : World) (ht : isD s[k] = t) :
    Calls Tryz.prog 74 #[.string ((s.extract k s.size).extract 0 1), .string ⟨#[48, 49, 50, 51, 52, 53, 54, 55, 56, 57]⟩] w fun e w' => e = .returned (.bool t) ∧ Below w.heap.size w w' :=
  in_one s k h _ isD t w (by decide) (ascii_of_all (by decide)) setD_eq ht
theorem len_drop (p : UInt8 → Bool) (l : Bs) : (l.dropWhile p).length + runLen p l = l.length := by
  unfold runLen
  induction l with
  | nil => rfl
  | cons c l ih => cases h : p c <;> simp [h]; omega
theorem drop_congr (p q : UInt8 → Bool) (h : ∀ c, p c = q c) (l : Bs) : l.dropWhile p = l.dropWhile q := by
  have : p = q := funext h
  rw [this]
/-- strings.TrimLeft at letters and digits. -/
theorem trimA (s : ByteArray) (k : Nat) (w : World) :
    Calls Tryz.prog 73 #[.string (s.extract k s.size), .string ⟨#[97, 98, 99, 100, 101, 102, 103, 104, 105, 106, 107, 108, 109, 110, 111, 112, 113, 114, 115, 116, 117, 118, 119, 120, 121, 122, 95, 48, 49, 50, 51, 52, 53, 54, 55, 56, 57]⟩] w fun e w' => (∃ y : ByteArray, e = .returned (.string y) ∧ y.size + runLen isA (s.data.toList.drop k) = s.size - k) ∧ Below w.heap.size w w' := by
  refine (trimLeft_c _ _ w (by decide) (ascii_of_all (by decide))).mono ?_
  rintro e w' ⟨rfl, hb⟩
  refine ⟨⟨_, rfl, ?_⟩, hb⟩
  have h1 : (Lib.trimLeftS (s.extract k s.size).data.toList setA) = (s.data.toList.drop k).dropWhile isA := by
    rw [all_ext]; exact drop_congr _ _ setA_eq _
  have h2 := len_drop isA (s.data.toList.drop k)
  rw [← h1, List.length_drop, size_len] at h2
  exact h2
theorem key_c (x : ByteArray) (t : Bool) (w : World) (hx : x.data.toList.all isA = true) (ht : isKey x.data.toList = t) (hm : MaxLenAt w) :
    Calls Tryz.prog 78 #[.string ⟨#[32, 102, 117, 110, 32, 108, 101, 116, 32, 105, 102, 32, 101, 108, 115, 101, 32, 119, 104, 105, 108, 101, 32, 114, 101, 116, 117, 114, 110, 32, 121, 105, 101, 108, 100, 32, 116, 114, 117, 101, 32, 102, 97, 108, 115, 101, 32, 105, 110, 116, 32, 98, 111, 111, 108, 32]⟩, .string (⟨#[32]⟩ ++ x ++ ⟨#[32]⟩)] w fun e w' => e = .returned (.bool t) ∧ w = w' := by
  refine (contains_sp _ x w (by decide) hm).mono ?_
  rintro e w' ⟨rfl, rfl⟩
  refine ⟨?_, rfl⟩
  rw [← ht, ← keys_contains _ hx]
  rfl
end Go.Proofs.YtmngofgminlloaaGreatDoor

namespace Go.Proofs.YtmngofgminlloaaGreatDoor
namespace Tw

def dv (a : Nat) (c : UInt8) : Nat := a * 10 + (c.toNat - 48)
theorem isD_bd (c : UInt8) (h : isD c = true) : 48 ≤ c.toNat ∧ c.toNat ≤ 57 := by simpa [isD] using h
theorem parse_ok (l : Bs) : ∀ a, l.all isD = true → (a + 1) * 10 ^ l.length ≤ 10 ^ 12 → Lib.parseUintM 4611686018427387903 a l = .ok (l.foldl dv a) := by
  induction l with
  | nil => intro a _ _; rfl
  | cons c l ih =>
    intro a h hb
    simp only [List.all_cons, Bool.and_eq_true] at h
    obtain ⟨h0, h1⟩ := isD_bd c h.1
    have hp : 1 ≤ 10 ^ l.length := Nat.pos_of_ne_zero (by simp)
    have hb2 : (a + 1) * 10 * 10 ^ l.length ≤ 10 ^ 12 := by
      rw [List.length_cons, Nat.pow_succ] at hb
      calc (a + 1) * 10 * 10 ^ l.length = (a + 1) * (10 ^ l.length * 10) := by rw [Nat.mul_assoc, Nat.mul_comm 10]
        _ ≤ _ := hb
    have hle : (a + 1) * 10 ≤ 10 ^ 12 := Nat.le_trans (Nat.le_mul_of_pos_right _ hp) hb2
    have e12 : (10 : Nat) ^ 12 = 1000000000000 := by decide
    rw [e12] at hle
    have h2 : ¬ 1844674407370955162 ≤ a := by omega
    have h3 : ¬ 4611686018427387903 < a * 10 + (c.toNat - 48) := by omega
    simp only [Lib.parseUintM, h0, h1, and_self, if_true, h2, h3, if_false, List.foldl_cons]
    refine ih _ h.2 (Nat.le_trans (Nat.mul_le_mul_right _ ?_) hb2)
    omega
theorem fold_ge (l : Bs) : ∀ a, a ≤ l.foldl dv a := by
  induction l with
  | nil => intro a; exact Nat.le_refl _
  | cons c l ih => intro a; exact Nat.le_trans (by unfold dv; omega) (ih (dv a c))
theorem fold_pos (l : Bs) (h : l ≠ []) (hd : l.all isD = true) (hh : l.headD 0 ≠ 48) : 1 ≤ l.foldl dv 0 := by
  cases l with
  | nil => exact absurd rfl h
  | cons c l =>
    simp only [List.all_cons, Bool.and_eq_true] at hd
    obtain ⟨h0, h1⟩ := isD_bd c hd.1
    have h2 : c.toNat ≠ 48 := fun e => hh (UInt8.toNat_inj.1 e)
    refine Nat.le_trans ?_ (fold_ge l (dv 0 c))
    unfold dv; omega
theorem ofNat_dig (c : UInt8) (h : isD c = true) : UInt8.ofNat (48 + (c.toNat - 48)) = c := by
  obtain ⟨h0, h1⟩ := isD_bd c h
  rw [show 48 + (c.toNat - 48) = c.toNat by omega]; simp
theorem dec_fold : ∀ (n : Nat) (l : Bs), l.length = n → l ≠ [] → l.all isD = true → (l.length = 1 ∨ l.headD 0 ≠ 48) → Lib.decDigits (l.foldl dv 0) = l := by
  intro n
  induction n with
  | zero => intro l h1 h2; exact absurd (List.eq_nil_of_length_eq_zero h1) h2
  | succ n ih =>
    intro l hl hne hd hh
    obtain ⟨l', c, rfl⟩ : ∃ l' c, l = l' ++ [c] := ⟨l.dropLast, l.getLast hne, (List.dropLast_concat_getLast hne).symm⟩
    rw [List.all_append] at hd
    simp only [List.all_cons, List.all_nil, Bool.and_true, Bool.and_eq_true] at hd
    obtain ⟨h0, h1⟩ := isD_bd c hd.2
    rw [List.foldl_append]
    simp only [List.foldl_cons, List.foldl_nil]
    by_cases hn : l' = []
    · subst hn
      simp only [List.foldl_nil, List.nil_append, dv]
      rw [Lib.decDigits_one (by omega), Nat.zero_mul, Nat.zero_add, ofNat_dig c hd.2]
    · have hl' : l'.length = n := by simpa using hl
      have hpos : 0 < l'.length := List.length_pos_iff.2 hn
      have hh' : l'.headD 0 ≠ 48 := by
        rcases hh with hh | hh
        · rw [List.length_append, List.length_singleton] at hh; omega
        · cases l' with
          | nil => exact absurd rfl hn
          | cons a r => simpa using hh
      have hp := fold_pos l' hn hd.1 hh'
      have ihh := ih l' hl' hn hd.1 (.inr hh')
      generalize l'.foldl dv 0 = v at hp ihh
      unfold dv
      rw [Lib.decDigits, dif_neg (by omega), show (v * 10 + (c.toNat - 48)) / 10 = v by omega, show (v * 10 + (c.toNat - 48)) % 10 = c.toNat - 48 by omega, ihh, ofNat_dig c hd.2]
theorem dec_all : ∀ (n u : Nat), u ≤ n → (Lib.decDigits u).all isD = true ∧ Lib.decDigits u ≠ [] ∧ (1 ≤ u → (Lib.decDigits u).headD 0 ≠ 48) := by
  intro n
  induction n with
  | zero =>
    intro u hu
    obtain rfl : u = 0 := by omega
    rw [Lib.decDigits_one (by omega)]
    exact ⟨by decide, by simp, fun h => by omega⟩
  | succ n ih =>
    intro u hu
    by_cases h10 : u < 10
    · rw [Lib.decDigits_one h10]
      have e : (UInt8.ofNat (48 + u)).toNat = 48 + u := by simp; omega
      refine ⟨?_, by simp, fun h => ?_⟩
      · simp [isD]; omega
      · intro h2
        have : (UInt8.ofNat (48 + u)).toNat = 48 := by simpa using congrArg UInt8.toNat h2
        omega
    · rw [Lib.decDigits, dif_neg h10]
      obtain ⟨h1, h2, h3⟩ := ih (u / 10) (by omega)
      have e : (UInt8.ofNat (48 + u % 10)).toNat = 48 + u % 10 := by simp; omega
      refine ⟨?_, by simp, fun _ => ?_⟩
      · rw [List.all_append, h1]; simp [isD]; omega
      · have h4 := h3 (by omega)
        cases hx : Lib.decDigits (u / 10) with
        | nil => exact absurd hx h2
        | cons a r => rw [hx] at h4; simpa using h4
theorem isNum_parts (l : Bs) (h : isNum l = true) : l.length ≤ 12 ∧ (l.length ≤ 1 ∨ l.headD 0 ≠ 48) ∧ l.all isD = true := by
  simp only [isNum, Bool.and_eq_true, decide_eq_true_eq, Bool.not_eq_true', Bool.and_eq_false_iff, decide_eq_false_iff_not] at h
  obtain ⟨⟨h1, h2⟩, h3⟩ := h
  refine ⟨h1, ?_, h3⟩
  rcases h2 with h2 | h2
  · exact .inl (by omega)
  · exact .inr (by simpa using h2)
theorem num_ok (l : Bs) (hne : l ≠ []) (h : isNum l = true) : ∃ u, Lib.parseUintM 4611686018427387903 0 l = .ok u ∧ Lib.decDigits u = l := by
  obtain ⟨h1, h2, h3⟩ := isNum_parts l h
  have hpos : 0 < l.length := List.length_pos_iff.2 hne
  refine ⟨_, parse_ok l 0 h3 (by rw [Nat.zero_add, Nat.one_mul]; exact Nat.pow_le_pow_right (by omega) h1), dec_fold _ l rfl hne h3 ?_⟩
  rcases h2 with h2 | h2
  · exact .inl (by omega)
  · exact .inr h2
theorem num_of (u : Nat) (h : (Lib.decDigits u).length ≤ 12) : isNum (Lib.decDigits u) = true := by
  obtain ⟨h1, h2, h3⟩ := dec_all u u (Nat.le_refl _)
  have hd : (decide (1 < (Lib.decDigits u).length) && (Lib.decDigits u).headD 0 == 48) = false := by
    by_cases hu : 1 ≤ u
    · have : ((Lib.decDigits u).headD 0 == 48) = false := by rw [beq_eq_false_iff_ne]; exact h3 hu
      rw [this, Bool.and_false]
    · obtain rfl : u = 0 := by omega
      rw [Lib.decDigits_one (by omega)]; rfl
  simp only [isNum, h1, hd, Bool.not_false, Bool.and_true, decide_eq_true_eq]
  exact h
end Tw
end Go.Proofs.YtmngofgminlloaaGreatDoor
