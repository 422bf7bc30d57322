/-
  What is wrong with a script (0: nothing), in plain Lean. No program in sight.
  The contracts of the reference's NameOK and of the law's own function keyed.
  The reference's exprFault, of whatever it answers of the parts.
  The reference's exprFault, kind by kind (A).
-/
import Derived.Test.YtmngofgminlloaaGreatDoorTN05
import Derived.Test.YtmngofgminlloaaGreatDoorTN08
import Derived.Outline
set_option linter.unusedSimpArgs false
set_option linter.unusedVariables false
namespace Go.Proofs.YtmngofgminlloaaGreatDoor
open Go.RowKit Tw

def nameB (s : ByteArray) : Bool := isName s.data.toList
/-- Is an expression of this kind, number, text and number of arguments well formed? -/
def okEx (k n : Int) (t : ByteArray) (len : Nat) : Bool :=
  if k = 1 then decide (0 ≤ n) && decide (n ≤ 999999999999) && decide (len = 0)
  else if k = 2 then (decide (n = 0) || decide (n = 1)) && decide (len = 0)
  else if k = 3 then nameB t && decide (len = 0)
  else if k = 4 ∨ k = 5 then decide (len = 1)
  else if k = 6 then decide (len = 2) && decide (lv t.data.toList ≠ 0)
  else if k = 7 then nameB t
  else if k = 8 then decide (0 ≤ n)
  else false
/-- What is wrong with an expression's head: its number; none: go on with its arguments. -/
def headF (k n : Int) (t : ByteArray) (len left : Nat) : Option Int :=
  if left = 0 then some 2
  else if okEx k n t len = false then some 3
  else if 6 < len ∨ (k = 8 ∧ 15 < n) then some 2
  else none
mutual
def exF : Ex → Nat → Int
  | .mk k n t xs _, left => match headF k n t xs.length left with | some e => e | none => exsF xs (left - 1)
def exsF : List Ex → Nat → Int
  | [], _ => 0
  | a :: l, left => if exF a left = 0 then exsF l left else exF a left
end
mutual
def smF : Sm → Nat → Int
  | .mk k nm a body els _, left =>
    if left = 0 then 2
    else if k < 1 ∨ 7 < k ∨ (k ≤ 2 ∧ nameB nm = false) then 3
    else if exF a (left - 1) ≠ 0 then exF a (left - 1)
    else if (k = 3 ∨ k = 4) ∧ smsF body (left - 1) ≠ 0 then smsF body (left - 1)
    else if k = 3 then smsF els (left - 1) else 0
def smsF : List Sm → Nat → Int
  | [], _ => 0
  | s :: l, left => if smF s left = 0 then smsF l left else smF s left
end
def typB (t : Int) : Bool := decide (t = 1) || decide (t = 2)
def fnF (f : Fn) : Int :=
  if 6 < f.names.length then 2
  else if (decide (f.names.length = f.types.length) && nameB f.name && typB f.out && f.names.all nameB && f.types.all typB) = false then 3
  else smsF f.body 40
def fnsF : List Fn → Int
  | [] => 0
  | f :: l => if fnF f = 0 then fnsF l else fnF f
def unitF (l : List Fn) : Int := if 16 < l.length then 2 else fnsF l

section
variable {k n : Int} {t : ByteArray} {L left : Nat}
theorem headF_3 (h : 1 ≤ left) (ho : okEx k n t L = false) : headF k n t L left = some 3 := by
  unfold headF; rw [if_neg (by omega), if_pos ho]
theorem headF_2 (h : 1 ≤ left) (ho : okEx k n t L = true) (hb : 6 < L ∨ (k = 8 ∧ 15 < n)) : headF k n t L left = some 2 := by
  unfold headF; rw [if_neg (by omega), if_neg (by rw [ho]; decide), if_pos hb]
theorem headF_0 (h : 1 ≤ left) (ho : okEx k n t L = true) (hb : ¬ (6 < L ∨ (k = 8 ∧ 15 < n))) : headF k n t L left = none := by
  unfold headF; rw [if_neg (by omega), if_neg (by rw [ho]; decide), if_neg hb]
theorem ok1 : okEx 1 n t L = (decide (0 ≤ n) && decide (n ≤ 999999999999) && decide (L = 0)) := by simp [okEx]
theorem ok2 : okEx 2 n t L = ((decide (n = 0) || decide (n = 1)) && decide (L = 0)) := by simp [okEx]
theorem ok3 : okEx 3 n t L = (nameB t && decide (L = 0)) := by simp [okEx]
theorem ok4 : okEx 4 n t L = decide (L = 1) := by simp [okEx]
theorem ok5 : okEx 5 n t L = decide (L = 1) := by simp [okEx]
theorem ok6 : okEx 6 n t L = (decide (L = 2) && decide (lv t.data.toList ≠ 0)) := by simp [okEx]
theorem ok7 : okEx 7 n t L = nameB t := by simp [okEx]
theorem ok8 : okEx 8 n t L = decide (0 ≤ n) := by simp [okEx]
theorem oko (h : k < 1 ∨ 8 < k) : okEx k n t L = false := by
  unfold okEx
  rw [if_neg (by omega), if_neg (by omega), if_neg (by omega), if_neg (by omega), if_neg (by omega), if_neg (by omega), if_neg (by omega)]
end

/-- Behind k arguments that are right. -/
theorem exsF_at {l : List Ex} {left : Nat} {k : Nat} (h : exsF (l.take k) left = 0) : exsF l left = exsF (l.drop k) left := by
  induction k generalizing l with
  | zero => simp
  | succ k ih =>
    cases l with
    | nil => simp
    | cons a l =>
      simp only [List.take_succ_cons, List.drop_succ_cons] at *
      rw [exsF] at h ⊢
      split at h
      · rename_i h0; rw [if_pos h0]; exact ih h
      · rename_i h0; exact absurd h h0
theorem exsF_snoc {l : List Ex} {left k : Nat} {x : Ex} (hx : l[k]? = some x) (h : exsF (l.take k) left = 0) (h0 : exF x left = 0) : exsF (l.take (k + 1)) left = 0 := by
  have hk : k < l.length := by rcases Nat.lt_or_ge k l.length with h | h; exact h; rw [List.getElem?_eq_none h] at hx; cases hx
  have e : exsF (l.take (k + 1)) left = exsF ((l.take (k + 1)).drop k) left := exsF_at (by rw [List.take_take, Nat.min_eq_left (by omega)]; exact h)
  rw [e, List.drop_take, show k + 1 - k = 1 by omega, List.drop_eq_getElem_cons hk]
  have : l[k] = x := by rw [List.getElem?_eq_getElem hk] at hx; exact Option.some.inj hx
  rw [this, List.take_succ_cons, List.take_zero, exsF, if_pos h0, exsF]
theorem exsF_hit {l : List Ex} {left k : Nat} {x : Ex} (hx : l[k]? = some x) (h : exsF (l.take k) left = 0) (h0 : exF x left ≠ 0) : exsF l left = exF x left := by
  have hk : k < l.length := by rcases Nat.lt_or_ge k l.length with h | h; exact h; rw [List.getElem?_eq_none h] at hx; cases hx
  have : l[k] = x := by rw [List.getElem?_eq_getElem hk] at hx; exact Option.some.inj hx
  rw [exsF_at h, List.drop_eq_getElem_cons hk, this, exsF, if_neg h0]
theorem smsF_at {l : List Sm} {left : Nat} {k : Nat} (h : smsF (l.take k) left = 0) : smsF l left = smsF (l.drop k) left := by
  induction k generalizing l with
  | zero => simp
  | succ k ih =>
    cases l with
    | nil => simp
    | cons a l =>
      simp only [List.take_succ_cons, List.drop_succ_cons] at *
      rw [smsF] at h ⊢
      split at h
      · rename_i h0; rw [if_pos h0]; exact ih h
      · rename_i h0; exact absurd h h0
theorem smsF_snoc {l : List Sm} {left k : Nat} {x : Sm} (hx : l[k]? = some x) (h : smsF (l.take k) left = 0) (h0 : smF x left = 0) : smsF (l.take (k + 1)) left = 0 := by
  have hk : k < l.length := by rcases Nat.lt_or_ge k l.length with h | h; exact h; rw [List.getElem?_eq_none h] at hx; cases hx
  have e : smsF (l.take (k + 1)) left = smsF ((l.take (k + 1)).drop k) left := smsF_at (by rw [List.take_take, Nat.min_eq_left (by omega)]; exact h)
  rw [e, List.drop_take, show k + 1 - k = 1 by omega, List.drop_eq_getElem_cons hk]
  have : l[k] = x := by rw [List.getElem?_eq_getElem hk] at hx; exact Option.some.inj hx
  rw [this, List.take_succ_cons, List.take_zero, smsF, if_pos h0, smsF]
theorem smsF_hit {l : List Sm} {left k : Nat} {x : Sm} (hx : l[k]? = some x) (h : smsF (l.take k) left = 0) (h0 : smF x left ≠ 0) : smsF l left = smF x left := by
  have hk : k < l.length := by rcases Nat.lt_or_ge k l.length with h | h; exact h; rw [List.getElem?_eq_none h] at hx; cases hx
  have : l[k] = x := by rw [List.getElem?_eq_getElem hk] at hx; exact Option.some.inj hx
  rw [smsF_at h, List.drop_eq_getElem_cons hk, this, smsF, if_neg h0]
theorem fnsF_at {l : List Fn} {k : Nat} (h : fnsF (l.take k) = 0) : fnsF l = fnsF (l.drop k) := by
  induction k generalizing l with
  | zero => simp
  | succ k ih =>
    cases l with
    | nil => simp
    | cons a l =>
      simp only [List.take_succ_cons, List.drop_succ_cons] at *
      rw [fnsF] at h ⊢
      split at h
      · rename_i h0; rw [if_pos h0]; exact ih h
      · rename_i h0; exact absurd h h0
theorem fnsF_snoc {l : List Fn} {k : Nat} {x : Fn} (hx : l[k]? = some x) (h : fnsF (l.take k) = 0) (h0 : fnF x = 0) : fnsF (l.take (k + 1)) = 0 := by
  have hk : k < l.length := by rcases Nat.lt_or_ge k l.length with h | h; exact h; rw [List.getElem?_eq_none h] at hx; cases hx
  have e : fnsF (l.take (k + 1)) = fnsF ((l.take (k + 1)).drop k) := fnsF_at (by rw [List.take_take, Nat.min_eq_left (by omega)]; exact h)
  rw [e, List.drop_take, show k + 1 - k = 1 by omega, List.drop_eq_getElem_cons hk]
  have : l[k] = x := by rw [List.getElem?_eq_getElem hk] at hx; exact Option.some.inj hx
  rw [this, List.take_succ_cons, List.take_zero, fnsF, if_pos h0, fnsF]
theorem fnsF_hit {l : List Fn} {k : Nat} {x : Fn} (hx : l[k]? = some x) (h : fnsF (l.take k) = 0) (h0 : fnF x ≠ 0) : fnsF l = fnF x := by
  have hk : k < l.length := by rcases Nat.lt_or_ge k l.length with h | h; exact h; rw [List.getElem?_eq_none h] at hx; cases hx
  have : l[k] = x := by rw [List.getElem?_eq_getElem hk] at hx; exact Option.some.inj hx
  rw [fnsF_at h, List.drop_eq_getElem_cons hk, this, fnsF, if_neg h0]

/-- Sizes that Go's memory has. -/
inductive ExZ : Ex → Prop
  | mk {k n : Int} {t : ByteArray} {xs : List Ex} {p : Int} : (Lit.int .i64 k).wf = true → t.size ≤ maxLen → xs.length ≤ 281474976710656 → (∀ a ∈ xs, ExZ a) → ExZ (.mk k n t xs p)
inductive SmZ : Sm → Prop
  | mk {k : Int} {nm : ByteArray} {a : Ex} {body els : List Sm} {p : Int} : nm.size ≤ maxLen → ExZ a → body.length ≤ 281474976710656 → els.length ≤ 281474976710656 → (∀ s ∈ body, SmZ s) → (∀ s ∈ els, SmZ s) → SmZ (.mk k nm a body els p)
structure FnZ (f : Fn) : Prop where
  name : f.name.size ≤ maxLen
  names : ∀ n ∈ f.names, n.size ≤ maxLen
  nlen : f.names.length ≤ 281474976710656
  tlen : f.types.length ≤ 281474976710656
  blen : f.body.length ≤ 281474976710656
  body : ∀ s ∈ f.body, SmZ s
theorem ExZ.args {x : Ex} (h : ExZ x) : x.text.size ≤ maxLen ∧ x.args.length ≤ 281474976710656 ∧ ∀ a ∈ x.args, ExZ a := by
  cases h with | mk _ h1 h2 h3 => exact ⟨h1, h2, h3⟩
theorem SmZ.parts {s : Sm} (h : SmZ s) : s.name.size ≤ maxLen ∧ ExZ s.a ∧ s.body.length ≤ 281474976710656 ∧ s.els.length ≤ 281474976710656 ∧ (∀ q ∈ s.body, SmZ q) ∧ (∀ q ∈ s.els, SmZ q) := by
  cases h with | mk h1 h2 h3 h4 h5 h6 => exact ⟨h1, h2, h3, h4, h5, h6⟩
end Go.Proofs.YtmngofgminlloaaGreatDoor

namespace Go.Proofs.YtmngofgminlloaaGreatDoor
open Go.RowKit Tw Go.Shelf

end Go.Proofs.YtmngofgminlloaaGreatDoor

namespace Go.Proofs.YtmngofgminlloaaGreatDoor
open Go.RowKit Tw Go.Maps

theorem ArgsIn.form {w : World} {F : Nat → Prop} {v : Value} {l : List Ex} (h : ArgsIn w F v l) : ∃ A c, v = .slice A l.length c := by
  cases h with
  | nil a c => exact ⟨a, c, rfl⟩
  | row g off cap => exact ⟨_, cap, rfl⟩
/-- What the argument k of a row reads. -/
theorem ArgsIn.at {w : World} {F : Nat → Prop} {A : Option Addr} {c : Nat} {l : List Ex} (h : ArgsIn w F (.slice A l.length c) l) (k : Nat) (x : Ex) (hx : l[k]? = some x) :
    ∃ g off A' c', A = some ⟨g, off, none⟩ ∧ F g ∧ g < w.heap.size ∧ ArgsIn w F (.slice A' x.args.length c') x.args ∧ w.cell? ⟨g, off + k * 5, none⟩ = some (.int .i64 x.kind) ∧ w.cell? ⟨g, off + k * 5 + 1, none⟩ = some (.int .i64 x.n) ∧ w.cell? ⟨g, off + k * 5 + 2, none⟩ = some (.string x.text) ∧ w.cell? ⟨g, off + k * 5 + 3, none⟩ = some (.slice A' x.args.length c') ∧ w.cell? ⟨g, off + k * 5 + 4, none⟩ = some (.int .i64 x.pos) := by
  generalize hv : Value.slice A l.length c = v at h
  cases h with
  | nil a c' => simp at hx
  | row g off cap _ vs hF hg hc hr =>
    injection hv with e1 e2 e3
    obtain ⟨A', c', hA⟩ := (hr k x hx).form
    have hcx := hc k x hx
    have hrx := hr k x hx
    rw [hA] at hcx hrx
    exact ⟨g, off, A', c', e1, hF, hg, hrx, hcx 0 _ rfl, hcx 1 _ rfl, hcx 2 _ rfl, hcx 3 _ rfl, hcx 4 _ rfl⟩
end Go.Proofs.YtmngofgminlloaaGreatDoor

namespace Go.Proofs.YtmngofgminlloaaGreatDoor
open Go.RowKit Tw Go.Maps

end Go.Proofs.YtmngofgminlloaaGreatDoor
