/-
  Plain lemmas on lists of bytes: what a search for a word between blanks finds; trimming; the number of a text. No program is named here.
-/
import Derived.Test.YtmngofgminlloaaDoorPlain
import Derived.Lib.IndexMore
import Derived.Lib.SlTrimSet
namespace Go.Proofs.YtmngofgminlloaaDoor
namespace Tw

theorem contains_nil (sub : Bs) (h : sub ≠ []) : Lib.contains [] sub = false := by
  cases sub with
  | nil => exact absurd rfl h
  | cons a l => simp [Lib.contains, Lib.index]
theorem contains_cons (b : UInt8) (l sub : Bs) : Lib.contains (b :: l) sub = (sub.isPrefixOf (b :: l) || Lib.contains l sub) := by
  have hg := Lib.index_ge l sub
  unfold Lib.contains
  rw [Lib.index]
  cases h : sub.isPrefixOf (b :: l)
  · by_cases h2 : Lib.index l sub = -1
    · simp [h2]
    · have h3 : (Lib.index l sub == -1) = false := by simpa using h2
      simp only [h3, Bool.false_eq_true, if_false, Bool.false_or]
      rw [decide_eq_decide]; omega
  · simp
/-- What is passed over. -/
theorem contains_pass (v rest sub : Bs) (hv : ∀ c ∈ v, c ≠ 32) : Lib.contains (v ++ rest) (32 :: sub) = Lib.contains rest (32 :: sub) := by
  induction v with
  | nil => rfl
  | cons c v ih =>
    rw [List.cons_append, contains_cons, ih (fun x hx => hv x (List.mem_cons_of_mem _ hx))]
    have : ((32 : UInt8) == c) = false := by rw [beq_eq_false_iff_ne]; exact fun h => hv c (List.mem_cons_self ..) h.symm
    simp [List.isPrefixOf, this]
theorem prefix_word (w v rest : Bs) (hw : ∀ c ∈ w, c ≠ 32) (hv : ∀ c ∈ v, c ≠ 32) : (w ++ [32]).isPrefixOf (v ++ 32 :: rest) = decide (v = w) := by
  induction w generalizing v with
  | nil =>
    cases v with
    | nil => simp [List.isPrefixOf]
    | cons c v =>
      have : ((32 : UInt8) == c) = false := by rw [beq_eq_false_iff_ne]; exact fun h => hv c (List.mem_cons_self ..) h.symm
      simp [List.isPrefixOf, this]
  | cons a w ih =>
    have ha := hw a (List.mem_cons_self ..)
    cases v with
    | nil =>
      have : (a == (32 : UInt8)) = false := by rw [beq_eq_false_iff_ne]; exact ha
      simp [List.isPrefixOf, this]
    | cons c v =>
      have := ih v (fun x hx => hw x (List.mem_cons_of_mem _ hx)) (fun x hx => hv x (List.mem_cons_of_mem _ hx))
      simp only [List.cons_append, List.isPrefixOf, this]
      by_cases hac : a = c
      · subst hac; simp
      · have : (a == c) = false := by simpa using hac
        simp [this]; intro h; exact absurd h.symm hac
def spaced (ws : List Bs) : Bs := ws.flatMap fun v => v ++ [32]
theorem contains_spaced (ws : List Bs) (hws : ∀ v ∈ ws, ∀ c ∈ v, c ≠ 32) (w : Bs) (hw : ∀ c ∈ w, c ≠ 32) : Lib.contains (32 :: spaced ws) (32 :: (w ++ [32])) = ws.contains w := by
  induction ws with
  | nil =>
    simp only [spaced, List.flatMap_nil, contains_cons]
    rw [contains_nil _ (by simp)]
    cases w <;> simp [List.isPrefixOf]
  | cons v ws ih =>
    have h1 : spaced (v :: ws) = v ++ 32 :: spaced ws := by simp [spaced]
    rw [h1, contains_cons, contains_pass _ _ _ (hws v (List.mem_cons_self ..)), ih (fun x hx => hws x (List.mem_cons_of_mem _ hx))]
    have h2 := prefix_word w v (spaced ws) hw (hws v (List.mem_cons_self ..))
    simp only [List.isPrefixOf, beq_self_eq_true, Bool.true_and, h2, List.contains_cons]
    congr 1
    rw [Bool.eq_iff_iff]
    simp only [decide_eq_true_eq, beq_iff_eq]
    exact ⟨fun h => h.symm, fun h => h.symm⟩

theorem isA_ne (c : UInt8) (h : isA c = true) : c ≠ 32 := by
  rintro rfl; revert h; decide
def keysText : Bs := [32, 102, 117, 110, 32, 108, 101, 116, 32, 105, 102, 32, 101, 108, 115, 101, 32, 119, 104, 105, 108, 101, 32, 114, 101, 116, 117, 114, 110, 32, 121, 105, 101, 108, 100, 32, 116, 114, 117, 101, 32, 102, 97, 108, 115, 101, 32, 105, 110, 116, 32, 98, 111, 111, 108, 32]
theorem keys_contains (w : Bs) (hw : w.all isA = true) : Lib.contains keysText (32 :: (w ++ [32])) = isKey w :=
  contains_spaced keyTexts (by decide) w (fun c hc => isA_ne c (List.all_eq_true.1 hw c hc))
def sign2Text : Bs := [32, 60, 61, 32, 62, 61, 32, 61, 61, 32, 33, 61, 32, 38, 38, 32, 124, 124, 32]
theorem sign2_contains (a b : UInt8) : Lib.contains sign2Text [32, a, b, 32] = sign2.contains [a, b] := by
  by_cases ha : a = 32
  · subst ha
    simp [sign2Text, contains_cons, contains_nil, List.isPrefixOf, sign2]
  · by_cases hb : b = 32
    · subst hb
      simp [sign2Text, contains_cons, contains_nil, List.isPrefixOf, sign2]
    · exact contains_spaced sign2 (by decide) [a, b] (by simp [ha, hb])
theorem indexByte_mem (l : Bs) (c : UInt8) : decide (0 ≤ Lib.indexByte l c) = l.contains c := by
  induction l with
  | nil => simp [Lib.indexByte]
  | cons b l ih =>
    rw [Lib.indexByte, List.contains_cons]
    have hg := Lib.indexByte_ge l c
    by_cases h : b = c
    · subst h; simp
    · have h1 : (b == c) = false := by simpa using h
      have h2 : (c == b) = false := by simpa using fun e => h e.symm
      rw [← ih]
      simp only [h1, h2, Bool.false_eq_true, if_false, Bool.false_or]
      by_cases h3 : Lib.indexByte l c = -1
      · simp [h3]
      · have h4 : (Lib.indexByte l c == -1) = false := by simpa using h3
        simp only [h4, Bool.false_eq_true, if_false]
        rw [decide_eq_decide]; omega
end Tw
end Go.Proofs.YtmngofgminlloaaDoor
