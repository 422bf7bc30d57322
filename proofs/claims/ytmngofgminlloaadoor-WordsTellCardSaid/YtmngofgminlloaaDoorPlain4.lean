/-
  Plain lemmas on decimal numerals: a text is a number of at most 12 digits just if it is read as one whose numeral it is. No program is named here.
-/
import Derived.Test.YtmngofgminlloaaDoorPlain3
import Derived.Lib.ItoaNum
import Derived.Lib.ParseIntB
namespace Go.Proofs.YtmngofgminlloaaDoor
namespace Tw

def dv (a : Nat) (c : UInt8) : Nat := a * 10 + (c.toNat - 48)
theorem isD_bd (c : UInt8) (h : isD c = true) : 48 ≤ c.toNat ∧ c.toNat ≤ 57 := by simpa [isD] using h
theorem parse_ok (l : Bs) : ∀ a, l.all isD = true → (a + 1) * 10 ^ l.length ≤ 10 ^ 12 → Lib.parseUintM 4611686018427387903 a l = .ok (l.foldl dv a) := by
  induction l with
  | nil => intro a _ _; rfl
  | cons c l ih =>
    intro a h hb
    simp only [List.all_cons, Bool.and_eq_true] at h
    obtain ⟨h0, h1⟩ := isD_bd c h.1
    have hp : 1 ≤ 10 ^ l.length := Nat.pos_of_ne_zero (by simp)
    have hb2 : (a + 1) * 10 * 10 ^ l.length ≤ 10 ^ 12 := by
      rw [List.length_cons, Nat.pow_succ] at hb
      calc (a + 1) * 10 * 10 ^ l.length = (a + 1) * (10 ^ l.length * 10) := by rw [Nat.mul_assoc, Nat.mul_comm 10]
        _ ≤ _ := hb
    have hle : (a + 1) * 10 ≤ 10 ^ 12 := Nat.le_trans (Nat.le_mul_of_pos_right _ hp) hb2
    have e12 : (10 : Nat) ^ 12 = 1000000000000 := by decide
    rw [e12] at hle
    have h2 : ¬ 1844674407370955162 ≤ a := by omega
    have h3 : ¬ 4611686018427387903 < a * 10 + (c.toNat - 48) := by omega
    simp only [Lib.parseUintM, h0, h1, and_self, if_true, h2, h3, if_false, List.foldl_cons]
    refine ih _ h.2 (Nat.le_trans (Nat.mul_le_mul_right _ ?_) hb2)
    omega
theorem fold_ge (l : Bs) : ∀ a, a ≤ l.foldl dv a := by
  induction l with
  | nil => intro a; exact Nat.le_refl _
  | cons c l ih => intro a; exact Nat.le_trans (by unfold dv; omega) (ih (dv a c))
theorem fold_pos (l : Bs) (h : l ≠ []) (hd : l.all isD = true) (hh : l.headD 0 ≠ 48) : 1 ≤ l.foldl dv 0 := by
  cases l with
  | nil => exact absurd rfl h
  | cons c l =>
    simp only [List.all_cons, Bool.and_eq_true] at hd
    obtain ⟨h0, h1⟩ := isD_bd c hd.1
    have h2 : c.toNat ≠ 48 := fun e => hh (UInt8.toNat_inj.1 e)
    refine Nat.le_trans ?_ (fold_ge l (dv 0 c))
    unfold dv; omega
theorem ofNat_dig (c : UInt8) (h : isD c = true) : UInt8.ofNat (48 + (c.toNat - 48)) = c := by
  obtain ⟨h0, h1⟩ := isD_bd c h
  rw [show 48 + (c.toNat - 48) = c.toNat by omega]; simp
theorem dec_fold : ∀ (n : Nat) (l : Bs), l.length = n → l ≠ [] → l.all isD = true → (l.length = 1 ∨ l.headD 0 ≠ 48) → Lib.decDigits (l.foldl dv 0) = l := by
  intro n
  induction n with
  | zero => intro l h1 h2; exact absurd (List.eq_nil_of_length_eq_zero h1) h2
  | succ n ih =>
    intro l hl hne hd hh
    obtain ⟨l', c, rfl⟩ : ∃ l' c, l = l' ++ [c] := ⟨l.dropLast, l.getLast hne, (List.dropLast_concat_getLast hne).symm⟩
    rw [List.all_append] at hd
    simp only [List.all_cons, List.all_nil, Bool.and_true, Bool.and_eq_true] at hd
    obtain ⟨h0, h1⟩ := isD_bd c hd.2
    rw [List.foldl_append]
    simp only [List.foldl_cons, List.foldl_nil]
    by_cases hn : l' = []
    · subst hn
      simp only [List.foldl_nil, List.nil_append, dv]
      rw [Lib.decDigits_one (by omega), Nat.zero_mul, Nat.zero_add, ofNat_dig c hd.2]
    · have hl' : l'.length = n := by simpa using hl
      have hpos : 0 < l'.length := List.length_pos_iff.2 hn
      have hh' : l'.headD 0 ≠ 48 := by
        rcases hh with hh | hh
        · rw [List.length_append, List.length_singleton] at hh; omega
        · cases l' with
          | nil => exact absurd rfl hn
          | cons a r => simpa using hh
      have hp := fold_pos l' hn hd.1 hh'
      have ihh := ih l' hl' hn hd.1 (.inr hh')
      generalize l'.foldl dv 0 = v at hp ihh
      unfold dv
      rw [Lib.decDigits, dif_neg (by omega), show (v * 10 + (c.toNat - 48)) / 10 = v by omega, show (v * 10 + (c.toNat - 48)) % 10 = c.toNat - 48 by omega, ihh, ofNat_dig c hd.2]
theorem dec_all : ∀ (n u : Nat), u ≤ n → (Lib.decDigits u).all isD = true ∧ Lib.decDigits u ≠ [] ∧ (1 ≤ u → (Lib.decDigits u).headD 0 ≠ 48) := by
  intro n
  induction n with
  | zero =>
    intro u hu
    obtain rfl : u = 0 := by omega
    rw [Lib.decDigits_one (by omega)]
    exact ⟨by decide, by simp, fun h => by omega⟩
  | succ n ih =>
    intro u hu
    by_cases h10 : u < 10
    · rw [Lib.decDigits_one h10]
      have e : (UInt8.ofNat (48 + u)).toNat = 48 + u := by simp; omega
      refine ⟨?_, by simp, fun h => ?_⟩
      · simp [isD]; omega
      · intro h2
        have : (UInt8.ofNat (48 + u)).toNat = 48 := by simpa using congrArg UInt8.toNat h2
        omega
    · rw [Lib.decDigits, dif_neg h10]
      obtain ⟨h1, h2, h3⟩ := ih (u / 10) (by omega)
      have e : (UInt8.ofNat (48 + u % 10)).toNat = 48 + u % 10 := by simp; omega
      refine ⟨?_, by simp, fun _ => ?_⟩
      · rw [List.all_append, h1]; simp [isD]; omega
      · have h4 := h3 (by omega)
        cases hx : Lib.decDigits (u / 10) with
        | nil => exact absurd hx h2
        | cons a r => rw [hx] at h4; simpa using h4
theorem isNum_parts (l : Bs) (h : isNum l = true) : l.length ≤ 12 ∧ (l.length ≤ 1 ∨ l.headD 0 ≠ 48) ∧ l.all isD = true := by
  simp only [isNum, Bool.and_eq_true, decide_eq_true_eq, Bool.not_eq_true', Bool.and_eq_false_iff, decide_eq_false_iff_not] at h
  obtain ⟨⟨h1, h2⟩, h3⟩ := h
  refine ⟨h1, ?_, h3⟩
  rcases h2 with h2 | h2
  · exact .inl (by omega)
  · exact .inr (by simpa using h2)
theorem num_ok (l : Bs) (hne : l ≠ []) (h : isNum l = true) : ∃ u, Lib.parseUintM 4611686018427387903 0 l = .ok u ∧ Lib.decDigits u = l := by
  obtain ⟨h1, h2, h3⟩ := isNum_parts l h
  have hpos : 0 < l.length := List.length_pos_iff.2 hne
  refine ⟨_, parse_ok l 0 h3 (by rw [Nat.zero_add, Nat.one_mul]; exact Nat.pow_le_pow_right (by omega) h1), dec_fold _ l rfl hne h3 ?_⟩
  rcases h2 with h2 | h2
  · exact .inl (by omega)
  · exact .inr h2
theorem num_of (u : Nat) (h : (Lib.decDigits u).length ≤ 12) : isNum (Lib.decDigits u) = true := by
  obtain ⟨h1, h2, h3⟩ := dec_all u u (Nat.le_refl _)
  have hd : (decide (1 < (Lib.decDigits u).length) && (Lib.decDigits u).headD 0 == 48) = false := by
    by_cases hu : 1 ≤ u
    · have : ((Lib.decDigits u).headD 0 == 48) = false := by rw [beq_eq_false_iff_ne]; exact h3 hu
      rw [this, Bool.and_false]
    · obtain rfl : u = 0 := by omega
      rw [Lib.decDigits_one (by omega)]; rfl
  simp only [isNum, h1, hd, Bool.not_false, Bool.and_true, decide_eq_true_eq]
  exact h
end Tw
end Go.Proofs.YtmngofgminlloaaDoor
