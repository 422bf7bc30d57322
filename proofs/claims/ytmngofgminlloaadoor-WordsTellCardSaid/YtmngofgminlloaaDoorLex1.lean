/-
  The contracts of the small functions of package word: letter, digit, IsKey, IsName, number. Conditions: none beyond the lengths that any string has.
-/
import Derived.Test.YtmngofgminlloaaDoorRows
import Derived.Test.YtmngofgminlloaaDoorPlain
import Derived.WalkKit
import Derived.WalkSpells
import Derived.WalkLawsBesides
import Derived.Lib.Hide
namespace Go.Proofs.YtmngofgminlloaaDoor
open Go.RowKit Tw

theorem ret_bool {a b : Bool} (h : a = true ↔ b = true) : Ending.returned (.bool a) = .returned (.bool b) := by rw [Bool.eq_iff_iff.2 h]
theorem ret_of {b c : Bool} (h : c = b) : Ending.returned (.bool b) = .returned (.bool c) := by rw [h]
theorem ret_int {k : IntKind} {a b : Int} (h : a = b) : Ending.returned (.int k a) = .returned (.int k b) := by rw [h]
theorem data_get (s : ByteArray) (k : Nat) (h : k < s.size) : s.data.toList[k]? = some s[k] := by
  rw [List.getElem?_eq_getElem (by simpa using h)]; rfl
theorem take_snoc (s : ByteArray) (k : Nat) (h : k < s.size) : s.data.toList.take (k + 1) = s.data.toList.take k ++ [s[k]] := by
  rw [List.take_succ_eq_append_getElem (by simpa using h)]; rfl
theorem size_len (s : ByteArray) : s.data.toList.length = s.size := rfl
theorem head_get (s : ByteArray) (h : 0 < s.size) : s.data.toList.headD 0 = s[0] := by
  have := data_get s 0 h
  rcases hl : s.data.toList with _ | ⟨a, r⟩
  · rw [hl] at this; cases this
  · rw [hl] at this; simpa using this
theorem all_snoc (s : ByteArray) (p : UInt8 → Bool) (k : Nat) (h : k < s.size) : (s.data.toList.take (k + 1)).all p = ((s.data.toList.take k).all p && p s[k]) := by
  rw [take_snoc s k h]; simp
theorem all_false (s : ByteArray) (p : UInt8 → Bool) (k : Nat) (h : k < s.size) (hp : p s[k] = false) : s.data.toList.all p = false := by
  rw [List.all_eq_false]
  exact ⟨s[k], List.mem_of_getElem? (data_get s k h), by simp [hp]⟩
theorem all_full (s : ByteArray) (p : UInt8 → Bool) (k : Nat) (h : s.size ≤ k) (hp : (s.data.toList.take k).all p = true) : s.data.toList.all p = true := by
  rwa [List.take_of_length_le (by rw [size_len]; exact h)] at hp

set_option maxHeartbeats 400000 in
theorem digit_any (c : UInt8) (w : World) :
    Calls Tryd.prog 12 #[.int .u8 c.toNat] w fun e w' => e = .returned (.bool (isD c)) ∧ w = w' := by
  go_enter Tryd.func12, Tryd.ntmps12
  go_wp2
  all_goals go_ret; exact ⟨ret_bool (by simp [isD]; try omega), rfl⟩

set_option maxHeartbeats 400000 in
theorem letter_any (c : UInt8) (w : World) :
    Calls Tryd.prog 13 #[.int .u8 c.toNat] w fun e w' => e = .returned (.bool (isL c)) ∧ w = w' := by
  go_enter Tryd.func13, Tryd.ntmps13
  go_wp2
  all_goals go_ret; exact ⟨ret_bool (by simp [isL]; try omega), rfl⟩

set_option maxHeartbeats 400000 in
theorem isKey_any (s : ByteArray) (w : World) :
    Calls Tryd.prog 10 #[.string s] w fun e w' => e = .returned (.bool (isKey s.data.toList)) ∧ w = w' := by
  go_enter Tryd.func10, Tryd.ntmps10
  go_wp2
  all_goals (first | (exfalso; simp_all; done) | (go_ret; refine ⟨?_, rfl⟩; simp_all [isKey, keyTexts, ByteArray.toList_eq]))

set_option maxHeartbeats 1000000 in
theorem isName_any (s : ByteArray) (w : World) (hs : s.size ≤ maxLen) :
    Calls Tryd.prog 8 #[.string s] w fun e w' => e = .returned (.bool (isName s.data.toList)) ∧ w = w' := by
  unfold maxLen at hs
  by_cases h1 : 1 ≤ s.size
  case neg =>
    have hh : isName s.data.toList = false := by simp [isName]; omega
    have HH := Lib.hid hh; clear hh
    go_enter Tryd.func8, Tryd.ntmps8
    go_wp2
    go_ret; exact ⟨ret_of HH.out, rfl⟩
  by_cases h2 : s.size ≤ 16
  case neg =>
    have hh : isName s.data.toList = false := by simp [isName]; omega
    have HH := Lib.hid hh; clear hh
    go_enter Tryd.func8, Tryd.ntmps8
    go_wp2
    go_ret; exact ⟨ret_of HH.out, rfl⟩
  have hd := Lib.hid (head_get s h1)
  cases h3 : isL s[0]
  case false =>
    have hh : isName s.data.toList = false := by simp only [isName, hd.out, h3]; simp
    have HH := Lib.hid hh; clear hh
    go_enter Tryd.func8, Tryd.ntmps8
    go_wp2_with (go_at_call 13; refine (letter_any _ _).mono ?_; rintro e w' ⟨rfl, rfl⟩)
    go_ret; exact ⟨ret_of HH.out, rfl⟩
  cases h4 : isKey s.data.toList
  case true =>
    have hh : isName s.data.toList = false := by simp only [isName, h4]; simp
    have HH := Lib.hid hh; clear hh
    go_enter Tryd.func8, Tryd.ntmps8
    go_wp2_with (first | (go_at_call 13; refine (letter_any _ _).mono ?_; rintro e w' ⟨rfl, rfl⟩) | (go_at_call 10; refine (isKey_any _ _).mono ?_; rintro e w' ⟨rfl, rfl⟩))
    go_ret; exact ⟨ret_of HH.out, rfl⟩
  have hh : isName s.data.toList = s.data.toList.all isA := by
    simp only [isName, hd.out, h3, h4, size_len]
    simp [h1, h2]
  have HH := Lib.hid hh; clear hh
  go_enter Tryd.func8, Tryd.ntmps8
  go_wp2_with (first | (go_at_call 13; refine (letter_any _ _).mono ?_; rintro e w' ⟨rfl, rfl⟩) | (go_at_call 10; refine (isKey_any _ _).mono ?_; rintro e w' ⟨rfl, rfl⟩))
  go_loop [24] (fun i => ∃ k : Nat, k ≤ s.size ∧ i = .int .i64 k ∧ Hid ((s.data.toList.take k).all isA = true)) (fun i => s.size - (intOf i).toNat)
  case atStart => exact ⟨0, Nat.zero_le _, rfl, Lib.hid rfl⟩
  case round =>
    obtain ⟨k, hk, rfl, hall⟩ := hrel
    by_cases hlt : k < s.size
    · have HS := Lib.hid (all_snoc s isA k hlt)
      have HF := Lib.hid (all_false s isA k hlt)
      cases h5 : isL s[k]
      · cases h6 : isD s[k]
        · have hf : s.data.toList.all isA = false := HF.out (by simp [isA, h5, h6])
          have HG := Lib.hid (HH.out.trans hf); clear hf
          go_wp2_with (first | (go_at_call 13; refine (letter_any _ _).mono ?_; rintro e w' ⟨rfl, rfl⟩) | (go_at_call 12; refine (digit_any _ _).mono ?_; rintro e w' ⟨rfl, rfl⟩))
          go_ret; exact ⟨ret_of HG.out, rfl⟩
        · have hg : (s.data.toList.take (k + 1)).all isA = true := by rw [HS.out, hall.out]; simp [isA, h6]
          have HG := Lib.hid hg; clear hg
          go_wp2_with (first | (go_at_call 13; refine (letter_any _ _).mono ?_; rintro e w' ⟨rfl, rfl⟩) | (go_at_call 12; refine (digit_any _ _).mono ?_; rintro e w' ⟨rfl, rfl⟩))
          go_round
          case rel => exact ⟨k + 1, by omega, by go_num, HG⟩
          case measure => simp [intOf]; omega
      · have hg : (s.data.toList.take (k + 1)).all isA = true := by rw [HS.out, hall.out]; simp [isA, h5]
        have HG := Lib.hid hg; clear hg
        go_wp2_with (first | (go_at_call 13; refine (letter_any _ _).mono ?_; rintro e w' ⟨rfl, rfl⟩) | (go_at_call 12; refine (digit_any _ _).mono ?_; rintro e w' ⟨rfl, rfl⟩))
        go_round
        case rel => exact ⟨k + 1, by omega, by go_num, HG⟩
        case measure => simp [intOf]; omega
    · go_wp2
      go_ret
      exact ⟨ret_of (HH.out.trans (all_full s _ k (by omega) hall.out)), rfl⟩

set_option maxHeartbeats 1000000 in
theorem number_any (s : ByteArray) (w : World) (hs : s.size ≤ maxLen) :
    Calls Tryd.prog 14 #[.string s] w fun e w' => e = .returned (.bool (isNum s.data.toList)) ∧ w = w' := by
  unfold maxLen at hs
  by_cases h1 : s.size ≤ 12
  case neg =>
    have hh : isNum s.data.toList = false := by simp [isNum]; omega
    have HH := Lib.hid hh; clear hh
    go_enter Tryd.func14, Tryd.ntmps14
    go_wp2
    go_ret; exact ⟨ret_of HH.out, rfl⟩
  by_cases h2 : 1 < s.size
  · have hd := Lib.hid (head_get s (by omega))
    by_cases h3 : s[0].toNat = 48
    · have hh : isNum s.data.toList = false := by
        have : s[0] = 48 := UInt8.toNat_inj.1 h3
        simp only [isNum, hd.out, this, size_len, h2]; simp
      have HH := Lib.hid hh; clear hh
      have h4 : ((s[0].toNat : Int) == 48) = true := by rw [h3]; rfl
      clear h3
      go_enter Tryd.func14, Tryd.ntmps14
      go_wp2
      go_ret; exact ⟨ret_of HH.out, rfl⟩
    · have hh : isNum s.data.toList = s.data.toList.all isD := by
        have : (s[0] == 48) = false := by
          rw [beq_eq_false_iff_ne]; intro h; exact h3 (by rw [h]; rfl)
        simp only [isNum, hd.out, this, size_len, h2, h1]; simp
      have HH := Lib.hid hh; clear hh
      have h4 : ((s[0].toNat : Int) == 48) = false := by rw [beq_eq_false_iff_ne]; omega
      clear h3
      go_enter Tryd.func14, Tryd.ntmps14
      go_wp2
      go_loop [19] (fun i => ∃ k : Nat, k ≤ s.size ∧ i = .int .i64 k ∧ Hid ((s.data.toList.take k).all isD = true)) (fun i => s.size - (intOf i).toNat)
      case atStart => exact ⟨0, Nat.zero_le _, rfl, Lib.hid rfl⟩
      case round =>
        obtain ⟨k, hk, rfl, hall⟩ := hrel
        by_cases hlt : k < s.size
        · have HS := Lib.hid (all_snoc s isD k hlt)
          have HF := Lib.hid (all_false s isD k hlt)
          cases h6 : isD s[k]
          · have HG := Lib.hid (HH.out.trans (HF.out h6))
            go_wp2_with (go_at_call 12; refine (digit_any _ _).mono ?_; rintro e w' ⟨rfl, rfl⟩)
            go_ret; exact ⟨ret_of HG.out, rfl⟩
          · have hg : (s.data.toList.take (k + 1)).all isD = true := by rw [HS.out, hall.out, h6]; rfl
            have HG := Lib.hid hg; clear hg
            go_wp2_with (go_at_call 12; refine (digit_any _ _).mono ?_; rintro e w' ⟨rfl, rfl⟩)
            go_round
            case rel => exact ⟨k + 1, by omega, by go_num, HG⟩
            case measure => simp [intOf]; omega
        · go_wp2
          go_ret
          exact ⟨ret_of (HH.out.trans (all_full s _ k (by omega) hall.out)), rfl⟩
  · have hh : isNum s.data.toList = s.data.toList.all isD := by
      simp only [isNum, size_len, h2, h1]; simp
    have HH := Lib.hid hh; clear hh
    go_enter Tryd.func14, Tryd.ntmps14
    go_wp2
    go_loop [19] (fun i => ∃ k : Nat, k ≤ s.size ∧ i = .int .i64 k ∧ Hid ((s.data.toList.take k).all isD = true)) (fun i => s.size - (intOf i).toNat)
    case atStart => exact ⟨0, Nat.zero_le _, rfl, Lib.hid rfl⟩
    case round =>
      obtain ⟨k, hk, rfl, hall⟩ := hrel
      by_cases hlt : k < s.size
      · have HS := Lib.hid (all_snoc s isD k hlt)
        have HF := Lib.hid (all_false s isD k hlt)
        cases h6 : isD s[k]
        · have HG := Lib.hid (HH.out.trans (HF.out h6))
          go_wp2_with (go_at_call 12; refine (digit_any _ _).mono ?_; rintro e w' ⟨rfl, rfl⟩)
          go_ret; exact ⟨ret_of HG.out, rfl⟩
        · have hg : (s.data.toList.take (k + 1)).all isD = true := by rw [HS.out, hall.out, h6]; rfl
          have HG := Lib.hid hg; clear hg
          go_wp2_with (go_at_call 12; refine (digit_any _ _).mono ?_; rintro e w' ⟨rfl, rfl⟩)
          go_round
          case rel => exact ⟨k + 1, by omega, by go_num, HG⟩
          case measure => simp [intOf]; omega
      · go_wp2
        go_ret
        exact ⟨ret_of (HH.out.trans (all_full s _ k (by omega) hall.out)), rfl⟩
end Go.Proofs.YtmngofgminlloaaDoor
