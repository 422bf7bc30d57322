/-
  The contract of package word's function sign. Condition: the variable MaxLen of the library holds some int.
-/
import Derived.Test.YtmngofgminlloaaDoorLex1
import Derived.Test.YtmngofgminlloaaDoorPlain2
import Derived.Test.YtmngofgminlloaaDoorShelf
namespace Go.Proofs.YtmngofgminlloaaDoor
open Go.RowKit Tw

/-- What is known of the package variable MaxLen: it holds some int. -/
def MaxLenAt (w : World) : Prop := ∃ m : Int, w.cell? ⟨2, 0, none⟩ = some (.int .i64 m)

theorem data_ext (s : ByteArray) (a b : Nat) : (s.extract a b).data.toList = (s.data.toList.drop a).take (b - a) := by
  simp [ByteArray.data_extract, Array.toList_extract]
theorem data_app (a b : ByteArray) : (a ++ b).data.toList = a.data.toList ++ b.data.toList := by
  simp [ByteArray.data_append]

set_option maxHeartbeats 400000 in
theorem contains_sp (K x : ByteArray) (w : World) (hK : K.size < 4294967281) (hm : MaxLenAt w) :
    Calls Tryd.prog 21 #[.string K, .string (⟨#[32]⟩ ++ x ++ ⟨#[32]⟩)] w fun e w' => e = .returned (.bool (Lib.contains K.data.toList (32 :: (x.data.toList ++ [32])))) ∧ w = w' := by
  obtain ⟨m, hm⟩ := hm
  refine (Tryd.strings_Contains K _ m w hK hm).mono ?_
  rintro e w' ⟨rfl, rfl⟩
  exact ⟨by rw [data_app, data_app]; rfl, rfl⟩

theorem take2 (s : ByteArray) (h : 1 < s.size) : ∃ a b, (s.extract 0 2).data.toList = [a, b] ∧ s.data.toList.take 2 = [a, b] := by
  rw [data_ext]
  have hl : 1 < s.data.toList.length := h
  rcases hd : s.data.toList with _ | ⟨a, _ | ⟨b, l⟩⟩
  · rw [hd] at hl; simp at hl
  · rw [hd] at hl; simp at hl
  · exact ⟨a, b, by simp, by simp⟩

set_option maxHeartbeats 400000 in
theorem contains_s2 (s : ByteArray) (w : World) (t : Bool) (h : 1 < s.size) (ht : sign2.contains (s.data.toList.take 2) = t) (hm : MaxLenAt w) :
    Calls Tryd.prog 21 #[.string ⟨#[32, 60, 61, 32, 62, 61, 32, 61, 61, 32, 33, 61, 32, 38, 38, 32, 124, 124, 32]⟩, .string (⟨#[32]⟩ ++ s.extract 0 2 ++ ⟨#[32]⟩)] w fun e w' => e = .returned (.bool t) ∧ w = w' := by
  refine (contains_sp _ _ w (by decide) hm).mono ?_
  rintro e w' ⟨rfl, rfl⟩
  obtain ⟨a, b, h1, h2⟩ := take2 s h
  refine ⟨?_, rfl⟩
  rw [← ht, h1, h2, ← sign2_contains]
  rfl

set_option maxHeartbeats 400000 in
theorem indexByte_s1 (c : UInt8) (w : World) (t : Bool) (ht : sign1.contains c = t) :
    Calls Tryd.prog 28 #[.string ⟨#[43, 45, 42, 47, 37, 60, 62, 61, 33, 40, 41, 123, 125, 44, 59, 58, 64]⟩, .int .u8 c.toNat] w fun e w' => (∃ i : Int, e = .returned (.int .i64 i) ∧ decide (0 ≤ i) = t) ∧ w = w' := by
  refine (Tryd.strings_IndexByte _ _ w).mono ?_
  rintro e w' ⟨rfl, rfl⟩
  refine ⟨⟨_, rfl, ?_⟩, rfl⟩
  rw [← ht, ← indexByte_mem]
  have : UInt8.ofNat (((c.toNat : Int)).toNat) = c := by simp
  simp only [this]
  rfl

set_option maxHeartbeats 1000000 in
theorem sign_any (s : ByteArray) (w : World) (hs : s.size ≤ maxLen) (hm : MaxLenAt w) :
    Calls Tryd.prog 15 #[.string s] w fun e w' => e = .returned (.int .i64 (signLen s.data.toList)) ∧ w = w' := by
  unfold maxLen at hs
  have HM := Lib.hid hm; clear hm
  by_cases h0 : 0 < s.size
  case neg =>
    have hh : signLen s.data.toList = 0 := by
      have : s.data.toList = [] := List.eq_nil_of_length_eq_zero (by rw [size_len]; omega)
      rw [this]; decide
    have HH := Lib.hid hh; clear hh
    go_enter Tryd.func15, Tryd.ntmps15
    go_wp2
    go_ret; exact ⟨ret_int (by rw [HH.out]; rfl), rfl⟩
  have hd := Lib.hid (head_get s h0)
  by_cases h1 : 1 < s.size
  · cases h2 : sign2.contains (s.data.toList.take 2)
    · cases h3 : sign1.contains s[0]
      · have HH := Lib.hid (show signLen s.data.toList = 0 by simp only [signLen, h2, hd.out, h3]; simp)
        have H2 := Lib.hid h2; have H3 := Lib.hid h3; clear h2 h3
        go_enter Tryd.func15, Tryd.ntmps15
        go_wp2_with fail
        refine (contains_s2 s w _ h1 H2.out HM.out).mono ?_
        rintro e w' ⟨rfl, rfl⟩
        go_wp2_with fail
        refine (indexByte_s1 _ _ _ H3.out).mono ?_
        rintro e w' ⟨⟨i, rfl, hi⟩, rfl⟩
        go_wp2_with fail
        go_ret; exact ⟨ret_int (by rw [HH.out]; rfl), rfl⟩
      · have HH := Lib.hid (show signLen s.data.toList = 1 by simp only [signLen, h2, hd.out, h3]; simp [size_len, h0])
        have H2 := Lib.hid h2; have H3 := Lib.hid h3; clear h2 h3
        go_enter Tryd.func15, Tryd.ntmps15
        go_wp2_with fail
        refine (contains_s2 s w _ h1 H2.out HM.out).mono ?_
        rintro e w' ⟨rfl, rfl⟩
        go_wp2_with fail
        refine (indexByte_s1 _ _ _ H3.out).mono ?_
        rintro e w' ⟨⟨i, rfl, hi⟩, rfl⟩
        go_wp2_with fail
        go_ret; exact ⟨ret_int (by rw [HH.out]; rfl), rfl⟩
    · have HH := Lib.hid (show signLen s.data.toList = 2 by simp only [signLen, h2]; simp)
      have H2 := Lib.hid h2; clear h2
      go_enter Tryd.func15, Tryd.ntmps15
      go_wp2_with fail
      refine (contains_s2 s w _ h1 H2.out HM.out).mono ?_
      rintro e w' ⟨rfl, rfl⟩
      go_wp2_with fail
      go_ret; exact ⟨ret_int (by rw [HH.out]; rfl), rfl⟩
  · have h2 : sign2.contains (s.data.toList.take 2) = false := by
      have hl : s.data.toList.length = s.size := rfl
      rcases hd : s.data.toList with _ | ⟨a, _ | ⟨b, l⟩⟩
      · decide
      · simp [sign2]
      · rw [hd] at hl; simp at hl; omega
    cases h3 : sign1.contains s[0]
    · have HH := Lib.hid (show signLen s.data.toList = 0 by simp only [signLen, h2, hd.out, h3]; simp)
      have H3 := Lib.hid h3; clear h2 h3
      go_enter Tryd.func15, Tryd.ntmps15
      go_wp2_with fail
      refine (indexByte_s1 _ _ _ H3.out).mono ?_
      rintro e w' ⟨⟨i, rfl, hi⟩, rfl⟩
      go_wp2_with fail
      go_ret; exact ⟨ret_int (by rw [HH.out]; rfl), rfl⟩
    · have HH := Lib.hid (show signLen s.data.toList = 1 by simp only [signLen, h2, hd.out, h3]; simp [size_len, h0])
      have H3 := Lib.hid h3; clear h2 h3
      go_enter Tryd.func15, Tryd.ntmps15
      go_wp2_with fail
      refine (indexByte_s1 _ _ _ H3.out).mono ?_
      rintro e w' ⟨⟨i, rfl, hi⟩, rfl⟩
      go_wp2_with fail
      go_ret; exact ⟨ret_int (by rw [HH.out]; rfl), rfl⟩
end Go.Proofs.YtmngofgminlloaaDoor
