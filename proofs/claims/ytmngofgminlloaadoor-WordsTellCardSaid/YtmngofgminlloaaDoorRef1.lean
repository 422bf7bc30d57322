/-
  The contracts of the reference's function 'in' and of the library's trims at the sets of letters and digits; of its search for a keyword.
-/
import Derived.Test.YtmngofgminlloaaDoorLex3
import Derived.Test.YtmngofgminlloaaDoorFormatU
import Derived.Shelf.Strings.SlTrimAscii
namespace Go.Proofs.YtmngofgminlloaaDoor
open Go.RowKit Tw Go.Shelf

def setA : Bs := [97, 98, 99, 100, 101, 102, 103, 104, 105, 106, 107, 108, 109, 110, 111, 112, 113, 114, 115, 116, 117, 118, 119, 120, 121, 122, 95, 48, 49, 50, 51, 52, 53, 54, 55, 56, 57]
def setL : Bs := [97, 98, 99, 100, 101, 102, 103, 104, 105, 106, 107, 108, 109, 110, 111, 112, 113, 114, 115, 116, 117, 118, 119, 120, 121, 122, 95]
def setD : Bs := [48, 49, 50, 51, 52, 53, 54, 55, 56, 57]
def setS : Bs := [32, 10, 9]
theorem set_iff (l : Bs) (p : UInt8 → Bool) (h : ∀ n : Fin 256, l.contains (UInt8.ofFin n) = p (UInt8.ofFin n)) (c : UInt8) : l.contains c = p c := by
  have := h c.toFin
  simpa using this
theorem setA_eq (c : UInt8) : setA.contains c = isA c := set_iff _ _ (by decide +kernel) c
theorem setL_eq (c : UInt8) : setL.contains c = isL c := set_iff _ _ (by decide +kernel) c
theorem setD_eq (c : UInt8) : setD.contains c = isD c := set_iff _ _ (by decide +kernel) c
theorem setS_eq (c : UInt8) : setS.contains c = isSp c := set_iff _ _ (by decide +kernel) c

theorem dropWhile_nil_iff (p : UInt8 → Bool) (l : Bs) : l.dropWhile p = [] ↔ l.all p = true := by
  induction l with
  | nil => simp
  | cons c l ih =>
    cases h : p c
    · simp [h]
    · simp [h, ih]
theorem trimS_nil (l cs : Bs) : (Lib.trimS l cs).isEmpty = l.all (cs.contains ·) := by
  rw [Bool.eq_iff_iff, List.isEmpty_iff]
  unfold Lib.trimS Lib.trimLeftS Lib.trimRightS
  rw [dropWhile_nil_iff]
  constructor
  · intro h
    rw [List.all_reverse] at h
    by_cases hd : l.reverse.dropWhile (cs.contains ·) = []
    · rw [dropWhile_nil_iff, List.all_reverse] at hd; exact hd
    · exfalso
      rcases he : l.reverse.dropWhile (cs.contains ·) with _ | ⟨a, r⟩
      · exact hd he
      · have h1 := List.head_dropWhile_not (fun x => cs.contains x) (l := l.reverse) (by rw [he]; simp)
        simp only [he, List.head_cons] at h1
        rw [he] at h
        simp only [List.all_cons, Bool.and_eq_true] at h
        rw [h.1] at h1
        simp at h1
  · intro h
    have : l.reverse.dropWhile (cs.contains ·) = [] := by rw [dropWhile_nil_iff, List.all_reverse]; exact h
    rw [this]; rfl

theorem trim_c (s cs : ByteArray) (w : World) (hs : s.size ≤ 9223372036854775807) (hcs : cs.size < 4294967281) (ha : ∀ (j : Nat) b, cs.data.toList[j]? = some b → b.toNat < 128) :
    Calls Tryd.prog 33 #[.string s, .string cs] w fun e w' => e = .returned (.string ⟨(Lib.trimS s.data.toList cs.data.toList).toArray⟩) ∧ Below w.heap.size w w' :=
  Any.strings_Trim_laid Tryd.lays160 (by kernel_rfl) s cs w hs hcs ha
theorem trimLeft_c (s cs : ByteArray) (w : World) (hcs : cs.size < 4294967281) (ha : ∀ (j : Nat) b, cs.data.toList[j]? = some b → b.toNat < 128) :
    Calls Tryd.prog 16 #[.string s, .string cs] w fun e w' => e = .returned (.string ⟨(Lib.trimLeftS s.data.toList cs.data.toList).toArray⟩) ∧ Below w.heap.size w w' :=
  Any.strings_TrimLeft_laid Tryd.lays161 (by kernel_rfl) s cs w hcs ha

set_option maxHeartbeats 400000 in
theorem in_c (s cs : ByteArray) (t : Bool) (w : World) (hs : s.size ≤ 9223372036854775807) (hcs : cs.size < 4294967281) (ha : ∀ (j : Nat) b, cs.data.toList[j]? = some b → b.toNat < 128)
    (ht : s.data.toList.all (cs.data.toList.contains ·) = t) :
    Calls Tryd.prog 17 #[.string s, .string cs] w fun e w' => e = .returned (.bool t) ∧ Below w.heap.size w w' := by
  have H := Lib.hid (trim_c s cs w hs hcs ha)
  have HT : Hid ((Lib.trimS s.data.toList cs.data.toList).isEmpty = t) := Lib.hid (by rw [trimS_nil]; exact ht)
  clear ha ht hcs
  go_enter Tryd.func17, Tryd.ntmps17
  go_wp2_with fail
  refine H.out.mono ?_
  rintro e w' ⟨rfl, hb⟩
  have ht := HT.out
  generalize Lib.trimS s.data.toList cs.data.toList = y at ht ⊢
  go_wp2_with fail
  go_ret
  exact ⟨rfl, hb⟩

theorem all_ext (s : ByteArray) (k : Nat) : (s.extract k s.size).data.toList = s.data.toList.drop k := by
  rw [data_ext, List.take_of_length_le (by simp)]
theorem one_ext (s : ByteArray) (k : Nat) (h : k < s.size) : ((s.extract k s.size).extract 0 1).data.toList = [s[k]] := by
  rw [data_ext, all_ext, List.drop_zero, drop_head s k h]; rfl
theorem cut_ext (s : ByteArray) (k m : Nat) : ((s.extract k s.size).extract 0 m).data.toList = (s.data.toList.drop k).take m := by
  rw [data_ext, all_ext, List.drop_zero]; rfl
theorem cut_eq (s : ByteArray) (k m : Nat) : (s.extract k s.size).extract 0 m = s.extract k (k + m) := by
  apply ByteArray.ext
  apply Array.ext'
  rw [cut_ext, data_ext]; congr 1; omega

theorem in_one (s : ByteArray) (k : Nat) (h : k < s.size) (cs : ByteArray) (p : UInt8 → Bool) (t : Bool) (w : World) (hcs : cs.size < 4294967281) (ha : ∀ (j : Nat) b, cs.data.toList[j]? = some b → b.toNat < 128)
    (hp : ∀ c, cs.data.toList.contains c = p c) (ht : p s[k] = t) :
    Calls Tryd.prog 17 #[.string ((s.extract k s.size).extract 0 1), .string cs] w fun e w' => e = .returned (.bool t) ∧ Below w.heap.size w w' :=
  in_c _ cs t w (by simp; omega) hcs ha (by rw [one_ext s k h]; simp only [List.all_cons, List.all_nil, Bool.and_true]; exact (hp _).trans ht)
theorem in_S (s : ByteArray) (k : Nat) (h : k < s.size) (t : Bool) (w : World) (ht : isSp s[k] = t) :
    Calls Tryd.prog 17 #[.string ((s.extract k s.size).extract 0 1), .string ⟨#[32, 10, 9]⟩] w fun e w' => e = .returned (.bool t) ∧ Below w.heap.size w w' :=
  in_one s k h _ isSp t w (by decide) (ascii_of_all (by decide)) setS_eq ht
theorem in_D (s : ByteArray) (k : Nat) (h : k < s.size) (t : Bool) (w : World) (ht : isD s[k] = t) :
    Calls Tryd.prog 17 #[.string ((s.extract k s.size).extract 0 1), .string ⟨#[48, 49, 50, 51, 52, 53, 54, 55, 56, 57]⟩] w fun e w' => e = .returned (.bool t) ∧ Below w.heap.size w w' :=
  in_one s k h _ isD t w (by decide) (ascii_of_all (by decide)) setD_eq ht
theorem len_drop (p : UInt8 → Bool) (l : Bs) : (l.dropWhile p).length + runLen p l = l.length := by
  unfold runLen
  induction l with
  | nil => rfl
  | cons c l ih => cases h : p c <;> simp [h]; omega
theorem drop_congr (p q : UInt8 → Bool) (h : ∀ c, p c = q c) (l : Bs) : l.dropWhile p = l.dropWhile q := by
  have : p = q := funext h
  rw [this]
/-- strings.TrimLeft at letters and digits. -/
theorem trimA (s : ByteArray) (k : Nat) (w : World) :
    Calls Tryd.prog 16 #[.string (s.extract k s.size), .string ⟨#[97, 98, 99, 100, 101, 102, 103, 104, 105, 106, 107, 108, 109, 110, 111, 112, 113, 114, 115, 116, 117, 118, 119, 120, 121, 122, 95, 48, 49, 50, 51, 52, 53, 54, 55, 56, 57]⟩] w fun e w' => (∃ y : ByteArray, e = .returned (.string y) ∧ y.size + runLen isA (s.data.toList.drop k) = s.size - k) ∧ Below w.heap.size w w' := by
  refine (trimLeft_c _ _ w (by decide) (ascii_of_all (by decide))).mono ?_
  rintro e w' ⟨rfl, hb⟩
  refine ⟨⟨_, rfl, ?_⟩, hb⟩
  have h1 : (Lib.trimLeftS (s.extract k s.size).data.toList setA) = (s.data.toList.drop k).dropWhile isA := by
    rw [all_ext]; exact drop_congr _ _ setA_eq _
  have h2 := len_drop isA (s.data.toList.drop k)
  rw [← h1, List.length_drop, size_len] at h2
  exact h2
theorem key_c (x : ByteArray) (t : Bool) (w : World) (hx : x.data.toList.all isA = true) (ht : isKey x.data.toList = t) (hm : MaxLenAt w) :
    Calls Tryd.prog 21 #[.string ⟨#[32, 102, 117, 110, 32, 108, 101, 116, 32, 105, 102, 32, 101, 108, 115, 101, 32, 119, 104, 105, 108, 101, 32, 114, 101, 116, 117, 114, 110, 32, 121, 105, 101, 108, 100, 32, 116, 114, 117, 101, 32, 102, 97, 108, 115, 101, 32, 105, 110, 116, 32, 98, 111, 111, 108, 32]⟩, .string (⟨#[32]⟩ ++ x ++ ⟨#[32]⟩)] w fun e w' => e = .returned (.bool t) ∧ w = w' := by
  refine (contains_sp _ x w (by decide) hm).mono ?_
  rintro e w' ⟨rfl, rfl⟩
  refine ⟨?_, rfl⟩
  rw [← ht, ← keys_contains _ hx]
  rfl
end Go.Proofs.YtmngofgminlloaaDoor
