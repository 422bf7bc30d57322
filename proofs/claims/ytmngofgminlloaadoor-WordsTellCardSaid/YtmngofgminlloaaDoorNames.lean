/-
  The contracts of the reference's NameOK and of the law's own function keyed.
-/
import Derived.Test.YtmngofgminlloaaDoorRef1
namespace Go.Proofs.YtmngofgminlloaaDoor
open Go.RowKit Tw Go.Shelf

theorem ext1 (s : ByteArray) (h : 0 < s.size) : (s.extract 0 1).data.toList = [s[0]] := by
  rw [data_ext, List.drop_zero]
  have := drop_head s 0 h
  rw [List.drop_zero] at this
  rw [this]; rfl
theorem in_A (s : ByteArray) (t : Bool) (w : World) (hs : s.size ≤ 9223372036854775807) (ht : s.data.toList.all isA = t) :
    Calls Tryd.prog 17 #[.string s, .string ⟨#[97, 98, 99, 100, 101, 102, 103, 104, 105, 106, 107, 108, 109, 110, 111, 112, 113, 114, 115, 116, 117, 118, 119, 120, 121, 122, 95, 48, 49, 50, 51, 52, 53, 54, 55, 56, 57]⟩] w fun e w' => e = .returned (.bool t) ∧ Below w.heap.size w w' :=
  in_c _ _ t w hs (by decide) (ascii_of_all (by decide)) (by
    rw [← ht]
    have : (fun x => (ByteArray.data ⟨#[97, 98, 99, 100, 101, 102, 103, 104, 105, 106, 107, 108, 109, 110, 111, 112, 113, 114, 115, 116, 117, 118, 119, 120, 121, 122, 95, 48, 49, 50, 51, 52, 53, 54, 55, 56, 57]⟩).toList.contains x) = isA := funext setA_eq
    rw [this])
theorem in_L (s : ByteArray) (h : 0 < s.size) (t : Bool) (w : World) (ht : isL s[0] = t) :
    Calls Tryd.prog 17 #[.string (s.extract 0 1), .string ⟨#[97, 98, 99, 100, 101, 102, 103, 104, 105, 106, 107, 108, 109, 110, 111, 112, 113, 114, 115, 116, 117, 118, 119, 120, 121, 122, 95]⟩] w fun e w' => e = .returned (.bool t) ∧ Below w.heap.size w w' :=
  in_c _ _ t w (by simp; omega) (by decide) (ascii_of_all (by decide)) (by rw [ext1 s h]; simp only [List.all_cons, List.all_nil, Bool.and_true]; exact (setL_eq _).trans ht)

set_option maxHeartbeats 1000000 in
theorem nameOK_any (s : ByteArray) (w : World) (hs : s.size ≤ maxLen) (hm : MaxLenAt w) (hz : 5 < w.heap.size) :
    Calls Tryd.prog 9 #[.string s] w fun e w' => e = .returned (.bool (isName s.data.toList)) ∧ Below w.heap.size w w' := by
  unfold maxLen at hs
  have HM := Lib.hid hm; clear hm
  have HZ := Lib.hid hz; clear hz
  by_cases h1 : 1 ≤ s.size
  case neg =>
    have hh : isName s.data.toList = false := by simp [isName]; omega
    have HH := Lib.hid hh; clear hh
    have he : s.toList.isEmpty = true := by
      rw [ByteArray.toList_eq, List.isEmpty_iff]; exact List.eq_nil_of_length_eq_zero (by rw [size_len]; omega)
    have he' : s.toList = [] := by simpa using he
    go_enter Tryd.func9, Tryd.ntmps9
    go_wp2_with fail
    go_ret; exact ⟨ret_of HH.out, Below.refl _ _⟩
  have he : s.toList.isEmpty = false := by
    rw [ByteArray.toList_eq]
    cases hx : s.data.toList with
    | nil => have := size_len s; rw [hx] at this; simp at this; omega
    | cons a l => rfl
  by_cases h2 : s.size ≤ 16
  case neg =>
    have hh : isName s.data.toList = false := by simp [isName]; omega
    have HH := Lib.hid hh; clear hh
    go_enter Tryd.func9, Tryd.ntmps9
    go_wp2_with fail
    go_ret; exact ⟨ret_of HH.out, Below.refl _ _⟩
  have hd := Lib.hid (head_get s h1)
  cases h3 : s.data.toList.all isA
  case false =>
    have hh : isName s.data.toList = false := by simp only [isName, h3]; simp
    have HH := Lib.hid hh; have H3 := Lib.hid h3; clear hh h3
    go_enter Tryd.func9, Tryd.ntmps9
    go_wp2_with fail
    refine (in_A s false _ (by omega) H3.out).mono ?_
    rintro e w1 ⟨rfl, hb1⟩
    have HB1 := Lib.hid hb1; clear hb1
    go_wp2_with fail
    go_ret; exact ⟨ret_of HH.out, HB1.out⟩
  cases h4 : isL s[0]
  case false =>
    have hh : isName s.data.toList = false := by simp only [isName, hd.out, h4]; simp
    have HH := Lib.hid hh; have H3 := Lib.hid h3; have H4 := Lib.hid h4; clear hh h3 h4
    go_enter Tryd.func9, Tryd.ntmps9
    go_wp2_with fail
    refine (in_A s true _ (by omega) H3.out).mono ?_
    rintro e w1 ⟨rfl, hb1⟩
    have HB1 := Lib.hid hb1; clear hb1
    go_wp2_with fail
    refine (in_L s h1 false _ H4.out).mono ?_
    rintro e w2 ⟨rfl, hb2⟩
    have HB2 := Lib.hid (HB1.out.trans (hb2.mono HB1.out.size)); clear hb2
    go_wp2_with fail
    go_ret; exact ⟨ret_of HH.out, HB2.out⟩
  have hk : ∀ t, isKey s.data.toList = t → isName s.data.toList = !t := by
    intro t ht
    simp only [isName, hd.out, h3, h4, ht, size_len, h1, h2]
    simp
  have HK := Lib.hid hk; have H3 := Lib.hid h3; have H4 := Lib.hid h4; clear hk h3 h4
  obtain ⟨t, ht⟩ : ∃ t, isKey s.data.toList = t := ⟨_, rfl⟩
  have HT := Lib.hid ht; clear ht
  go_enter Tryd.func9, Tryd.ntmps9
  go_wp2_with fail
  refine (in_A s true _ (by omega) H3.out).mono ?_
  rintro e w1 ⟨rfl, hb1⟩
  have HB1 := Lib.hid hb1; clear hb1
  go_wp2_with fail
  refine (in_L s h1 true _ H4.out).mono ?_
  rintro e w2 ⟨rfl, hb2⟩
  have HB2 := Lib.hid (HB1.out.trans (hb2.mono HB1.out.size)); clear hb2
  go_wp2_with fail
  refine (key_c s t _ H3.out HT.out (HM.out.below HB2.out (by have := HZ.out; show 2 < _; omega))).mono ?_
  rintro e w3 ⟨rfl, rfl⟩
  go_wp2_with fail
  go_ret; exact ⟨ret_of (HK.out t HT.out), HB2.out⟩

def keyBs : List ByteArray := [⟨#[102, 117, 110]⟩, ⟨#[108, 101, 116]⟩, ⟨#[105, 102]⟩, ⟨#[101, 108, 115, 101]⟩, ⟨#[119, 104, 105, 108, 101]⟩, ⟨#[114, 101, 116, 117, 114, 110]⟩, ⟨#[121, 105, 101, 108, 100]⟩, ⟨#[116, 114, 117, 101]⟩, ⟨#[102, 97, 108, 115, 101]⟩, ⟨#[105, 110, 116]⟩, ⟨#[98, 111, 111, 108]⟩]
theorem keyBs_key (s : ByteArray) : Lib.containsS keyBs s = isKey s.data.toList := by
  rw [Bool.eq_iff_iff, Lib.containsS_iff]
  have : ∀ l : List Bs, (s ∈ l.map fun x => (⟨x.toArray⟩ : ByteArray)) ↔ l.contains s.data.toList = true := by
    intro l
    simp only [List.mem_map, List.contains_iff_mem]
    constructor
    · rintro ⟨x, hx, rfl⟩; simpa using hx
    · intro h; exact ⟨_, h, by apply ByteArray.ext; simp⟩
  exact this keyTexts
set_option maxHeartbeats 1000000 in
theorem keyed_any (s : ByteArray) (w : World) :
    Calls Tryd.prog 11 #[.string s] w fun e w' => e = .returned (.bool (isKey s.data.toList)) ∧ Below w.heap.size w w' := by
  obtain ⟨t, ht⟩ : ∃ t, isKey s.data.toList = t := ⟨_, rfl⟩
  rw [ht]
  have HT := Lib.hid ht; clear ht
  go_enter Tryd.func11, Tryd.ntmps11
  go_wp2_with fail
  refine (Tryd.slices_Contains_string w.heap.size 0 11 11 keyBs s _ (by decide) (by decide) (fun j hj => ?_)).mono ?_
  · rw [Nat.zero_add, World.cell?_alloc_new]
    match j, hj with
    | 0, _ => rfl
    | 1, _ => rfl
    | 2, _ => rfl
    | 3, _ => rfl
    | 4, _ => rfl
    | 5, _ => rfl
    | 6, _ => rfl
    | 7, _ => rfl
    | 8, _ => rfl
    | 9, _ => rfl
    | 10, _ => rfl
  rintro e w1 ⟨rfl, rfl⟩
  have hk : Lib.containsS (keyBs.take 11) s = t := (keyBs_key s).trans HT.out
  rw [hk]
  clear hk
  go_wp2_with fail
  go_ret
  exact ⟨rfl, (Below.refl _ _).alloc (Nat.le_refl _) _⟩
end Go.Proofs.YtmngofgminlloaaDoor
