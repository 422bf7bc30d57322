/-
  The walk of the law WordsTell: for every text and every second text it returns true, and what was there is as it was. Condition: the library's variables are as the row lists them.
-/
import Derived.Test.YtmngofgminlloaaDoorWords3
import Derived.Test.YtmngofgminlloaaDoorNames
namespace Go.Proofs.YtmngofgminlloaaDoor
open Go.RowKit Tw Go.Shelf

theorem WRow.form {w : World} {B : Nat} {v : Value} {ws : List Wd} (h : WRow w B v ws) : ∃ A cap, v = .slice A ws.length cap ∧ ∀ (k : Nat) (x : Wd), ws[k]? = some x → ∃ g, A = some ⟨g, 0, none⟩ ∧ g < B ∧ w.cell? ⟨g, k * 3, none⟩ = some (.int .i64 x.kind) ∧ w.cell? ⟨g, k * 3 + 1, none⟩ = some (.string x.text) ∧ w.cell? ⟨g, k * 3 + 2, none⟩ = some (.int .i64 x.pos) := by
  rcases h with ⟨rfl, rfl⟩ | ⟨g, cap, rfl, hg, hc⟩
  · exact ⟨none, 0, rfl, fun k x hx => by simp at hx⟩
  · refine ⟨_, cap, rfl, fun k x hx => ⟨g, rfl, hg, ?_⟩⟩
    have := wcells_at ws k x hx
    exact ⟨hc _ _ this.1, hc _ _ this.2.1, hc _ _ this.2.2⟩
def kText : ByteArray := ⟨#[108, 101, 116, 32, 120, 49, 61, 50, 59]⟩
def kWords : List Wd := [⟨3, kText.extract 0 3, 0⟩, ⟨2, kText.extract 4 6, 4⟩, ⟨4, kText.extract 6 7, 6⟩, ⟨1, kText.extract 7 8, 7⟩, ⟨4, kText.extract 8 9, 8⟩]
theorem lex_const : Lex kText 0 [] (none, kWords) := by
  refine .word (k := 3) (n := 3) (by decide) (by rfl) ?_
  refine .skip (n := 1) (by decide) (by rfl) ?_
  refine .word (k := 2) (n := 2) (by decide) (by rfl) ?_
  refine .word (k := 4) (n := 1) (by decide) (by rfl) ?_
  refine .word (k := 1) (n := 1) (by decide) (by rfl) ?_
  refine .word (k := 4) (n := 1) (by decide) (by rfl) ?_
  exact .done (by decide)
theorem wres_const : ∃ ws, WRes ⟨#[108, 101, 116, 32, 120, 49, 61, 50, 59]⟩ 0 0 ws ∧ ws.length = 5 :=
  ⟨kWords, .inr ⟨by decide, _, lex_const, rfl, rfl, rfl⟩, rfl⟩
def joinB (ws : List Wd) : ByteArray := ⟨(joinP ws ws.length).toArray⟩
theorem isName_b (s : ByteArray) (t : Bool) (h : isName s.data.toList = t) (hs : s.size ≤ maxLen) (w : World) : Calls Tryd.prog 8 #[.string s] w fun e w' => e = .returned (.bool t) ∧ w = w' := by subst h; exact isName_any s w hs
theorem nameOK_b (s : ByteArray) (t : Bool) (h : isName s.data.toList = t) (hs : s.size ≤ maxLen) (w : World) (hg : Glob w) : Calls Tryd.prog 9 #[.string s] w fun e w' => e = .returned (.bool t) ∧ Below w.heap.size w w' := by subst h; exact nameOK_any s w hs hg.maxLen (by have := hg.big; omega)
theorem keyed_b (s : ByteArray) (t : Bool) (h : isKey s.data.toList = t) (w : World) : Calls Tryd.prog 11 #[.string s] w fun e w' => e = .returned (.bool t) ∧ Below w.heap.size w w' := by subst h; exact keyed_any s w
theorem join_b (v : Value) (ws : List Wd) (w : World) (hn : ws.length ≤ 4000) (hx : ∀ x ∈ ws, x.text.size ≤ 4000) (hv : WRow w w.heap.size v ws) :
    Calls Tryd.prog 7 #[v] w fun e w' => e = .returned (.string (joinB ws)) ∧ Below w.heap.size w w' := join_any v ws w hn hx hv
theorem isKey_small (l : Bs) (h : isKey l = true) : l.length < 8 := by
  have : l ∈ keyTexts := by simpa [isKey] using h
  revert this
  generalize hk : keyTexts = ks
  have : ∀ x ∈ keyTexts, x.length < 8 := by decide
  rw [hk] at this
  exact this l

set_option maxRecDepth 100000 in
set_option maxHeartbeats 8000000 in
theorem wordsTell_any (src s : ByteArray) (w : World) (h1 : src.size ≤ maxLen) (h2 : s.size ≤ maxLen) (hg : Glob w) :
    Calls Tryd.prog 3 #[.string src, .string s] w fun e w' => e = .returned (.bool true) ∧ Below w.heap.size w w' := by
  obtain ⟨wc, hwc, hlc⟩ := wres_const
  obtain ⟨p, er, ws, hws⟩ := WRes.total src
  obtain ⟨hn, hx⟩ := hws.small
  obtain ⟨tn, htn⟩ : ∃ t, isName s.data.toList = t := ⟨_, rfl⟩
  obtain ⟨tk, htk⟩ : ∃ t, isKey s.data.toList = t := ⟨_, rfl⟩
  have HTN := Lib.hid htn; have HTK := Lib.hid htk; clear htn htk
  have HC := Lib.hid hwc; have HLC := Lib.hid hlc; have HW := Lib.hid hws; have HX := Lib.hid hx; have HG := Lib.hid hg
  have H1 := Lib.hid h1; have H2 := Lib.hid h2
  clear hwc hlc hws hx hg h1 h2
  go_enter Tryd.func3, Tryd.ntmps3
  go_wp2_with fail
  refine (split_c _ _ 0 0 wc (by decide) HG.out HC.out).mono ?_
  rintro e w1 ⟨⟨v0, rfl, hv0⟩, hb1⟩
  obtain ⟨A0, c0, rfl, _⟩ := hv0.form
  rw [HLC.out]
  have HB1 := Lib.hid hb1
  clear hv0 hb1
  go_wp2_with fail
  refine (split_c _ _ p er ws H1.out (HG.out.to HB1.out) HW.out).mono ?_
  rintro e w2 ⟨⟨v1, rfl, hv1⟩, hb2⟩
  have HV1 := Lib.hid hv1
  have HB2 := Lib.hid (HB1.out.trans (hb2.mono HB1.out.size))
  clear hv1 hb2
  go_wp2_with fail
  refine (words_c _ _ p er ws H1.out (HG.out.to HB2.out) HW.out).mono ?_
  rintro e w3 ⟨⟨v2, rfl, hv2⟩, hb3⟩
  have HB3 := Lib.hid (HB2.out.trans (hb3.mono HB2.out.size))
  have HV1' : Hid (WRow w3 w3.heap.size v1 ws) := Lib.hid ((HV1.out.below hb3 (Nat.le_refl _)).mono hb3.size)
  obtain ⟨A, cap, rfl, hform⟩ := hv2.form
  have HV2 := Lib.hid hv2
  have HF := Lib.hid hform
  obtain ⟨n, hnn⟩ : ∃ n, n = ws.length := ⟨_, rfl⟩
  rw [← hnn] at hn ⊢
  have HN := Lib.hid hnn
  clear hv2 hb3 hform hnn HB1 HB2 HV1
  go_wp2_with fail
  go_loopw [14, 43] (fun t i wr => ∃ (k : Nat) (T : ByteArray), k ≤ n ∧ i = .int .i64 k ∧ t = .string T ∧ Hid (T.data.toList = joinP ws k) ∧ Below w3.heap.size w3 wr) (fun _ i _ => n - (intOf i).toNat)
  case atStart => exact ⟨0, _, Nat.zero_le _, rfl, rfl, Lib.hid rfl, Below.refl _ _⟩
  case round =>
    obtain ⟨k, T, hk, rfl, rfl, HT, hb⟩ := hrel
    by_cases hlt : k < n
    · obtain ⟨x, hx⟩ : ∃ x, ws[k]? = some x := ⟨_, List.getElem?_eq_getElem (by have := HN.out; omega)⟩
      obtain ⟨g, rfl, hg, d0, d1, d2⟩ := HF.out k x hx
      have c0 : wr.cell? ⟨g, k * 3, none⟩ = some (.int .i64 x.kind) := (hb.cell (p := ⟨g, _, none⟩) hg).trans d0
      have c1 : wr.cell? ⟨g, k * 3 + 1, none⟩ = some (.string x.text) := (hb.cell (p := ⟨g, _, none⟩) hg).trans d1
      have c2 : wr.cell? ⟨g, k * 3 + 2, none⟩ = some (.int .i64 x.pos) := (hb.cell (p := ⟨g, _, none⟩) hg).trans d2
      have HS : Hid (joinP ws (k + 1) = joinP ws k ++ (if k = 0 then [] else [32]) ++ x.text.data.toList) := Lib.hid (by
        simp only [joinP, List.getD_eq_getElem?_getD, hx]; rfl)
      have hsz := hb.size
      have hxs : x.text.size ≤ 4000 := HX.out x (List.mem_of_getElem? hx)
      have hTs : T.size ≤ k * 4001 := by
        have := joinP_len ws HX.out k (by have := HN.out; omega)
        rw [← HT.out] at this; simpa using this
      clear hx d0 d1 d2 hg
      by_cases h0 : 0 < k
      · go_wp2_with fail
        go_roundw
        case rel => exact ⟨k + 1, _, by omega, by go_num, rfl, Lib.hid (by rw [HS.out, if_neg (by omega), data_app, data_app, HT.out]), (hb.alloc (by omega) _)⟩
        case measure => simp [intOf]; omega
      · go_wp2_with fail
        go_roundw
        case rel => exact ⟨k + 1, _, by omega, by go_num, rfl, Lib.hid (by rw [HS.out, if_pos (by omega), data_app, HT.out]; simp), (hb.alloc (by omega) _)⟩
        case measure => simp [intOf]; omega
    · obtain rfl : k = n := by omega
      have hsz := hb.size
      have HL : Hid (ws.length = k) := Lib.hid HN.out.symm
      have HJ : Hid (((joinB ws).toList == T.toList) = true) := Lib.hid (by
        have : joinB ws = T := by
          have h := HT.out
          rw [HN.out] at h
          cases T with | mk d => exact congrArg ByteArray.mk (by rw [← h])
        rw [this]; exact beq_self_eq_true _)
      have HV1r : Hid (WRow wr wr.heap.size v1 ws) := Lib.hid ((HV1'.out.below hb (Nat.le_refl _)).mono hb.size)
      have HV2r : Hid (WRow wr wr.heap.size (.slice A ws.length cap) ws) := Lib.hid ((HV2.out.below hb (Nat.le_refl _)).mono hb.size)
      rw [← HN.out] at HV2r
      have HBr := Lib.hid (HB3.out.trans (hb.mono HB3.out.size))
      have HGr : Hid (Glob wr) := Lib.hid (HG.out.to HBr.out)
      clear HV1' HV2 HF hb HB3 hsz
      go_wp2_with fail
      refine (wequal_any v1 _ ws _ (by have := HN.out; omega) HV1r.out HV2r.out).mono ?_
      rintro e w4 ⟨rfl, hb4⟩
      have HB4 := Lib.hid (HBr.out.trans (hb4.mono HBr.out.size))
      have HV4 : Hid (WRow w4 w4.heap.size _ ws) := Lib.hid ((HV2r.out.below hb4 (Nat.le_refl _)).mono hb4.size)
      clear hb4
      go_wp2_with fail
      refine (join_b _ ws _ (by have := HN.out; omega) HX.out HV4.out).mono ?_
      rintro e w5 ⟨rfl, hb5⟩
      have HB5 := Lib.hid (HB4.out.trans (hb5.mono HB4.out.size))
      clear hb5
      have hJ := HJ.out
      go_wp2_with fail
      refine (isName_b s tn HTN.out (by have := H2.out; omega) _).mono ?_
      rintro e w6 ⟨rfl, rfl⟩
      go_wp2_with fail
      refine (nameOK_b s tn HTN.out (by have := H2.out; omega) _ (HG.out.to HB5.out)).mono ?_
      rintro e w6 ⟨rfl, hb6⟩
      have HB6 := Lib.hid (HB5.out.trans (hb6.mono HB5.out.size))
      clear hb6
      have hrf : (tn == tn) = true := by simp
      go_wp2_with fail
      refine (isKey_b s tk HTK.out _).mono ?_
      rintro e w7 ⟨rfl, rfl⟩
      have hkf : (tk == tk) = true := by simp
      by_cases h8 : s.size < 8
      · go_wp2_with fail
        refine (keyed_b s tk HTK.out _).mono ?_
        rintro e w7 ⟨rfl, hb7⟩
        have HB7 := Lib.hid (HB6.out.trans (hb7.mono HB6.out.size))
        clear hb7
        go_wp2_with fail
        go_ret
        exact ⟨rfl, HB7.out⟩
      · have hft : (tk == false) = true := by
          have h := HTK.out
          cases tk with
          | false => rfl
          | true => exact absurd (isKey_small _ h) (by simpa using h8)
        go_wp2_with fail
        go_ret
        exact ⟨rfl, HB6.out⟩
end Go.Proofs.YtmngofgminlloaaDoor
