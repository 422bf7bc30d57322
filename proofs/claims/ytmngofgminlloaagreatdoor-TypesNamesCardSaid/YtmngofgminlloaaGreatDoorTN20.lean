/-
  The program's unary() and atom(), of whatever their callees answer by contract.
  The program's atom(), of whatever its callees answer by contract.
-/
import Derived.Test.YtmngofgminlloaaGreatDoorTN19
import Derived.Outline
import Derived.Test.YtmngofgminlloaaGreatDoorTN07
import Derived.Deep.DeepCutAuto
set_option linter.unusedSimpArgs false
set_option linter.unusedVariables false
namespace Go.Proofs.YtmngofgminlloaaGreatDoor
open Go.RowKit Tw

section
variable {ws : List Wd} {i : Nat}
theorem hq_Minus  (h : headQ ws i = 1) : isAt ws i sMinus = true := by
  unfold headQ at *; repeat' (first | assumption | (exfalso; omega) | (split at h))
theorem hq_Minus'  (h : headQ ws i ≠ 1) : isAt ws i sMinus = false := by
  cases hb : isAt ws i sMinus with
  | false => rfl
  | true => exact absurd (by unfold headQ; simp [hb]) h
theorem hq_Bang (n0 : headQ ws i ≠ 1) (h : headQ ws i = 2) : isAt ws i sBang = true := by
  unfold headQ at *; repeat' (first | assumption | (exfalso; omega) | (split at h))
theorem hq_Bang' (n0 : headQ ws i ≠ 1) (h : headQ ws i ≠ 2) : isAt ws i sBang = false := by
  have e0 := hq_Minus'  n0
  cases hb : isAt ws i sBang with
  | false => rfl
  | true => exact absurd (by unfold headQ; simp [hb, e0]) h
theorem hq_Open (n0 : headQ ws i ≠ 1) (n1 : headQ ws i ≠ 2) (h : headQ ws i = 3) : isAt ws i sOpen = true := by
  unfold headQ at *; repeat' (first | assumption | (exfalso; omega) | (split at h))
theorem hq_Open' (n0 : headQ ws i ≠ 1) (n1 : headQ ws i ≠ 2) (h : headQ ws i ≠ 3) : isAt ws i sOpen = false := by
  have e0 := hq_Minus'  n0
  have e1 := hq_Bang' n0 n1
  cases hb : isAt ws i sOpen with
  | false => rfl
  | true => exact absurd (by unfold headQ; simp [hb, e0, e1]) h
theorem hq_True (n0 : headQ ws i ≠ 1) (n1 : headQ ws i ≠ 2) (n2 : headQ ws i ≠ 3) (h : headQ ws i = 4) : isAt ws i sTrue = true := by
  unfold headQ at *; repeat' (first | assumption | (exfalso; omega) | (split at h))
theorem hq_True' (n0 : headQ ws i ≠ 1) (n1 : headQ ws i ≠ 2) (n2 : headQ ws i ≠ 3) (h : headQ ws i ≠ 4) : isAt ws i sTrue = false := by
  have e0 := hq_Minus'  n0
  have e1 := hq_Bang' n0 n1
  have e2 := hq_Open' n0 n1 n2
  cases hb : isAt ws i sTrue with
  | false => rfl
  | true => exact absurd (by unfold headQ; simp [hb, e0, e1, e2]) h
theorem hq_False (n0 : headQ ws i ≠ 1) (n1 : headQ ws i ≠ 2) (n2 : headQ ws i ≠ 3) (n3 : headQ ws i ≠ 4) (h : headQ ws i = 5) : isAt ws i sFalse = true := by
  unfold headQ at *; repeat' (first | assumption | (exfalso; omega) | (split at h))
theorem hq_False' (n0 : headQ ws i ≠ 1) (n1 : headQ ws i ≠ 2) (n2 : headQ ws i ≠ 3) (n3 : headQ ws i ≠ 4) (h : headQ ws i ≠ 5) : isAt ws i sFalse = false := by
  have e0 := hq_Minus'  n0
  have e1 := hq_Bang' n0 n1
  have e2 := hq_Open' n0 n1 n2
  have e3 := hq_True' n0 n1 n2 n3
  cases hb : isAt ws i sFalse with
  | false => rfl
  | true => exact absurd (by unfold headQ; simp [hb, e0, e1, e2, e3]) h
theorem hq_Host (n0 : headQ ws i ≠ 1) (n1 : headQ ws i ≠ 2) (n2 : headQ ws i ≠ 3) (n3 : headQ ws i ≠ 4) (n4 : headQ ws i ≠ 5) (h : headQ ws i = 6) : isAt ws i sHost = true := by
  unfold headQ at *; repeat' (first | assumption | (exfalso; omega) | (split at h))
theorem hq_Host' (n0 : headQ ws i ≠ 1) (n1 : headQ ws i ≠ 2) (n2 : headQ ws i ≠ 3) (n3 : headQ ws i ≠ 4) (n4 : headQ ws i ≠ 5) (h : headQ ws i ≠ 6) : isAt ws i sHost = false := by
  have e0 := hq_Minus'  n0
  have e1 := hq_Bang' n0 n1
  have e2 := hq_Open' n0 n1 n2
  have e3 := hq_True' n0 n1 n2 n3
  have e4 := hq_False' n0 n1 n2 n3 n4
  cases hb : isAt ws i sHost with
  | false => rfl
  | true => exact absurd (by unfold headQ; simp [hb, e0, e1, e2, e3, e4]) h
theorem hq_tail (n0 : headQ ws i ≠ 1) (n1 : headQ ws i ≠ 2) (n2 : headQ ws i ≠ 3) (n3 : headQ ws i ≠ 4) (n4 : headQ ws i ≠ 5) (n5 : headQ ws i ≠ 6) : headQ ws i = if kindAt ws i = 1 then 7 else if kindAt ws i = 2 then 8 else 0 := by
  have e0 := hq_Minus' n0; have e1 := hq_Bang' n0 n1; have e2 := hq_Open' n0 n1 n2; have e3 := hq_True' n0 n1 n2 n3; have e4 := hq_False' n0 n1 n2 n3 n4; have e5 := hq_Host' n0 n1 n2 n3 n4 n5
  unfold headQ; simp [e0, e1, e2, e3, e4, e5]
end
theorem ret5p {w W : World} {rb b0 : Nat} {v : Value} {ws : List Wd} {i' en : Nat} {x : Ex} {A : Option Addr} {c : Nat} {F : Nat → Prop} (hA : ArgsIn W F (.slice A x.args.length c) x.args) (hF : ∀ g, F g → w.heap.size ≤ g ∧ g ≠ b0)
    (hR : Rq W rb v ws i' en) (hG : w.grownBy W (some rb)) (h0 : w.heap.size ≤ b0) (hr : rb < b0) :
    ExR w rb v ws en (.ex x i') (.returned (.agg #[.int .i64 x.kind, .int .i64 x.n, .string x.text, .slice A x.args.length c, .int .i64 x.pos]))
      (((((W.setCell ⟨b0, 0, none⟩ (.int .i64 x.kind)).setCell ⟨b0, 1, none⟩ (.int .i64 x.n)).setCell ⟨b0, 2, none⟩ (.string x.text)).setCell ⟨b0, 3, none⟩ (.slice A x.args.length c)).setCell ⟨b0, 4, none⟩ (.int .i64 x.pos)) := by
  have hg5 := grown5 W b0 (.int .i64 x.kind) (.int .i64 x.n) (.string x.text) (.slice A x.args.length c) (.int .i64 x.pos)
  exact ⟨A, c, rfl, hA.grown hg5 (fun g h => (hF g h).2) (fun g h => (hF g h).1), hR.grown hg5 hr, grown_new hG hg5 h0⟩

set_option maxRecDepth 100000 in
set_option maxHeartbeats 8000000 in
theorem un_c (rb : Nat) (v : Value) (ws : List Wd) (en i : Nat) (hr : 10 < rb) (h1 : UnC rb v ws en (i + 1)) (h2 : AtomC rb v ws en i) : UnC rb v ws en i := by
  intro r hd w h hG
  have H1 := Lib.hid h1; have H2 := Lib.hid h2; have HR := Lib.hid h; have HG := Lib.hid hG; have HD := Lib.hid hd
  have hrl := h.lt
  clear h1 h2 h hG hd
  go_enter Tryz.func239, Tryz.ntmps239
  go_wp2_with fail
  refine (at_p (HR.out.keep ((Below.refl _ _).alloc (Nat.le_refl _) _))).mono ?_
  rintro e w1 ⟨rfl, hb⟩
  have HB0 : Hid (w1.heap[w.heap.size]? = some (.cells #[.int .i64 0, .int .i64 0, .string ⟨#[]⟩, .slice none 0 0, .int .i64 0] 186 (0, 0))) := Lib.hid ((hb.block _ (by simp)).trans (heap_alloc_new w _))
  have hbb : Below w.heap.size w w1 := ((Below.refl _ _).alloc (Nat.le_refl _) _).trans (hb.mono (by simp))
  have HR1 := Lib.hid (HR.out.keep hbb)
  have HG1 := Lib.hid (grown_of_below hbb (some rb))
  clear hb hbb
  obtain ⟨t1, ht1⟩ : ∃ t, isAt ws i sMinus = t := ⟨_, rfl⟩
  have T1 := Lib.hid ht1; clear ht1
  go_wp2_with fail
  refine (take_p sMinus (ne_of (by decide)) t1 HR1.out T1.out).mono ?_
  rintro e w2 ⟨rfl, hr2, hg⟩
  have HR2 := Lib.hid hr2
  have HG2 := Lib.hid (grown_trans HG1.out hg)
  have HB2 := Lib.hid ((hg.block w.heap.size (lt_of_some HB0.out) (by simp; omega)).trans HB0.out)
  clear hr2 hg HR1 HG1 HB0
  cases t1 with
  | true =>
    have hq := head1 T1.out
    have HQ := Lib.hid hq; clear hq
    simp only [if_true] at HR2
    cases r with
    | ex x j =>
      have hx : ∃ y, x = .mk 4 0 sNone [y] (posAt ws i en) ∧ Dc ws en (.one (i + 1)) (.ex y j) := by
        have h := HD.out
        cases h with
        | neg _ h => exact ⟨_, rfl, h⟩
        | _ => exfalso; have := HQ.out; omega
      obtain ⟨y, rfl, hy⟩ := hx
      have HY := Lib.hid hy; clear hy
      go_wp2_with fail
      refine (H1.out _ HY.out w2 HR2.out (HG.out.of HG2.out hr)).mono ?_
      rintro e w4 ⟨A, c, rfl, hA, hR, hg⟩
      have HAx := Lib.hid hA; have HR4 := Lib.hid hR
      have hz2 := lt_of_some HB2.out; have hs4 := hg.size
      replace HB2 := Lib.hid ((hg.block w.heap.size hz2 (by simp; omega)).trans HB2.out)
      replace HG2 := Lib.hid (grown_trans HG2.out hg)
      clear hA hR hg
      have hz4 := lt_of_some HB2.out
      have h5 := grown5 w4 w.heap.size (.int .i64 4) (.int .i64 0) (.string ⟨#[]⟩) (.slice (some ⟨w4.heap.size, 0, none⟩) 1 1) (.int .i64 (posAt ws i en))
      have hsz : (((((w4.setCell ⟨w.heap.size, 0, none⟩ (.int .i64 4)).setCell ⟨w.heap.size, 1, none⟩ (.int .i64 0)).setCell ⟨w.heap.size, 2, none⟩ (.string ⟨#[]⟩)).setCell ⟨w.heap.size, 3, none⟩ (.slice (some ⟨w4.heap.size, 0, none⟩) 1 1)).setCell ⟨w.heap.size, 4, none⟩ (.int .i64 (posAt ws i en))).heap.size = w4.heap.size := by simp
      have HX := Lib.hid (args_one (W := (((((w4.setCell ⟨w.heap.size, 0, none⟩ (.int .i64 4)).setCell ⟨w.heap.size, 1, none⟩ (.int .i64 0)).setCell ⟨w.heap.size, 2, none⟩ (.string ⟨#[]⟩)).setCell ⟨w.heap.size, 3, none⟩ (.slice (some ⟨w4.heap.size, 0, none⟩) 1 1)).setCell ⟨w.heap.size, 4, none⟩ (.int .i64 (posAt ws i en)))) (b1 := w.heap.size) (cap := 1) (T := 186) (F := fun g => w.heap.size ≤ g) HAx.out h5 (fun g (h : w2.heap.size ≤ g) => ⟨by omega, by omega⟩) hsz (by omega))
      have HW := Lib.hid ((heap_alloc_old (((((w4.setCell ⟨w.heap.size, 0, none⟩ (.int .i64 4)).setCell ⟨w.heap.size, 1, none⟩ (.int .i64 0)).setCell ⟨w.heap.size, 2, none⟩ (.string ⟨#[]⟩)).setCell ⟨w.heap.size, 3, none⟩ (.slice (some ⟨w4.heap.size, 0, none⟩) 1 1)).setCell ⟨w.heap.size, 4, none⟩ (.int .i64 (posAt ws i en))) (.cells #[.int .i64 y.kind, .int .i64 y.n, .string y.text, .slice A y.args.length c, .int .i64 y.pos] 186) (by rw [hsz]; exact hz4)).trans (set5 (.int .i64 4) (.int .i64 0) (.string ⟨#[]⟩) (.slice (some ⟨w4.heap.size, 0, none⟩) 1 1) (.int .i64 (posAt ws i en)) HB2.out))
      have hal : Below (((((w4.setCell ⟨w.heap.size, 0, none⟩ (.int .i64 4)).setCell ⟨w.heap.size, 1, none⟩ (.int .i64 0)).setCell ⟨w.heap.size, 2, none⟩ (.string ⟨#[]⟩)).setCell ⟨w.heap.size, 3, none⟩ (.slice (some ⟨w4.heap.size, 0, none⟩) 1 1)).setCell ⟨w.heap.size, 4, none⟩ (.int .i64 (posAt ws i en))).heap.size (((((w4.setCell ⟨w.heap.size, 0, none⟩ (.int .i64 4)).setCell ⟨w.heap.size, 1, none⟩ (.int .i64 0)).setCell ⟨w.heap.size, 2, none⟩ (.string ⟨#[]⟩)).setCell ⟨w.heap.size, 3, none⟩ (.slice (some ⟨w4.heap.size, 0, none⟩) 1 1)).setCell ⟨w.heap.size, 4, none⟩ (.int .i64 (posAt ws i en))) ((((((w4.setCell ⟨w.heap.size, 0, none⟩ (.int .i64 4)).setCell ⟨w.heap.size, 1, none⟩ (.int .i64 0)).setCell ⟨w.heap.size, 2, none⟩ (.string ⟨#[]⟩)).setCell ⟨w.heap.size, 3, none⟩ (.slice (some ⟨w4.heap.size, 0, none⟩) 1 1)).setCell ⟨w.heap.size, 4, none⟩ (.int .i64 (posAt ws i en))).alloc (.cells #[.int .i64 y.kind, .int .i64 y.n, .string y.text, .slice A y.args.length c, .int .i64 y.pos] 186)) := (Below.refl _ _).alloc (Nat.le_refl _) _
      have HRx := Lib.hid ((HR4.out.grown h5 hrl).keep hal)
      have HGx := Lib.hid (grown_trans (grown_new HG2.out h5 (Nat.le_refl _)) (grown_of_below hal (some rb)))
      clear h5 hal hsz
      obtain ⟨⟨d0, d1, d2, d3, d4⟩, g0, g1, g2, g3, g4⟩ := facts5 HB2.out
      go_wp2_with fail
      (try simp only [Exit.inBlock, Exit.then])
      refine bodyPost_ret (results_cell_row rfl _ _ w.heap.size _ _ _ _ rfl HW.out Tryz.underlying186 rfl exInfo) rfl ?_
      exact ⟨some ⟨w4.heap.size, 0, none⟩, 1, rfl, HX.out, HRx.out, HGx.out⟩
    | bad j =>
      have hx : Dc ws en (.one (i + 1)) (.bad j) := by
        have h := HD.out
        cases h with
        | negB _ h => exact h
        | _ => exfalso; have := HQ.out; omega
      have HY := Lib.hid hx; clear hx
      go_wp2_with fail
      refine (H1.out _ HY.out w2 HR2.out (HG.out.of HG2.out hr)).mono ?_
      rintro e w4 ⟨rfl, hg⟩
      have HG4 := Lib.hid (grown_trans HG2.out hg); clear hg
      unfold badP
      go_wp2_with fail
      exact ⟨rfl, rfl, HG4.out⟩
    | exs l j => have h := HD.out; cases h
  | false =>
    simp only [Bool.false_eq_true, if_false] at HR2
    obtain ⟨t2, ht2⟩ : ∃ t, isAt ws i sBang = t := ⟨_, rfl⟩
    have T2 := Lib.hid ht2; clear ht2
    go_wp2_with fail
    refine (take_p sBang (ne_of (by decide)) t2 HR2.out T2.out).mono ?_
    rintro e w3 ⟨rfl, hr2, hg⟩
    replace HR2 := Lib.hid hr2
    replace HB2 := Lib.hid ((hg.block w.heap.size (lt_of_some HB2.out) (by simp; omega)).trans HB2.out)
    replace HG2 := Lib.hid (grown_trans HG2.out hg)
    clear hr2 hg
    obtain ⟨w2, rfl⟩ : ∃ wo : World, wo = w3 := ⟨_, rfl⟩
    cases t2 with
    | true =>
      have hq := head2 T1.out T2.out
      have HQ := Lib.hid hq; clear hq
      simp only [if_true] at HR2
      cases r with
      | ex x j =>
        have hx : ∃ y, x = .mk 5 0 sNone [y] (posAt ws i en) ∧ Dc ws en (.one (i + 1)) (.ex y j) := by
          have h := HD.out
          cases h with
          | not _ h => exact ⟨_, rfl, h⟩
          | _ => exfalso; have := HQ.out; omega
        obtain ⟨y, rfl, hy⟩ := hx
        have HY := Lib.hid hy; clear hy
        go_wp2_with fail
        refine (H1.out _ HY.out w2 HR2.out (HG.out.of HG2.out hr)).mono ?_
        rintro e w4 ⟨A, c, rfl, hA, hR, hg⟩
        have HAx := Lib.hid hA; have HR4 := Lib.hid hR
        have hz2 := lt_of_some HB2.out; have hs4 := hg.size
        replace HB2 := Lib.hid ((hg.block w.heap.size hz2 (by simp; omega)).trans HB2.out)
        replace HG2 := Lib.hid (grown_trans HG2.out hg)
        clear hA hR hg
        have hz4 := lt_of_some HB2.out
        have h5 := grown5 w4 w.heap.size (.int .i64 5) (.int .i64 0) (.string ⟨#[]⟩) (.slice (some ⟨w4.heap.size, 0, none⟩) 1 1) (.int .i64 (posAt ws i en))
        have hsz : (((((w4.setCell ⟨w.heap.size, 0, none⟩ (.int .i64 5)).setCell ⟨w.heap.size, 1, none⟩ (.int .i64 0)).setCell ⟨w.heap.size, 2, none⟩ (.string ⟨#[]⟩)).setCell ⟨w.heap.size, 3, none⟩ (.slice (some ⟨w4.heap.size, 0, none⟩) 1 1)).setCell ⟨w.heap.size, 4, none⟩ (.int .i64 (posAt ws i en))).heap.size = w4.heap.size := by simp
        have HX := Lib.hid (args_one (W := (((((w4.setCell ⟨w.heap.size, 0, none⟩ (.int .i64 5)).setCell ⟨w.heap.size, 1, none⟩ (.int .i64 0)).setCell ⟨w.heap.size, 2, none⟩ (.string ⟨#[]⟩)).setCell ⟨w.heap.size, 3, none⟩ (.slice (some ⟨w4.heap.size, 0, none⟩) 1 1)).setCell ⟨w.heap.size, 4, none⟩ (.int .i64 (posAt ws i en)))) (b1 := w.heap.size) (cap := 1) (T := 186) (F := fun g => w.heap.size ≤ g) HAx.out h5 (fun g (h : w2.heap.size ≤ g) => ⟨by omega, by omega⟩) hsz (by omega))
        have HW := Lib.hid ((heap_alloc_old (((((w4.setCell ⟨w.heap.size, 0, none⟩ (.int .i64 5)).setCell ⟨w.heap.size, 1, none⟩ (.int .i64 0)).setCell ⟨w.heap.size, 2, none⟩ (.string ⟨#[]⟩)).setCell ⟨w.heap.size, 3, none⟩ (.slice (some ⟨w4.heap.size, 0, none⟩) 1 1)).setCell ⟨w.heap.size, 4, none⟩ (.int .i64 (posAt ws i en))) (.cells #[.int .i64 y.kind, .int .i64 y.n, .string y.text, .slice A y.args.length c, .int .i64 y.pos] 186) (by rw [hsz]; exact hz4)).trans (set5 (.int .i64 5) (.int .i64 0) (.string ⟨#[]⟩) (.slice (some ⟨w4.heap.size, 0, none⟩) 1 1) (.int .i64 (posAt ws i en)) HB2.out))
        have hal : Below (((((w4.setCell ⟨w.heap.size, 0, none⟩ (.int .i64 5)).setCell ⟨w.heap.size, 1, none⟩ (.int .i64 0)).setCell ⟨w.heap.size, 2, none⟩ (.string ⟨#[]⟩)).setCell ⟨w.heap.size, 3, none⟩ (.slice (some ⟨w4.heap.size, 0, none⟩) 1 1)).setCell ⟨w.heap.size, 4, none⟩ (.int .i64 (posAt ws i en))).heap.size (((((w4.setCell ⟨w.heap.size, 0, none⟩ (.int .i64 5)).setCell ⟨w.heap.size, 1, none⟩ (.int .i64 0)).setCell ⟨w.heap.size, 2, none⟩ (.string ⟨#[]⟩)).setCell ⟨w.heap.size, 3, none⟩ (.slice (some ⟨w4.heap.size, 0, none⟩) 1 1)).setCell ⟨w.heap.size, 4, none⟩ (.int .i64 (posAt ws i en))) ((((((w4.setCell ⟨w.heap.size, 0, none⟩ (.int .i64 5)).setCell ⟨w.heap.size, 1, none⟩ (.int .i64 0)).setCell ⟨w.heap.size, 2, none⟩ (.string ⟨#[]⟩)).setCell ⟨w.heap.size, 3, none⟩ (.slice (some ⟨w4.heap.size, 0, none⟩) 1 1)).setCell ⟨w.heap.size, 4, none⟩ (.int .i64 (posAt ws i en))).alloc (.cells #[.int .i64 y.kind, .int .i64 y.n, .string y.text, .slice A y.args.length c, .int .i64 y.pos] 186)) := (Below.refl _ _).alloc (Nat.le_refl _) _
        have HRx := Lib.hid ((HR4.out.grown h5 hrl).keep hal)
        have HGx := Lib.hid (grown_trans (grown_new HG2.out h5 (Nat.le_refl _)) (grown_of_below hal (some rb)))
        clear h5 hal hsz
        obtain ⟨⟨d0, d1, d2, d3, d4⟩, g0, g1, g2, g3, g4⟩ := facts5 HB2.out
        go_wp2_with fail
        (try simp only [Exit.inBlock, Exit.then])
        refine bodyPost_ret (results_cell_row rfl _ _ w.heap.size _ _ _ _ rfl HW.out Tryz.underlying186 rfl exInfo) rfl ?_
        exact ⟨some ⟨w4.heap.size, 0, none⟩, 1, rfl, HX.out, HRx.out, HGx.out⟩
      | bad j =>
        have hx : Dc ws en (.one (i + 1)) (.bad j) := by
          have h := HD.out
          cases h with
          | notB _ h => exact h
          | _ => exfalso; have := HQ.out; omega
        have HY := Lib.hid hx; clear hx
        go_wp2_with fail
        refine (H1.out _ HY.out w2 HR2.out (HG.out.of HG2.out hr)).mono ?_
        rintro e w4 ⟨rfl, hg⟩
        have HG4 := Lib.hid (grown_trans HG2.out hg); clear hg
        unfold badP
        go_wp2_with fail
        exact ⟨rfl, rfl, HG4.out⟩
      | exs l j => have h := HD.out; cases h
    | false =>
      simp only [Bool.false_eq_true, if_false] at HR2
      have hq1 : headQ ws i ≠ 1 := fun e => by rw [hq_Minus e] at T1; exact absurd T1.out (by decide)
      have hq2 : headQ ws i ≠ 2 := fun e => by rw [hq_Bang hq1 e] at T2; exact absurd T2.out (by decide)
      have HA := Lib.hid (H2.out r HD.out hq1 hq2 w2 HR2.out (HG.out.of HG2.out hr))
      clear hq1 hq2
      go_wp2_with fail
      cases r with
      | ex x j =>
        refine HA.out.mono ?_
        rintro e w4 ⟨A, c, rfl, hA, hR, hg⟩
        have HAx := Lib.hid hA; have HR4 := Lib.hid hR
        have hz2 := lt_of_some HB2.out
        replace HB2 := Lib.hid ((hg.block w.heap.size hz2 (by simp; omega)).trans HB2.out)
        replace HG2 := Lib.hid (grown_trans HG2.out hg)
        clear hA hR hg
        obtain ⟨⟨d0, d1, d2, d3, d4⟩, g0, g1, g2, g3, g4⟩ := facts5 HB2.out
        have HW := Lib.hid (set5 (.int .i64 x.kind) (.int .i64 x.n) (.string x.text) (.slice A x.args.length c) (.int .i64 x.pos) HB2.out)
        go_wp2_with fail
        (try simp only [Exit.inBlock, Exit.then])
        refine bodyPost_ret (results_cell_row rfl _ _ w.heap.size _ _ _ _ rfl HW.out Tryz.underlying186 rfl exInfo) rfl ?_
        exact ret5p HAx.out (fun g (h : w2.heap.size ≤ g) => ⟨by omega, by omega⟩) HR4.out HG2.out (Nat.le_refl _) hrl
      | bad j =>
        refine HA.out.mono ?_
        rintro e w4 ⟨rfl, hg⟩
        have HG4 := Lib.hid (grown_trans HG2.out hg); clear hg
        unfold badP
        go_wp2_with fail
        exact ⟨rfl, rfl, HG4.out⟩
      | exs l j => have h := HD.out; cases h
end Go.Proofs.YtmngofgminlloaaGreatDoor

namespace Go.Proofs.YtmngofgminlloaaGreatDoor
open Go.RowKit Tw

theorem num_size {ws : List Wd} {i : Nat} (hN : NumsOk ws) (h : kindAt ws i = 1) : (textAt ws i).size ≤ 18 := by
  unfold kindAt at h; unfold textAt
  cases hx : ws[i]? with
  | none => decide
  | some x => rw [hx] at h; exact hN x (List.mem_of_getElem? hx) h

set_option maxRecDepth 100000 in
set_option maxHeartbeats 8000000 in
theorem atom_c (rb : Nat) (v : Value) (ws : List Wd) (en i : Nat) (hN : NumsOk ws) (hr : 10 < rb) (h1 : ExprC rb v ws en 0 (i + 1)) (h2 : ∀ j, i < j → ArgsP rb v ws en j) : AtomC rb v ws en i := by
  intro r hd hq1 hq2 w h hG
  have H1 := Lib.hid h1; have H2 := Lib.hid h2; have HR := Lib.hid h; have HG := Lib.hid hG; have HN := Lib.hid hN; have HD := Lib.hid hd
  have Q1 := Lib.hid hq1; have Q2 := Lib.hid hq2
  have E1 := Lib.hid (hq_Minus' hq1); have E2 := Lib.hid (hq_Bang' hq1 hq2)
  have hrl := h.lt
  clear h1 h2 h hG hN hd hq1 hq2
  go_enter Tryz.func245, Tryz.ntmps245
  go_wp2_with fail
  refine (at_p (HR.out.keep ((Below.refl _ _).alloc (Nat.le_refl _) _))).mono ?_
  rintro e w1 ⟨rfl, hb⟩
  have hb0 : Below w.heap.size w w1 := ((Below.refl _ _).alloc (Nat.le_refl _) _).trans (hb.mono (by simp))
  have HF : Hid (FrP w _ rb w.heap.size w1.heap.size v ws i en (.int .i64 0) (.int .i64 0) (.string ⟨#[]⟩) (.slice none 0 0) (.int .i64 (posAt ws i en))) :=
    Lib.hid (FrP.start (HR.out.keep hb0) (HG.out.to hb0) hr (grown_of_below hb0 _) hrl (Nat.le_refl _) (by have := hb.size; simp at this; omega) ((hb.block _ (by simp)).trans (heap_alloc_new w _)) _ _ _ _ _)
  clear hb hb0
  go_upto_block 0 with (fail)
  generalize w1.alloc _ = W1 at HF ⊢
  generalize w1.heap.size = b1 at HF ⊢
  obtain ⟨b0, hb0⟩ : ∃ b0, w.heap.size = b0 := ⟨_, rfl⟩
  rw [hb0] at HF
  simp only [hb0]
  have HB0 := Lib.hid hb0; clear hb0
  go_wp2_with fail
  obtain ⟨t3, ht3⟩ : ∃ t, isAt ws i sOpen = t := ⟨_, rfl⟩
  have T3 := Lib.hid ht3; clear ht3
  refine (take_p sOpen (ne_of (by decide)) t3 HF.out.rd T3.out).mono ?_
  rintro e w2 ⟨rfl, hR, hg⟩
  replace HF := Lib.hid (HF.out.step hR hg)
  clear hR hg
  cases t3 with
  | true =>
    simp only [if_true] at HF
    have HQ := Lib.hid (head3 E1.out E2.out T3.out)
    cases r with
    | ex x j =>
      have hx : ∃ j', j = j' + 1 ∧ Dc ws en (.lvl 0 (i + 1)) (.ex x j') ∧ isAt ws j' sClose = true := by
        have h := HD.out
        cases h with
        | par _ h hc => exact ⟨_, rfl, h, hc⟩
        | _ => exfalso; have := HQ.out; omega
      obtain ⟨j', rfl, hy, hc⟩ := hx
      have HY := Lib.hid hy; have HC := Lib.hid hc; clear hy hc
      go_wp2_with fail
      refine (H1.out _ HY.out w2 HF.out.rd HF.out.gl).mono ?_
      rintro e w3 ⟨A, c, rfl, hA, hR, hg⟩
      have HA := Lib.hid hA
      have hz2 := HF.out.z3; have hz0 := HF.out.gr.size; have hz1 := HF.out.z2; have hs := hg.size; have hzr := HF.out.z0
      replace HF := Lib.hid (HF.out.step hR hg)
      have hz3 := HF.out.z3
      clear hR hg hA
      obtain ⟨⟨c0, c1, c2, c3, c4⟩, f0, f1, f2, f3, f4⟩ := facts5 HF.out.ex
      go_wp2_with fail
      have HF5 := Lib.hid (((((HF.out.s0 (.int .i64 x.kind)).s1 (.int .i64 x.n)).s2 (.string x.text)).s3 (.slice A x.args.length c)).s4 (.int .i64 x.pos))
      have HA5 := Lib.hid (ArgsIn.later (F' := fun g => w.heap.size ≤ g ∧ g ≠ b0) HA.out (some b1) (grown5 w3 b1 (.int .i64 x.kind) (.int .i64 x.n) (.string x.text) (.slice A x.args.length c) (.int .i64 x.pos)) (fun g (h : w2.heap.size ≤ g) => by simp; omega) (fun g (h : w2.heap.size ≤ g) => ⟨by omega, by omega⟩))
      clear HA HF c0 c1 c2 c3 c4 f0 f1 f2 f3 f4
      generalize (((((w3.setCell ⟨b1, 0, none⟩ _).setCell ⟨b1, 1, none⟩ _).setCell ⟨b1, 2, none⟩ _).setCell ⟨b1, 3, none⟩ _).setCell ⟨b1, 4, none⟩ _) = W5 at HF5 HA5 ⊢
      refine (want_p sClose (ne_of (by decide)) HF5.out.rd HC.out).mono ?_
      rintro e w6 ⟨rfl, hR, hg⟩
      have HA6 := Lib.hid (ArgsIn.later HA5.out (some rb) hg (fun g (h : w.heap.size ≤ g ∧ g ≠ b0) => by simp; omega) (fun g h => h))
      have HF := Lib.hid (HF5.out.step hR hg)
      clear hR hg HA5 HF5
      obtain ⟨⟨c0, c1, c2, c3, c4⟩, f0, f1, f2, f3, f4⟩ := facts5 HF.out.ex
      obtain ⟨⟨d0, d1, d2, d3, d4⟩, g0, g1, g2, g3, g4⟩ := facts5 HF.out.res
      have HW := Lib.hid (set5 (.int .i64 x.kind) (.int .i64 x.n) (.string x.text) (.slice A x.args.length c) (.int .i64 x.pos) HF.out.res)
      go_wp2_with fail
      (try simp only [Exit.inBlock, Exit.then])
      refine bodyPost_ret (results_cell_row rfl _ _ b0 _ _ _ _ rfl HW.out Tryz.underlying186 rfl exInfo) rfl ?_
      exact HF.out.ret HA6.out (fun g h => h)
    | bad j =>
      have hx : Dc ws en (.lvl 0 (i + 1)) (.bad j) ∨ ∃ x, Dc ws en (.lvl 0 (i + 1)) (.ex x j) ∧ isAt ws j sClose = false := by
        have h := HD.out
        cases h with
        | parB _ h => exact .inl h
        | parC _ h hc => exact .inr ⟨_, h, hc⟩
        | _ => exfalso; have := HQ.out; omega
      rcases hx with hy | ⟨x, hy, hc⟩
      · have HY := Lib.hid hy; clear hy
        go_wp2_with fail
        refine (H1.out _ HY.out w2 HF.out.rd HF.out.gl).mono ?_
        rintro e w9 ⟨rfl, hg⟩
        have HGG := Lib.hid (grown_trans HF.out.gr hg); clear hg
        unfold badP
        go_wp2_with fail
        exact ⟨rfl, rfl, HGG.out⟩
      · have HY := Lib.hid hy; have HC := Lib.hid hc; clear hy hc
        go_wp2_with fail
        refine (H1.out _ HY.out w2 HF.out.rd HF.out.gl).mono ?_
        rintro e w3 ⟨A, c, rfl, hA, hR, hg⟩
        replace HF := Lib.hid (HF.out.step hR hg)
        have hz3 := HF.out.z3
        clear hR hg hA
        obtain ⟨⟨c0, c1, c2, c3, c4⟩, f0, f1, f2, f3, f4⟩ := facts5 HF.out.ex
        go_wp2_with fail
        have HF5 := Lib.hid (((((HF.out.s0 (.int .i64 x.kind)).s1 (.int .i64 x.n)).s2 (.string x.text)).s3 (.slice A x.args.length c)).s4 (.int .i64 x.pos))
        clear HF c0 c1 c2 c3 c4 f0 f1 f2 f3 f4
        have HF := HF5
        clear HF5
        generalize (((((w3.setCell ⟨b1, 0, none⟩ _).setCell ⟨b1, 1, none⟩ _).setCell ⟨b1, 2, none⟩ _).setCell ⟨b1, 3, none⟩ _).setCell ⟨b1, 4, none⟩ _) = W5 at HF ⊢
        refine (want_pb sClose (ne_of (by decide)) HF.out.rd HC.out).mono ?_
        rintro e w9 ⟨rfl, hg⟩
        have HGG := Lib.hid (grown_trans HF.out.gr hg); clear hg
        unfold badP
        go_wp2_with fail
        exact ⟨rfl, rfl, HGG.out⟩
    | exs l j => have h := HD.out; cases h
  | false =>
    simp only [Bool.false_eq_true, if_false] at HF
    have E3 := T3
    have Q3 : Hid (headQ ws i ≠ 3) := Lib.hid (fun e => by have h := hq_Open Q1.out Q2.out e; rw [E3.out] at h; cases h)
    clear T3
    go_wp2_with fail
    obtain ⟨t4, ht4⟩ : ∃ t, isAt ws i sTrue = t := ⟨_, rfl⟩
    have T4 := Lib.hid ht4; clear ht4
    refine (take_p sTrue (ne_of (by decide)) t4 HF.out.rd T4.out).mono ?_
    rintro e w2 ⟨rfl, hR, hg⟩
    replace HF := Lib.hid (HF.out.step hR hg)
    clear hR hg
    cases t4 with
    | true =>
      simp only [if_true] at HF
      have HQ := Lib.hid (head4 E1.out E2.out E3.out T4.out)
      have hx : r = .ex (.mk 2 1 sNone [] (posAt ws i en)) (i + 1) := by
        have h := HD.out
        cases h with
        | tru _ => rfl
        | _ => exfalso; have := HQ.out; omega
      subst hx
      obtain ⟨⟨c0, c1, c2, c3, c4⟩, f0, f1, f2, f3, f4⟩ := facts5 HF.out.ex
      go_upto_region 8 with (fail)
      clear c0 c1 c2 c3 c4 f0 f1 f2 f3 f4
      replace HF := Lib.hid ((HF.out.s0 (.int .i64 2)).s1 (.int .i64 1))
      generalize (w2.setCell ⟨b1, 0, none⟩ _).setCell ⟨b1, 1, none⟩ _ = W3 at HF ⊢
      obtain ⟨⟨c0, c1, c2, c3, c4⟩, f0, f1, f2, f3, f4⟩ := facts5 HF.out.ex
      obtain ⟨⟨d0, d1, d2, d3, d4⟩, g0, g1, g2, g3, g4⟩ := facts5 HF.out.res
      have HW := Lib.hid (set5 (.int .i64 2) (.int .i64 1) (.string ⟨#[]⟩) (.slice none 0 0) (.int .i64 (posAt ws i en)) HF.out.res)
      go_wp2_with fail
      (try simp only [Exit.inBlock, Exit.then])
      refine bodyPost_ret (results_cell_row rfl _ _ b0 _ _ _ _ rfl HW.out Tryz.underlying186 rfl exInfo) rfl ?_
      exact FrP.ret (x := .mk 2 1 sNone [] (posAt ws i en)) (F := fun g => w.heap.size ≤ g ∧ g ≠ b0) HF.out (.nil _ _) (fun g h => h)
    | false =>
      simp only [Bool.false_eq_true, if_false] at HF
      have E4 := T4
      have Q4 : Hid (headQ ws i ≠ 4) := Lib.hid (fun e => by have h := hq_True Q1.out Q2.out Q3.out e; rw [E4.out] at h; cases h)
      clear T4
      go_wp2_with fail
      obtain ⟨t5, ht5⟩ : ∃ t, isAt ws i sFalse = t := ⟨_, rfl⟩
      have T5 := Lib.hid ht5; clear ht5
      refine (take_p sFalse (ne_of (by decide)) t5 HF.out.rd T5.out).mono ?_
      rintro e w2 ⟨rfl, hR, hg⟩
      replace HF := Lib.hid (HF.out.step hR hg)
      clear hR hg
      cases t5 with
      | true =>
        simp only [if_true] at HF
        have HQ := Lib.hid (head5 E1.out E2.out E3.out E4.out T5.out)
        have hx : r = .ex (.mk 2 0 sNone [] (posAt ws i en)) (i + 1) := by
          have h := HD.out
          cases h with
          | fls _ => rfl
          | _ => exfalso; have := HQ.out; omega
        subst hx
        obtain ⟨⟨c0, c1, c2, c3, c4⟩, f0, f1, f2, f3, f4⟩ := facts5 HF.out.ex
        go_upto_region 11 with (fail)
        clear c0 c1 c2 c3 c4 f0 f1 f2 f3 f4
        replace HF := Lib.hid (HF.out.s0 (.int .i64 2))
        generalize w2.setCell ⟨b1, 0, none⟩ _ = W3 at HF ⊢
        obtain ⟨⟨c0, c1, c2, c3, c4⟩, f0, f1, f2, f3, f4⟩ := facts5 HF.out.ex
        obtain ⟨⟨d0, d1, d2, d3, d4⟩, g0, g1, g2, g3, g4⟩ := facts5 HF.out.res
        have HW := Lib.hid (set5 (.int .i64 2) (.int .i64 0) (.string ⟨#[]⟩) (.slice none 0 0) (.int .i64 (posAt ws i en)) HF.out.res)
        go_wp2_with fail
        (try simp only [Exit.inBlock, Exit.then])
        refine bodyPost_ret (results_cell_row rfl _ _ b0 _ _ _ _ rfl HW.out Tryz.underlying186 rfl exInfo) rfl ?_
        exact FrP.ret (x := .mk 2 0 sNone [] (posAt ws i en)) (F := fun g => w.heap.size ≤ g ∧ g ≠ b0) HF.out (.nil _ _) (fun g h => h)
      | false =>
        simp only [Bool.false_eq_true, if_false] at HF
        have E5 := T5
        have Q5 : Hid (headQ ws i ≠ 5) := Lib.hid (fun e => by have h := hq_False Q1.out Q2.out Q3.out Q4.out e; rw [E5.out] at h; cases h)
        clear T5
        go_wp2_with fail
        obtain ⟨t6, ht6⟩ : ∃ t, isAt ws i sHost = t := ⟨_, rfl⟩
        have T6 := Lib.hid ht6; clear ht6
        refine (take_p sHost (ne_of (by decide)) t6 HF.out.rd T6.out).mono ?_
        rintro e w2 ⟨rfl, hR, hg⟩
        replace HF := Lib.hid (HF.out.step hR hg)
        clear hR hg
        cases t6 with
        | true =>
          simp only [if_true] at HF
          have HQ := Lib.hid (head6 E1.out E2.out E3.out E4.out E5.out T6.out)
          by_cases hk : kindAt ws (i + 1) = 1
          · have HK := Lib.hid hk; clear hk
            go_wp2_with fail
            refine (kind_p 1 (by decide) HF.out.rd HK.out).mono ?_
            rintro e w4 ⟨rfl, hR, hg⟩
            have HS := Lib.hid (num_size HN.out HK.out)
            replace HF := Lib.hid (HF.out.step hR hg)
            clear hR hg
            obtain ⟨s, hs⟩ : ∃ s, textAt ws (i + 1) = s := ⟨_, rfl⟩
            rw [hs] at HS; simp only [hs]; have HT := Lib.hid hs; clear hs
            go_wp2_with fail
            refine (number_c s HS.out w4 HF.out.gl).mono ?_
            rintro e w5 ⟨rfl, hb⟩
            replace HF := Lib.hid (HF.out.below hb)
            clear hb
            obtain ⟨⟨c0, c1, c2, c3, c4⟩, f0, f1, f2, f3, f4⟩ := facts5 HF.out.ex
            go_wp2_with fail
            clear c0 c1 c2 c3 c4 f0 f1 f2 f3 f4
            replace HF := Lib.hid ((HF.out.s0 (.int .i64 8)).s1 (.int .i64 (numV s)))
            generalize (w5.setCell ⟨b1, 0, none⟩ _).setCell ⟨b1, 1, none⟩ _ = W5 at HF ⊢
            by_cases ho : isAt ws (i + 2) sOpen = true
            · have HO := Lib.hid ho; clear ho
              refine (want_p sOpen (ne_of (by decide)) HF.out.rd HO.out).mono ?_
              rintro e w6 ⟨rfl, hR, hg⟩
              replace HF := Lib.hid (HF.out.step hR hg)
              clear hR hg
              cases r with
              | ex x j =>
                have hx : ∃ l, x = .mk 8 (numV s) sNone l (posAt ws i en) ∧ Dc ws en (.args 0 (i + 3)) (.exs l j) := by
                  have h := HD.out
                  cases h with
                  | host _ _ _ h => exact ⟨_, by rw [HT.out], h⟩
                  | _ => exfalso; have := HQ.out; omega
                obtain ⟨l, rfl, hy⟩ := hx
                have HY := Lib.hid hy; clear hy
                go_wp2_with fail
                refine (H2.out (i + 3) (by omega) _ HY.out w6 HF.out.rd HF.out.gl).mono ?_
                rintro e w7 ⟨A, c, rfl, hA, hR, hg⟩
                have HA := Lib.hid hA
                have hz2 := HF.out.z3; have hz0 := HF.out.gr.size; have hz1 := HF.out.z2; have hs := hg.size
                replace HF := Lib.hid (HF.out.step hR hg)
                clear hR hg hA
                obtain ⟨⟨c0, c1, c2, c3, c4⟩, f0, f1, f2, f3, f4⟩ := facts5 HF.out.ex
                go_upto_region 16 with (fail)
                clear c0 c1 c2 c3 c4 f0 f1 f2 f3 f4
                have HA7 : Hid (ArgsIn (w7.setCell ⟨b1, 3, none⟩ (.slice A l.length c)) (fun g => w.heap.size ≤ g ∧ g ≠ b0) (.slice A l.length c) l) := Lib.hid (ArgsIn.later HA.out (some b1) (grown_set _ _ _ _) (fun g (h : w6.heap.size ≤ g) => by simp; omega) (fun g (h : w6.heap.size ≤ g) => ⟨by omega, by omega⟩))
                replace HF := Lib.hid (HF.out.s3 (.slice A l.length c))
                clear HA
                generalize w7.setCell ⟨b1, 3, none⟩ _ = W8 at HF HA7 ⊢
                obtain ⟨⟨c0, c1, c2, c3, c4⟩, f0, f1, f2, f3, f4⟩ := facts5 HF.out.ex
                obtain ⟨⟨d0, d1, d2, d3, d4⟩, g0, g1, g2, g3, g4⟩ := facts5 HF.out.res
                have HW := Lib.hid (set5 (.int .i64 8) (.int .i64 (numV s)) (.string sNone) (.slice A l.length c) (.int .i64 (posAt ws i en)) HF.out.res)
                go_wp2_with fail
                (try simp only [Exit.inBlock, Exit.then])
                refine bodyPost_ret (results_cell_row rfl _ _ b0 _ _ _ _ rfl HW.out Tryz.underlying186 rfl exInfo) rfl ?_
                have HZ := Lib.hid (FrP.ret (x := .mk 8 (numV s) sNone l (posAt ws i en)) HF.out HA7.out (fun g h => h))
                simp only [Ex.kind, Ex.n, Ex.text, Ex.args, Ex.pos] at HZ
                exact HZ.out
              | bad j =>
                have hx : Dc ws en (.args 0 (i + 3)) (.bad j) := by
                  have h := HD.out
                  cases h with
                  | hostB _ _ _ h => exact h
                  | hostC _ _ h => rw [HO.out] at h; cases h
                  | hostD _ h => exact absurd HK.out h
                  | _ => exfalso; have := HQ.out; omega
                have HY := Lib.hid hx; clear hx
                go_wp2_with fail
                refine (H2.out (i + 3) (by omega) _ HY.out w6 HF.out.rd HF.out.gl).mono ?_
                rintro e w9 ⟨rfl, hg⟩
                have HGG := Lib.hid (grown_trans HF.out.gr hg); clear hg
                unfold badP
                go_wp2_with fail
                exact ⟨rfl, rfl, HGG.out⟩
              | exs l j => have h := HD.out; cases h
            · have HO := Lib.hid (Bool.eq_false_iff.2 ho); clear ho
              have hx : r = .bad (i + 2) := by
                have h := HD.out
                cases h with
                | hostC _ _ _ => rfl
                | host _ _ h _ => rw [HO.out] at h; cases h
                | hostB _ _ h _ => rw [HO.out] at h; cases h
                | hostD _ h => exact absurd HK.out h
                | _ => exfalso; have := HQ.out; omega
              subst hx
              refine (want_pb sOpen (ne_of (by decide)) HF.out.rd HO.out).mono ?_
              rintro e w9 ⟨rfl, hg⟩
              have HGG := Lib.hid (grown_trans HF.out.gr hg); clear hg
              unfold badP
              go_wp2_with fail
              exact ⟨rfl, rfl, HGG.out⟩
          · have HK := Lib.hid hk; clear hk
            have hx : r = .bad (i + 1) := by
              have h := HD.out
              cases h with
              | hostD _ _ => rfl
              | host _ h _ _ => exact absurd h HK.out
              | hostB _ h _ _ => exact absurd h HK.out
              | hostC _ h _ => exact absurd h HK.out
              | _ => exfalso; have := HQ.out; omega
            subst hx
            go_wp2_with fail
            refine (kind_pb 1 HF.out.rd HK.out).mono ?_
            rintro e w9 ⟨rfl, hg⟩
            have HGG := Lib.hid (grown_trans HF.out.gr hg); clear hg
            unfold badP
            go_wp2_with fail
            exact ⟨rfl, rfl, HGG.out⟩
        | false =>
          simp only [Bool.false_eq_true, if_false] at HF
          have E6 := T6
          have Q6 : Hid (headQ ws i ≠ 6) := Lib.hid (fun e => by have h := hq_Host Q1.out Q2.out Q3.out Q4.out Q5.out e; rw [E6.out] at h; cases h)
          clear T6
          go_wp2_with fail
          obtain ⟨A, cap, hv, hform⟩ := HF.out.rd.row.form
          have c0 := HF.out.rd.c0; have c1 := HF.out.rd.c1
          have hn := HF.out.rd.len; have hp := HF.out.rd.pos
          subst hv
          by_cases hlt : i < ws.length
          · obtain ⟨x, hx⟩ : ∃ x, ws[i]? = some x := ⟨_, List.getElem?_eq_getElem hlt⟩
            obtain ⟨g, rfl, hg, d0, d1, d2⟩ := hform i x hx
            have k0 : (0 : Int) ≤ (i : Int) := by omega
            have k1 : (i : Int) < (ws.length : Int) := by omega
            obtain ⟨t, ht⟩ : ∃ t, (((x.kind : Int)) == 1) = t := ⟨_, rfl⟩
            have HX : Hid (kindAt ws i = x.kind) := Lib.hid (by unfold kindAt; rw [hx])
            clear hx hform d1 d2
            cases t with
            | true =>
              have HKK : Hid (kindAt ws i = 1) := Lib.hid (by rw [HX.out]; have := beq_iff_eq.1 ht; omega)
              go_quiet (fail)
              replace HF := Lib.hid (HF.out.below (below_drewN (Below.refl _ _) nq))
              clear c0 c1 d0 hg
              have HQ := Lib.hid ((hq_tail Q1.out Q2.out Q3.out Q4.out Q5.out Q6.out).trans (if_pos HKK.out))
              obtain ⟨s, hs⟩ : ∃ s, textAt ws i = s := ⟨_, rfl⟩
              have HT := Lib.hid hs; clear hs
              have hx : r = .ex (.mk 1 (numV s) sNone [] (posAt ws i en)) (i + 1) := by
                have h := HD.out
                cases h with
                | num _ => rw [HT.out]
                | _ => exfalso; have := HQ.out; omega
              subst hx
              go_wp2_with fail
              refine (kind_p 1 (by decide) HF.out.rd HKK.out).mono ?_
              rintro e w4 ⟨rfl, hR, hg⟩
              have HS := Lib.hid (num_size HN.out HKK.out)
              replace HF := Lib.hid (HF.out.step hR hg)
              clear hR hg
              rw [HT.out] at HS; simp only [HT.out]
              go_wp2_with fail
              refine (number_c s HS.out w4 HF.out.gl).mono ?_
              rintro e w5 ⟨rfl, hb⟩
              replace HF := Lib.hid (HF.out.below hb)
              clear hb
              obtain ⟨⟨c0, c1, c2, c3, c4⟩, f0, f1, f2, f3, f4⟩ := facts5 HF.out.ex
              go_upto_region 19 with (fail)
              clear c0 c1 c2 c3 c4 f0 f1 f2 f3 f4
              replace HF := Lib.hid ((HF.out.s0 (.int .i64 1)).s1 (.int .i64 (numV s)))
              generalize (w5.setCell ⟨b1, 0, none⟩ _).setCell ⟨b1, 1, none⟩ _ = W5 at HF ⊢
              obtain ⟨⟨c0, c1, c2, c3, c4⟩, f0, f1, f2, f3, f4⟩ := facts5 HF.out.ex
              obtain ⟨⟨d0, d1, d2, d3, d4⟩, g0, g1, g2, g3, g4⟩ := facts5 HF.out.res
              have HW := Lib.hid (set5 (.int .i64 1) (.int .i64 (numV s)) (.string ⟨#[]⟩) (.slice none 0 0) (.int .i64 (posAt ws i en)) HF.out.res)
              go_wp2_with fail
              (try simp only [Exit.inBlock, Exit.then])
              refine bodyPost_ret (results_cell_row rfl _ _ b0 _ _ _ _ rfl HW.out Tryz.underlying186 rfl exInfo) rfl ?_
              exact FrP.ret (x := .mk 1 (numV s) sNone [] (posAt ws i en)) (F := fun g => w.heap.size ≤ g ∧ g ≠ b0) HF.out (.nil _ _) (fun g h => h)
            | false =>
              have HKN : Hid (kindAt ws i ≠ 1) := Lib.hid (by rw [HX.out]; have := beq_eq_false_iff_ne.1 ht; omega)
              go_quiet (fail)
              replace HF := Lib.hid (HF.out.below (below_drewN (Below.refl _ _) nq))
              clear c0 c1 d0 hg
              have hqt := (hq_tail Q1.out Q2.out Q3.out Q4.out Q5.out Q6.out).trans (if_neg HKN.out)
              by_cases hk : kindAt ws i = 2
              · have HQ := Lib.hid (hqt.trans (if_pos hk))
                have HK := Lib.hid hk; clear hk hqt
                go_wp2_with fail
                refine (kind_p 2 (by decide) HF.out.rd HK.out).mono ?_
                rintro e w4 ⟨rfl, hR, hg⟩
                replace HF := Lib.hid (HF.out.step hR hg)
                clear hR hg
                obtain ⟨s, hs⟩ : ∃ s, textAt ws i = s := ⟨_, rfl⟩
                simp only [hs]; have HT := Lib.hid hs; clear hs
                obtain ⟨⟨c0, c1, c2, c3, c4⟩, f0, f1, f2, f3, f4⟩ := facts5 HF.out.ex
                go_wp2_with fail
                clear c0 c1 c2 c3 c4 f0 f1 f2 f3 f4
                replace HF := Lib.hid ((HF.out.s0 (.int .i64 3)).s2 (.string s))
                generalize ((w4.setCell ⟨b1, 0, none⟩ _).setCell ⟨b1, 2, none⟩ _) = W5 at HF ⊢
                obtain ⟨t7, ht7⟩ : ∃ t, isAt ws (i + 1) sOpen = t := ⟨_, rfl⟩
                have T7 := Lib.hid ht7; clear ht7
                refine (take_p sOpen (ne_of (by decide)) t7 HF.out.rd T7.out).mono ?_
                rintro e w6 ⟨rfl, hR, hg⟩
                replace HF := Lib.hid (HF.out.step hR hg)
                clear hR hg
                cases t7 with
                | true =>
                  simp only [if_true] at HF
                  cases r with
                  | ex x j =>
                    have hx : ∃ l, x = .mk 7 0 s l (posAt ws i en) ∧ Dc ws en (.args 0 (i + 2)) (.exs l j) := by
                      have h := HD.out
                      cases h with
                      | call _ _ h => exact ⟨_, by rw [HT.out], h⟩
                      | var _ h => rw [T7.out] at h; cases h
                      | _ => exfalso; have := HQ.out; omega
                    obtain ⟨l, rfl, hy⟩ := hx
                    have HY := Lib.hid hy; clear hy
                    go_wp2_with fail
                    refine (H2.out (i + 2) (by omega) _ HY.out w6 HF.out.rd HF.out.gl).mono ?_
                    rintro e w7 ⟨A, c, rfl, hA, hR, hg⟩
                    have HA := Lib.hid hA
                    have hz2 := HF.out.z3; have hz0 := HF.out.gr.size; have hz1 := HF.out.z2; have hs := hg.size
                    replace HF := Lib.hid (HF.out.step hR hg)
                    clear hR hg hA
                    obtain ⟨⟨c0, c1, c2, c3, c4⟩, f0, f1, f2, f3, f4⟩ := facts5 HF.out.ex
                    go_upto_region 23 with (fail)
                    clear c0 c1 c2 c3 c4 f0 f1 f2 f3 f4
                    have HA7 : Hid (ArgsIn ((w7.setCell ⟨b1, 0, none⟩ (.int .i64 7)).setCell ⟨b1, 3, none⟩ (.slice A l.length c)) (fun g => w.heap.size ≤ g ∧ g ≠ b0) (.slice A l.length c) l) := Lib.hid (ArgsIn.later HA.out (some b1) (grown_trans (grown_set _ _ _ _) (grown_set _ _ _ _)) (fun g (h : w6.heap.size ≤ g) => by simp; omega) (fun g (h : w6.heap.size ≤ g) => ⟨by omega, by omega⟩))
                    replace HF := Lib.hid ((HF.out.s0 (.int .i64 7)).s3 (.slice A l.length c))
                    clear HA
                    generalize (w7.setCell ⟨b1, 0, none⟩ _).setCell ⟨b1, 3, none⟩ _ = W8 at HF HA7 ⊢
                    obtain ⟨⟨c0, c1, c2, c3, c4⟩, f0, f1, f2, f3, f4⟩ := facts5 HF.out.ex
                    obtain ⟨⟨d0, d1, d2, d3, d4⟩, g0, g1, g2, g3, g4⟩ := facts5 HF.out.res
                    have HW := Lib.hid (set5 (.int .i64 7) (.int .i64 0) (.string s) (.slice A l.length c) (.int .i64 (posAt ws i en)) HF.out.res)
                    go_wp2_with fail
                    (try simp only [Exit.inBlock, Exit.then])
                    refine bodyPost_ret (results_cell_row rfl _ _ b0 _ _ _ _ rfl HW.out Tryz.underlying186 rfl exInfo) rfl ?_
                    have HZ := Lib.hid (FrP.ret (x := .mk 7 (0) s l (posAt ws i en)) HF.out HA7.out (fun g h => h))
                    simp only [Ex.kind, Ex.n, Ex.text, Ex.args, Ex.pos] at HZ
                    exact HZ.out
                  | bad j =>
                    have hx : Dc ws en (.args 0 (i + 2)) (.bad j) := by
                      have h := HD.out
                      cases h with
                      | callB _ _ h => exact h
                      | _ => exfalso; have := HQ.out; omega
                    have HY := Lib.hid hx; clear hx
                    go_wp2_with fail
                    refine (H2.out (i + 2) (by omega) _ HY.out w6 HF.out.rd HF.out.gl).mono ?_
                    rintro e w9 ⟨rfl, hg⟩
                    have HGG := Lib.hid (grown_trans HF.out.gr hg); clear hg
                    unfold badP
                    go_wp2_with fail
                    exact ⟨rfl, rfl, HGG.out⟩
                  | exs l j => have h := HD.out; cases h
                | false =>
                  simp only [Bool.false_eq_true, if_false] at HF
                  have hx : r = .ex (.mk 3 0 s [] (posAt ws i en)) (i + 1) := by
                    have h := HD.out
                    cases h with
                    | var _ _ => rw [HT.out]
                    | call _ h _ => rw [T7.out] at h; cases h
                    | callB _ h _ => rw [T7.out] at h; cases h
                    | _ => exfalso; have := HQ.out; omega
                  subst hx
                  obtain ⟨⟨c0, c1, c2, c3, c4⟩, f0, f1, f2, f3, f4⟩ := facts5 HF.out.ex
                  obtain ⟨⟨d0, d1, d2, d3, d4⟩, g0, g1, g2, g3, g4⟩ := facts5 HF.out.res
                  have HW := Lib.hid (set5 (.int .i64 3) (.int .i64 0) (.string s) (.slice none 0 0) (.int .i64 (posAt ws i en)) HF.out.res)
                  go_wp2_with fail
                  (try simp only [Exit.inBlock, Exit.then])
                  refine bodyPost_ret (results_cell_row rfl _ _ b0 _ _ _ _ rfl HW.out Tryz.underlying186 rfl exInfo) rfl ?_
                  exact FrP.ret (x := .mk 3 0 s [] (posAt ws i en)) (F := fun g => w.heap.size ≤ g ∧ g ≠ b0) HF.out (.nil _ _) (fun g h => h)
              · have HQ := Lib.hid (hqt.trans (if_neg hk))
                have HK := Lib.hid hk; clear hk hqt
                have hx : r = .bad i := by
                  have h := HD.out
                  cases h with
                  | nobody _ => rfl
                  | _ => exfalso; have := HQ.out; omega
                subst hx
                go_wp2_with fail
                refine (kind_pb 2 HF.out.rd HK.out).mono ?_
                rintro e w9 ⟨rfl, hg⟩
                have HGG := Lib.hid (grown_trans HF.out.gr hg); clear hg
                unfold badP
                go_wp2_with fail
                exact ⟨rfl, rfl, HGG.out⟩
          · have hi : i = ws.length := by omega
            have HKN : Hid (kindAt ws i ≠ 1) := Lib.hid (by unfold kindAt; rw [List.getElem?_eq_none (by omega)]; decide)
            clear hform
            go_quiet (fail)
            replace HF := Lib.hid (HF.out.below (below_drewN (Below.refl _ _) nq))
            clear c0 c1 hi
            have hqt := (hq_tail Q1.out Q2.out Q3.out Q4.out Q5.out Q6.out).trans (if_neg HKN.out)
            by_cases hk : kindAt ws i = 2
            · have HQ := Lib.hid (hqt.trans (if_pos hk))
              have HK := Lib.hid hk; clear hk hqt
              go_wp2_with fail
              refine (kind_p 2 (by decide) HF.out.rd HK.out).mono ?_
              rintro e w4 ⟨rfl, hR, hg⟩
              replace HF := Lib.hid (HF.out.step hR hg)
              clear hR hg
              obtain ⟨s, hs⟩ : ∃ s, textAt ws i = s := ⟨_, rfl⟩
              simp only [hs]; have HT := Lib.hid hs; clear hs
              obtain ⟨⟨c0, c1, c2, c3, c4⟩, f0, f1, f2, f3, f4⟩ := facts5 HF.out.ex
              go_wp2_with fail
              clear c0 c1 c2 c3 c4 f0 f1 f2 f3 f4
              replace HF := Lib.hid ((HF.out.s0 (.int .i64 3)).s2 (.string s))
              generalize ((w4.setCell ⟨b1, 0, none⟩ _).setCell ⟨b1, 2, none⟩ _) = W5 at HF ⊢
              obtain ⟨t7, ht7⟩ : ∃ t, isAt ws (i + 1) sOpen = t := ⟨_, rfl⟩
              have T7 := Lib.hid ht7; clear ht7
              refine (take_p sOpen (ne_of (by decide)) t7 HF.out.rd T7.out).mono ?_
              rintro e w6 ⟨rfl, hR, hg⟩
              replace HF := Lib.hid (HF.out.step hR hg)
              clear hR hg
              cases t7 with
              | true =>
                simp only [if_true] at HF
                cases r with
                | ex x j =>
                  have hx : ∃ l, x = .mk 7 0 s l (posAt ws i en) ∧ Dc ws en (.args 0 (i + 2)) (.exs l j) := by
                    have h := HD.out
                    cases h with
                    | call _ _ h => exact ⟨_, by rw [HT.out], h⟩
                    | var _ h => rw [T7.out] at h; cases h
                    | _ => exfalso; have := HQ.out; omega
                  obtain ⟨l, rfl, hy⟩ := hx
                  have HY := Lib.hid hy; clear hy
                  go_wp2_with fail
                  refine (H2.out (i + 2) (by omega) _ HY.out w6 HF.out.rd HF.out.gl).mono ?_
                  rintro e w7 ⟨A, c, rfl, hA, hR, hg⟩
                  have HA := Lib.hid hA
                  have hz2 := HF.out.z3; have hz0 := HF.out.gr.size; have hz1 := HF.out.z2; have hs := hg.size
                  replace HF := Lib.hid (HF.out.step hR hg)
                  clear hR hg hA
                  obtain ⟨⟨c0, c1, c2, c3, c4⟩, f0, f1, f2, f3, f4⟩ := facts5 HF.out.ex
                  go_upto_region 23 with (fail)
                  clear c0 c1 c2 c3 c4 f0 f1 f2 f3 f4
                  have HA7 : Hid (ArgsIn ((w7.setCell ⟨b1, 0, none⟩ (.int .i64 7)).setCell ⟨b1, 3, none⟩ (.slice A l.length c)) (fun g => w.heap.size ≤ g ∧ g ≠ b0) (.slice A l.length c) l) := Lib.hid (ArgsIn.later HA.out (some b1) (grown_trans (grown_set _ _ _ _) (grown_set _ _ _ _)) (fun g (h : w6.heap.size ≤ g) => by simp; omega) (fun g (h : w6.heap.size ≤ g) => ⟨by omega, by omega⟩))
                  replace HF := Lib.hid ((HF.out.s0 (.int .i64 7)).s3 (.slice A l.length c))
                  clear HA
                  generalize (w7.setCell ⟨b1, 0, none⟩ _).setCell ⟨b1, 3, none⟩ _ = W8 at HF HA7 ⊢
                  obtain ⟨⟨c0, c1, c2, c3, c4⟩, f0, f1, f2, f3, f4⟩ := facts5 HF.out.ex
                  obtain ⟨⟨d0, d1, d2, d3, d4⟩, g0, g1, g2, g3, g4⟩ := facts5 HF.out.res
                  have HW := Lib.hid (set5 (.int .i64 7) (.int .i64 0) (.string s) (.slice A l.length c) (.int .i64 (posAt ws i en)) HF.out.res)
                  go_wp2_with fail
                  (try simp only [Exit.inBlock, Exit.then])
                  refine bodyPost_ret (results_cell_row rfl _ _ b0 _ _ _ _ rfl HW.out Tryz.underlying186 rfl exInfo) rfl ?_
                  have HZ := Lib.hid (FrP.ret (x := .mk 7 (0) s l (posAt ws i en)) HF.out HA7.out (fun g h => h))
                  simp only [Ex.kind, Ex.n, Ex.text, Ex.args, Ex.pos] at HZ
                  exact HZ.out
                | bad j =>
                  have hx : Dc ws en (.args 0 (i + 2)) (.bad j) := by
                    have h := HD.out
                    cases h with
                    | callB _ _ h => exact h
                    | _ => exfalso; have := HQ.out; omega
                  have HY := Lib.hid hx; clear hx
                  go_wp2_with fail
                  refine (H2.out (i + 2) (by omega) _ HY.out w6 HF.out.rd HF.out.gl).mono ?_
                  rintro e w9 ⟨rfl, hg⟩
                  have HGG := Lib.hid (grown_trans HF.out.gr hg); clear hg
                  unfold badP
                  go_wp2_with fail
                  exact ⟨rfl, rfl, HGG.out⟩
                | exs l j => have h := HD.out; cases h
              | false =>
                simp only [Bool.false_eq_true, if_false] at HF
                have hx : r = .ex (.mk 3 0 s [] (posAt ws i en)) (i + 1) := by
                  have h := HD.out
                  cases h with
                  | var _ _ => rw [HT.out]
                  | call _ h _ => rw [T7.out] at h; cases h
                  | callB _ h _ => rw [T7.out] at h; cases h
                  | _ => exfalso; have := HQ.out; omega
                subst hx
                obtain ⟨⟨c0, c1, c2, c3, c4⟩, f0, f1, f2, f3, f4⟩ := facts5 HF.out.ex
                obtain ⟨⟨d0, d1, d2, d3, d4⟩, g0, g1, g2, g3, g4⟩ := facts5 HF.out.res
                have HW := Lib.hid (set5 (.int .i64 3) (.int .i64 0) (.string s) (.slice none 0 0) (.int .i64 (posAt ws i en)) HF.out.res)
                go_wp2_with fail
                (try simp only [Exit.inBlock, Exit.then])
                refine bodyPost_ret (results_cell_row rfl _ _ b0 _ _ _ _ rfl HW.out Tryz.underlying186 rfl exInfo) rfl ?_
                exact FrP.ret (x := .mk 3 0 s [] (posAt ws i en)) (F := fun g => w.heap.size ≤ g ∧ g ≠ b0) HF.out (.nil _ _) (fun g h => h)
            · have HQ := Lib.hid (hqt.trans (if_neg hk))
              have HK := Lib.hid hk; clear hk hqt
              have hx : r = .bad i := by
                have h := HD.out
                cases h with
                | nobody _ => rfl
                | _ => exfalso; have := HQ.out; omega
              subst hx
              go_wp2_with fail
              refine (kind_pb 2 HF.out.rd HK.out).mono ?_
              rintro e w9 ⟨rfl, hg⟩
              have HGG := Lib.hid (grown_trans HF.out.gr hg); clear hg
              unfold badP
              go_wp2_with fail
              exact ⟨rfl, rfl, HGG.out⟩
end Go.Proofs.YtmngofgminlloaaGreatDoor
