/-
  The reference's exprFault, kind by kind (C).
-/
import Derived.Test.YtmngofgminlloaaGreatDoorTT11
set_option linter.all false
namespace Go.Proofs.YtmngofgminlloaaGreatDoor
open Go.RowKit Tw Go.Maps

set_option maxRecDepth 100000 in
set_option maxHeartbeats 8000000 in
theorem exF_k6 (left : Nat) (h1 : 1 ≤ left) (h40 : left ≤ 40) (ih : ExF (left - 1)) (n : Int) (t : ByteArray) (xs : List Ex) (p : Int) (A : Option Addr) (c : Nat) (F : Nat → Prop) (w : World) (hA : ArgsIn w F (.slice A xs.length c) xs) (hZ : ExZ (.mk 6 n t xs p)) (hG : Glob w) :
    Calls Tryz.prog 102 #[.agg #[.int .i64 6, .int .i64 n, .string t, .slice A xs.length c, .int .i64 p], .int .i64 left] w fun e w' => e = .returned (.int .i64 (exF (.mk 6 n t xs p) left)) ∧ Below w.heap.size w w' := by
  have HA := Lib.hid hA; have HZ := Lib.hid hZ; have HG := Lib.hid hG; have IH := Lib.hid ih
  obtain ⟨w1, w2, w3, w4, w5, w6, r1, r2, r3, r4, r5, r6, hown, hb6⟩ := tab_made (w.alloc (.cells #[.int .i64 6, .int .i64 n, .string t, .slice A xs.length c, .int .i64 p] 186))
  have hm : (w.alloc (.cells #[.int .i64 6, .int .i64 n, .string t, .slice A xs.length c, .int .i64 p] 186)).heap.size = w.heap.size + 1 := by simp
  rw [hm] at r1 r2 r3 r4 r5 r6 hown
  have hx6 : w6.heap[w.heap.size]? = some (.cells #[.int .i64 6, .int .i64 n, .string t, .slice A xs.length c, .int .i64 p] 186 (0, 0)) := (hb6.block _ (by simp)).trans (heap_alloc_new w _)
  have HB6 := Lib.hid (((Below.refl w.heap.size w).alloc (Nat.le_refl _) (.cells #[.int .i64 6, .int .i64 n, .string t, .slice A xs.length c, .int .i64 p] 186)).trans (hb6.mono (by simp)))
  have lk := tab_at hown 6 2 true (by decide) tab_6.1 tab_6.2
  have HX6 := Lib.hid hx6
  have HG6 := Lib.hid (HG.out.to HB6.out)
  obtain ⟨⟨c0, c1, c2, c3, c4⟩, -⟩ := facts5 hx6
  have hs6 : w.heap.size < w6.heap.size := lt_of_some hx6
  have hzt : t.size ≤ maxLen := HZ.out.args.1
  have hzl : xs.length ≤ 281474976710656 := HZ.out.args.2.1
  have HZT := Lib.hid hzt
  obtain ⟨bn, hbn⟩ : ∃ b, nameB t = b := ⟨_, rfl⟩
  obtain ⟨m, hm2⟩ : ∃ m, lv t.data.toList = m := ⟨_, rfl⟩
  have HN := Lib.hid hbn; have HM := Lib.hid hm2
  have NC := Lib.hid (nameOK_b t bn hbn w6 hzt HG6.out)
  have BC : Hid (Calls Tryz.prog 161 #[.string t] w6 fun e w' => e = .returned (.int .i64 m) ∧ Below w6.heap.size w6 w') := Lib.hid (by rw [← hm2]; exact bind_c t w6 HG6.out)
  clear hA hZ hG ih hm hown hx6 hb6 hbn hm2 hzt
  have hl1 : (1 : Int) ≤ (left : Int) := by omega
  have hmm := @run_makeMap Tryz.prog
  go_enter Tryz.func102, Tryz.ntmps102
  go_wp2_with (first | (go_at_call 161; refine BC.out.mono ?_; rintro e w7 ⟨rfl, hb7⟩; have d3 := (hb7.cell (p := ⟨w.heap.size, 3, none⟩) hs6).trans c3; have d1 := (hb7.cell (p := ⟨w.heap.size, 1, none⟩) hs6).trans c1; have d0 := (hb7.cell (p := ⟨w.heap.size, 0, none⟩) hs6).trans c0) | (go_at_call 47; refine NC.out.mono ?_; rintro e w7 ⟨rfl, hb7⟩; have d3 := (hb7.cell (p := ⟨w.heap.size, 3, none⟩) hs6).trans c3; have d1 := (hb7.cell (p := ⟨w.heap.size, 1, none⟩) hs6).trans c1; have d0 := (hb7.cell (p := ⟨w.heap.size, 0, none⟩) hs6).trans c0))
  all_goals try (go_ret; generalize hL : xs.length = L at *; (try simp only [beq_iff_eq, beq_eq_false_iff_ne, ne_eq] at *); exact ⟨by rw [exF, hL, headF_3 h1 (by rw [ok6, HM.out] <;> first | rfl | (simp only [Bool.true_and, Bool.false_and, Bool.and_eq_true, Bool.or_eq_true, Bool.and_eq_false_iff, Bool.or_eq_false_iff, decide_eq_true_eq, decide_eq_false_iff_not, ne_eq, List.length_nil, and_true, true_and]; omega))]; rfl, by first | exact HB6.out | exact HB6.out.trans (hb7.mono HB6.out.size)⟩)
  all_goals try (go_ret; generalize hL : xs.length = L at *; (try simp only [beq_iff_eq, beq_eq_false_iff_ne, ne_eq] at *); exact ⟨by rw [exF, hL, headF_2 h1 (by rw [ok6, HM.out] <;> first | rfl | (simp only [Bool.true_and, Bool.false_and, Bool.and_eq_true, Bool.or_eq_true, Bool.and_eq_false_iff, Bool.or_eq_false_iff, decide_eq_true_eq, decide_eq_false_iff_not, ne_eq, List.length_nil, and_true, true_and]; omega)) (by omega)]; rfl, by first | exact HB6.out | exact HB6.out.trans (hb7.mono HB6.out.size)⟩)
  have HH : Hid (headF 6 n t xs.length left = none) := Lib.hid (by
    generalize hL : xs.length = L at *; (try simp only [beq_iff_eq, beq_eq_false_iff_ne, ne_eq] at *)
    exact headF_0 h1 (by rw [ok6, HM.out] <;> first | rfl | (simp only [Bool.true_and, Bool.false_and, Bool.and_eq_true, Bool.or_eq_true, Bool.and_eq_false_iff, Bool.or_eq_false_iff, decide_eq_true_eq, decide_eq_false_iff_not, ne_eq, List.length_nil, and_true, true_and]; omega)) (by omega))
  go_loopw [122] (fun i wr => ∃ j : Nat, j ≤ xs.length ∧ i = .int .i64 j ∧ Hid (exsF (xs.take j) (left - 1) = 0) ∧ Hid (Below w.heap.size w wr)) (fun i _ => xs.length - (intOf i).toNat)
  case atStart => exact ⟨0, Nat.zero_le _, rfl, Lib.hid (by rw [List.take_zero, exsF]), by first | exact HB6 | exact Lib.hid (HB6.out.trans (hb7.mono HB6.out.size))⟩
  case round =>
    clear c0 c1 c2 c3 c4 lk r1 r2 r3 r4 r5 r6
    obtain ⟨j, hj, rfl, HE, HB⟩ := hrel
    by_cases hlt : j < xs.length
    · obtain ⟨x, hx⟩ : ∃ x, xs[j]? = some x := ⟨_, List.getElem?_eq_getElem hlt⟩
      obtain ⟨g, off, A', c', rfl, -, hg, hk, a0, a1, a2, a3, a4⟩ := HA.out.at j x hx
      have b0 := (HB.out.cell (p := ⟨g, off + j * 5, none⟩) hg).trans a0
      have b1 := (HB.out.cell (p := ⟨g, off + j * 5 + 1, none⟩) hg).trans a1
      have b2 := (HB.out.cell (p := ⟨g, off + j * 5 + 2, none⟩) hg).trans a2
      have b3 := (HB.out.cell (p := ⟨g, off + j * 5 + 3, none⟩) hg).trans a3
      have b4 := (HB.out.cell (p := ⟨g, off + j * 5 + 4, none⟩) hg).trans a4
      clear a0 a1 a2 a3 a4
      have hin : x ∈ xs := List.mem_of_getElem? hx
      have HX := Lib.hid hx; have HK := Lib.hid hk; have HIN := Lib.hid hin
      clear hx hk hin
      have k0 : (0 : Int) ≤ (j : Int) := by omega
      have k1 : (j : Int) < (xs.length : Int) := by omega
      go_wp2_with fail
      have HBa := Lib.hid (HB.out.alloc HB.out.size (.cells #[.int .i64 x.kind, .int .i64 x.n, .string x.text, .slice A' x.args.length c', .int .i64 x.pos] 186))
      refine (IH.out _ (by omega) x A' c' F _ (HK.out.keep (F' := F) (fun q h1 h2 => ⟨h1, Nat.lt_of_lt_of_le h2 HBa.out.size, HBa.out.block q h2⟩)) (HZ.out.args.2.2 x HIN.out) (HG.out.to HBa.out)).mono ?_
      rintro e w8 ⟨rfl, hb8⟩
      have HB8 := Lib.hid (HBa.out.trans (hb8.mono HBa.out.size))
      obtain ⟨z, hz⟩ : ∃ z, exF x (left - 1) = z := ⟨_, rfl⟩
      rw [hz]
      have HZ2 := Lib.hid hz
      clear hz hb8 b0 b1 b2 b3 b4
      by_cases hz0 : z = 0
      · subst hz0
        go_wp2_with fail
        go_roundw
        case rel => exact ⟨j + 1, by omega, by go_num, Lib.hid (exsF_snoc HX.out HE.out HZ2.out), HB8⟩
        case measure => simp [intOf]; omega
      · have e0 : (z != 0) = true := by simpa using hz0
        have HZ0 := Lib.hid hz0; clear hz0
        go_wp2_with fail
        go_ret
        exact ⟨by rw [exF, HH.out, exsF_hit HX.out HE.out (by rw [HZ2.out]; exact HZ0.out), HZ2.out]; rfl, HB8.out⟩
    · have hje : j = xs.length := by omega
      have HF : Hid (exsF xs (left - 1) = 0) := Lib.hid (by have := HE.out; rw [hje, List.take_length] at this; exact this)
      clear hje
      go_wp2_with fail
      go_ret
      exact ⟨by rw [exF, HH.out, HF.out]; rfl, HB.out⟩

set_option maxRecDepth 100000 in
set_option maxHeartbeats 8000000 in
theorem exF_k7 (left : Nat) (h1 : 1 ≤ left) (h40 : left ≤ 40) (ih : ExF (left - 1)) (n : Int) (t : ByteArray) (xs : List Ex) (p : Int) (A : Option Addr) (c : Nat) (F : Nat → Prop) (w : World) (hA : ArgsIn w F (.slice A xs.length c) xs) (hZ : ExZ (.mk 7 n t xs p)) (hG : Glob w) :
    Calls Tryz.prog 102 #[.agg #[.int .i64 7, .int .i64 n, .string t, .slice A xs.length c, .int .i64 p], .int .i64 left] w fun e w' => e = .returned (.int .i64 (exF (.mk 7 n t xs p) left)) ∧ Below w.heap.size w w' := by
  have HA := Lib.hid hA; have HZ := Lib.hid hZ; have HG := Lib.hid hG; have IH := Lib.hid ih
  obtain ⟨w1, w2, w3, w4, w5, w6, r1, r2, r3, r4, r5, r6, hown, hb6⟩ := tab_made (w.alloc (.cells #[.int .i64 7, .int .i64 n, .string t, .slice A xs.length c, .int .i64 p] 186))
  have hm : (w.alloc (.cells #[.int .i64 7, .int .i64 n, .string t, .slice A xs.length c, .int .i64 p] 186)).heap.size = w.heap.size + 1 := by simp
  rw [hm] at r1 r2 r3 r4 r5 r6 hown
  have hx6 : w6.heap[w.heap.size]? = some (.cells #[.int .i64 7, .int .i64 n, .string t, .slice A xs.length c, .int .i64 p] 186 (0, 0)) := (hb6.block _ (by simp)).trans (heap_alloc_new w _)
  have HB6 := Lib.hid (((Below.refl w.heap.size w).alloc (Nat.le_refl _) (.cells #[.int .i64 7, .int .i64 n, .string t, .slice A xs.length c, .int .i64 p] 186)).trans (hb6.mono (by simp)))
  have lk := tab_at hown 7 0 false (by decide) tab_7.1 tab_7.2
  have HX6 := Lib.hid hx6
  have HG6 := Lib.hid (HG.out.to HB6.out)
  obtain ⟨⟨c0, c1, c2, c3, c4⟩, -⟩ := facts5 hx6
  have hs6 : w.heap.size < w6.heap.size := lt_of_some hx6
  have hzt : t.size ≤ maxLen := HZ.out.args.1
  have hzl : xs.length ≤ 281474976710656 := HZ.out.args.2.1
  have HZT := Lib.hid hzt
  obtain ⟨bn, hbn⟩ : ∃ b, nameB t = b := ⟨_, rfl⟩
  obtain ⟨m, hm2⟩ : ∃ m, lv t.data.toList = m := ⟨_, rfl⟩
  have HN := Lib.hid hbn; have HM := Lib.hid hm2
  have NC := Lib.hid (nameOK_b t bn hbn w6 hzt HG6.out)
  have BC : Hid (Calls Tryz.prog 161 #[.string t] w6 fun e w' => e = .returned (.int .i64 m) ∧ Below w6.heap.size w6 w') := Lib.hid (by rw [← hm2]; exact bind_c t w6 HG6.out)
  clear hA hZ hG ih hm hown hx6 hb6 hbn hm2 hzt
  have hl1 : (1 : Int) ≤ (left : Int) := by omega
  have hmm := @run_makeMap Tryz.prog
  cases bn with
  | true =>
    go_enter Tryz.func102, Tryz.ntmps102
    go_wp2_with (first | (go_at_call 161; refine BC.out.mono ?_; rintro e w7 ⟨rfl, hb7⟩; have d3 := (hb7.cell (p := ⟨w.heap.size, 3, none⟩) hs6).trans c3; have d1 := (hb7.cell (p := ⟨w.heap.size, 1, none⟩) hs6).trans c1; have d0 := (hb7.cell (p := ⟨w.heap.size, 0, none⟩) hs6).trans c0) | (go_at_call 47; refine NC.out.mono ?_; rintro e w7 ⟨rfl, hb7⟩; have d3 := (hb7.cell (p := ⟨w.heap.size, 3, none⟩) hs6).trans c3; have d1 := (hb7.cell (p := ⟨w.heap.size, 1, none⟩) hs6).trans c1; have d0 := (hb7.cell (p := ⟨w.heap.size, 0, none⟩) hs6).trans c0))
    all_goals try (go_ret; generalize hL : xs.length = L at *; (try simp only [beq_iff_eq, beq_eq_false_iff_ne, ne_eq] at *); exact ⟨by rw [exF, hL, headF_3 h1 (by rw [ok7, HN.out] <;> first | rfl | (simp only [Bool.true_and, Bool.false_and, Bool.and_eq_true, Bool.or_eq_true, Bool.and_eq_false_iff, Bool.or_eq_false_iff, decide_eq_true_eq, decide_eq_false_iff_not, ne_eq, List.length_nil, and_true, true_and]; omega))]; rfl, by first | exact HB6.out | exact HB6.out.trans (hb7.mono HB6.out.size)⟩)
    all_goals try (go_ret; generalize hL : xs.length = L at *; (try simp only [beq_iff_eq, beq_eq_false_iff_ne, ne_eq] at *); exact ⟨by rw [exF, hL, headF_2 h1 (by rw [ok7, HN.out] <;> first | rfl | (simp only [Bool.true_and, Bool.false_and, Bool.and_eq_true, Bool.or_eq_true, Bool.and_eq_false_iff, Bool.or_eq_false_iff, decide_eq_true_eq, decide_eq_false_iff_not, ne_eq, List.length_nil, and_true, true_and]; omega)) (by omega)]; rfl, by first | exact HB6.out | exact HB6.out.trans (hb7.mono HB6.out.size)⟩)
    have HH : Hid (headF 7 n t xs.length left = none) := Lib.hid (by
      generalize hL : xs.length = L at *; (try simp only [beq_iff_eq, beq_eq_false_iff_ne, ne_eq] at *)
      exact headF_0 h1 (by rw [ok7, HN.out] <;> first | rfl | (simp only [Bool.true_and, Bool.false_and, Bool.and_eq_true, Bool.or_eq_true, Bool.and_eq_false_iff, Bool.or_eq_false_iff, decide_eq_true_eq, decide_eq_false_iff_not, ne_eq, List.length_nil, and_true, true_and]; omega)) (by omega))
    go_loopw [122] (fun i wr => ∃ j : Nat, j ≤ xs.length ∧ i = .int .i64 j ∧ Hid (exsF (xs.take j) (left - 1) = 0) ∧ Hid (Below w.heap.size w wr)) (fun i _ => xs.length - (intOf i).toNat)
    case atStart => exact ⟨0, Nat.zero_le _, rfl, Lib.hid (by rw [List.take_zero, exsF]), by first | exact HB6 | exact Lib.hid (HB6.out.trans (hb7.mono HB6.out.size))⟩
    case round =>
      clear c0 c1 c2 c3 c4 lk r1 r2 r3 r4 r5 r6
      obtain ⟨j, hj, rfl, HE, HB⟩ := hrel
      by_cases hlt : j < xs.length
      · obtain ⟨x, hx⟩ : ∃ x, xs[j]? = some x := ⟨_, List.getElem?_eq_getElem hlt⟩
        obtain ⟨g, off, A', c', rfl, -, hg, hk, a0, a1, a2, a3, a4⟩ := HA.out.at j x hx
        have b0 := (HB.out.cell (p := ⟨g, off + j * 5, none⟩) hg).trans a0
        have b1 := (HB.out.cell (p := ⟨g, off + j * 5 + 1, none⟩) hg).trans a1
        have b2 := (HB.out.cell (p := ⟨g, off + j * 5 + 2, none⟩) hg).trans a2
        have b3 := (HB.out.cell (p := ⟨g, off + j * 5 + 3, none⟩) hg).trans a3
        have b4 := (HB.out.cell (p := ⟨g, off + j * 5 + 4, none⟩) hg).trans a4
        clear a0 a1 a2 a3 a4
        have hin : x ∈ xs := List.mem_of_getElem? hx
        have HX := Lib.hid hx; have HK := Lib.hid hk; have HIN := Lib.hid hin
        clear hx hk hin
        have k0 : (0 : Int) ≤ (j : Int) := by omega
        have k1 : (j : Int) < (xs.length : Int) := by omega
        go_wp2_with fail
        have HBa := Lib.hid (HB.out.alloc HB.out.size (.cells #[.int .i64 x.kind, .int .i64 x.n, .string x.text, .slice A' x.args.length c', .int .i64 x.pos] 186))
        refine (IH.out _ (by omega) x A' c' F _ (HK.out.keep (F' := F) (fun q h1 h2 => ⟨h1, Nat.lt_of_lt_of_le h2 HBa.out.size, HBa.out.block q h2⟩)) (HZ.out.args.2.2 x HIN.out) (HG.out.to HBa.out)).mono ?_
        rintro e w8 ⟨rfl, hb8⟩
        have HB8 := Lib.hid (HBa.out.trans (hb8.mono HBa.out.size))
        obtain ⟨z, hz⟩ : ∃ z, exF x (left - 1) = z := ⟨_, rfl⟩
        rw [hz]
        have HZ2 := Lib.hid hz
        clear hz hb8 b0 b1 b2 b3 b4
        by_cases hz0 : z = 0
        · subst hz0
          go_wp2_with fail
          go_roundw
          case rel => exact ⟨j + 1, by omega, by go_num, Lib.hid (exsF_snoc HX.out HE.out HZ2.out), HB8⟩
          case measure => simp [intOf]; omega
        · have e0 : (z != 0) = true := by simpa using hz0
          have HZ0 := Lib.hid hz0; clear hz0
          go_wp2_with fail
          go_ret
          exact ⟨by rw [exF, HH.out, exsF_hit HX.out HE.out (by rw [HZ2.out]; exact HZ0.out), HZ2.out]; rfl, HB8.out⟩
      · have hje : j = xs.length := by omega
        have HF : Hid (exsF xs (left - 1) = 0) := Lib.hid (by have := HE.out; rw [hje, List.take_length] at this; exact this)
        clear hje
        go_wp2_with fail
        go_ret
        exact ⟨by rw [exF, HH.out, HF.out]; rfl, HB.out⟩
  | false =>
    go_enter Tryz.func102, Tryz.ntmps102
    go_wp2_with (first | (go_at_call 161; refine BC.out.mono ?_; rintro e w7 ⟨rfl, hb7⟩; have d3 := (hb7.cell (p := ⟨w.heap.size, 3, none⟩) hs6).trans c3; have d1 := (hb7.cell (p := ⟨w.heap.size, 1, none⟩) hs6).trans c1; have d0 := (hb7.cell (p := ⟨w.heap.size, 0, none⟩) hs6).trans c0) | (go_at_call 47; refine NC.out.mono ?_; rintro e w7 ⟨rfl, hb7⟩; have d3 := (hb7.cell (p := ⟨w.heap.size, 3, none⟩) hs6).trans c3; have d1 := (hb7.cell (p := ⟨w.heap.size, 1, none⟩) hs6).trans c1; have d0 := (hb7.cell (p := ⟨w.heap.size, 0, none⟩) hs6).trans c0))
    all_goals (go_ret; generalize hL : xs.length = L at *; (try simp only [beq_iff_eq, beq_eq_false_iff_ne, ne_eq] at *); exact ⟨by rw [exF, hL, headF_3 h1 (by rw [ok7, HN.out] <;> first | rfl | (simp only [Bool.true_and, Bool.false_and, Bool.and_eq_true, Bool.or_eq_true, Bool.and_eq_false_iff, Bool.or_eq_false_iff, decide_eq_true_eq, decide_eq_false_iff_not, ne_eq, List.length_nil, and_true, true_and]; omega))]; rfl, by first | exact HB6.out | exact HB6.out.trans (hb7.mono HB6.out.size)⟩)

set_option maxRecDepth 100000 in
set_option maxHeartbeats 8000000 in
theorem exF_k8 (left : Nat) (h1 : 1 ≤ left) (h40 : left ≤ 40) (ih : ExF (left - 1)) (n : Int) (t : ByteArray) (xs : List Ex) (p : Int) (A : Option Addr) (c : Nat) (F : Nat → Prop) (w : World) (hA : ArgsIn w F (.slice A xs.length c) xs) (hZ : ExZ (.mk 8 n t xs p)) (hG : Glob w) :
    Calls Tryz.prog 102 #[.agg #[.int .i64 8, .int .i64 n, .string t, .slice A xs.length c, .int .i64 p], .int .i64 left] w fun e w' => e = .returned (.int .i64 (exF (.mk 8 n t xs p) left)) ∧ Below w.heap.size w w' := by
  have HA := Lib.hid hA; have HZ := Lib.hid hZ; have HG := Lib.hid hG; have IH := Lib.hid ih
  obtain ⟨w1, w2, w3, w4, w5, w6, r1, r2, r3, r4, r5, r6, hown, hb6⟩ := tab_made (w.alloc (.cells #[.int .i64 8, .int .i64 n, .string t, .slice A xs.length c, .int .i64 p] 186))
  have hm : (w.alloc (.cells #[.int .i64 8, .int .i64 n, .string t, .slice A xs.length c, .int .i64 p] 186)).heap.size = w.heap.size + 1 := by simp
  rw [hm] at r1 r2 r3 r4 r5 r6 hown
  have hx6 : w6.heap[w.heap.size]? = some (.cells #[.int .i64 8, .int .i64 n, .string t, .slice A xs.length c, .int .i64 p] 186 (0, 0)) := (hb6.block _ (by simp)).trans (heap_alloc_new w _)
  have HB6 := Lib.hid (((Below.refl w.heap.size w).alloc (Nat.le_refl _) (.cells #[.int .i64 8, .int .i64 n, .string t, .slice A xs.length c, .int .i64 p] 186)).trans (hb6.mono (by simp)))
  have lk := tab_at hown 8 0 false (by decide) tab_8.1 tab_8.2
  have HX6 := Lib.hid hx6
  have HG6 := Lib.hid (HG.out.to HB6.out)
  obtain ⟨⟨c0, c1, c2, c3, c4⟩, -⟩ := facts5 hx6
  have hs6 : w.heap.size < w6.heap.size := lt_of_some hx6
  have hzt : t.size ≤ maxLen := HZ.out.args.1
  have hzl : xs.length ≤ 281474976710656 := HZ.out.args.2.1
  have HZT := Lib.hid hzt
  obtain ⟨bn, hbn⟩ : ∃ b, nameB t = b := ⟨_, rfl⟩
  obtain ⟨m, hm2⟩ : ∃ m, lv t.data.toList = m := ⟨_, rfl⟩
  have HN := Lib.hid hbn; have HM := Lib.hid hm2
  have NC := Lib.hid (nameOK_b t bn hbn w6 hzt HG6.out)
  have BC : Hid (Calls Tryz.prog 161 #[.string t] w6 fun e w' => e = .returned (.int .i64 m) ∧ Below w6.heap.size w6 w') := Lib.hid (by rw [← hm2]; exact bind_c t w6 HG6.out)
  clear hA hZ hG ih hm hown hx6 hb6 hbn hm2 hzt
  have hl1 : (1 : Int) ≤ (left : Int) := by omega
  have hmm := @run_makeMap Tryz.prog
  go_enter Tryz.func102, Tryz.ntmps102
  go_wp2_with (first | (go_at_call 161; refine BC.out.mono ?_; rintro e w7 ⟨rfl, hb7⟩; have d3 := (hb7.cell (p := ⟨w.heap.size, 3, none⟩) hs6).trans c3; have d1 := (hb7.cell (p := ⟨w.heap.size, 1, none⟩) hs6).trans c1; have d0 := (hb7.cell (p := ⟨w.heap.size, 0, none⟩) hs6).trans c0) | (go_at_call 47; refine NC.out.mono ?_; rintro e w7 ⟨rfl, hb7⟩; have d3 := (hb7.cell (p := ⟨w.heap.size, 3, none⟩) hs6).trans c3; have d1 := (hb7.cell (p := ⟨w.heap.size, 1, none⟩) hs6).trans c1; have d0 := (hb7.cell (p := ⟨w.heap.size, 0, none⟩) hs6).trans c0))
  all_goals try (go_ret; generalize hL : xs.length = L at *; (try simp only [beq_iff_eq, beq_eq_false_iff_ne, ne_eq] at *); exact ⟨by rw [exF, hL, headF_3 h1 (by rw [ok8] <;> first | rfl | (simp only [Bool.true_and, Bool.false_and, Bool.and_eq_true, Bool.or_eq_true, Bool.and_eq_false_iff, Bool.or_eq_false_iff, decide_eq_true_eq, decide_eq_false_iff_not, ne_eq, List.length_nil, and_true, true_and]; omega))]; rfl, by first | exact HB6.out | exact HB6.out.trans (hb7.mono HB6.out.size)⟩)
  all_goals try (go_ret; generalize hL : xs.length = L at *; (try simp only [beq_iff_eq, beq_eq_false_iff_ne, ne_eq] at *); exact ⟨by rw [exF, hL, headF_2 h1 (by rw [ok8] <;> first | rfl | (simp only [Bool.true_and, Bool.false_and, Bool.and_eq_true, Bool.or_eq_true, Bool.and_eq_false_iff, Bool.or_eq_false_iff, decide_eq_true_eq, decide_eq_false_iff_not, ne_eq, List.length_nil, and_true, true_and]; omega)) (by omega)]; rfl, by first | exact HB6.out | exact HB6.out.trans (hb7.mono HB6.out.size)⟩)
  have HH : Hid (headF 8 n t xs.length left = none) := Lib.hid (by
    generalize hL : xs.length = L at *; (try simp only [beq_iff_eq, beq_eq_false_iff_ne, ne_eq] at *)
    exact headF_0 h1 (by rw [ok8] <;> first | rfl | (simp only [Bool.true_and, Bool.false_and, Bool.and_eq_true, Bool.or_eq_true, Bool.and_eq_false_iff, Bool.or_eq_false_iff, decide_eq_true_eq, decide_eq_false_iff_not, ne_eq, List.length_nil, and_true, true_and]; omega)) (by omega))
  go_loopw [122] (fun i wr => ∃ j : Nat, j ≤ xs.length ∧ i = .int .i64 j ∧ Hid (exsF (xs.take j) (left - 1) = 0) ∧ Hid (Below w.heap.size w wr)) (fun i _ => xs.length - (intOf i).toNat)
  case atStart => exact ⟨0, Nat.zero_le _, rfl, Lib.hid (by rw [List.take_zero, exsF]), by first | exact HB6 | exact Lib.hid (HB6.out.trans (hb7.mono HB6.out.size))⟩
  case round =>
    clear c0 c1 c2 c3 c4 lk r1 r2 r3 r4 r5 r6
    obtain ⟨j, hj, rfl, HE, HB⟩ := hrel
    by_cases hlt : j < xs.length
    · obtain ⟨x, hx⟩ : ∃ x, xs[j]? = some x := ⟨_, List.getElem?_eq_getElem hlt⟩
      obtain ⟨g, off, A', c', rfl, -, hg, hk, a0, a1, a2, a3, a4⟩ := HA.out.at j x hx
      have b0 := (HB.out.cell (p := ⟨g, off + j * 5, none⟩) hg).trans a0
      have b1 := (HB.out.cell (p := ⟨g, off + j * 5 + 1, none⟩) hg).trans a1
      have b2 := (HB.out.cell (p := ⟨g, off + j * 5 + 2, none⟩) hg).trans a2
      have b3 := (HB.out.cell (p := ⟨g, off + j * 5 + 3, none⟩) hg).trans a3
      have b4 := (HB.out.cell (p := ⟨g, off + j * 5 + 4, none⟩) hg).trans a4
      clear a0 a1 a2 a3 a4
      have hin : x ∈ xs := List.mem_of_getElem? hx
      have HX := Lib.hid hx; have HK := Lib.hid hk; have HIN := Lib.hid hin
      clear hx hk hin
      have k0 : (0 : Int) ≤ (j : Int) := by omega
      have k1 : (j : Int) < (xs.length : Int) := by omega
      go_wp2_with fail
      have HBa := Lib.hid (HB.out.alloc HB.out.size (.cells #[.int .i64 x.kind, .int .i64 x.n, .string x.text, .slice A' x.args.length c', .int .i64 x.pos] 186))
      refine (IH.out _ (by omega) x A' c' F _ (HK.out.keep (F' := F) (fun q h1 h2 => ⟨h1, Nat.lt_of_lt_of_le h2 HBa.out.size, HBa.out.block q h2⟩)) (HZ.out.args.2.2 x HIN.out) (HG.out.to HBa.out)).mono ?_
      rintro e w8 ⟨rfl, hb8⟩
      have HB8 := Lib.hid (HBa.out.trans (hb8.mono HBa.out.size))
      obtain ⟨z, hz⟩ : ∃ z, exF x (left - 1) = z := ⟨_, rfl⟩
      rw [hz]
      have HZ2 := Lib.hid hz
      clear hz hb8 b0 b1 b2 b3 b4
      by_cases hz0 : z = 0
      · subst hz0
        go_wp2_with fail
        go_roundw
        case rel => exact ⟨j + 1, by omega, by go_num, Lib.hid (exsF_snoc HX.out HE.out HZ2.out), HB8⟩
        case measure => simp [intOf]; omega
      · have e0 : (z != 0) = true := by simpa using hz0
        have HZ0 := Lib.hid hz0; clear hz0
        go_wp2_with fail
        go_ret
        exact ⟨by rw [exF, HH.out, exsF_hit HX.out HE.out (by rw [HZ2.out]; exact HZ0.out), HZ2.out]; rfl, HB8.out⟩
    · have hje : j = xs.length := by omega
      have HF : Hid (exsF xs (left - 1) = 0) := Lib.hid (by have := HE.out; rw [hje, List.take_length] at this; exact this)
      clear hje
      go_wp2_with fail
      go_ret
      exact ⟨by rw [exF, HH.out, HF.out]; rfl, HB.out⟩

set_option maxRecDepth 100000 in
set_option maxHeartbeats 8000000 in
theorem exF_ko (left : Nat) (h1 : 1 ≤ left) (h40 : left ≤ 40) (ih : ExF (left - 1)) (k : Int) (hk1 : k < 1 ∨ 8 < k) (hwf : (Lit.int .i64 k).wf = true) (n : Int) (t : ByteArray) (xs : List Ex) (p : Int) (A : Option Addr) (c : Nat) (F : Nat → Prop) (w : World) (hA : ArgsIn w F (.slice A xs.length c) xs) (hZ : ExZ (.mk k n t xs p)) (hG : Glob w) :
    Calls Tryz.prog 102 #[.agg #[.int .i64 k, .int .i64 n, .string t, .slice A xs.length c, .int .i64 p], .int .i64 left] w fun e w' => e = .returned (.int .i64 (exF (.mk k n t xs p) left)) ∧ Below w.heap.size w w' := by
  have HA := Lib.hid hA; have HZ := Lib.hid hZ; have HG := Lib.hid hG; have IH := Lib.hid ih
  obtain ⟨w1, w2, w3, w4, w5, w6, r1, r2, r3, r4, r5, r6, hown, hb6⟩ := tab_made (w.alloc (.cells #[.int .i64 k, .int .i64 n, .string t, .slice A xs.length c, .int .i64 p] 186))
  have hm : (w.alloc (.cells #[.int .i64 k, .int .i64 n, .string t, .slice A xs.length c, .int .i64 p] 186)).heap.size = w.heap.size + 1 := by simp
  rw [hm] at r1 r2 r3 r4 r5 r6 hown
  have hx6 : w6.heap[w.heap.size]? = some (.cells #[.int .i64 k, .int .i64 n, .string t, .slice A xs.length c, .int .i64 p] 186 (0, 0)) := (hb6.block _ (by simp)).trans (heap_alloc_new w _)
  have HB6 := Lib.hid (((Below.refl w.heap.size w).alloc (Nat.le_refl _) (.cells #[.int .i64 k, .int .i64 n, .string t, .slice A xs.length c, .int .i64 p] 186)).trans (hb6.mono (by simp)))
  obtain ⟨cc, lk, -⟩ := tab_look hown k hwf
  generalize Maps.has tabD (.int .i64 k) = okk at lk
  have HX6 := Lib.hid hx6
  have HG6 := Lib.hid (HG.out.to HB6.out)
  obtain ⟨⟨c0, c1, c2, c3, c4⟩, -⟩ := facts5 hx6
  have hs6 : w.heap.size < w6.heap.size := lt_of_some hx6
  have hzt : t.size ≤ maxLen := HZ.out.args.1
  have hzl : xs.length ≤ 281474976710656 := HZ.out.args.2.1
  have HZT := Lib.hid hzt
  obtain ⟨bn, hbn⟩ : ∃ b, nameB t = b := ⟨_, rfl⟩
  obtain ⟨m, hm2⟩ : ∃ m, lv t.data.toList = m := ⟨_, rfl⟩
  have HN := Lib.hid hbn; have HM := Lib.hid hm2
  have NC := Lib.hid (nameOK_b t bn hbn w6 hzt HG6.out)
  have BC : Hid (Calls Tryz.prog 161 #[.string t] w6 fun e w' => e = .returned (.int .i64 m) ∧ Below w6.heap.size w6 w') := Lib.hid (by rw [← hm2]; exact bind_c t w6 HG6.out)
  clear hA hZ hG ih hm hown hx6 hb6 hbn hm2 hzt
  have hl1 : (1 : Int) ≤ (left : Int) := by omega
  have hmm := @run_makeMap Tryz.prog
  cases okk <;> (go_enter Tryz.func102, Tryz.ntmps102; go_wp2_with (first | (go_at_call 161; refine BC.out.mono ?_; rintro e w7 ⟨rfl, hb7⟩; have d3 := (hb7.cell (p := ⟨w.heap.size, 3, none⟩) hs6).trans c3; have d1 := (hb7.cell (p := ⟨w.heap.size, 1, none⟩) hs6).trans c1; have d0 := (hb7.cell (p := ⟨w.heap.size, 0, none⟩) hs6).trans c0) | (go_at_call 47; refine NC.out.mono ?_; rintro e w7 ⟨rfl, hb7⟩; have d3 := (hb7.cell (p := ⟨w.heap.size, 3, none⟩) hs6).trans c3; have d1 := (hb7.cell (p := ⟨w.heap.size, 1, none⟩) hs6).trans c1; have d0 := (hb7.cell (p := ⟨w.heap.size, 0, none⟩) hs6).trans c0)); all_goals (go_ret; generalize hL : xs.length = L at *; (try simp only [beq_iff_eq, beq_eq_false_iff_ne, ne_eq] at *); exact ⟨by rw [exF, hL, headF_3 h1 (oko hk1)]; rfl, by first | exact HB6.out | exact HB6.out.trans (hb7.mono HB6.out.size)⟩))
end Go.Proofs.YtmngofgminlloaaGreatDoor
