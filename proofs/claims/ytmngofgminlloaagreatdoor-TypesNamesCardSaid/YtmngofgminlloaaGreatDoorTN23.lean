/-
  The program's cond(), of whatever its callees answer by contract; statements and blocks of the program's reader, all of them at once.
  The reference's Script, at every text.
  The program's fun(), led by what stands there.
  What stands there when the program's Parse() reads functions, in plain Lean.
  The function that Parse defers: at a panic with a place it lays the results; at none it does nothing.
-/
import Derived.Test.YtmngofgminlloaaGreatDoorTN22
import Derived.Outline
import Derived.Deep.DeepCutAuto
import Derived.Test.YtmngofgminlloaaGreatDoorTN12
import Derived.Deep.RegionLaw
import Derived.RegionDies
import Derived.Defers
import Derived.Recover
set_option linter.unusedSimpArgs false
set_option linter.unusedVariables false
namespace Go.Proofs.YtmngofgminlloaaGreatDoor
open Go.RowKit Tw

set_option maxRecDepth 100000 in
set_option maxHeartbeats 16000000 in
theorem cond_p (rb : Nat) (v : Value) (ws : List Wd) (en i : Nat) (hN : NumsOk ws) (hr : 10 < rb) (h1 : ∀ j, i < j → BlockP rb v ws en j) (h2 : ∀ j, i < j → CondP rb v ws en j) : CondP rb v ws en i := by
  intro r hq hd w h hG
  have H1 := Lib.hid h1; have H2 := Lib.hid h2; have HR := Lib.hid h; have HG := Lib.hid hG; have HN := Lib.hid hN; have HD := Lib.hid hd; have HQ := Lib.hid hq
  have HF := Lib.hid (FrQ.start2 HR.out HG.out hr (.int .i64 0) (.string ⟨#[]⟩) (.int .i64 0) (.int .i64 0) (.string ⟨#[]⟩) (.slice none 0 0) (.int .i64 0) (.slice none 0 0) (.slice none 0 0) (.int .i64 (posAt ws i en)))
  have hrl := h.lt
  clear h1 h2 h hG hN hd hq
  go_enter Tryz.func223, Tryz.ntmps223
  go_upto_region 1 with (fail)
  have hzz : w.heap.size + 1 = w.heap.size + 1 := rfl
  generalize (w.alloc _).alloc _ = w2 at HF ⊢
  obtain ⟨b0, hb0⟩ : ∃ b0, w.heap.size + 1 = b0 := ⟨_, rfl⟩
  obtain ⟨b1, hb1⟩ : ∃ b1, w.heap.size = b1 := ⟨_, rfl⟩
  rw [hb0, hb1] at HF
  simp only [hb0]
  simp only [hb1]
  have HB0 := Lib.hid hb0; have HB1 := Lib.hid hb1; clear hb0 hb1 hzz
  clear HR
  rcases ds_cond HD.out (.inl HQ.out) with ⟨j, hy, rfl⟩ | ⟨x, j, hy, hm⟩
  · have HY := Lib.hid hy; clear hy
    go_wp2_with fail
    refine (expr_r rb v ws en _ 0 hr HN.out _ (De.climb HY.out (by decide) (by decide)) w2 HF.out.rd HF.out.gl).mono ?_
    rintro e w9 ⟨rfl, hg⟩
    have HGG := Lib.hid (grown_trans HF.out.gr hg); clear hg
    unfold badP
    go_wp2_with fail
    exact ⟨rfl, rfl, HGG.out⟩
  · have HY := Lib.hid hy; have HM := Lib.hid hm; clear hy hm
    have hon : i < j := by have h : i + 1 < j := HY.out.on; omega
    go_wp2_with fail
    refine (expr_r rb v ws en _ 0 hr HN.out _ (De.climb HY.out (by decide) (by decide)) w2 HF.out.rd HF.out.gl).mono ?_
    rintro e w4 ⟨A4, c4, rfl, hA, hR, hg⟩
    have hz2 := HF.out.z3; have hz0 := HF.out.gr.size; have hz1 := HF.out.z2; have hz5 := HF.out.z5; have hs := hg.size; have hz4 := HF.out.z4; have hzr := HF.out.z0
    have hB1 := HB1.out
    have HA : Hid (ArgsIn w4 (fun g => w.heap.size ≤ g ∧ g ≠ b0 ∧ g ≠ b1) (.slice A4 x.args.length c4) x.args) := Lib.hid (hA.keep fun g (h1 : w2.heap.size ≤ g) h2 => ⟨⟨by omega, by omega, by omega⟩, h2, rfl⟩)
    replace HF := Lib.hid (HF.out.step hR hg)
    clear hR hg hA hB1
    obtain ⟨⟨c0, c1, c2, c3, c4', c5, c6, c7, c8, c9⟩, f0, f1, f2, f3, f4, f5, f6, f7, f8, f9⟩ := facts10 HF.out.ex
    go_wp2_with fail
    clear c0 c1 c2 c3 c4' c5 c6 c7 c8 c9 f0 f1 f2 f3 f4 f5 f6 f7 f8 f9
    have HA5 := Lib.hid (HA.out.later (some b1) (grown_trans (grown_set w4 b1 0 (.int .i64 3)) (grown_trans (grown_trans (grown_trans (grown_trans (grown_set _ b1 2 (.int .i64 x.kind)) (grown_set _ b1 3 (.int .i64 x.n))) (grown_set _ b1 4 (.string x.text))) (grown_set _ b1 5 (.slice A4 x.args.length c4))) (grown_set _ b1 6 (.int .i64 x.pos)))) (fun g h => by simp; omega) (fun g h => h))
    replace HF := Lib.hid ((((((HF.out.s0 (.int .i64 3)).s2 (.int .i64 x.kind)).s3 (.int .i64 x.n)).s4 (.string x.text)).s5 (.slice A4 x.args.length c4)).s6 (.int .i64 x.pos))
    clear HA
    generalize ((((((w4.setCell ⟨b1, 0, none⟩ _).setCell ⟨b1, 2, none⟩ _).setCell ⟨b1, 3, none⟩ _).setCell ⟨b1, 4, none⟩ _).setCell ⟨b1, 5, none⟩ _).setCell ⟨b1, 6, none⟩ _) = w5 at HF HA5 ⊢
    have HA := HA5
    clear HA5
    rcases HM.out with ⟨k, hy, rfl⟩ | ⟨l, k, hy, -, q1, q2, q3⟩
    · have HY2 := Lib.hid hy; clear hy
      refine (H1.out j hon _ HY2.out w5 HF.out.rd HF.out.gl).mono ?_
      rintro e w9 ⟨rfl, hg⟩
      have HGG := Lib.hid (grown_trans HF.out.gr hg); clear hg
      unfold badP
      go_wp2_with fail
      exact ⟨rfl, rfl, HGG.out⟩
    · have HY2 := Lib.hid hy; have Q1 := Lib.hid q1; have Q2 := Lib.hid q2; have Q3 := Lib.hid q3; clear hy q1 q2 q3
      have hon2 : j < k := HY2.out.on
      refine (H1.out j hon _ HY2.out w5 HF.out.rd HF.out.gl).mono ?_
      rintro e w6 ⟨Ab, cb, rfl, hB, hR, hg⟩
      have hz5 := HF.out.z3; have hzw5 := HF.out.gr.size; have hz50 := HF.out.z5; have hzr := HF.out.z0; have hz14 := HF.out.z4
      replace HF := Lib.hid (HF.out.step hR hg)
      replace HA := Lib.hid (HA.out.later (some rb) hg (fun g h => by simp; omega) (fun g h => h))
      have HB : Hid (StmtsIn w6 (fun g => w.heap.size ≤ g ∧ g ≠ b0 ∧ g ≠ b1) (.slice Ab l.length cb) l) := Lib.hid (hB.keep fun g (h1 : w5.heap.size ≤ g) h2 => ⟨⟨by omega, by omega, by omega⟩, h2, rfl⟩)
      clear hR hg hB
      have c7 := (facts10 HF.out.ex).1.2.2.2.2.2.2.2.1
      have f7 := (facts10 HF.out.ex).2.2.2.2.2.2.2.2.1
      go_upto_region 3 with (fail)
      clear c7 f7
      replace HF := Lib.hid (HF.out.s7 (.slice Ab l.length cb))
      replace HA := Lib.hid (HA.out.later (some b1) (grown_set w6 b1 7 (.slice Ab l.length cb)) (fun g h => by simp; omega) (fun g h => h))
      replace HB := Lib.hid (HB.out.later (some b1) (grown_set w6 b1 7 (.slice Ab l.length cb)) (fun g h => by simp; omega) (fun g h => h))
      generalize w6.setCell ⟨b1, 7, none⟩ _ = w7 at HF HA HB ⊢
      obtain ⟨t2, ht2⟩ : ∃ t, isAt ws k sElse = t := ⟨_, rfl⟩
      have T2 := Lib.hid ht2; clear ht2
      go_wp2_with fail
      refine (take_p sElse (ne_of (by decide)) t2 HF.out.rd T2.out).mono ?_
      rintro e w8 ⟨rfl, hR, hg⟩
      replace HF := Lib.hid (HF.out.step hR hg)
      replace HA := Lib.hid (HA.out.later (some rb) hg (fun g h => by simp; omega) (fun g h => h))
      replace HB := Lib.hid (HB.out.later (some rb) hg (fun g h => by simp; omega) (fun g h => h))
      clear hR hg
      cases t2 with
      | true =>
        simp only [if_true] at HF
        go_wp2_with fail
        refine (at_p HF.out.rd).mono ?_
        rintro e wa ⟨rfl, hb⟩
        have hg := grown_of_below hb (some rb)
        have hzr2 := HF.out.z0
        replace HF := Lib.hid (HF.out.below hb)
        replace HA := Lib.hid (HA.out.later (some rb) hg (fun g h => by simp; omega) (fun g h => h))
        replace HB := Lib.hid (HB.out.later (some rb) hg (fun g h => by simp; omega) (fun g h => h))
        clear hb hg
        obtain ⟨t3, ht3⟩ : ∃ t, isAt ws (k + 1) sIf = t := ⟨_, rfl⟩
        have T3 := Lib.hid ht3; clear ht3
        go_wp2_with fail
        refine (take_p sIf (ne_of (by decide)) t3 HF.out.rd T3.out).mono ?_
        rintro e w9 ⟨rfl, hR, hg⟩
        replace HF := Lib.hid (HF.out.step hR hg)
        replace HA := Lib.hid (HA.out.later (some rb) hg (fun g h => by simp; omega) (fun g h => h))
        replace HB := Lib.hid (HB.out.later (some rb) hg (fun g h => by simp; omega) (fun g h => h))
        clear hR hg
        cases t3 with
        | true =>
          simp only [if_true] at HF
          rcases Q2.out HQ.out T2.out T3.out with ⟨m, hy, rfl⟩ | ⟨s, m, hy, rfl⟩
          · have HY3 := Lib.hid hy; clear hy
            go_wp2_with fail
            refine (H2.out (k + 1) (by omega) _ (hs3 T3.out) HY3.out _ HF.out.rd HF.out.gl).mono ?_
            rintro e w9 ⟨rfl, hg⟩
            have HGG := Lib.hid (grown_trans HF.out.gr hg); clear hg
            unfold badP
            go_wp2_with fail
            exact ⟨rfl, rfl, HGG.out⟩
          · have HY3 := Lib.hid hy; clear hy
            have hz9 := HF.out.z3; have hzw9 := HF.out.gr.size; have hz95 := HF.out.z5; have hzr := HF.out.z0
            go_wp2_with fail
            refine (H2.out (k + 1) (by omega) _ (hs3 T3.out) HY3.out w9 HF.out.rd HF.out.gl).mono ?_
            rintro e wx ⟨Aa, ca, Ac, cc, Ae, ce, rfl, hA, hB, hE, hR, hg⟩
            have hsx := hg.size
            replace HF := Lib.hid (HF.out.step hR hg)
            replace HA := Lib.hid (HA.out.later (some rb) hg (fun g h => by simp; omega) (fun g h => h))
            replace HB := Lib.hid (HB.out.later (some rb) hg (fun g h => by simp; omega) (fun g h => h))
            have HSA := Lib.hid hA; have HSB := Lib.hid hB; have HSE := Lib.hid hE
            clear hR hg hA hB hE
            have c8 := (facts10 HF.out.ex).1.2.2.2.2.2.2.2.2.1
            have f8 := (facts10 HF.out.ex).2.2.2.2.2.2.2.2.2.1
            have hz8 := HF.out.z3
            go_upto_region 8 with (fail)
            clear c8 f8
            have hgx := grown_set wx b1 8 (.slice (some ⟨wx.heap.size, 0, none⟩) 1 1)
            have HO1 := Lib.hid (stmts_one (W := wx.setCell ⟨b1, 8, none⟩ (.slice (some ⟨wx.heap.size, 0, none⟩) 1 1)) (cap := 1) (T := 188) (F := fun g => w.heap.size ≤ g ∧ g ≠ b0 ∧ g ≠ b1) HSA.out HSB.out HSE.out hgx (fun g (h : w9.heap.size ≤ g) => ⟨by omega, by omega, by omega, by omega⟩) (n := wx.heap.size) (by simp) ⟨by omega, by omega, by omega⟩)
            have hgy := grown_trans hgx (grown_of_below ((Below.refl _ _).alloc (Nat.le_refl _) (.cells #[.int .i64 s.kind, .string s.name, .int .i64 s.a.kind, .int .i64 s.a.n, .string s.a.text, .slice Aa s.a.args.length ca, .int .i64 s.a.pos, .slice Ac s.body.length cc, .slice Ae s.els.length ce, .int .i64 s.pos] 188)) (some b1))
            replace HF := Lib.hid ((HF.out.s8 (.slice (some ⟨wx.heap.size, 0, none⟩) 1 1)).below ((Below.refl _ _).alloc (Nat.le_refl _) (.cells #[.int .i64 s.kind, .string s.name, .int .i64 s.a.kind, .int .i64 s.a.n, .string s.a.text, .slice Aa s.a.args.length ca, .int .i64 s.a.pos, .slice Ac s.body.length cc, .slice Ae s.els.length ce, .int .i64 s.pos] 188)))
            replace HA := Lib.hid (HA.out.later (some b1) hgy (fun g h => by simp; omega) (fun g h => h))
            replace HB := Lib.hid (HB.out.later (some b1) hgy (fun g h => by simp; omega) (fun g h => h))
            clear hgx hgy HSA HSB HSE
            generalize ((wx.setCell ⟨b1, 8, none⟩ _).alloc _) = wy at HF HA HB HO1 ⊢
            generalize wx.heap.size = n1 at HF HO1 ⊢
            obtain ⟨⟨c0, c1, c2, c3, c4', c5, c6, c7, c8, c9⟩, f0, f1, f2, f3, f4, f5, f6, f7, f8, f9⟩ := facts10 HF.out.ex
            obtain ⟨⟨d0, d1, d2, d3, d4, d5, d6, d7, d8, d9⟩, g0, g1, g2, g3, g4, g5, g6, g7, g8, g9⟩ := facts10 HF.out.res
            have HW := Lib.hid (set10 (.int .i64 3) (.string sNone) (.int .i64 x.kind) (.int .i64 x.n) (.string x.text) (.slice A4 x.args.length c4) (.int .i64 x.pos) (.slice Ab l.length cb) (.slice (some ⟨n1, 0, none⟩) 1 1) (.int .i64 (posAt ws i en)) HF.out.res)
            go_wp2_with fail
            (try simp only [Exit.inBlock, Exit.then])
            refine bodyPost_ret (results_cell_row rfl _ _ b0 _ _ _ _ rfl HW.out Tryz.underlying188 rfl smInfo) rfl ?_
            have HZ := Lib.hid (sm_ret (s := .mk 3 sNone x l [s] (posAt ws i en)) (F := fun g => w.heap.size ≤ g ∧ g ≠ b0 ∧ g ≠ b1) HF.out HA.out HB.out HO1.out (fun g h => ⟨h.1, h.2.1⟩))
            simp only [Sm.kind, Sm.name, Sm.a, Sm.body, Sm.els, Sm.pos] at HZ
            exact HZ.out
        | false =>
          simp only [Bool.false_eq_true, if_false] at HF
          rcases Q3.out HQ.out T2.out T3.out with ⟨m, hy, rfl⟩ | ⟨ls, m, hy, rfl⟩
          · have HY3 := Lib.hid hy; clear hy
            go_wp2_with fail
            refine (H1.out (k + 1) (by omega) _ HY3.out _ HF.out.rd HF.out.gl).mono ?_
            rintro e w9 ⟨rfl, hg⟩
            have HGG := Lib.hid (grown_trans HF.out.gr hg); clear hg
            unfold badP
            go_wp2_with fail
            exact ⟨rfl, rfl, HGG.out⟩
          · have HY3 := Lib.hid hy; clear hy
            have hz9 := HF.out.z3; have hzw9 := HF.out.gr.size; have hz95 := HF.out.z5; have hzr := HF.out.z0
            go_wp2_with fail
            refine (H1.out (k + 1) (by omega) _ HY3.out w9 HF.out.rd HF.out.gl).mono ?_
            rintro e wx ⟨Ae, ce, rfl, hB, hR, hg⟩
            have hsx := hg.size
            replace HF := Lib.hid (HF.out.step hR hg)
            replace HA := Lib.hid (HA.out.later (some rb) hg (fun g h => by simp; omega) (fun g h => h))
            replace HB := Lib.hid (HB.out.later (some rb) hg (fun g h => by simp; omega) (fun g h => h))
            have HE : Hid (StmtsIn wx (fun g => w.heap.size ≤ g ∧ g ≠ b0 ∧ g ≠ b1) (.slice Ae ls.length ce) ls) := Lib.hid (hB.keep fun g (h1 : w9.heap.size ≤ g) h2 => ⟨⟨by omega, by omega, by omega⟩, h2, rfl⟩)
            clear hR hg hB
            have c8 := (facts10 HF.out.ex).1.2.2.2.2.2.2.2.2.1
            have f8 := (facts10 HF.out.ex).2.2.2.2.2.2.2.2.2.1
            go_upto_region 8 with (fail)
            clear c8 f8
            have hgx := grown_set wx b1 8 (.slice Ae ls.length ce)
            replace HF := Lib.hid (HF.out.s8 (.slice Ae ls.length ce))
            replace HA := Lib.hid (HA.out.later (some b1) hgx (fun g h => by simp; omega) (fun g h => h))
            replace HB := Lib.hid (HB.out.later (some b1) hgx (fun g h => by simp; omega) (fun g h => h))
            replace HE := Lib.hid (HE.out.later (some b1) hgx (fun g h => by simp; omega) (fun g h => h))
            clear hgx
            generalize (wx.setCell ⟨b1, 8, none⟩ _) = wy at HF HA HB HE ⊢
            obtain ⟨⟨c0, c1, c2, c3, c4', c5, c6, c7, c8, c9⟩, f0, f1, f2, f3, f4, f5, f6, f7, f8, f9⟩ := facts10 HF.out.ex
            obtain ⟨⟨d0, d1, d2, d3, d4, d5, d6, d7, d8, d9⟩, g0, g1, g2, g3, g4, g5, g6, g7, g8, g9⟩ := facts10 HF.out.res
            have HW := Lib.hid (set10 (.int .i64 3) (.string sNone) (.int .i64 x.kind) (.int .i64 x.n) (.string x.text) (.slice A4 x.args.length c4) (.int .i64 x.pos) (.slice Ab l.length cb) (.slice Ae ls.length ce) (.int .i64 (posAt ws i en)) HF.out.res)
            go_wp2_with fail
            (try simp only [Exit.inBlock, Exit.then])
            refine bodyPost_ret (results_cell_row rfl _ _ b0 _ _ _ _ rfl HW.out Tryz.underlying188 rfl smInfo) rfl ?_
            have HZ := Lib.hid (sm_ret (s := .mk 3 sNone x l ls (posAt ws i en)) (F := fun g => w.heap.size ≤ g ∧ g ≠ b0 ∧ g ≠ b1) HF.out HA.out HB.out HE.out (fun g h => ⟨h.1, h.2.1⟩))
            simp only [Sm.kind, Sm.name, Sm.a, Sm.body, Sm.els, Sm.pos] at HZ
            exact HZ.out
      | false =>
        simp only [Bool.false_eq_true, if_false] at HF
        obtain rfl := Q1.out HQ.out T2.out
        obtain ⟨⟨c0, c1, c2, c3, c4', c5, c6, c7, c8, c9⟩, f0, f1, f2, f3, f4, f5, f6, f7, f8, f9⟩ := facts10 HF.out.ex
        obtain ⟨⟨d0, d1, d2, d3, d4, d5, d6, d7, d8, d9⟩, g0, g1, g2, g3, g4, g5, g6, g7, g8, g9⟩ := facts10 HF.out.res
        have HW := Lib.hid (set10 (.int .i64 3) (.string sNone) (.int .i64 x.kind) (.int .i64 x.n) (.string x.text) (.slice A4 x.args.length c4) (.int .i64 x.pos) (.slice Ab l.length cb) (.slice none 0 0) (.int .i64 (posAt ws i en)) HF.out.res)
        go_wp2_with fail
        (try simp only [Exit.inBlock, Exit.then])
        refine bodyPost_ret (results_cell_row rfl _ _ b0 _ _ _ _ rfl HW.out Tryz.underlying188 rfl smInfo) rfl ?_
        have HZ := Lib.hid (sm_ret (s := .mk 3 sNone x l [] (posAt ws i en)) (F := fun g => w.heap.size ≤ g ∧ g ≠ b0 ∧ g ≠ b1) HF.out HA.out HB.out (.nil none 0) (fun g h => ⟨h.1, h.2.1⟩))
        simp only [Sm.kind, Sm.name, Sm.a, Sm.body, Sm.els, Sm.pos] at HZ
        exact HZ.out

theorem stmts_knot (rb : Nat) (v : Value) (ws : List Wd) (en : Nat) (hN : NumsOk ws) (hr : 10 < rb) : ∀ k i, ws.length < i + k → StmtP rb v ws en i ∧ CondP rb v ws en i ∧ BlockP rb v ws en i := by
  intro k
  induction k with
  | zero =>
    intro i hi
    exact ⟨fun _ _ w h => absurd h.pos (by omega), fun _ _ _ w h => absurd h.pos (by omega), fun _ _ w h => absurd h.pos (by omega)⟩
  | succ k ih =>
    intro i hi
    have later : ∀ j, i < j → StmtP rb v ws en j ∧ CondP rb v ws en j ∧ BlockP rb v ws en j := fun j hj => ih j (by omega)
    have hc := cond_p rb v ws en i hN hr (fun j hj => (later j hj).2.2) (fun j hj => (later j hj).2.1)
    exact ⟨stmt_p rb v ws en i hN hr hc (fun j hj => (later j hj).2.2), hc, block_p rb v ws en i hr (fun j hj => (later j hj).1)⟩
/-- block() at i makes what the words say. -/
theorem blockp_r (rb : Nat) (v : Value) (ws : List Wd) (en i : Nat) (hN : NumsOk ws) (hr : 10 < rb) : BlockP rb v ws en i := (stmts_knot rb v ws en hN hr (ws.length + 1) i (by omega)).2.2
end Go.Proofs.YtmngofgminlloaaGreatDoor

namespace Go.Proofs.YtmngofgminlloaaGreatDoor
open Go.RowKit Tw Go.Maps

theorem toknum_le {l : Bs} {k n : Nat} (h : tok l = .word k n) (hk : k = 1) : n ≤ 12 := by
  subst hk
  unfold Tw.tok at h
  split at h
  · cases h
  split at h
  · cases h
  split at h
  · split at h
    · rename_i hn
      injection h with _ h
      have h1 := (isNum_parts _ hn).1
      have h2 : runLen isA l ≤ l.length := by unfold runLen; exact (List.takeWhile_sublist _).length_le
      rw [List.length_take, Nat.min_eq_left h2] at h1
      omega
    · cases h
  split at h
  · split at h
    · injection h with h _; omega
    · split at h
      · cases h
      · injection h with h _; omega
  · split at h
    · cases h
    · injection h with h _; omega
theorem Tw.Lex.nums {s : ByteArray} {k : Nat} {l : List Wd} {r : Option Nat × List Wd} (h : Lex s k l r) : NumsOk l → NumsOk r.2 := by
  induction h with
  | done e => exact id
  | bad _ _ => intro _ x hx; simp at hx
  | skip _ _ _ ih => exact ih
  | @word i k n l r h1 h2 _ ih =>
    intro hl
    refine ih fun x hx hk => ?_
    rcases List.mem_append.1 hx with hx | hx
    · exact hl x hx hk
    · simp at hx; subst hx
      have := toknum_le h2 hk
      simp; omega
theorem WRes.nums {s : ByteArray} {p e : Int} {ws : List Wd} (h : WRes s p e ws) : NumsOk ws := by
  rcases h with ⟨_, _, _, rfl⟩ | ⟨_, r, hr, _, _, rfl⟩
  · intro x hx; simp at hx
  · exact hr.nums (fun x hx => by simp at hx)
theorem FrU.start {w w1 : World} {v : Value} {ws : List Wd} {en : Nat} (hG : Glob w) (hv : WRow w1 w1.heap.size v ws) (hl : ws.length ≤ 4000) (hb : Below w.heap.size w w1) (h0 : w1.heap[w.heap.size]? = some (.cells #[.slice none 0 0] 24 (0, 0))) :
    FrU w ((w1.alloc (.cells #[v, .int .i64 0, .int .i64 en, .bool false] 115)).alloc (.cells #[.slice none 0 0] 24)) w1.heap.size (w1.heap.size + 1) w.heap.size (w1.heap.size + 2) v ws 0 en false none 0 [] := by
  have hbig := hG.big
  have h1 := lt_of_some h0
  have b1 : Below w1.heap.size w1 (w1.alloc (.cells #[v, .int .i64 0, .int .i64 en, .bool false] 115)) := (Below.refl _ _).alloc (Nat.le_refl _) _
  have b2 : Below w1.heap.size w1 ((w1.alloc (.cells #[v, .int .i64 0, .int .i64 en, .bool false] 115)).alloc (.cells #[.slice none 0 0] 24)) := b1.alloc b1.size _
  have bw := hb.trans (b2.mono hb.size)
  refine ⟨⟨?_, hv.same fun k hk => b2.block k hk, hl, Nat.zero_le _⟩, ?_, (b2.block _ h1).trans h0, GRow.nil _ _ _ _ _, bw, hG.to bw, by omega, Nat.le_refl _, h1, by omega, by omega, by simp⟩
  · exact (heap_alloc_old _ _ (by simp)).trans (heap_alloc_new w1 _)
  · simpa using heap_alloc_new (w1.alloc (.cells #[v, .int .i64 0, .int .i64 en, .bool false] 115)) (.cells #[.slice none 0 0] 24)
theorem FrF.start {wr W : World} {rb : Nat} {v : Value} {ws : List Wd} {i en : Nat} {b : Bool} (hR : Rd W rb v ws i en b) (hG : Glob W) (hr : 10 < rb) (h0 : rb < wr.heap.size) (hg : wr.grownBy W (some rb)) (pos : Int) :
    FrF wr (W.alloc (.cells #[.string ⟨#[]⟩, .slice none 0 0, .slice none 0 0, .int .i64 0, .slice none 0 0, .int .i64 pos] 32)) rb W.heap.size (W.heap.size + 1) v ws i en b ⟨#[]⟩ none 0 [] none 0 [] 0 (.slice none 0 0) pos := by
  have hb : Below W.heap.size W (W.alloc (.cells #[.string ⟨#[]⟩, .slice none 0 0, .slice none 0 0, .int .i64 0, .slice none 0 0, .int .i64 pos] 32)) := (Below.refl _ _).alloc (Nat.le_refl _) _
  exact ⟨hR.keep hb, heap_alloc_new W _, grown_trans hg (grown_of_below hb _), hG.to hb, GRow.nil _ _ _ _ _, GRow.nil _ _ _ _ _, fun g h => by simp [Value.ownBlock] at h, hr, h0, hg.size, by omega, by simp⟩
/-- One element more, in a region that draws its order. -/
theorem step_app1 {P : Program} {ops : Array Oper} {o : Oper} {a : Act} {K : Act → World → Prop} {Q : Exit → Act → World → Prop} {E' : Prop} {w : World} {t e size : Nat} (E : ElemOk P t e size) (hgd : o.guard = none) (s x : Operand)
    (ho : o.op = .call { callee := .builtin .append, args := #[s, x], argTypes := #[t, t] })
    (base : Nat) (v : Value) (n : Nat) (xs : List Value) (hs : a.eval s = v) (hown : w.ownsRow base e size v n xs)
    (H c : Nat) (cs : Array Value) (hx : a.eval x = .slice (some ⟨H, 0, none⟩) 1 c) (hblk : w.heap[H]? = some (.cells cs e (0, 0))) (hl : cs.size = size) (h1 : ∀ u ∈ cs.toList, u.oneCell' = true)
    (hn : n + 1 ≤ 500000000000) (hbase : base ≤ w.heap.size)
    (h : ∀ g cap w', w'.ownsRow base e size (.slice (some ⟨g, 0, none⟩) (n + 1) cap) (n + 1) (xs ++ cs.toList) → w.grownBy w' v.ownBlock → (v.ownBlock = some g ∨ g = w.heap.size) → g < w'.heap.size → K (a.put o.dst (.slice (some ⟨g, 0, none⟩) (n + 1) cap)) w') :
    if Region.wanted o (yielded ops a.tmps) = true then Oper.wp P o a w K Q else E' := by
  obtain ⟨i, z, hi, hz, hsz, hby, hzs⟩ := E.get
  exact step_append_lies w hgd s x t ho base e i z size i.bytes E.ut hi hz hsz rfl hzs E.pos v n xs hs hown ⟨H, 0, none⟩ 1 c cs.toList hx (by simp [hl]) (World.news_of_block hblk) h1 (by omega)
    (by unfold maxLen; omega) (app_bytes hby hn) hbase w.heap.size rfl h
section
variable {wr W W' : World} {rb bf base : Nat} {v : Value} {ws : List Wd} {i en : Nat} {b : Bool} {nm : ByteArray} {An : Option Addr} {cn : Nat} {ns : List ByteArray} {At : Option Addr} {ct : Nat} {ts : List Int} {out : Int} {vb : Value} {pos : Int}
theorem FrF.fbN (h : FrF wr W rb bf base v ws i en b nm An cn ns At ct ts out vb pos) (hg : W.grownBy W' (Value.slice An ns.length cn).ownBlock) : W'.heap[bf]? = some (.cells #[.string nm, .slice An ns.length cn, .slice At ts.length ct, .int .i64 out, vb, .int .i64 pos] 32 (0, 0)) := by
  have h2 := h.z2; have h3 := h.z3
  exact (hg.block bf (by omega) (fun e => by have := (h.rn.1.lt bf e.symm).1; omega)).trans h.fb
theorem FrF.fbT (h : FrF wr W rb bf base v ws i en b nm An cn ns At ct ts out vb pos) (hg : W.grownBy W' (Value.slice At ts.length ct).ownBlock) : W'.heap[bf]? = some (.cells #[.string nm, .slice An ns.length cn, .slice At ts.length ct, .int .i64 out, vb, .int .i64 pos] 32 (0, 0)) := by
  have h2 := h.z2; have h3 := h.z3
  exact (hg.block bf (by omega) (fun e => by have := (h.rt.1.lt bf e.symm).1; omega)).trans h.fb
end
theorem below_set {B : Nat} {w w' : World} {b : Nat} (h : Below B w w') (hb : B ≤ b) (j : Nat) (u : Value) : Below B w (w'.setCell ⟨b, j, none⟩ u) :=
  ⟨h.os, h.tape, h.output, by simpa using h.size, fun k hk => (Below.heap_setCell w' ⟨b, j, none⟩ u k (by simp; omega)).trans (h.block k hk)⟩
theorem FrU.app_un {w W W' : World} {rb bu b2 base : Nat} {v : Value} {ws : List Wd} {i en : Nat} {b : Bool} {A : Option Addr} {c : Nat} {l : List (Fn × Value × Value × Value)} {o : Obj}
    (h : FrU w W rb bu b2 base v ws i en b A c l) (hg : (W.alloc o).grownBy W' (Value.slice A l.length c).ownBlock) : W'.heap[bu]? = some (.cells #[.slice A l.length c] 24 (0, 0)) := by
  have h3 := h.z3; have h4 := h.z4
  exact (hg.block bu (by simp; omega) (fun e => by have := (h.row.1.lt bu e.symm).1; omega)).trans ((heap_alloc_old W o (by omega)).trans h.un)
/-- One function more. -/
theorem FrU.app {w W W' : World} {rb bu b2 base : Nat} {v : Value} {ws : List Wd} {i en : Nat} {b : Bool} {A : Option Addr} {c : Nat} {l : List (Fn × Value × Value × Value)} {a : Fn × Value × Value × Value} {F0 : Nat → Prop} {o : Obj} {g cap : Nat}
    (h : FrU w W rb bu b2 base v ws i en b A c l) (ha : fnElem.kid W F0 a) (hF0 : ∀ g, F0 g → base ≤ g ∧ (Value.slice A l.length c).ownBlock ≠ some g)
    (ho : W'.ownsRow base 32 6 (.slice (some ⟨g, 0, none⟩) (l.length + 1) cap) (l.length + 1) (l.flatMap fnElem.cells ++ fnElem.cells a)) (hg : (W.alloc o).grownBy W' (Value.slice A l.length c).ownBlock) (hat : (Value.slice A l.length c).ownBlock = some g ∨ g = (W.alloc o).heap.size) :
    FrU w (W'.setCell ⟨bu, 0, none⟩ (.slice (some ⟨g, 0, none⟩) (l.length + 1) cap)) rb bu b2 base v ws i en b (some ⟨g, 0, none⟩) cap (l ++ [a]) := by
  have h0 := h.z0; have h1 := h.z1; have h2 := h.z2; have h3 := h.z3; have h4 := h.z4
  have hb : Below W.heap.size W (W.alloc o) := (Below.refl _ _).alloc (Nat.le_refl _) _
  have hA := h.step (h.rd.keep hb) (grown_of_below hb _)
  have hlt := h.row.1.lt
  have hrow : ∀ k, (Value.slice A l.length c).ownBlock = some k → base ≤ k := fun k e => (hlt k e).1
  have hk : fnElem.kid (W.alloc o) F0 a := fnElem.keep (fun q q1 q2 => ⟨q1, by simp; omega, heap_alloc_old W o q2⟩) ha
  have hr : GRow fnElem W' base 32 6 (.slice (some ⟨g, 0, none⟩) (l.length + 1) cap) (l ++ [a]) := GRow.app hA.row hk hF0 ho hg hat
  have hset := grown_set W' bu 0 (.slice (some ⟨g, 0, none⟩) (l.length + 1) cap)
  have e1 : (l ++ [a]).length = l.length + 1 := by simp
  have hz := hb.size
  have hrd : Rd W' rb v ws i en b := ⟨(hg.block rb hA.rd.lt (fun e => by have := hrow rb e.symm; omega)).trans hA.rd.blk, hA.rd.row.same fun q hq => hg.block q (Nat.lt_trans hq hA.rd.lt) (fun e => by have := hrow q e.symm; omega), hA.rd.len, hA.rd.pos⟩
  have hbe : Below w.heap.size w W' := ⟨hg.os.trans hA.be.os, hg.tape.trans hA.be.tape, hg.output.trans hA.be.output, Nat.le_trans hA.be.size hg.size, fun k hk => (hg.block k (by omega) (fun e => by have := hrow k e.symm; omega)).trans (hA.be.block k hk)⟩
  refine ⟨⟨(hset.block rb hrd.lt (by simp; omega)).trans hrd.blk, hrd.row.same fun q hq => hset.block q (Nat.lt_trans hq hrd.lt) (by simp; omega), hrd.len, hrd.pos⟩, by rw [e1]; simpa using heap_setCell_same W' bu 0 _ _ (.slice (some ⟨g, 0, none⟩) (l.length + 1) cap) (h.app_un hg),
    (hset.block b2 (by have := hg.size; simp at this; omega) (by simp; omega)).trans ((hg.block b2 (by simp; omega) (fun e => by have := hrow b2 e.symm; omega)).trans hA.res),
    by rw [e1]; exact hr.kept hset (fun k e => .inl (by cases e; omega)), below_set hbe (by omega) _ _,
    (hA.gl.same hg.size (fun q hq => hg.block q (by have := h.r0; simp; omega) (fun e => by have := hrow q e.symm; have := h.r0; omega))).same hset.size (fun q hq => hset.block q (by have := h.r0; have := hg.size; simp at this; omega) (by simp; have := h.r0; omega)),
    h.r0, h0, h1, h2, h3, Nat.le_trans h4 (Nat.le_trans hz (Nat.le_trans hg.size hset.size))⟩
/-- What Script answers of a text. -/
def SRes (src : ByteArray) (l : List Fn) (p er : Int) : Prop :=
  ∃ p0 e0 ws, WRes src p0 e0 ws ∧ ((e0 ≠ 0 ∧ l = [] ∧ p = p0 ∧ er = e0) ∨
    (e0 = 0 ∧ ((∃ j, Du ws src.size 0 (.bad j) ∧ l = [] ∧ p = posAt ws j src.size ∧ er = 15) ∨
      (∃ m, Du ws src.size 0 (.fns m) ∧ p = 0 ∧ er = unitF m ∧ l = (if unitF m = 0 then m else [])))))
theorem elemFn : ElemOk Tryz.prog 22 32 6 := ⟨Tryz.underlying22, by kernel_rfl, by decide⟩
theorem elemStr : ElemOk Tryz.prog 28 9 1 := ⟨Tryz.underlying28, by kernel_rfl, by decide⟩
theorem elemInt : ElemOk Tryz.prog 29 3 1 := ⟨Tryz.underlying29, by kernel_rfl, by decide⟩

end Go.Proofs.YtmngofgminlloaaGreatDoor

namespace Go.Proofs.YtmngofgminlloaaGreatDoor
open Go.RowKit Tw

section
variable {wr W W' : World} {rb b0 bf base : Nat} {v : Value} {ws : List Wd} {i en : Nat} {nm : ByteArray} {An : Option Addr} {cn : Nat} {ns : List ByteArray} {At : Option Addr} {ct : Nat} {ts : List Int} {out : Int} {vb : Value} {pos : Int}
theorem FrG.fbN (h : FrG wr W rb b0 bf base v ws i en nm An cn ns At ct ts out vb pos) (hg : W.grownBy W' (Value.slice An ns.length cn).ownBlock) : W'.heap[bf]? = some (.cells #[.string nm, .slice An ns.length cn, .slice At ts.length ct, .int .i64 out, vb, .int .i64 pos] 32 (0, 0)) := by
  have h2 := h.z2; have h3 := h.z3
  exact (hg.block bf (by omega) (fun e => by have := (h.rn.1.lt bf e.symm).1; omega)).trans h.fb
theorem FrG.fbT (h : FrG wr W rb b0 bf base v ws i en nm An cn ns At ct ts out vb pos) (hg : W.grownBy W' (Value.slice At ts.length ct).ownBlock) : W'.heap[bf]? = some (.cells #[.string nm, .slice An ns.length cn, .slice At ts.length ct, .int .i64 out, vb, .int .i64 pos] 32 (0, 0)) := by
  have h2 := h.z2; have h3 := h.z3
  exact (hg.block bf (by omega) (fun e => by have := (h.rt.1.lt bf e.symm).1; omega)).trans h.fb
end

set_option maxRecDepth 100000 in
set_option maxHeartbeats 16000000 in
theorem fun_p (rb : Nat) (v : Value) (ws : List Wd) (en i : Nat) (hN : NumsOk ws) (hr : 10 < rb) : FnP rb v ws en i := by
  intro r hd w h hG
  have HR := Lib.hid h; have HG := Lib.hid hG; have HN := Lib.hid hN; have HD := Lib.hid hd
  have hrl := h.lt
  clear h hG hN hd
  go_enter Tryz.func83, Tryz.ntmps83
  go_wp2_with fail
  refine (at_p (HR.out.keep ((Below.refl _ _).alloc (Nat.le_refl _) _))).mono ?_
  rintro e w1 ⟨rfl, hb⟩
  have hb0 : Below w.heap.size w w1 := ((Below.refl _ _).alloc (Nat.le_refl _) _).trans (hb.mono (by simp))
  have hz1 := hb.size
  have hres := (hb.block w.heap.size (by simp)).trans (heap_alloc_new w (.cells #[.string ⟨#[]⟩, .slice none 0 0, .slice none 0 0, .int .i64 0, .slice none 0 0, .int .i64 0] 32))
  have hbA : Below w.heap.size w (w1.alloc (.cells #[.string ⟨#[]⟩, .slice none 0 0, .slice none 0 0, .int .i64 0, .slice none 0 0, .int .i64 (posAt ws i en)] 32)) := hb0.alloc hb0.size _
  have HF : Hid (FrG w (w1.alloc (.cells #[.string ⟨#[]⟩, .slice none 0 0, .slice none 0 0, .int .i64 0, .slice none 0 0, .int .i64 (posAt ws i en)] 32)) rb w.heap.size w1.heap.size (w1.heap.size + 1) v ws i en ⟨#[]⟩ none 0 [] none 0 [] 0 (.slice none 0 0) (posAt ws i en)) :=
    Lib.hid ⟨HR.out.keep hbA, heap_alloc_new w1 _, (heap_alloc_old w1 _ (by simp at hz1; omega)).trans hres, grown_of_below hbA _, HG.out.to hbA, GRow.nil _ _ _ _ _, GRow.nil _ _ _ _ _, fun g e => by simp [Value.ownBlock] at e, hr, hrl, hb0.size, ⟨Nat.le_refl _, by simp at hz1; omega⟩, by omega, by simp⟩
  clear hb hb0 hres hbA hz1
  go_upto_region 2 with (fail)
  generalize w1.alloc _ = W1 at HF ⊢
  generalize w1.heap.size + 1 = base at HF
  generalize w1.heap.size = bf at HF ⊢
  obtain ⟨b0, hb0⟩ : ∃ b0, w.heap.size = b0 := ⟨_, rfl⟩
  rw [hb0] at HF
  simp only [hb0]
  have HB0 := Lib.hid hb0; clear hb0
  clear HR
  have hX := df_cases HD.out
  rcases hX with ⟨ha, rfl⟩ | ⟨ha, hX⟩
  · have HA := Lib.hid ha; clear ha
    go_wp2_with fail
    refine (want_pb sFun (ne_of (by decide)) HF.out.rd HA.out).mono ?_
    rintro e w9 ⟨rfl, hg⟩
    have HGG := Lib.hid (grown_trans HF.out.gr hg); clear hg
    unfold badP
    go_wp2_with fail
    exact ⟨rfl, rfl, HGG.out⟩
  have HA := Lib.hid ha; have HX := Lib.hid hX; clear ha hX
  go_wp2_with fail
  refine (want_p sFun (ne_of (by decide)) HF.out.rd HA.out).mono ?_
  rintro e w3 ⟨rfl, hR, hg⟩
  replace HF := Lib.hid (HF.out.step hR hg)
  clear hR hg HA
  go_wp2_with fail
  rcases HX.out with ⟨hk, rfl⟩ | ⟨hk, hX⟩
  · have HK := Lib.hid hk; clear hk
    refine (kind_pb 2 HF.out.rd HK.out).mono ?_
    rintro e w9 ⟨rfl, hg⟩
    have HGG := Lib.hid (grown_trans HF.out.gr hg); clear hg
    unfold badP
    go_wp2_with fail
    exact ⟨rfl, rfl, HGG.out⟩
  have HK := Lib.hid hk; replace HX := Lib.hid hX; clear hk hX
  refine (kind_p 2 (by decide) HF.out.rd HK.out).mono ?_
  rintro e w4 ⟨rfl, hR, hg⟩
  replace HF := Lib.hid (HF.out.step hR hg)
  clear hR hg HK
  obtain ⟨nm, hnm⟩ : ∃ s, textAt ws (i + 1) = s := ⟨_, rfl⟩
  simp only [hnm]
  have HNm := Lib.hid hnm; clear hnm
  have c0 := (facts6 HF.out.fb).1.1
  have f0 := (facts6 HF.out.fb).2.1
  go_wp2_with fail
  clear c0 f0
  replace HF := Lib.hid (HF.out.s0 nm)
  generalize w4.setCell ⟨bf, 0, none⟩ _ = W4 at HF ⊢
  rcases HX.out with ⟨hk, rfl⟩ | ⟨hk, q, hq, hq1, hq2⟩
  · have HK := Lib.hid hk; clear hk
    refine (want_pb sOpen (ne_of (by decide)) HF.out.rd HK.out).mono ?_
    rintro e w9 ⟨rfl, hg⟩
    have HGG := Lib.hid (grown_trans HF.out.gr hg); clear hg
    unfold badP
    go_wp2_with fail
    exact ⟨rfl, rfl, HGG.out⟩
  have HK := Lib.hid hk; have HQ := Lib.hid hq; have HQ1 := Lib.hid hq1; have HQ2 := Lib.hid hq2; clear hk hq hq1 hq2
  refine (want_p sOpen (ne_of (by decide)) HF.out.rd HK.out).mono ?_
  rintro e w5 ⟨rfl, hR, hg⟩
  replace HF := Lib.hid (HF.out.step hR hg)
  clear hR hg HK HX
  go_wp2_with fail
  go_loopw [] (fun wr => ∃ (An : Option Addr) (cn : Nat) (ns : List ByteArray) (At : Option Addr) (ct : Nat) (ts : List Int) (i' : Nat) (q' : Rp), Hid (FrG w wr rb b0 bf base v ws i' en nm An cn ns At ct ts 0 (.slice none 0 0) (posAt ws i en)) ∧ Hid (i < i' ∧ ns.length ≤ i' ∧ ts.length = ns.length ∧ Dp ws en ns.length i' q' ∧ q = joinP ns ts q'))
    (fun wr => ws.length - placeOf wr rb)
  case atStart => exact ⟨none, 0, [], none, 0, [], i + 3, q, HF, Lib.hid ⟨by omega, by simp, rfl, HQ.out, (joinP_nil q).symm⟩⟩
  case round =>
    clear HF
    obtain ⟨An, cn, ns, At, ct, ts, i', q', HF, HI⟩ := hrel
    have hpl := HF.out.rd.place
    have hpos := HF.out.rd.pos
    have hlen := HF.out.rd.len
    obtain ⟨t, ht⟩ : ∃ t, isAt ws i' sClose = t := ⟨_, rfl⟩
    have T := Lib.hid ht; clear ht
    go_wp2_with fail
    refine (take_p sClose (ne_of (by decide)) t HF.out.rd T.out).mono ?_
    rintro e w6 ⟨rfl, hR, hg⟩
    replace HF := Lib.hid (HF.out.step hR hg)
    clear hR hg
    cases t with
    | true =>
      simp only [if_true] at HF
      have hq' := dp_close HI.out.2.2.2.1 T.out
      have hqq := HI.out.2.2.2.2
      rw [hq'] at hqq
      simp only [joinP, List.append_nil] at hqq
      have HX := Lib.hid (HQ2.out ns ts (i' + 1) hqq)
      clear hq' hqq
      go_wp2_with fail
      rcases HX.out with ⟨k, hk, rfl⟩ | ⟨t2, hk, hX⟩
      · have HK := Lib.hid hk; clear hk
        refine (typ_pb HF.out.rd HK.out).mono ?_
        rintro e w9 ⟨rfl, hg⟩
        have HGG := Lib.hid (grown_trans HF.out.gr hg); clear hg
        unfold badP
        go_wp2_with fail
        exact ⟨rfl, rfl, HGG.out⟩
      have HK := Lib.hid hk; replace HX := Lib.hid hX; clear hk hX
      refine (typ_p HF.out.rd HK.out).mono ?_
      rintro e w7 ⟨rfl, hR, hg⟩
      replace HF := Lib.hid (HF.out.step hR hg)
      clear hR hg
      have c3 := (facts6 HF.out.fb).1.2.2.2.1
      have f3 := (facts6 HF.out.fb).2.2.2.2.1
      go_wp2_with fail
      clear c3 f3
      replace HF := Lib.hid (HF.out.s3 t2)
      generalize w7.setCell ⟨bf, 3, none⟩ _ = W7 at HF ⊢
      rcases HX.out with ⟨k, hk, rfl⟩ | ⟨lb, k, hk, rfl⟩
      · have HK2 := Lib.hid hk; clear hk
        refine (blockp_r rb v ws en (i' + 1 + 2) HN.out hr _ HK2.out W7 HF.out.rd HF.out.gl).mono ?_
        rintro e w9 ⟨rfl, hg⟩
        have HGG := Lib.hid (grown_trans HF.out.gr hg); clear hg
        unfold badP
        go_wp2_with fail
        exact ⟨rfl, rfl, HGG.out⟩
      have HK2 := Lib.hid hk; clear hk
      refine (blockp_r rb v ws en (i' + 1 + 2) HN.out hr _ HK2.out W7 HF.out.rd HF.out.gl).mono ?_
      rintro e w8 ⟨Ab, cb, rfl, hB, hR, hg⟩
      have hz3 := HF.out.z3; have hz2 := HF.out.z2; have hz1 := HF.out.z1; have hzb := HF.out.zb
      have HB : Hid (StmtsIn w8 (fun g => base ≤ g) (.slice Ab lb.length cb) lb) := Lib.hid (hB.keep fun g (h1 : W7.heap.size ≤ g) h2 => ⟨by omega, h2, rfl⟩)
      replace HF := Lib.hid (HF.out.step hR hg)
      clear hR hg hB
      have c4 := (facts6 HF.out.fb).1.2.2.2.2.1
      have f4 := (facts6 HF.out.fb).2.2.2.2.2.1
      go_upto_region 12 with (fail)
      clear c4 f4
      replace HB := Lib.hid (HB.out.later (some bf) (grown_set w8 bf 4 (.slice Ab lb.length cb)) (fun g h => by simp; omega) (fun g h => h))
      replace HF := Lib.hid (HF.out.s4 (.slice Ab lb.length cb))
      generalize w8.setCell ⟨bf, 4, none⟩ _ = W8 at HF HB ⊢
      obtain ⟨⟨c0, c1, c2, c3, c4, c5⟩, f0, f1, f2, f3, f4, f5⟩ := facts6 HF.out.fb
      obtain ⟨⟨d0, d1, d2, d3, d4, d5⟩, g0, g1, g2, g3, g4, g5⟩ := facts6 HF.out.res
      have HW := Lib.hid (set6 (.string nm) (.slice An ns.length cn) (.slice At ts.length ct) (.int .i64 t2) (.slice Ab lb.length cb) (.int .i64 (posAt ws i en)) HF.out.res)
      go_wp2_with fail
      (try simp only [Exit.inBlock, Exit.then])
      refine bodyPost_ret (results_cell_row rfl _ _ b0 _ _ _ _ rfl HW.out Tryz.underlying32 rfl fnInfo) rfl ?_
      have HZ := Lib.hid (FrG.ret HF.out HB.out)
      rw [HNm.out]
      exact HZ.out
    | false =>
      simp only [Bool.false_eq_true, if_false] at HF
      have hX := dp_more HI.out.2.2.2.1 T.out
      have hnl : ns.length ≤ 4000 := by have := HI.out.2.1; omega
      have htl : ts.length ≤ 4000 := by have := HI.out.2.2.1; omega
      have HRl := Lib.hid (show i' ≤ ws.length from hpos)
      rcases hX with ⟨h0, hc, rfl⟩ | ⟨hc, hX⟩
      · have HC := Lib.hid hc
        have e0 : 0 < ns.length := by omega
        have hr1 : r = .bad i' := HQ1.out i' (by rw [HI.out.2.2.2.2]; rfl)
        subst hr1
        have c1 := (facts6 HF.out.fb).1.2.1
        clear hc h0
        go_wp2_with fail
        refine (want_pb sComma (ne_of (by decide)) HF.out.rd HC.out).mono ?_
        rintro e w9 ⟨rfl, hg⟩
        have HGG := Lib.hid (grown_trans HF.out.gr hg); clear hg
        unfold badP
        go_wp2_with fail
        exact ⟨rfl, rfl, HGG.out⟩
      have HC := Lib.hid hc; have HX := Lib.hid hX; clear hc hX
      have c1 := (facts6 HF.out.fb).1.2.1
      go_upto_if 20 with (fail)
      clear c1
      go_cut [] (fun W => Hid (FrG w W rb b0 bf base v ws (parAt ns.length i') en nm An cn ns At ct ts 0 (.slice none 0 0) (posAt ws i en)))
      case first =>
        by_cases hl : ns.length = 0
        · have HP : Hid (parAt ns.length i' = i') := Lib.hid (by unfold parAt; rw [if_pos hl])
          have HL := Lib.hid hl; clear hl
          go_wp2_with fail
          · exfalso; have := HL.out; omega
          go_meet
          case rel => rw [HP.out]; exact HF
        · have HP : Hid (parAt ns.length i' = i' + 1) := Lib.hid (by unfold parAt; rw [if_neg hl])
          have e0 : 0 < ns.length := by omega
          have HA := Lib.hid (HC.out hl); clear hl
          go_wp2_with fail
          refine (want_p sComma (ne_of (by decide)) HF.out.rd HA.out).mono ?_
          rintro e w7 ⟨rfl, hR, hg⟩
          replace HF := Lib.hid (HF.out.step hR hg)
          clear hR hg
          go_wp2_with fail
          go_meet
          case rel => rw [HP.out]; exact HF
      case rest =>
        clear HF
        obtain ⟨wa, rfl⟩ : ∃ wo : World, wo = wc := ⟨_, rfl⟩
        have HF := hcut
        clear hcut
        obtain ⟨ip, hip⟩ : ∃ j, parAt ns.length i' = j := ⟨_, rfl⟩
        rw [hip] at HF HX
        have HIP : Hid (i' ≤ ip) := Lib.hid (by rw [← hip]; unfold parAt; split <;> omega)
        clear hip
        go_upto_region 8 with (fail)
        have c1 := (facts6 HF.out.fb).1.2.1
        have HFd := Lib.hid (HF.out.below (bel_drew _))
        rcases HX.out with ⟨hk, hq3⟩ | ⟨hk, hX⟩
        · have HK := Lib.hid hk; clear hk
          have hr1 : r = .bad ip := HQ1.out ip (by rw [HI.out.2.2.2.2, hq3]; rfl)
          subst hr1
          clear hq3
          go_region_dies
          all_goals
            go_at_call 138
            refine (kind_pb 2 HFd.out.rd HK.out).mono ?_
            rintro e w9 ⟨rfl, hg⟩
            have HGG := Lib.hid (grown_trans HFd.out.gr hg); clear hg
            unfold badP
            go_wp2_with fail
            exact ⟨rfl, rfl, HGG.out⟩
        have HK := Lib.hid hk; replace HX := Lib.hid hX; clear hk hX
        go_cut [] (fun W => ∃ (n2 : ByteArray) (g9 cap9 : Nat), Hid (FrG w W rb b0 bf base v ws (ip + 1) en nm (some ⟨g9, 0, none⟩) cap9 (ns ++ [n2]) At ct ts 0 (.slice none 0 0) (posAt ws i en)) ∧ Hid (n2 = textAt ws ip))
        case first =>
          go_region_law (first | (go_simp; go_at_call 138; refine (kind_p 2 (by decide) HFd.out.rd HK.out).mono ?_; rintro e w8 ⟨rfl, hR, hg⟩; have HF8 := Lib.hid (HFd.out.step hR hg); have d1 := (facts6 HF8.out.fb).1.2.1; have hbf8 := lt_of_some HF8.out.fb; clear hR hg) | (refine step_app1 elemStr (by rfl) _ _ (by rfl) base _ ns.length (ns.flatMap strElem.cells) (by rfl) (HF8.out.rn.1.alloc _) w8.heap.size 1 #[.string (textAt ws ip)] (by rfl) (heap_alloc_new w8 _) rfl (by simp [Value.oneCell']) (by omega) (by have := HF8.out.z3; simp; omega) ?_; intro g9 cap9 w9 hown9 hgrow9 hat9 hlt9; have HF9 := Lib.hid (HF8.out.below ((Below.refl _ _).alloc (Nat.le_refl _) (.cells #[.string (textAt ws ip)] 9))); have hfb := HF9.out.fbN hgrow9; have q1 := (facts6 hfb).1.2.1; have q2 := (facts6 hfb).2.2.1; clear hfb))
          all_goals
            go_wp2_with fail
            go_meet
            case rel => exact ⟨textAt ws ip, g9, cap9, Lib.hid (HF9.out.name hown9 hgrow9 hat9 rfl), Lib.hid rfl⟩
        case rest =>
          clear HF HFd c1
          obtain ⟨n2, g9, cap9, HF, HN2⟩ := hcut
          obtain ⟨wb, rfl⟩ : ∃ wo : World, wo = wc := ⟨_, rfl⟩
          go_upto_region 9 with (fail)
          have c1 := (facts6 HF.out.fb).1.2.2.1
          have HFd := Lib.hid (HF.out.below (bel_drew _))
          rcases HX.out with ⟨k, hk, hq3⟩ | ⟨t2, q2, hk, hd2, hq3⟩
          · have HK2 := Lib.hid hk; clear hk
            have hr1 : r = .bad k := HQ1.out k (by rw [HI.out.2.2.2.2, hq3]; rfl)
            subst hr1
            clear hq3
            go_region_dies
            all_goals
              go_at_call 140
              refine (typ_pb HFd.out.rd HK2.out).mono ?_
              rintro e w9 ⟨rfl, hg⟩
              have HGG := Lib.hid (grown_trans HFd.out.gr hg); clear hg
              unfold badP
              go_wp2_with fail
              exact ⟨rfl, rfl, HGG.out⟩
          have HK2 := Lib.hid hk; have HD2 := Lib.hid hd2; have HQ3 := Lib.hid hq3; clear hk hd2 hq3
          go_region_law (first | (go_simp; go_at_call 140; refine (typ_p HFd.out.rd HK2.out).mono ?_; rintro e w8 ⟨rfl, hR, hg⟩; have HF8 := Lib.hid (HFd.out.step hR hg); have d1 := (facts6 HF8.out.fb).1.2.2.1; have hbf8 := lt_of_some HF8.out.fb; clear hR hg) | (refine step_app1 elemInt (by rfl) _ _ (by rfl) base _ ts.length (ts.flatMap intElem.cells) (by rfl) (HF8.out.rt.1.alloc _) w8.heap.size 1 #[.int .i64 t2] (by rfl) (heap_alloc_new w8 _) rfl (by simp [Value.oneCell']) (by omega) (by have := HF8.out.z3; simp; omega) ?_; intro g9' cap9' w9 hown9 hgrow9 hat9 hlt9; have HF9 := Lib.hid (HF8.out.below ((Below.refl _ _).alloc (Nat.le_refl _) (.cells #[.int .i64 t2] 3))); have hfb := HF9.out.fbT hgrow9; have q1 := (facts6 hfb).1.2.2.1; have q2' := (facts6 hfb).2.2.2.1; clear hfb))
          all_goals
            have HFn := Lib.hid (HF9.out.typ hown9 hgrow9 hat9 rfl)
            go_wp2_with fail
            go_roundw
            case rel => exact ⟨some ⟨g9, 0, none⟩, cap9, ns ++ [n2], some ⟨g9', 0, none⟩, cap9', ts ++ [t2], ip + 3, q2, HFn, Lib.hid ⟨by have := HI.out.1; have := HIP.out; omega, by have := HI.out.2.1; have := HIP.out; simp; omega, by have := HI.out.2.2.1; simp; omega, by simpa using HD2.out, by rw [HI.out.2.2.2.2, HQ3.out, joinP_join, HN2.out]⟩⟩
            case measure => rw [HFn.out.rd.place, hpl]; have := HFn.out.rd.pos; have := HIP.out; omega
end Go.Proofs.YtmngofgminlloaaGreatDoor

namespace Go.Proofs.YtmngofgminlloaaGreatDoor
open Go.RowKit Tw

def joinU (l : List Fn) : Ru → Ru
  | .fns m => .fns (l ++ m)
  | r => r
section
variable {ws : List Wd} {en i k : Nat} {q : Ru}
theorem joinU_nil (r : Ru) : joinU [] r = r := by cases r <;> simp [joinU]
theorem joinU_join (l m : List Fn) (r : Ru) : joinU l (joinU m r) = joinU (l ++ m) r := by cases r <;> simp [joinU]
theorem du_done (h : Du ws en i q) (hi : ws.length ≤ i) : q = .fns [] := by
  cases h with
  | done _ => rfl
  | more g => omega
  | moreR g => omega
  | moreB g => omega
theorem du_more (h : Du ws en i q) (hi : i < ws.length) : (∃ j, Df ws en i (.bad j) ∧ q = .bad j) ∨ ∃ f j q2, Df ws en i (.fn f j) ∧ Du ws en j q2 ∧ q = joinU [f] q2 := by
  cases h with
  | done g => omega
  | more _ g1 g2 => exact .inr ⟨_, _, _, g1, g2, rfl⟩
  | moreR _ g1 g2 => exact .inr ⟨_, _, _, g1, g2, rfl⟩
  | moreB _ g1 => exact .inl ⟨_, g1, rfl⟩
def dpOn (i : Nat) : Rp → Prop
  | .ok _ _ j => i < j
  | _ => True
theorem Dp.on {r : Rp} (h : Dp ws en k i r) : dpOn i r := by
  induction h with
  | close => simp [dpOn]
  | next _ _ _ _ _ ih => simp only [dpOn] at *; unfold parAt at ih; split at ih <;> omega
  | _ => trivial
theorem Df.on {f : Fn} {j : Nat} (h : Df ws en i (.fn f j)) : i < j := by
  cases h with
  | fn _ _ _ h1 _ h2 =>
    have a : _ < _ := Dp.on h1
    have b : _ < _ := Ds.on h2
    omega
end
end Go.Proofs.YtmngofgminlloaaGreatDoor

namespace Go.Proofs.YtmngofgminlloaaGreatDoor
open Go.RowKit Tw

set_option maxRecDepth 100000 in
set_option maxHeartbeats 4000000 in
theorem catch_idle (p q r : Addr) (w : World) :
    CallsD Tryz.prog 82 #[.pointer (some p), .pointer (some q), .pointer (some r)] .returning w fun e u' w' => e = .returned (.tuple #[]) ∧ u' = .returning ∧ w' = w := by
  refine callsD_of_wpS Tryz.func82 rfl fun c₀ cs hu => ?_
  apply wpS_seq
  apply wpS_region
  simp [wpOpsS, go_sem, recoverD, hu, Tryz.ntmps82, Exit.thenS]
  apply wpS_seq
  apply wpS_region
  simp [wpOpsS, go_sem, Exit.thenS]
  refine wpS_cond (t := false) (by simp [Act.eval, Array.replicate]) ?_
  simp only [Bool.false_eq_true, if_false]
  refine wpS_of_wp (wp_skip ?_)
  cases c₀
  simp_all [bodyPostS, results, Tryz.results82]

set_option maxRecDepth 100000 in
set_option maxHeartbeats 4000000 in
theorem catch_bad (bu bp be : Nat) (s : Value) (p0 e0 x : Int) (older : List PanicEntry) (w : World) (hu : w.heap[bu]? = some (.cells #[s] 24 (0, 0))) (hp : w.heap[bp]? = some (.cells #[.int .i64 p0] 3 (0, 0))) (he : w.heap[be]? = some (.cells #[.int .i64 e0] 25 (0, 0))) (h1 : bu < bp) (h2 : bp < be) :
    CallsD Tryz.prog 82 #[.pointer (some ⟨bu, 0, none⟩), .pointer (some ⟨bp, 0, none⟩), .pointer (some ⟨be, 0, none⟩)] (.panicking ({ v := .iface 159 (.agg #[.int .i64 x]), recovered := false } :: older)) w fun e u' w' =>
      e = .returned (.tuple #[]) ∧ u' = .panicking ({ v := .iface 159 (.agg #[.int .i64 x]), recovered := true } :: older) ∧ Below bu w w' ∧ w'.heap[bu]? = some (.cells #[.slice none 0 0] 24 (0, 0)) ∧ w'.heap[bp]? = some (.cells #[.int .i64 x] 3 (0, 0)) ∧ w'.heap[be]? = some (.cells #[.int .i64 15] 25 (0, 0)) := by
  have hta : ∀ (v : Value) (w : World), (Instr.typeAssert (.iface 159 v) 20 159 true).run Tryz.prog w = .ok (.tuple #[v, .bool true]) w := fun v w => by
    simp [Instr.typeAssert, run_underlying Tryz.underlying159]
  have ht : ∀ (a b c : Value), (#[a, b, c] ++ Array.replicate (Tryz.f82.ntmps - (#[a, b, c] : Array Value).size) undef) = #[a, b, c, undef, undef, undef, undef, undef, undef, undef, undef, undef, undef, undef, undef, undef, undef, undef, undef, undef] := fun a b c => by
    rw [Tryz.ntmps82]
    apply Array.ext'
    simp
  refine callsD_of_wpS Tryz.func82 rfl fun c₀ cs hum => ?_
  rw [ht]
  apply wpS_seq
  apply wpS_region
  simp [wpOpsS, go_sem, recoverD, hum, Exit.thenS]
  apply wpS_seq
  apply wpS_region
  simp [wpOpsS, go_sem, Exit.thenS]
  refine wpS_cond (t := true) (by simp [Act.eval]) ?_
  simp only [if_true]
  apply wpS_seq
  apply wpS_region
  simp [wpOpsS, go_sem, Exit.thenS, hta]
  obtain ⟨Qx, hQx⟩ : ∃ Q : Exit → Act → World → Prop, ∀ e a' w', Q e a' w' ↔ (e = .normal ∧ a'.defers = [] ∧ Below bu w w' ∧ w'.heap[bu]? = some (.cells #[.slice none 0 0] 24 (0, 0)) ∧ w'.heap[bp]? = some (.cells #[.int .i64 x] 3 (0, 0)) ∧ w'.heap[be]? = some (.cells #[.int .i64 15] 25 (0, 0))) := ⟨_, fun _ _ _ => Iff.rfl⟩
  refine wpS_of_wp (wp_mono (Q := Qx) ?_ ?_)
  · clear hum hta ht
    have HQx := Lib.hid hQx; clear hQx
    have hbu := lt_of_some hu; have hbp := lt_of_some hp; have hbe := lt_of_some he
    have HU := Lib.hid hu; have HP := Lib.hid hp; have HE := Lib.hid he
    clear hu hp he
    go_upto_region 5 with (fail)
    have HB := Lib.hid ((Below.refl bu w).alloc (by omega) (.cells #[.int .i64 x] 159))
    have hU := (heap_alloc_old w (.cells #[.int .i64 x] 159) hbu).trans HU.out
    have hP := (heap_alloc_old w (.cells #[.int .i64 x] 159) hbp).trans HP.out
    have hE := (heap_alloc_old w (.cells #[.int .i64 x] 159) hbe).trans HE.out
    have hN := heap_alloc_new w (.cells #[.int .i64 x] 159)
    generalize w.alloc _ = W at HB hU hP hE hN ⊢
    have cu := Lib.cell_of_heap hU 0; have fu := Lib.frozen_of_heap hU 0
    have cp := Lib.cell_of_heap hP 0; have fp := Lib.frozen_of_heap hP 0
    have ce := Lib.cell_of_heap hE 0; have fe := Lib.frozen_of_heap hE 0
    have cn := Lib.cell_of_heap hN 0
    simp at cu cp ce cn
    have n1 : bu ≠ bp := by omega
    have n2 : bp ≠ be := by omega
    have n3 : bu ≠ be := by omega
    have n4 : w.heap.size ≠ bu := by omega
    have n5 : w.heap.size ≠ bp := by omega
    have n6 : w.heap.size ≠ be := by omega
    have HU2 := Lib.hid hU; have HP2 := Lib.hid hP; have HE2 := Lib.hid hE
    clear hU hP hE hN
    go_region
    all_goals
      have o1 : ∀ (V : World) (k j : Nat) (u : Value), j ≠ k → (V.setCell ⟨k, 0, none⟩ u).heap[j]? = V.heap[j]? := fun V k j u h => Below.heap_setCell V ⟨k, 0, none⟩ u j (by simpa using h)
      have hS := below_set (below_set (below_set HB.out (Nat.le_refl _) 0 (.slice none 0 0)) (show bu ≤ bp by omega) 0 (.int .i64 x)) (show bu ≤ be by omega) 0 (.int .i64 15)
      have hz := hS.size
      refine (HQx.out _ _ _).2 ⟨rfl, rfl, hS.trans ((bel_drew _).mono (by omega)), ?_, ?_, ?_⟩
      · show (((W.setCell ⟨bu, 0, none⟩ (.slice none 0 0)).setCell ⟨bp, 0, none⟩ (.int .i64 x)).setCell ⟨be, 0, none⟩ (.int .i64 15)).heap[bu]? = _
        rw [o1 _ _ _ _ n3, o1 _ _ _ _ n1]
        simpa using heap_setCell_same W bu 0 _ _ (.slice none 0 0) HU2.out
      · show (((W.setCell ⟨bu, 0, none⟩ (.slice none 0 0)).setCell ⟨bp, 0, none⟩ (.int .i64 x)).setCell ⟨be, 0, none⟩ (.int .i64 15)).heap[bp]? = _
        rw [o1 _ _ _ _ n2]
        simpa using heap_setCell_same _ bp 0 _ _ (.int .i64 x) ((o1 W bu bp (.slice none 0 0) n1.symm).trans HP2.out)
      · show (((W.setCell ⟨bu, 0, none⟩ (.slice none 0 0)).setCell ⟨bp, 0, none⟩ (.int .i64 x)).setCell ⟨be, 0, none⟩ (.int .i64 15)).heap[be]? = _
        simpa using heap_setCell_same _ be 0 _ _ (.int .i64 15) ((o1 _ bp be (.int .i64 x) n2.symm).trans ((o1 W bu be (.slice none 0 0) n3.symm).trans HE2.out))
  · intro e a' w' hq
    obtain ⟨rfl, hd, hb, g1, g2, g3⟩ := (hQx _ _ _).1 hq
    clear hQx hq hta
    cases c₀
    simp_all [bodyPostS, results, Tryz.results82]
end Go.Proofs.YtmngofgminlloaaGreatDoor
