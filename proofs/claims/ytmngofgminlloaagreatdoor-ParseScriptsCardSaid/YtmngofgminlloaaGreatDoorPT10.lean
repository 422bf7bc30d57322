/-
  The program's atom(), of whatever its callees answer by contract.
  The program's args(), of whatever its callee answers by contract.
-/
import Derived.Test.YtmngofgminlloaaGreatDoorPT09
import Derived.Test.YtmngofgminlloaaGreatDoorPT08
import Derived.Outline
import Derived.Deep.DeepCutAuto
namespace Go.Proofs.YtmngofgminlloaaGreatDoor
open Go.RowKit Tw

theorem num_size {ws : List Wd} {i : Nat} (hN : NumsOk ws) (h : kindAt ws i = 1) : (textAt ws i).size ≤ 18 := by
  unfold kindAt at h; unfold textAt
  cases hx : ws[i]? with
  | none => decide
  | some x => rw [hx] at h; exact hN x (List.mem_of_getElem? hx) h

set_option maxRecDepth 100000 in
set_option maxHeartbeats 8000000 in
theorem atom_c (rb : Nat) (v : Value) (ws : List Wd) (en i : Nat) (hN : NumsOk ws) (hr : 10 < rb) (h1 : ExprC rb v ws en 0 (i + 1)) (h2 : ∀ j, i < j → ArgsP rb v ws en j) : AtomC rb v ws en i := by
  intro r hd hq1 hq2 w h hG
  have H1 := Lib.hid h1; have H2 := Lib.hid h2; have HR := Lib.hid h; have HG := Lib.hid hG; have HN := Lib.hid hN; have HD := Lib.hid hd
  have Q1 := Lib.hid hq1; have Q2 := Lib.hid hq2
  have E1 := Lib.hid (hq_Minus' hq1); have E2 := Lib.hid (hq_Bang' hq1 hq2)
  have hrl := h.lt
  clear h1 h2 h hG hN hd hq1 hq2
  go_enter Tryz.func245, Tryz.ntmps245
  go_wp2_with fail
  refine (at_p (HR.out.keep ((Below.refl _ _).alloc (Nat.le_refl _) _))).mono ?_
  rintro e w1 ⟨rfl, hb⟩
  have hb0 : Below w.heap.size w w1 := ((Below.refl _ _).alloc (Nat.le_refl _) _).trans (hb.mono (by simp))
  have HF : Hid (FrP w _ rb w.heap.size w1.heap.size v ws i en (.int .i64 0) (.int .i64 0) (.string ⟨#[]⟩) (.slice none 0 0) (.int .i64 (posAt ws i en))) :=
    Lib.hid (FrP.start (HR.out.keep hb0) (HG.out.to hb0) hr (grown_of_below hb0 _) hrl (Nat.le_refl _) (by have := hb.size; simp at this; omega) ((hb.block _ (by simp)).trans (heap_alloc_new w _)) _ _ _ _ _)
  clear hb hb0
  go_upto_block 0 with (fail)
  generalize w1.alloc _ = W1 at HF ⊢
  generalize w1.heap.size = b1 at HF ⊢
  obtain ⟨b0, hb0⟩ : ∃ b0, w.heap.size = b0 := ⟨_, rfl⟩
  rw [hb0] at HF
  simp only [hb0]
  have HB0 := Lib.hid hb0; clear hb0
  go_wp2_with fail
  obtain ⟨t3, ht3⟩ : ∃ t, isAt ws i sOpen = t := ⟨_, rfl⟩
  have T3 := Lib.hid ht3; clear ht3
  refine (take_p sOpen (ne_of (by decide)) t3 HF.out.rd T3.out).mono ?_
  rintro e w2 ⟨rfl, hR, hg⟩
  replace HF := Lib.hid (HF.out.step hR hg)
  clear hR hg
  cases t3 with
  | true =>
    simp only [if_true] at HF
    have HQ := Lib.hid (head3 E1.out E2.out T3.out)
    cases r with
    | ex x j =>
      have hx : ∃ j', j = j' + 1 ∧ Dc ws en (.lvl 0 (i + 1)) (.ex x j') ∧ isAt ws j' sClose = true := by
        have h := HD.out
        cases h with
        | par _ h hc => exact ⟨_, rfl, h, hc⟩
        | _ => exfalso; have := HQ.out; omega
      obtain ⟨j', rfl, hy, hc⟩ := hx
      have HY := Lib.hid hy; have HC := Lib.hid hc; clear hy hc
      go_wp2_with fail
      refine (H1.out _ HY.out w2 HF.out.rd HF.out.gl).mono ?_
      rintro e w3 ⟨A, c, rfl, hA, hR, hg⟩
      have HA := Lib.hid hA
      have hz2 := HF.out.z3; have hz0 := HF.out.gr.size; have hz1 := HF.out.z2; have hs := hg.size; have hzr := HF.out.z0
      replace HF := Lib.hid (HF.out.step hR hg)
      have hz3 := HF.out.z3
      clear hR hg hA
      obtain ⟨⟨c0, c1, c2, c3, c4⟩, f0, f1, f2, f3, f4⟩ := facts5 HF.out.ex
      go_wp2_with fail
      have HF5 := Lib.hid (((((HF.out.s0 (.int .i64 x.kind)).s1 (.int .i64 x.n)).s2 (.string x.text)).s3 (.slice A x.args.length c)).s4 (.int .i64 x.pos))
      have HA5 := Lib.hid (ArgsIn.later (F' := fun g => w.heap.size ≤ g ∧ g ≠ b0) HA.out (some b1) (grown5 w3 b1 (.int .i64 x.kind) (.int .i64 x.n) (.string x.text) (.slice A x.args.length c) (.int .i64 x.pos)) (fun g (h : w2.heap.size ≤ g) => by simp; omega) (fun g (h : w2.heap.size ≤ g) => ⟨by omega, by omega⟩))
      clear HA HF c0 c1 c2 c3 c4 f0 f1 f2 f3 f4
      generalize (((((w3.setCell ⟨b1, 0, none⟩ _).setCell ⟨b1, 1, none⟩ _).setCell ⟨b1, 2, none⟩ _).setCell ⟨b1, 3, none⟩ _).setCell ⟨b1, 4, none⟩ _) = W5 at HF5 HA5 ⊢
      refine (want_p sClose (ne_of (by decide)) HF5.out.rd HC.out).mono ?_
      rintro e w6 ⟨rfl, hR, hg⟩
      have HA6 := Lib.hid (ArgsIn.later HA5.out (some rb) hg (fun g (h : w.heap.size ≤ g ∧ g ≠ b0) => by simp; omega) (fun g h => h))
      have HF := Lib.hid (HF5.out.step hR hg)
      clear hR hg HA5 HF5
      obtain ⟨⟨c0, c1, c2, c3, c4⟩, f0, f1, f2, f3, f4⟩ := facts5 HF.out.ex
      obtain ⟨⟨d0, d1, d2, d3, d4⟩, g0, g1, g2, g3, g4⟩ := facts5 HF.out.res
      have HW := Lib.hid (set5 (.int .i64 x.kind) (.int .i64 x.n) (.string x.text) (.slice A x.args.length c) (.int .i64 x.pos) HF.out.res)
      go_wp2_with fail
      (try simp only [Exit.inBlock, Exit.then])
      refine bodyPost_ret (results_cell_row rfl _ _ b0 _ _ _ _ rfl HW.out Tryz.underlying186 rfl exInfo) rfl ?_
      exact HF.out.ret HA6.out (fun g h => h)
    | bad j =>
      have hx : Dc ws en (.lvl 0 (i + 1)) (.bad j) ∨ ∃ x, Dc ws en (.lvl 0 (i + 1)) (.ex x j) ∧ isAt ws j sClose = false := by
        have h := HD.out
        cases h with
        | parB _ h => exact .inl h
        | parC _ h hc => exact .inr ⟨_, h, hc⟩
        | _ => exfalso; have := HQ.out; omega
      rcases hx with hy | ⟨x, hy, hc⟩
      · have HY := Lib.hid hy; clear hy
        go_wp2_with fail
        refine (H1.out _ HY.out w2 HF.out.rd HF.out.gl).mono ?_
        rintro e w9 ⟨rfl, hg⟩
        have HGG := Lib.hid (grown_trans HF.out.gr hg); clear hg
        unfold badP
        go_wp2_with fail
        exact ⟨rfl, rfl, HGG.out⟩
      · have HY := Lib.hid hy; have HC := Lib.hid hc; clear hy hc
        go_wp2_with fail
        refine (H1.out _ HY.out w2 HF.out.rd HF.out.gl).mono ?_
        rintro e w3 ⟨A, c, rfl, hA, hR, hg⟩
        replace HF := Lib.hid (HF.out.step hR hg)
        have hz3 := HF.out.z3
        clear hR hg hA
        obtain ⟨⟨c0, c1, c2, c3, c4⟩, f0, f1, f2, f3, f4⟩ := facts5 HF.out.ex
        go_wp2_with fail
        have HF5 := Lib.hid (((((HF.out.s0 (.int .i64 x.kind)).s1 (.int .i64 x.n)).s2 (.string x.text)).s3 (.slice A x.args.length c)).s4 (.int .i64 x.pos))
        clear HF c0 c1 c2 c3 c4 f0 f1 f2 f3 f4
        have HF := HF5
        clear HF5
        generalize (((((w3.setCell ⟨b1, 0, none⟩ _).setCell ⟨b1, 1, none⟩ _).setCell ⟨b1, 2, none⟩ _).setCell ⟨b1, 3, none⟩ _).setCell ⟨b1, 4, none⟩ _) = W5 at HF ⊢
        refine (want_pb sClose (ne_of (by decide)) HF.out.rd HC.out).mono ?_
        rintro e w9 ⟨rfl, hg⟩
        have HGG := Lib.hid (grown_trans HF.out.gr hg); clear hg
        unfold badP
        go_wp2_with fail
        exact ⟨rfl, rfl, HGG.out⟩
    | exs l j => have h := HD.out; cases h
  | false =>
    simp only [Bool.false_eq_true, if_false] at HF
    have E3 := T3
    have Q3 : Hid (headQ ws i ≠ 3) := Lib.hid (fun e => by have h := hq_Open Q1.out Q2.out e; rw [E3.out] at h; cases h)
    clear T3
    go_wp2_with fail
    obtain ⟨t4, ht4⟩ : ∃ t, isAt ws i sTrue = t := ⟨_, rfl⟩
    have T4 := Lib.hid ht4; clear ht4
    refine (take_p sTrue (ne_of (by decide)) t4 HF.out.rd T4.out).mono ?_
    rintro e w2 ⟨rfl, hR, hg⟩
    replace HF := Lib.hid (HF.out.step hR hg)
    clear hR hg
    cases t4 with
    | true =>
      simp only [if_true] at HF
      have HQ := Lib.hid (head4 E1.out E2.out E3.out T4.out)
      have hx : r = .ex (.mk 2 1 sNone [] (posAt ws i en)) (i + 1) := by
        have h := HD.out
        cases h with
        | tru _ => rfl
        | _ => exfalso; have := HQ.out; omega
      subst hx
      obtain ⟨⟨c0, c1, c2, c3, c4⟩, f0, f1, f2, f3, f4⟩ := facts5 HF.out.ex
      go_upto_region 8 with (fail)
      clear c0 c1 c2 c3 c4 f0 f1 f2 f3 f4
      replace HF := Lib.hid ((HF.out.s0 (.int .i64 2)).s1 (.int .i64 1))
      generalize (w2.setCell ⟨b1, 0, none⟩ _).setCell ⟨b1, 1, none⟩ _ = W3 at HF ⊢
      obtain ⟨⟨c0, c1, c2, c3, c4⟩, f0, f1, f2, f3, f4⟩ := facts5 HF.out.ex
      obtain ⟨⟨d0, d1, d2, d3, d4⟩, g0, g1, g2, g3, g4⟩ := facts5 HF.out.res
      have HW := Lib.hid (set5 (.int .i64 2) (.int .i64 1) (.string ⟨#[]⟩) (.slice none 0 0) (.int .i64 (posAt ws i en)) HF.out.res)
      go_wp2_with fail
      (try simp only [Exit.inBlock, Exit.then])
      refine bodyPost_ret (results_cell_row rfl _ _ b0 _ _ _ _ rfl HW.out Tryz.underlying186 rfl exInfo) rfl ?_
      exact FrP.ret (x := .mk 2 1 sNone [] (posAt ws i en)) (F := fun g => w.heap.size ≤ g ∧ g ≠ b0) HF.out (.nil _ _) (fun g h => h)
    | false =>
      simp only [Bool.false_eq_true, if_false] at HF
      have E4 := T4
      have Q4 : Hid (headQ ws i ≠ 4) := Lib.hid (fun e => by have h := hq_True Q1.out Q2.out Q3.out e; rw [E4.out] at h; cases h)
      clear T4
      go_wp2_with fail
      obtain ⟨t5, ht5⟩ : ∃ t, isAt ws i sFalse = t := ⟨_, rfl⟩
      have T5 := Lib.hid ht5; clear ht5
      refine (take_p sFalse (ne_of (by decide)) t5 HF.out.rd T5.out).mono ?_
      rintro e w2 ⟨rfl, hR, hg⟩
      replace HF := Lib.hid (HF.out.step hR hg)
      clear hR hg
      cases t5 with
      | true =>
        simp only [if_true] at HF
        have HQ := Lib.hid (head5 E1.out E2.out E3.out E4.out T5.out)
        have hx : r = .ex (.mk 2 0 sNone [] (posAt ws i en)) (i + 1) := by
          have h := HD.out
          cases h with
          | fls _ => rfl
          | _ => exfalso; have := HQ.out; omega
        subst hx
        obtain ⟨⟨c0, c1, c2, c3, c4⟩, f0, f1, f2, f3, f4⟩ := facts5 HF.out.ex
        go_upto_region 11 with (fail)
        clear c0 c1 c2 c3 c4 f0 f1 f2 f3 f4
        replace HF := Lib.hid (HF.out.s0 (.int .i64 2))
        generalize w2.setCell ⟨b1, 0, none⟩ _ = W3 at HF ⊢
        obtain ⟨⟨c0, c1, c2, c3, c4⟩, f0, f1, f2, f3, f4⟩ := facts5 HF.out.ex
        obtain ⟨⟨d0, d1, d2, d3, d4⟩, g0, g1, g2, g3, g4⟩ := facts5 HF.out.res
        have HW := Lib.hid (set5 (.int .i64 2) (.int .i64 0) (.string ⟨#[]⟩) (.slice none 0 0) (.int .i64 (posAt ws i en)) HF.out.res)
        go_wp2_with fail
        (try simp only [Exit.inBlock, Exit.then])
        refine bodyPost_ret (results_cell_row rfl _ _ b0 _ _ _ _ rfl HW.out Tryz.underlying186 rfl exInfo) rfl ?_
        exact FrP.ret (x := .mk 2 0 sNone [] (posAt ws i en)) (F := fun g => w.heap.size ≤ g ∧ g ≠ b0) HF.out (.nil _ _) (fun g h => h)
      | false =>
        simp only [Bool.false_eq_true, if_false] at HF
        have E5 := T5
        have Q5 : Hid (headQ ws i ≠ 5) := Lib.hid (fun e => by have h := hq_False Q1.out Q2.out Q3.out Q4.out e; rw [E5.out] at h; cases h)
        clear T5
        go_wp2_with fail
        obtain ⟨t6, ht6⟩ : ∃ t, isAt ws i sHost = t := ⟨_, rfl⟩
        have T6 := Lib.hid ht6; clear ht6
        refine (take_p sHost (ne_of (by decide)) t6 HF.out.rd T6.out).mono ?_
        rintro e w2 ⟨rfl, hR, hg⟩
        replace HF := Lib.hid (HF.out.step hR hg)
        clear hR hg
        cases t6 with
        | true =>
          simp only [if_true] at HF
          have HQ := Lib.hid (head6 E1.out E2.out E3.out E4.out E5.out T6.out)
          by_cases hk : kindAt ws (i + 1) = 1
          · have HK := Lib.hid hk; clear hk
            go_wp2_with fail
            refine (kind_p 1 (by decide) HF.out.rd HK.out).mono ?_
            rintro e w4 ⟨rfl, hR, hg⟩
            have HS := Lib.hid (num_size HN.out HK.out)
            replace HF := Lib.hid (HF.out.step hR hg)
            clear hR hg
            obtain ⟨s, hs⟩ : ∃ s, textAt ws (i + 1) = s := ⟨_, rfl⟩
            rw [hs] at HS; simp only [hs]; have HT := Lib.hid hs; clear hs
            go_wp2_with fail
            refine (number_c s HS.out w4 HF.out.gl).mono ?_
            rintro e w5 ⟨rfl, hb⟩
            replace HF := Lib.hid (HF.out.below hb)
            clear hb
            obtain ⟨⟨c0, c1, c2, c3, c4⟩, f0, f1, f2, f3, f4⟩ := facts5 HF.out.ex
            go_wp2_with fail
            clear c0 c1 c2 c3 c4 f0 f1 f2 f3 f4
            replace HF := Lib.hid ((HF.out.s0 (.int .i64 8)).s1 (.int .i64 (numV s)))
            generalize (w5.setCell ⟨b1, 0, none⟩ _).setCell ⟨b1, 1, none⟩ _ = W5 at HF ⊢
            by_cases ho : isAt ws (i + 2) sOpen = true
            · have HO := Lib.hid ho; clear ho
              refine (want_p sOpen (ne_of (by decide)) HF.out.rd HO.out).mono ?_
              rintro e w6 ⟨rfl, hR, hg⟩
              replace HF := Lib.hid (HF.out.step hR hg)
              clear hR hg
              cases r with
              | ex x j =>
                have hx : ∃ l, x = .mk 8 (numV s) sNone l (posAt ws i en) ∧ Dc ws en (.args 0 (i + 3)) (.exs l j) := by
                  have h := HD.out
                  cases h with
                  | host _ _ _ h => exact ⟨_, by rw [HT.out], h⟩
                  | _ => exfalso; have := HQ.out; omega
                obtain ⟨l, rfl, hy⟩ := hx
                have HY := Lib.hid hy; clear hy
                go_wp2_with fail
                refine (H2.out (i + 3) (by omega) _ HY.out w6 HF.out.rd HF.out.gl).mono ?_
                rintro e w7 ⟨A, c, rfl, hA, hR, hg⟩
                have HA := Lib.hid hA
                have hz2 := HF.out.z3; have hz0 := HF.out.gr.size; have hz1 := HF.out.z2; have hs := hg.size
                replace HF := Lib.hid (HF.out.step hR hg)
                clear hR hg hA
                obtain ⟨⟨c0, c1, c2, c3, c4⟩, f0, f1, f2, f3, f4⟩ := facts5 HF.out.ex
                go_upto_region 16 with (fail)
                clear c0 c1 c2 c3 c4 f0 f1 f2 f3 f4
                have HA7 : Hid (ArgsIn (w7.setCell ⟨b1, 3, none⟩ (.slice A l.length c)) (fun g => w.heap.size ≤ g ∧ g ≠ b0) (.slice A l.length c) l) := Lib.hid (ArgsIn.later HA.out (some b1) (grown_set _ _ _ _) (fun g (h : w6.heap.size ≤ g) => by simp; omega) (fun g (h : w6.heap.size ≤ g) => ⟨by omega, by omega⟩))
                replace HF := Lib.hid (HF.out.s3 (.slice A l.length c))
                clear HA
                generalize w7.setCell ⟨b1, 3, none⟩ _ = W8 at HF HA7 ⊢
                obtain ⟨⟨c0, c1, c2, c3, c4⟩, f0, f1, f2, f3, f4⟩ := facts5 HF.out.ex
                obtain ⟨⟨d0, d1, d2, d3, d4⟩, g0, g1, g2, g3, g4⟩ := facts5 HF.out.res
                have HW := Lib.hid (set5 (.int .i64 8) (.int .i64 (numV s)) (.string sNone) (.slice A l.length c) (.int .i64 (posAt ws i en)) HF.out.res)
                go_wp2_with fail
                (try simp only [Exit.inBlock, Exit.then])
                refine bodyPost_ret (results_cell_row rfl _ _ b0 _ _ _ _ rfl HW.out Tryz.underlying186 rfl exInfo) rfl ?_
                have HZ := Lib.hid (FrP.ret (x := .mk 8 (numV s) sNone l (posAt ws i en)) HF.out HA7.out (fun g h => h))
                simp only [Ex.kind, Ex.n, Ex.text, Ex.args, Ex.pos] at HZ
                exact HZ.out
              | bad j =>
                have hx : Dc ws en (.args 0 (i + 3)) (.bad j) := by
                  have h := HD.out
                  cases h with
                  | hostB _ _ _ h => exact h
                  | hostC _ _ h => rw [HO.out] at h; cases h
                  | hostD _ h => exact absurd HK.out h
                  | _ => exfalso; have := HQ.out; omega
                have HY := Lib.hid hx; clear hx
                go_wp2_with fail
                refine (H2.out (i + 3) (by omega) _ HY.out w6 HF.out.rd HF.out.gl).mono ?_
                rintro e w9 ⟨rfl, hg⟩
                have HGG := Lib.hid (grown_trans HF.out.gr hg); clear hg
                unfold badP
                go_wp2_with fail
                exact ⟨rfl, rfl, HGG.out⟩
              | exs l j => have h := HD.out; cases h
            · have HO := Lib.hid (Bool.eq_false_iff.2 ho); clear ho
              have hx : r = .bad (i + 2) := by
                have h := HD.out
                cases h with
                | hostC _ _ _ => rfl
                | host _ _ h _ => rw [HO.out] at h; cases h
                | hostB _ _ h _ => rw [HO.out] at h; cases h
                | hostD _ h => exact absurd HK.out h
                | _ => exfalso; have := HQ.out; omega
              subst hx
              refine (want_pb sOpen (ne_of (by decide)) HF.out.rd HO.out).mono ?_
              rintro e w9 ⟨rfl, hg⟩
              have HGG := Lib.hid (grown_trans HF.out.gr hg); clear hg
              unfold badP
              go_wp2_with fail
              exact ⟨rfl, rfl, HGG.out⟩
          · have HK := Lib.hid hk; clear hk
            have hx : r = .bad (i + 1) := by
              have h := HD.out
              cases h with
              | hostD _ _ => rfl
              | host _ h _ _ => exact absurd h HK.out
              | hostB _ h _ _ => exact absurd h HK.out
              | hostC _ h _ => exact absurd h HK.out
              | _ => exfalso; have := HQ.out; omega
            subst hx
            go_wp2_with fail
            refine (kind_pb 1 HF.out.rd HK.out).mono ?_
            rintro e w9 ⟨rfl, hg⟩
            have HGG := Lib.hid (grown_trans HF.out.gr hg); clear hg
            unfold badP
            go_wp2_with fail
            exact ⟨rfl, rfl, HGG.out⟩
        | false =>
          simp only [Bool.false_eq_true, if_false] at HF
          have E6 := T6
          have Q6 : Hid (headQ ws i ≠ 6) := Lib.hid (fun e => by have h := hq_Host Q1.out Q2.out Q3.out Q4.out Q5.out e; rw [E6.out] at h; cases h)
          clear T6
          go_wp2_with fail
          obtain ⟨A, cap, hv, hform⟩ := HF.out.rd.row.form
          have c0 := HF.out.rd.c0; have c1 := HF.out.rd.c1
          have hn := HF.out.rd.len; have hp := HF.out.rd.pos
          subst hv
          by_cases hlt : i < ws.length
          · obtain ⟨x, hx⟩ : ∃ x, ws[i]? = some x := ⟨_, List.getElem?_eq_getElem hlt⟩
            obtain ⟨g, rfl, hg, d0, d1, d2⟩ := hform i x hx
            have k0 : (0 : Int) ≤ (i : Int) := by omega
            have k1 : (i : Int) < (ws.length : Int) := by omega
            obtain ⟨t, ht⟩ : ∃ t, (((x.kind : Int)) == 1) = t := ⟨_, rfl⟩
            have HX : Hid (kindAt ws i = x.kind) := Lib.hid (by unfold kindAt; rw [hx])
            clear hx hform d1 d2
            cases t with
            | true =>
              have HKK : Hid (kindAt ws i = 1) := Lib.hid (by rw [HX.out]; have := beq_iff_eq.1 ht; omega)
              go_quiet (fail)
              replace HF := Lib.hid (HF.out.below (below_drewN (Below.refl _ _) nq))
              clear c0 c1 d0 hg
              have HQ := Lib.hid ((hq_tail Q1.out Q2.out Q3.out Q4.out Q5.out Q6.out).trans (if_pos HKK.out))
              obtain ⟨s, hs⟩ : ∃ s, textAt ws i = s := ⟨_, rfl⟩
              have HT := Lib.hid hs; clear hs
              have hx : r = .ex (.mk 1 (numV s) sNone [] (posAt ws i en)) (i + 1) := by
                have h := HD.out
                cases h with
                | num _ => rw [HT.out]
                | _ => exfalso; have := HQ.out; omega
              subst hx
              go_wp2_with fail
              refine (kind_p 1 (by decide) HF.out.rd HKK.out).mono ?_
              rintro e w4 ⟨rfl, hR, hg⟩
              have HS := Lib.hid (num_size HN.out HKK.out)
              replace HF := Lib.hid (HF.out.step hR hg)
              clear hR hg
              rw [HT.out] at HS; simp only [HT.out]
              go_wp2_with fail
              refine (number_c s HS.out w4 HF.out.gl).mono ?_
              rintro e w5 ⟨rfl, hb⟩
              replace HF := Lib.hid (HF.out.below hb)
              clear hb
              obtain ⟨⟨c0, c1, c2, c3, c4⟩, f0, f1, f2, f3, f4⟩ := facts5 HF.out.ex
              go_upto_region 19 with (fail)
              clear c0 c1 c2 c3 c4 f0 f1 f2 f3 f4
              replace HF := Lib.hid ((HF.out.s0 (.int .i64 1)).s1 (.int .i64 (numV s)))
              generalize (w5.setCell ⟨b1, 0, none⟩ _).setCell ⟨b1, 1, none⟩ _ = W5 at HF ⊢
              obtain ⟨⟨c0, c1, c2, c3, c4⟩, f0, f1, f2, f3, f4⟩ := facts5 HF.out.ex
              obtain ⟨⟨d0, d1, d2, d3, d4⟩, g0, g1, g2, g3, g4⟩ := facts5 HF.out.res
              have HW := Lib.hid (set5 (.int .i64 1) (.int .i64 (numV s)) (.string ⟨#[]⟩) (.slice none 0 0) (.int .i64 (posAt ws i en)) HF.out.res)
              go_wp2_with fail
              (try simp only [Exit.inBlock, Exit.then])
              refine bodyPost_ret (results_cell_row rfl _ _ b0 _ _ _ _ rfl HW.out Tryz.underlying186 rfl exInfo) rfl ?_
              exact FrP.ret (x := .mk 1 (numV s) sNone [] (posAt ws i en)) (F := fun g => w.heap.size ≤ g ∧ g ≠ b0) HF.out (.nil _ _) (fun g h => h)
            | false =>
              have HKN : Hid (kindAt ws i ≠ 1) := Lib.hid (by rw [HX.out]; have := beq_eq_false_iff_ne.1 ht; omega)
              go_quiet (fail)
              replace HF := Lib.hid (HF.out.below (below_drewN (Below.refl _ _) nq))
              clear c0 c1 d0 hg
              have hqt := (hq_tail Q1.out Q2.out Q3.out Q4.out Q5.out Q6.out).trans (if_neg HKN.out)
              by_cases hk : kindAt ws i = 2
              · have HQ := Lib.hid (hqt.trans (if_pos hk))
                have HK := Lib.hid hk; clear hk hqt
                go_wp2_with fail
                refine (kind_p 2 (by decide) HF.out.rd HK.out).mono ?_
                rintro e w4 ⟨rfl, hR, hg⟩
                replace HF := Lib.hid (HF.out.step hR hg)
                clear hR hg
                obtain ⟨s, hs⟩ : ∃ s, textAt ws i = s := ⟨_, rfl⟩
                simp only [hs]; have HT := Lib.hid hs; clear hs
                obtain ⟨⟨c0, c1, c2, c3, c4⟩, f0, f1, f2, f3, f4⟩ := facts5 HF.out.ex
                go_wp2_with fail
                clear c0 c1 c2 c3 c4 f0 f1 f2 f3 f4
                replace HF := Lib.hid ((HF.out.s0 (.int .i64 3)).s2 (.string s))
                generalize ((w4.setCell ⟨b1, 0, none⟩ _).setCell ⟨b1, 2, none⟩ _) = W5 at HF ⊢
                obtain ⟨t7, ht7⟩ : ∃ t, isAt ws (i + 1) sOpen = t := ⟨_, rfl⟩
                have T7 := Lib.hid ht7; clear ht7
                refine (take_p sOpen (ne_of (by decide)) t7 HF.out.rd T7.out).mono ?_
                rintro e w6 ⟨rfl, hR, hg⟩
                replace HF := Lib.hid (HF.out.step hR hg)
                clear hR hg
                cases t7 with
                | true =>
                  simp only [if_true] at HF
                  cases r with
                  | ex x j =>
                    have hx : ∃ l, x = .mk 7 0 s l (posAt ws i en) ∧ Dc ws en (.args 0 (i + 2)) (.exs l j) := by
                      have h := HD.out
                      cases h with
                      | call _ _ h => exact ⟨_, by rw [HT.out], h⟩
                      | var _ h => rw [T7.out] at h; cases h
                      | _ => exfalso; have := HQ.out; omega
                    obtain ⟨l, rfl, hy⟩ := hx
                    have HY := Lib.hid hy; clear hy
                    go_wp2_with fail
                    refine (H2.out (i + 2) (by omega) _ HY.out w6 HF.out.rd HF.out.gl).mono ?_
                    rintro e w7 ⟨A, c, rfl, hA, hR, hg⟩
                    have HA := Lib.hid hA
                    have hz2 := HF.out.z3; have hz0 := HF.out.gr.size; have hz1 := HF.out.z2; have hs := hg.size
                    replace HF := Lib.hid (HF.out.step hR hg)
                    clear hR hg hA
                    obtain ⟨⟨c0, c1, c2, c3, c4⟩, f0, f1, f2, f3, f4⟩ := facts5 HF.out.ex
                    go_upto_region 23 with (fail)
                    clear c0 c1 c2 c3 c4 f0 f1 f2 f3 f4
                    have HA7 : Hid (ArgsIn ((w7.setCell ⟨b1, 0, none⟩ (.int .i64 7)).setCell ⟨b1, 3, none⟩ (.slice A l.length c)) (fun g => w.heap.size ≤ g ∧ g ≠ b0) (.slice A l.length c) l) := Lib.hid (ArgsIn.later HA.out (some b1) (grown_trans (grown_set _ _ _ _) (grown_set _ _ _ _)) (fun g (h : w6.heap.size ≤ g) => by simp; omega) (fun g (h : w6.heap.size ≤ g) => ⟨by omega, by omega⟩))
                    replace HF := Lib.hid ((HF.out.s0 (.int .i64 7)).s3 (.slice A l.length c))
                    clear HA
                    generalize (w7.setCell ⟨b1, 0, none⟩ _).setCell ⟨b1, 3, none⟩ _ = W8 at HF HA7 ⊢
                    obtain ⟨⟨c0, c1, c2, c3, c4⟩, f0, f1, f2, f3, f4⟩ := facts5 HF.out.ex
                    obtain ⟨⟨d0, d1, d2, d3, d4⟩, g0, g1, g2, g3, g4⟩ := facts5 HF.out.res
                    have HW := Lib.hid (set5 (.int .i64 7) (.int .i64 0) (.string s) (.slice A l.length c) (.int .i64 (posAt ws i en)) HF.out.res)
                    go_wp2_with fail
                    (try simp only [Exit.inBlock, Exit.then])
                    refine bodyPost_ret (results_cell_row rfl _ _ b0 _ _ _ _ rfl HW.out Tryz.underlying186 rfl exInfo) rfl ?_
                    have HZ := Lib.hid (FrP.ret (x := .mk 7 (0) s l (posAt ws i en)) HF.out HA7.out (fun g h => h))
                    simp only [Ex.kind, Ex.n, Ex.text, Ex.args, Ex.pos] at HZ
                    exact HZ.out
                  | bad j =>
                    have hx : Dc ws en (.args 0 (i + 2)) (.bad j) := by
                      have h := HD.out
                      cases h with
                      | callB _ _ h => exact h
                      | _ => exfalso; have := HQ.out; omega
                    have HY := Lib.hid hx; clear hx
                    go_wp2_with fail
                    refine (H2.out (i + 2) (by omega) _ HY.out w6 HF.out.rd HF.out.gl).mono ?_
                    rintro e w9 ⟨rfl, hg⟩
                    have HGG := Lib.hid (grown_trans HF.out.gr hg); clear hg
                    unfold badP
                    go_wp2_with fail
                    exact ⟨rfl, rfl, HGG.out⟩
                  | exs l j => have h := HD.out; cases h
                | false =>
                  simp only [Bool.false_eq_true, if_false] at HF
                  have hx : r = .ex (.mk 3 0 s [] (posAt ws i en)) (i + 1) := by
                    have h := HD.out
                    cases h with
                    | var _ _ => rw [HT.out]
                    | call _ h _ => rw [T7.out] at h; cases h
                    | callB _ h _ => rw [T7.out] at h; cases h
                    | _ => exfalso; have := HQ.out; omega
                  subst hx
                  obtain ⟨⟨c0, c1, c2, c3, c4⟩, f0, f1, f2, f3, f4⟩ := facts5 HF.out.ex
                  obtain ⟨⟨d0, d1, d2, d3, d4⟩, g0, g1, g2, g3, g4⟩ := facts5 HF.out.res
                  have HW := Lib.hid (set5 (.int .i64 3) (.int .i64 0) (.string s) (.slice none 0 0) (.int .i64 (posAt ws i en)) HF.out.res)
                  go_wp2_with fail
                  (try simp only [Exit.inBlock, Exit.then])
                  refine bodyPost_ret (results_cell_row rfl _ _ b0 _ _ _ _ rfl HW.out Tryz.underlying186 rfl exInfo) rfl ?_
                  exact FrP.ret (x := .mk 3 0 s [] (posAt ws i en)) (F := fun g => w.heap.size ≤ g ∧ g ≠ b0) HF.out (.nil _ _) (fun g h => h)
              · have HQ := Lib.hid (hqt.trans (if_neg hk))
                have HK := Lib.hid hk; clear hk hqt
                have hx : r = .bad i := by
                  have h := HD.out
                  cases h with
                  | nobody _ => rfl
                  | _ => exfalso; have := HQ.out; omega
                subst hx
                go_wp2_with fail
                refine (kind_pb 2 HF.out.rd HK.out).mono ?_
                rintro e w9 ⟨rfl, hg⟩
                have HGG := Lib.hid (grown_trans HF.out.gr hg); clear hg
                unfold badP
                go_wp2_with fail
                exact ⟨rfl, rfl, HGG.out⟩
          · have hi : i = ws.length := by omega
            have HKN : Hid (kindAt ws i ≠ 1) := Lib.hid (by unfold kindAt; rw [List.getElem?_eq_none (by omega)]; decide)
            clear hform
            go_quiet (fail)
            replace HF := Lib.hid (HF.out.below (below_drewN (Below.refl _ _) nq))
            clear c0 c1 hi
            have hqt := (hq_tail Q1.out Q2.out Q3.out Q4.out Q5.out Q6.out).trans (if_neg HKN.out)
            by_cases hk : kindAt ws i = 2
            · have HQ := Lib.hid (hqt.trans (if_pos hk))
              have HK := Lib.hid hk; clear hk hqt
              go_wp2_with fail
              refine (kind_p 2 (by decide) HF.out.rd HK.out).mono ?_
              rintro e w4 ⟨rfl, hR, hg⟩
              replace HF := Lib.hid (HF.out.step hR hg)
              clear hR hg
              obtain ⟨s, hs⟩ : ∃ s, textAt ws i = s := ⟨_, rfl⟩
              simp only [hs]; have HT := Lib.hid hs; clear hs
              obtain ⟨⟨c0, c1, c2, c3, c4⟩, f0, f1, f2, f3, f4⟩ := facts5 HF.out.ex
              go_wp2_with fail
              clear c0 c1 c2 c3 c4 f0 f1 f2 f3 f4
              replace HF := Lib.hid ((HF.out.s0 (.int .i64 3)).s2 (.string s))
              generalize ((w4.setCell ⟨b1, 0, none⟩ _).setCell ⟨b1, 2, none⟩ _) = W5 at HF ⊢
              obtain ⟨t7, ht7⟩ : ∃ t, isAt ws (i + 1) sOpen = t := ⟨_, rfl⟩
              have T7 := Lib.hid ht7; clear ht7
              refine (take_p sOpen (ne_of (by decide)) t7 HF.out.rd T7.out).mono ?_
              rintro e w6 ⟨rfl, hR, hg⟩
              replace HF := Lib.hid (HF.out.step hR hg)
              clear hR hg
              cases t7 with
              | true =>
                simp only [if_true] at HF
                cases r with
                | ex x j =>
                  have hx : ∃ l, x = .mk 7 0 s l (posAt ws i en) ∧ Dc ws en (.args 0 (i + 2)) (.exs l j) := by
                    have h := HD.out
                    cases h with
                    | call _ _ h => exact ⟨_, by rw [HT.out], h⟩
                    | var _ h => rw [T7.out] at h; cases h
                    | _ => exfalso; have := HQ.out; omega
                  obtain ⟨l, rfl, hy⟩ := hx
                  have HY := Lib.hid hy; clear hy
                  go_wp2_with fail
                  refine (H2.out (i + 2) (by omega) _ HY.out w6 HF.out.rd HF.out.gl).mono ?_
                  rintro e w7 ⟨A, c, rfl, hA, hR, hg⟩
                  have HA := Lib.hid hA
                  have hz2 := HF.out.z3; have hz0 := HF.out.gr.size; have hz1 := HF.out.z2; have hs := hg.size
                  replace HF := Lib.hid (HF.out.step hR hg)
                  clear hR hg hA
                  obtain ⟨⟨c0, c1, c2, c3, c4⟩, f0, f1, f2, f3, f4⟩ := facts5 HF.out.ex
                  go_upto_region 23 with (fail)
                  clear c0 c1 c2 c3 c4 f0 f1 f2 f3 f4
                  have HA7 : Hid (ArgsIn ((w7.setCell ⟨b1, 0, none⟩ (.int .i64 7)).setCell ⟨b1, 3, none⟩ (.slice A l.length c)) (fun g => w.heap.size ≤ g ∧ g ≠ b0) (.slice A l.length c) l) := Lib.hid (ArgsIn.later HA.out (some b1) (grown_trans (grown_set _ _ _ _) (grown_set _ _ _ _)) (fun g (h : w6.heap.size ≤ g) => by simp; omega) (fun g (h : w6.heap.size ≤ g) => ⟨by omega, by omega⟩))
                  replace HF := Lib.hid ((HF.out.s0 (.int .i64 7)).s3 (.slice A l.length c))
                  clear HA
                  generalize (w7.setCell ⟨b1, 0, none⟩ _).setCell ⟨b1, 3, none⟩ _ = W8 at HF HA7 ⊢
                  obtain ⟨⟨c0, c1, c2, c3, c4⟩, f0, f1, f2, f3, f4⟩ := facts5 HF.out.ex
                  obtain ⟨⟨d0, d1, d2, d3, d4⟩, g0, g1, g2, g3, g4⟩ := facts5 HF.out.res
                  have HW := Lib.hid (set5 (.int .i64 7) (.int .i64 0) (.string s) (.slice A l.length c) (.int .i64 (posAt ws i en)) HF.out.res)
                  go_wp2_with fail
                  (try simp only [Exit.inBlock, Exit.then])
                  refine bodyPost_ret (results_cell_row rfl _ _ b0 _ _ _ _ rfl HW.out Tryz.underlying186 rfl exInfo) rfl ?_
                  have HZ := Lib.hid (FrP.ret (x := .mk 7 (0) s l (posAt ws i en)) HF.out HA7.out (fun g h => h))
                  simp only [Ex.kind, Ex.n, Ex.text, Ex.args, Ex.pos] at HZ
                  exact HZ.out
                | bad j =>
                  have hx : Dc ws en (.args 0 (i + 2)) (.bad j) := by
                    have h := HD.out
                    cases h with
                    | callB _ _ h => exact h
                    | _ => exfalso; have := HQ.out; omega
                  have HY := Lib.hid hx; clear hx
                  go_wp2_with fail
                  refine (H2.out (i + 2) (by omega) _ HY.out w6 HF.out.rd HF.out.gl).mono ?_
                  rintro e w9 ⟨rfl, hg⟩
                  have HGG := Lib.hid (grown_trans HF.out.gr hg); clear hg
                  unfold badP
                  go_wp2_with fail
                  exact ⟨rfl, rfl, HGG.out⟩
                | exs l j => have h := HD.out; cases h
              | false =>
                simp only [Bool.false_eq_true, if_false] at HF
                have hx : r = .ex (.mk 3 0 s [] (posAt ws i en)) (i + 1) := by
                  have h := HD.out
                  cases h with
                  | var _ _ => rw [HT.out]
                  | call _ h _ => rw [T7.out] at h; cases h
                  | callB _ h _ => rw [T7.out] at h; cases h
                  | _ => exfalso; have := HQ.out; omega
                subst hx
                obtain ⟨⟨c0, c1, c2, c3, c4⟩, f0, f1, f2, f3, f4⟩ := facts5 HF.out.ex
                obtain ⟨⟨d0, d1, d2, d3, d4⟩, g0, g1, g2, g3, g4⟩ := facts5 HF.out.res
                have HW := Lib.hid (set5 (.int .i64 3) (.int .i64 0) (.string s) (.slice none 0 0) (.int .i64 (posAt ws i en)) HF.out.res)
                go_wp2_with fail
                (try simp only [Exit.inBlock, Exit.then])
                refine bodyPost_ret (results_cell_row rfl _ _ b0 _ _ _ _ rfl HW.out Tryz.underlying186 rfl exInfo) rfl ?_
                exact FrP.ret (x := .mk 3 0 s [] (posAt ws i en)) (F := fun g => w.heap.size ≤ g ∧ g ≠ b0) HF.out (.nil _ _) (fun g h => h)
            · have HQ := Lib.hid (hqt.trans (if_neg hk))
              have HK := Lib.hid hk; clear hk hqt
              have hx : r = .bad i := by
                have h := HD.out
                cases h with
                | nobody _ => rfl
                | _ => exfalso; have := HQ.out; omega
              subst hx
              go_wp2_with fail
              refine (kind_pb 2 HF.out.rd HK.out).mono ?_
              rintro e w9 ⟨rfl, hg⟩
              have HGG := Lib.hid (grown_trans HF.out.gr hg); clear hg
              unfold badP
              go_wp2_with fail
              exact ⟨rfl, rfl, HGG.out⟩
end Go.Proofs.YtmngofgminlloaaGreatDoor

namespace Go.Proofs.YtmngofgminlloaaGreatDoor
open Go.RowKit Tw

def dcOn : Qe → Re → Prop
  | .lvl _ i, .ex _ j => i < j
  | .one i, .ex _ j => i < j
  | .rest _ _ i, .ex _ j => i ≤ j
  | .args _ i, .exs _ j => i < j
  | _, _ => True
theorem Dc.on {ws : List Wd} {en : Nat} {q : Qe} {r : Re} (h : Dc ws en q r) : dcOn q r := by
  induction h
  case ex m i j a r _ _ ih1 ih2 => cases r <;> simp only [dcOn] at * <;> omega
  case go m j j' a b r _ _ _ _ ih1 ih2 => cases r <;> simp only [dcOn] at * <;> omega
  all_goals (simp only [dcOn] at *; try omega)

def joinR (l : List Ex) : Re → Re
  | .exs m j => .exs (l ++ m) j
  | r => r
theorem joinR_cons {l m : List Ex} {x : Ex} {j : Nat} : joinR l (.exs (x :: m) j) = joinR (l ++ [x]) (.exs m j) := by simp [joinR]
/-- One argument more, or a failure. -/
theorem args_split {ws : List Wd} {en k i : Nat} {r : Re} (h : Dc ws en (.args k i) r) (hc : isAt ws i sClose = false) :
    (k ≠ 0 ∧ isAt ws i sComma = false ∧ r = .bad i) ∨
    ∃ i2, ((k = 0 ∧ i2 = i) ∨ (k ≠ 0 ∧ isAt ws i sComma = true ∧ i2 = i + 1)) ∧
      ((∃ j, Dc ws en (.lvl 0 i2) (.bad j) ∧ r = .bad j) ∨ ∃ x j r2, Dc ws en (.lvl 0 i2) (.ex x j) ∧ Dc ws en (.args (k + 1) j) r2 ∧ ∀ l, joinR l r = joinR (l ++ [x]) r2) := by
  cases h with
  | close h => rw [hc] at h; cases h
  | first _ h1 h2 => exact .inr ⟨i, .inl ⟨rfl, rfl⟩, .inr ⟨_, _, _, h1, h2, fun l => joinR_cons⟩⟩
  | firstR _ h1 h2 => exact .inr ⟨i, .inl ⟨rfl, rfl⟩, .inr ⟨_, _, _, h1, h2, fun l => rfl⟩⟩
  | firstB _ h1 => exact .inr ⟨i, .inl ⟨rfl, rfl⟩, .inl ⟨_, h1, rfl⟩⟩
  | next _ ha h1 h2 => exact .inr ⟨i + 1, .inr ⟨by omega, ha, rfl⟩, .inr ⟨_, _, _, h1, h2, fun l => joinR_cons⟩⟩
  | nextR _ ha h1 h2 => exact .inr ⟨i + 1, .inr ⟨by omega, ha, rfl⟩, .inr ⟨_, _, _, h1, h2, fun l => rfl⟩⟩
  | nextB _ ha h1 => exact .inr ⟨i + 1, .inr ⟨by omega, ha, rfl⟩, .inl ⟨_, h1, rfl⟩⟩
  | nextC _ ha => exact .inl ⟨by omega, ha, rfl⟩
theorem args_close {ws : List Wd} {en k i : Nat} {r : Re} (h : Dc ws en (.args k i) r) (hc : isAt ws i sClose = true) : r = .exs [] (i + 1) := by
  cases h with
  | close h => rfl
  | first h => rw [hc] at h; cases h
  | firstR h => rw [hc] at h; cases h
  | firstB h => rw [hc] at h; cases h
  | next h => rw [hc] at h; cases h
  | nextR h => rw [hc] at h; cases h
  | nextB h => rw [hc] at h; cases h
  | nextC h => rw [hc] at h; cases h
theorem Rq.place {w : World} {rb : Nat} {v : Value} {ws : List Wd} {i en : Nat} (h : Rq w rb v ws i en) : placeOf w rb = i := by
  unfold placeOf; rw [h.c1]; simp [intOf]
theorem rq_app {w w' : World} {rb : Nat} {v : Value} {ws : List Wd} {i en : Nat} {row : Option Nat} (h : Rq w rb v ws i en) (hg : w.grownBy w' row) (hk : ∀ k, row = some k → rb < k) : Rq w' rb v ws i en :=
  ⟨(hg.block rb h.lt (fun e => by have := hk rb e.symm; omega)).trans h.blk, h.row.same fun j hj => hg.block j (Nat.lt_trans hj h.lt) (fun e => by have := hk j e.symm; omega), h.len, h.pos⟩

set_option maxRecDepth 100000 in
set_option maxHeartbeats 8000000 in
theorem args_p (rb : Nat) (v : Value) (ws : List Wd) (en i : Nat) (hr : 10 < rb) (h1 : ∀ j, i ≤ j → ExprC rb v ws en 0 j) : ArgsP rb v ws en i := by
  intro r hd w h hG
  have H1 := Lib.hid h1; have HR := Lib.hid h; have HG := Lib.hid hG; have HD := Lib.hid hd
  have hrl := h.lt
  clear h1 h hG hd
  go_enter Tryz.func248, Tryz.ntmps248
  go_wp2_with fail
  go_loopw [3] (fun o wr => ∃ (l : List (Ex × Value)) (A : Option Addr) (c i' : Nat) (r' : Re), o = .slice A l.length c ∧ Hid (GRow exElem wr w.heap.size 186 5 (.slice A l.length c) l) ∧ Hid (Rq wr rb v ws i' en) ∧ Hid (i ≤ i' ∧ l.length ≤ i' ∧ Dc ws en (.args l.length i') r' ∧ r = joinR (l.map (·.1)) r') ∧ Hid (w.grownBy wr (some rb)))
    (fun _ wr => ws.length - placeOf wr rb)
  case atStart => exact ⟨[], none, 0, i, r, rfl, Lib.hid (GRow.nil _ _ _ _ _), HR, Lib.hid ⟨Nat.le_refl _, by simp, HD.out, by cases r <;> simp [joinR]⟩, Lib.hid (grown_of_below (Below.refl _ _) _)⟩
  case round =>
    obtain ⟨l, A, c, i', r', rfl, HW, HR', HI, Hgr⟩ := hrel
    clear HR HD
    obtain ⟨t, ht⟩ : ∃ t, isAt ws i' sClose = t := ⟨_, rfl⟩
    have T := Lib.hid ht; clear ht
    go_wp2_with fail
    refine (take_p sClose (ne_of (by decide)) t HR'.out T.out).mono ?_
    rintro e w1 ⟨rfl, hR, hg⟩
    have hsz := Hgr.out.size
    have HW1 := Lib.hid (HW.out.kept hg (fun k e => .inl (by cases e; exact hrl)))
    have HR1 := Lib.hid hR
    have Hg1 := Lib.hid (grown_trans Hgr.out hg)
    clear hR hg HW Hgr
    cases t with
    | true =>
      obtain ⟨_, _, hd, he⟩ := HI.out
      have hq := args_close hd T.out
      subst hq; subst he
      go_wp2_with fail
      go_ret
      refine ⟨A, c, ?_, ?_, by simpa using HR1.out, Hg1.out⟩
      · simp
      · have := HW1.out.args; simpa using this
    | false =>
      simp only [Bool.false_eq_true, if_false] at HR1
      have HS := Lib.hid (args_split HI.out.2.2.1 T.out)
      have hn : l.length ≤ 4000 := by
        have := HI.out.2.1; have := HR'.out.pos; have := HR'.out.len; omega
      have hii := HI.out.1
      by_cases hbad : l.length ≠ 0 ∧ isAt ws i' sComma = false ∧ r' = .bad i'
      · obtain ⟨e0, ha, rfl⟩ := hbad
        have HA := Lib.hid ha; clear ha
        have e1 : 0 < l.length := by omega
        obtain rfl : r = .bad i' := HI.out.2.2.2
        go_wp2_with fail
        refine (want_pb sComma (ne_of (by decide)) HR1.out HA.out).mono ?_
        rintro e w2 ⟨rfl, hg⟩
        have HGG := Lib.hid (grown_trans Hg1.out hg); clear hg
        unfold badP
        go_wp2_with fail
        exact ⟨rfl, rfl, HGG.out⟩
      · have HS2 := Lib.hid (HS.out.resolve_left hbad)
        clear hbad HS
        obtain ⟨i2, hC, hX⟩ := HS2.out
        have HC := Lib.hid hC; have HX := Lib.hid hX; clear hC hX HS2
        go_upto_if 9 with (fail)
        go_cut [] (fun W => Hid (Rq W rb v ws i2 en) ∧ Hid (w1.grownBy W (some rb)))
        case first =>
          by_cases hl : l.length = 0
          · have HL := Lib.hid hl; clear hl
            obtain rfl : i2 = i' := by rcases HC.out with h | h; exact h.2; exact absurd HL.out h.1
            go_wp2_with fail
            · exfalso; have := HL.out; omega
            go_meet
            case rel => exact ⟨HR1, Lib.hid (grown_of_below (Below.refl _ _) _)⟩
          · have e0 : 0 < l.length := by omega
            have ha : isAt ws i' sComma = true ∧ i2 = i' + 1 := by rcases HC.out with h | h; exact absurd h.1 hl; exact h.2
            obtain ⟨ha, rfl⟩ := ha
            have HA := Lib.hid ha; clear ha
            have HL := Lib.hid hl; clear hl
            go_wp2_with fail
            refine (want_p sComma (ne_of (by decide)) HR1.out HA.out).mono ?_
            rintro e w2 ⟨rfl, hR, hg⟩
            have HR2 := Lib.hid hR; have HG2 := Lib.hid hg
            clear hR hg
            go_wp2_with fail
            go_meet
            case rel => exact ⟨HR2, HG2⟩
        case rest =>
          obtain ⟨HR2, HG2⟩ := hcut
          have hi2 : i' ≤ i2 := by rcases HC.out with h | h <;> omega
          have HW2 := Lib.hid (HW1.out.kept HG2.out (fun k e => .inl (by cases e; exact hrl)))
          have Hg2 := Lib.hid (grown_trans Hg1.out HG2.out)
          rcases HX.out with ⟨j, hy, hb⟩ | ⟨x, j, r2, hy, hm, hj⟩
          · have HY := Lib.hid hy; clear hy
            subst hb
            obtain rfl : r = .bad j := HI.out.2.2.2
            go_wp2_with fail
            refine (H1.out i2 (by omega) _ HY.out wc HR2.out (HG.out.of Hg2.out hr)).mono ?_
            rintro e w3 ⟨rfl, hg⟩
            have HGG := Lib.hid (grown_trans Hg2.out hg); clear hg
            unfold badP
            go_wp2_with fail
            exact ⟨rfl, rfl, HGG.out⟩
          · have HY := Lib.hid hy; have HM := Lib.hid hm; have HJ := Lib.hid hj; clear hy hm hj
            have hon : i2 < j := HY.out.on
            go_wp2_with fail
            refine (H1.out i2 (by omega) _ HY.out wc HR2.out (HG.out.of Hg2.out hr)).mono ?_
            rintro e w3 ⟨A3, c3, rfl, hA, hR, hg⟩
            have hsz2 := Hg2.out.size
            have HA3 := Lib.hid hA; have HR3 := Lib.hid hR
            have HW3 := Lib.hid (HW2.out.kept hg (fun k e => .inl (by cases e; exact hrl)))
            have Hg3 := Lib.hid (grown_trans Hg2.out hg)
            have hlt := HW2.out.1.lt
            have hsz3 := hg.size
            clear hA hR hg
            go_wp2_with ((at_builtin; go_must (refine wpList_app1 elemEx rfl _ _ rfl w.heap.size _ l.length (l.flatMap exElem.cells) rfl (HW3.out.1.alloc _) w3.heap.size 1 #[.int .i64 x.kind, .int .i64 x.n, .string x.text, .slice A3 x.args.length c3, .int .i64 x.pos] rfl (heap_alloc_new w3 _) rfl (by simp [Value.oneCell']) (by omega) (by simp; omega) ?_); intro g4 cap4 w4 hown4 hgrow4 hat4 hlt4))
            have hg4 : (w3.alloc (.cells #[.int .i64 x.kind, .int .i64 x.n, .string x.text, .slice A3 x.args.length c3, .int .i64 x.pos] 186)).grownBy w4 (Value.slice A l.length c).ownBlock := hgrow4
            have ha4 : (Value.slice A l.length c).ownBlock = some g4 ∨ g4 = (w3.alloc (.cells #[.int .i64 x.kind, .int .i64 x.n, .string x.text, .slice A3 x.args.length c3, .int .i64 x.pos] 186)).heap.size := hat4
            have hk4 : exElem.kid (w3.alloc (.cells #[.int .i64 x.kind, .int .i64 x.n, .string x.text, .slice A3 x.args.length c3, .int .i64 x.pos] 186)) (fun g => wc.heap.size ≤ g) (x, .slice A3 x.args.length c3) := HA3.out.keep fun g h1 h2 => ⟨h1, by simp; omega, heap_alloc_old w3 _ h2⟩
            have HW4 := Lib.hid (GRow.app (HW3.out.below ((Below.refl _ _).alloc (Nat.le_refl _) _)) hk4
              (fun g hg => ⟨by omega, fun e => by have := (hlt g e).2; omega⟩) hown4 hg4 ha4)
            have hrow : ∀ k, (Value.slice A l.length c).ownBlock = some k → w.heap.size ≤ k := fun k e => (hlt k e).1
            have HR4 := Lib.hid (rq_app (HR3.out.keep ((Below.refl _ _).alloc (Nat.le_refl _) _)) hg4 (fun k e => by have := hrow k e; omega))
            have Hg4 := Lib.hid (grown_app (grown_trans Hg3.out (grown_of_below ((Below.refl _ _).alloc (Nat.le_refl _) _) _)) hg4 hrow)
            clear hgrow4 hat4 hown4 hg4 ha4 hk4
            go_roundw
            case rel => exact ⟨l ++ [(x, .slice A3 x.args.length c3)], some ⟨g4, 0, none⟩, cap4, j, r2, by simp, by simpa using HW4, HR4, Lib.hid ⟨by omega, by have := HI.out.2.1; simp; omega, by simpa using HM.out, by rw [HI.out.2.2.2, HJ.out]; simp⟩, Hg4⟩
            case measure => rw [HR4.out.place, HR'.out.place]; have := HR4.out.pos; omega
end Go.Proofs.YtmngofgminlloaaGreatDoor
