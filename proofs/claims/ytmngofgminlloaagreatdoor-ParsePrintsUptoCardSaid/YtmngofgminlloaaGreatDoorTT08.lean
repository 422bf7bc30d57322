/-
  The reference's one(), of whatever its callees answer by contract.
  The reference's args(), of whatever its callee answers by contract.
  The reference's signs(n): the operators of a level; and slices.Contains of them.
  What level(n) has read, by the ways through it, in plain Lean; a row of two expressions.
  The reference's level(6), of whatever its callee answers by contract.
-/
import Derived.Test.YtmngofgminlloaaGreatDoorTT07
import Derived.Outline
import Derived.Deep.DeepCutAuto
import Derived.Test.YtmngofgminlloaaGreatDoorTT05
import Derived.Lib.Fields
set_option linter.all false
namespace Go.Proofs.YtmngofgminlloaaGreatDoor
open Go.RowKit Tw

set_option maxRecDepth 100000 in
set_option maxHeartbeats 8000000 in
theorem one_c (rb : Nat) (v : Value) (ws : List Wd) (en i : Nat) (hN : NumsOk ws) (hr : 10 < rb) (h1 : OneC rb v ws en (i + 1)) (h2 : LvlC rb v ws en 1 (i + 1)) (h3 : ∀ j, i < j → ArgsC rb v ws en j) : OneC rb v ws en i := by
  intro w b h hG
  have H1 := Lib.hid h1; have H2 := Lib.hid h2; have H3 := Lib.hid h3; have HR := Lib.hid h; have HG := Lib.hid hG; have HN := Lib.hid hN
  have hrl := h.lt
  clear h1 h2 h3 h hG hN
  go_enter Tryz.func203, Tryz.ntmps203
  go_wp2_with fail
  refine (at_r (HR.out.keep ((Below.refl _ _).alloc (Nat.le_refl _) _))).mono ?_
  rintro e w1 ⟨rfl, hb⟩
  have hb0 : Below w.heap.size w w1 := ((Below.refl _ _).alloc (Nat.le_refl _) _).trans (hb.mono (by simp))
  have HF : Hid (Fr2 w _ rb w.heap.size w1.heap.size v ws i en b (.int .i64 0) (.int .i64 0) (.string ⟨#[]⟩) (.slice none 0 0) (.int .i64 (posAt ws i en))) :=
    Lib.hid (Fr2.start (HR.out.keep hb0) (HG.out.to hb0) hr (grown_of_below hb0 _) hrl (Nat.le_refl _) (by have := hb.size; simp at this; omega) ((hb.block _ (by simp)).trans (heap_alloc_new w _)) _ _ _ _ _)
  clear hb hb0
  go_upto_block 0 with (fail)
  generalize w1.alloc _ = W1 at HF ⊢
  generalize w1.heap.size = b1 at HF ⊢
  obtain ⟨b0, hb0⟩ : ∃ b0, w.heap.size = b0 := ⟨_, rfl⟩
  rw [hb0] at HF
  simp only [hb0]
  have HB0 := Lib.hid hb0; clear hb0
  go_cut [] (fun W => ∃ (x : Ex) (A : Option Addr) (c i' : Nat) (b' : Bool), Hid (Fr2 w W rb b0 b1 v ws i' en b' (.int .i64 x.kind) (.int .i64 x.n) (.string x.text) (.slice A x.args.length c) (.int .i64 x.pos)) ∧ Hid (ArgsIn W (fun g => w.heap.size ≤ g ∧ g ≠ b0) (.slice A x.args.length c) x.args) ∧ Hid (OutE ws en (.one i) b x i' b'))
  case rest =>
    obtain ⟨x, A, c, i', b', HF, HA, HO⟩ := hcut
    obtain ⟨⟨c0, c1, c2, c3, c4⟩, f0, f1, f2, f3, f4⟩ := facts5 HF.out.ex
    obtain ⟨⟨d0, d1, d2, d3, d4⟩, g0, g1, g2, g3, g4⟩ := facts5 HF.out.res
    have HW := Lib.hid (set5 (.int .i64 x.kind) (.int .i64 x.n) (.string x.text) (.slice A x.args.length c) (.int .i64 x.pos) HF.out.res)
    go_wp2_with fail
    refine bodyPost_ret (results_cell_row rfl _ _ b0 _ _ _ _ rfl HW.out Tryz.underlying186 rfl exInfo) rfl ?_
    exact HF.out.ret HA.out (fun g h => h) HO.out
  case first =>
    go_wp2_with fail
    obtain ⟨t1, ht1⟩ : ∃ t, seeB ws i b sMinus = t := ⟨_, rfl⟩
    have T1 := Lib.hid ht1
    refine (take_r sMinus t1 HF.out.rd ht1).mono ?_
    rintro e w2 ⟨rfl, hR, hg⟩
    replace HF := Lib.hid (HF.out.step hR hg)
    clear hR hg ht1
    cases t1 with
    | true =>
      obtain ⟨eb, ea⟩ := seeB_yes T1.out
      subst eb
      have EA := Lib.hid ea; clear ea
      simp only [if_true] at HF
      go_wp2_with fail
      refine (H1.out w2 false HF.out.rd HF.out.gl).mono ?_
      rintro e w3 ⟨y, A, c, i', b', rfl, hA, hR, hO, hg⟩
      have HA := Lib.hid hA; have HO := Lib.hid hO
      have hz2 := HF.out.z3; have hz0 := HF.out.gr.size; have hz1 := HF.out.z2; have hs := hg.size
      replace HF := Lib.hid (HF.out.step hR hg)
      have hz3 := HF.out.z3
      clear hR hg hA hO
      obtain ⟨⟨c0, c1, c2, c3, c4⟩, f0, f1, f2, f3, f4⟩ := facts5 HF.out.ex
      go_wp2_with fail
      go_meet
      case rel =>
        refine ⟨.mk 4 0 sNone [y] (posAt ws i en), some ⟨w3.heap.size, 0, none⟩, 1, i', b', Lib.hid (((HF.out.s0 _).s3 _).below ((Below.refl _ _).alloc (Nat.le_refl _) _)), Lib.hid ?_, Lib.hid (out_neg (head1  EA.out) HO.out)⟩
        exact args_one HA.out (grown_trans (grown_set _ _ _ _) (grown_set _ _ _ _)) (fun g (h : w2.heap.size ≤ g) => ⟨by omega, by omega, by omega⟩) (by simp) ⟨by omega, by omega⟩
    | false =>
      go_wp2_with fail
      obtain ⟨t2, ht2⟩ : ∃ t, seeB ws i b sBang = t := ⟨_, rfl⟩
      have T2 := Lib.hid ht2
      refine (take_r sBang t2 HF.out.rd ht2).mono ?_
      rintro e w2 ⟨rfl, hR, hg⟩
      replace HF := Lib.hid (HF.out.step hR hg)
      clear hR hg ht2
      cases t2 with
      | true =>
        obtain ⟨eb, ea⟩ := seeB_yes T2.out
        subst eb
        have EA := Lib.hid ea; clear ea
        have E1 := Lib.hid (seeB_no T1.out)
        simp only [if_true] at HF
        go_wp2_with fail
        refine (H1.out w2 false HF.out.rd HF.out.gl).mono ?_
        rintro e w3 ⟨y, A, c, i', b', rfl, hA, hR, hO, hg⟩
        have HA := Lib.hid hA; have HO := Lib.hid hO
        have hz2 := HF.out.z3; have hz0 := HF.out.gr.size; have hz1 := HF.out.z2; have hs := hg.size
        replace HF := Lib.hid (HF.out.step hR hg)
        have hz3 := HF.out.z3
        clear hR hg hA hO
        obtain ⟨⟨c0, c1, c2, c3, c4⟩, f0, f1, f2, f3, f4⟩ := facts5 HF.out.ex
        go_wp2_with fail
        go_meet
        case rel =>
          refine ⟨.mk 5 0 sNone [y] (posAt ws i en), some ⟨w3.heap.size, 0, none⟩, 1, i', b', Lib.hid (((HF.out.s0 _).s3 _).below ((Below.refl _ _).alloc (Nat.le_refl _) _)), Lib.hid ?_, Lib.hid (out_not (head2 E1.out EA.out) HO.out)⟩
          exact args_one HA.out (grown_trans (grown_set _ _ _ _) (grown_set _ _ _ _)) (fun g (h : w2.heap.size ≤ g) => ⟨by omega, by omega, by omega⟩) (by simp) ⟨by omega, by omega⟩
      | false =>
        go_wp2_with fail
        obtain ⟨t3, ht3⟩ : ∃ t, seeB ws i b sOpen = t := ⟨_, rfl⟩
        have T3 := Lib.hid ht3
        refine (take_r sOpen t3 HF.out.rd ht3).mono ?_
        rintro e w2 ⟨rfl, hR, hg⟩
        replace HF := Lib.hid (HF.out.step hR hg)
        clear hR hg ht3
        cases t3 with
        | true =>
          obtain ⟨eb, ea⟩ := seeB_yes T3.out
          subst eb
          have EA := Lib.hid ea; clear ea
          have E1 := Lib.hid (seeB_no T1.out)
          have E2 := Lib.hid (seeB_no T2.out)
          simp only [if_true] at HF
          go_wp2_with fail
          refine (H2.out w2 false HF.out.rd HF.out.gl).mono ?_
          rintro e w3 ⟨y, A, c, i', b', rfl, hA, hR, hO, hg⟩
          have HA := Lib.hid hA; have HO := Lib.hid hO
          have hz2 := HF.out.z3; have hz0 := HF.out.gr.size; have hz1 := HF.out.z2; have hs := hg.size; have hzr := HF.out.z0
          replace HF := Lib.hid (HF.out.step hR hg)
          have hz3 := HF.out.z3
          clear hR hg hA hO
          obtain ⟨⟨c0, c1, c2, c3, c4⟩, f0, f1, f2, f3, f4⟩ := facts5 HF.out.ex
          go_wp2_with fail
          have HF5 := Lib.hid (((((HF.out.s0 (.int .i64 y.kind)).s1 (.int .i64 y.n)).s2 (.string y.text)).s3 (.slice A y.args.length c)).s4 (.int .i64 y.pos))
          have HA5 := Lib.hid (ArgsIn.later HA.out (some b1) (grown5 w3 b1 (.int .i64 y.kind) (.int .i64 y.n) (.string y.text) (.slice A y.args.length c) (.int .i64 y.pos)) (fun g (h : w2.heap.size ≤ g) => by simp; omega) (fun g (h : w2.heap.size ≤ g) => (⟨by omega, by omega⟩ : w.heap.size ≤ g ∧ g ≠ b0)))
          clear HA HF c0 c1 c2 c3 c4 f0 f1 f2 f3 f4
          generalize (((((w3.setCell ⟨b1, 0, none⟩ _).setCell ⟨b1, 1, none⟩ _).setCell ⟨b1, 2, none⟩ _).setCell ⟨b1, 3, none⟩ _).setCell ⟨b1, 4, none⟩ _) = W5 at HF5 HA5 ⊢
          refine (want_r sClose HF5.out.rd).mono ?_
          rintro e w6 ⟨rfl, ⟨i2, b2, hR, hW⟩, hg⟩
          have HW := Lib.hid hW
          have HA6 := Lib.hid (ArgsIn.later HA5.out (some rb) hg (fun g (h : w.heap.size ≤ g ∧ g ≠ b0) => by simp; omega) (fun g h => h))
          replace HF5 := Lib.hid (HF5.out.step hR hg)
          clear hR hg hW HA5
          go_wp2_with fail
          go_meet
          case rel => exact ⟨y, A, c, i2, b2, HF5, HA6, Lib.hid (out_par (head3 E1.out E2.out EA.out) HO.out HW.out)⟩
        | false =>
          go_wp2_with fail
          obtain ⟨t4, ht4⟩ : ∃ t, seeB ws i b sTrue = t := ⟨_, rfl⟩
          have T4 := Lib.hid ht4
          refine (take_r sTrue t4 HF.out.rd ht4).mono ?_
          rintro e w2 ⟨rfl, hR, hg⟩
          replace HF := Lib.hid (HF.out.step hR hg)
          clear hR hg ht4
          cases t4 with
          | true =>
            obtain ⟨eb, ea⟩ := seeB_yes T4.out
            subst eb
            have EA := Lib.hid ea; clear ea
            have E1 := Lib.hid (seeB_no T1.out)
            have E2 := Lib.hid (seeB_no T2.out)
            have E3 := Lib.hid (seeB_no T3.out)
            simp only [if_true] at HF
            obtain ⟨⟨c0, c1, c2, c3, c4⟩, f0, f1, f2, f3, f4⟩ := facts5 HF.out.ex
            go_wp2_with fail
            go_meet
            case rel => exact ⟨.mk 2 1 sNone [] (posAt ws i en), none, 0, i + 1, false, Lib.hid ((HF.out.s0 _).s1 _), Lib.hid (.nil _ _), Lib.hid (out_tru (head4 E1.out E2.out E3.out EA.out))⟩
          | false =>
            go_wp2_with fail
            obtain ⟨t5, ht5⟩ : ∃ t, seeB ws i b sFalse = t := ⟨_, rfl⟩
            have T5 := Lib.hid ht5
            refine (take_r sFalse t5 HF.out.rd ht5).mono ?_
            rintro e w2 ⟨rfl, hR, hg⟩
            replace HF := Lib.hid (HF.out.step hR hg)
            clear hR hg ht5
            cases t5 with
            | true =>
              obtain ⟨eb, ea⟩ := seeB_yes T5.out
              subst eb
              have EA := Lib.hid ea; clear ea
              have E1 := Lib.hid (seeB_no T1.out)
              have E2 := Lib.hid (seeB_no T2.out)
              have E3 := Lib.hid (seeB_no T3.out)
              have E4 := Lib.hid (seeB_no T4.out)
              simp only [if_true] at HF
              obtain ⟨⟨c0, c1, c2, c3, c4⟩, f0, f1, f2, f3, f4⟩ := facts5 HF.out.ex
              go_wp2_with fail
              go_meet
              case rel => exact ⟨.mk 2 0 sNone [] (posAt ws i en), none, 0, i + 1, false, Lib.hid (HF.out.s0 _), Lib.hid (.nil _ _), Lib.hid (out_fls (head5 E1.out E2.out E3.out E4.out EA.out))⟩
            | false =>
              go_wp2_with fail
              obtain ⟨t6, ht6⟩ : ∃ t, seeB ws i b sHost = t := ⟨_, rfl⟩
              have T6 := Lib.hid ht6
              refine (take_r sHost t6 HF.out.rd ht6).mono ?_
              rintro e w2 ⟨rfl, hR, hg⟩
              replace HF := Lib.hid (HF.out.step hR hg)
              clear hR hg ht6
              cases t6 with
              | true =>
                obtain ⟨eb, ea⟩ := seeB_yes T6.out
                subst eb
                have EA := Lib.hid ea; clear ea
                have E1 := Lib.hid (seeB_no T1.out)
                have E2 := Lib.hid (seeB_no T2.out)
                have E3 := Lib.hid (seeB_no T3.out)
                have E4 := Lib.hid (seeB_no T4.out)
                have E5 := Lib.hid (seeB_no T5.out)
                simp only [if_true] at HF
                obtain ⟨⟨c0, c1, c2, c3, c4⟩, f0, f1, f2, f3, f4⟩ := facts5 HF.out.ex
                go_wp2_with fail
                clear c0 c1 c2 c3 c4 f0 f1 f2 f3 f4
                replace HF := Lib.hid (HF.out.s0 (.int .i64 8))
                generalize w2.setCell ⟨b1, 0, none⟩ _ = W3 at HF ⊢
                refine (kind_r 1 HF.out.rd).mono ?_
                rintro e w4 ⟨⟨s, i1, k1, rfl, hR, hK⟩, hg⟩
                have HK := Lib.hid hK
                have HS : Hid (s.size ≤ 18) := Lib.hid (kind_size HN.out hK)
                replace HF := Lib.hid (HF.out.step hR hg)
                clear hR hg hK
                go_wp2_with fail
                refine (num_c s HS.out w4 HF.out.gl).mono ?_
                rintro e w5 ⟨⟨er, rfl⟩, hb⟩
                replace HF := Lib.hid (HF.out.below hb)
                clear hb
                obtain ⟨⟨c0, c1, c2, c3, c4⟩, f0, f1, f2, f3, f4⟩ := facts5 HF.out.ex
                go_wp2_with fail
                clear c0 c1 c2 c3 c4 f0 f1 f2 f3 f4
                replace HF := Lib.hid (HF.out.s1 (.int .i64 (numV s)))
                generalize w5.setCell ⟨b1, 1, none⟩ _ = W5 at HF ⊢
                refine (want_r sOpen HF.out.rd).mono ?_
                rintro e w6 ⟨rfl, ⟨i2, k2, hR, hW⟩, hg⟩
                have HW := Lib.hid hW
                replace HF := Lib.hid (HF.out.step hR hg)
                clear hR hg hW
                go_wp2_with fail
                refine (H3.out i2 (host_lt HK.out HW.out) w6 k2 HF.out.rd HF.out.gl).mono ?_
                rintro e w7 ⟨l, A, c, i3, k3, rfl, hA, hR, hg, hO⟩
                have HA := Lib.hid hA; have HO := Lib.hid hO
                have hz2 := HF.out.z3; have hz0 := HF.out.gr.size; have hz1 := HF.out.z2; have hs := hg.size
                replace HF := Lib.hid (HF.out.step hR hg)
                clear hR hg hA hO
                obtain ⟨⟨c0, c1, c2, c3, c4⟩, f0, f1, f2, f3, f4⟩ := facts5 HF.out.ex
                go_wp2_with fail
                go_meet
                case rel => exact ⟨.mk 8 (numV s) sNone l (posAt ws i en), A, c, i3, k3, Lib.hid (HF.out.s3 _), Lib.hid (ArgsIn.later HA.out (some b1) (grown_set _ _ _ _) (fun g (h : w6.heap.size ≤ g) => by simp; omega) (fun g (h : w6.heap.size ≤ g) => (⟨by omega, by omega⟩ : w.heap.size ≤ g ∧ g ≠ b0))), Lib.hid (out_host (head6 E1.out E2.out E3.out E4.out E5.out EA.out) HK.out HW.out HO.out)⟩
              | false =>
                go_wp2_with fail
                simp only [Bool.false_eq_true, if_false] at HF
                have HN6 := Lib.hid (fun e : b = false => (by subst e; exact ⟨seeB_no T1.out, seeB_no T2.out, seeB_no T3.out, seeB_no T4.out, seeB_no T5.out, seeB_no T6.out⟩ : NoHead ws i))
                clear T1 T2 T3 T4 T5 T6
                go_cut [65] (fun u W => ∃ t : Bool, u = .bool t ∧ Hid ((t = true → b = false ∧ kindAt ws i = 1) ∧ (t = false → b = false → kindAt ws i ≠ 1)) ∧ Hid (Fr2 w W rb b0 b1 v ws i en b (.int .i64 0) (.int .i64 0) (.string ⟨#[]⟩) (.slice none 0 0) (.int .i64 (posAt ws i en))))
                case first =>
                  obtain ⟨A, cap, rfl, hform⟩ := HF.out.rd.row.form
                  have c0 := HF.out.rd.c0; have c1 := HF.out.rd.c1; have c3 := HF.out.rd.c3
                  have hn := HF.out.rd.len; have hp := HF.out.rd.pos
                  cases b with
                  | true =>
                    clear hform
                    go_quiet (fail)
                    go_wp2_with fail
                    go_meet
                    case rel => exact ⟨false, rfl, Lib.hid ⟨by simp, by simp⟩, Lib.hid (HF.out.below (below_drewN (Below.refl _ _) _))⟩
                  | false =>
                    by_cases hlt : i < ws.length
                    · obtain ⟨x, hx⟩ : ∃ x, ws[i]? = some x := ⟨_, List.getElem?_eq_getElem hlt⟩
                      obtain ⟨g, rfl, hg, d0, d1, d2⟩ := hform i x hx
                      have k0 : (0 : Int) ≤ (i : Int) := by omega
                      have k1 : (i : Int) < (ws.length : Int) := by omega
                      obtain ⟨t, ht⟩ : ∃ t, (((x.kind : Int)) == 1) = t := ⟨_, rfl⟩
                      have HX : Hid (kindAt ws i = x.kind) := Lib.hid (by unfold kindAt; rw [hx])
                      clear hx hform d1 d2
                      cases t with
                      | true =>
                        go_quiet (fail)
                        go_wp2_with fail
                        go_meet
                        case rel => exact ⟨true, rfl, Lib.hid ⟨fun _ => ⟨by simp, by rw [HX.out]; have := beq_iff_eq.1 ht; omega⟩, by simp⟩, Lib.hid (HF.out.below (below_drewN (Below.refl _ _) _))⟩
                      | false =>
                        go_quiet (fail)
                        go_wp2_with fail
                        go_meet
                        case rel => exact ⟨false, rfl, Lib.hid ⟨by simp, fun _ _ => by rw [HX.out]; have := beq_eq_false_iff_ne.1 ht; omega⟩, Lib.hid (HF.out.below (below_drewN (Below.refl _ _) _))⟩
                    · have hi : i = ws.length := by omega
                      have HX : Hid (kindAt ws i = 0) := Lib.hid (by unfold kindAt; rw [List.getElem?_eq_none (by omega)])
                      clear hform
                      go_quiet (fail)
                      go_wp2_with fail
                      go_meet
                      case rel => exact ⟨false, rfl, Lib.hid ⟨by simp, fun _ _ => by rw [HX.out]; decide⟩, Lib.hid (HF.out.below (below_drewN (Below.refl _ _) _))⟩
                case rest =>
                  obtain ⟨t, rfl, HT, HF⟩ := hcut
                  cases t with
                  | true =>
                    obtain ⟨rfl, hk⟩ := HT.out.1 rfl
                    have HKK := Lib.hid hk; clear hk
                    obtain ⟨⟨c0, c1, c2, c3, c4⟩, f0, f1, f2, f3, f4⟩ := facts5 HF.out.ex
                    go_wp2_with fail
                    clear c0 c1 c2 c3 c4 f0 f1 f2 f3 f4
                    replace HF := Lib.hid (HF.out.s0 (.int .i64 1))
                    generalize wc.setCell ⟨b1, 0, none⟩ _ = W3 at HF ⊢
                    refine (kind_r 1 HF.out.rd).mono ?_
                    rintro e w4 ⟨⟨s, i1, k1, rfl, hR, hK⟩, hg⟩
                    have HK := Lib.hid hK
                    have HS : Hid (s.size ≤ 18) := Lib.hid (kind_size HN.out hK)
                    replace HF := Lib.hid (HF.out.step hR hg)
                    clear hR hg hK
                    go_wp2_with fail
                    refine (num_c s HS.out w4 HF.out.gl).mono ?_
                    rintro e w5 ⟨⟨er, rfl⟩, hb⟩
                    replace HF := Lib.hid (HF.out.below hb)
                    clear hb
                    obtain ⟨⟨c0, c1, c2, c3, c4⟩, f0, f1, f2, f3, f4⟩ := facts5 HF.out.ex
                    go_wp2_with fail
                    go_meet
                    case rel => exact ⟨.mk 1 (numV s) sNone [] (posAt ws i en), none, 0, i1, k1, Lib.hid (HF.out.s1 _), Lib.hid (.nil _ _), Lib.hid (out_num (HN6.out (by simp)) HKK.out HK.out)⟩
                  | false =>
                    have HV : Hid (b = false → NoHead ws i ∧ kindAt ws i ≠ 1) := Lib.hid fun e => ⟨HN6.out e, HT.out.2 rfl e⟩
                    clear HT HN6
                    go_wp2_with fail
                    refine (kind_r 2 HF.out.rd).mono ?_
                    rintro e w4 ⟨⟨s, i1, k1, rfl, hR, hK⟩, hg⟩
                    have HK := Lib.hid hK
                    replace HF := Lib.hid (HF.out.step hR hg)
                    clear hR hg hK
                    obtain ⟨⟨c0, c1, c2, c3, c4⟩, f0, f1, f2, f3, f4⟩ := facts5 HF.out.ex
                    go_wp2_with fail
                    clear c0 c1 c2 c3 c4 f0 f1 f2 f3 f4
                    replace HF := Lib.hid ((HF.out.s0 (.int .i64 3)).s2 (.string s))
                    generalize ((w4.setCell ⟨b1, 0, none⟩ _).setCell ⟨b1, 2, none⟩ _) = W5 at HF ⊢
                    obtain ⟨t7, ht7⟩ : ∃ t, seeB ws i1 k1 sOpen = t := ⟨_, rfl⟩
                    have T7 := Lib.hid ht7
                    refine (take_r sOpen t7 HF.out.rd ht7).mono ?_
                    rintro e w6 ⟨rfl, hR, hg⟩
                    replace HF := Lib.hid (HF.out.step hR hg)
                    clear hR hg ht7
                    cases t7 with
                    | true =>
                      simp only [if_true] at HF
                      go_wp2_with fail
                      refine (H3.out (i1 + 1) (by have := (out_var_le HK.out); omega) w6 k1 HF.out.rd HF.out.gl).mono ?_
                      rintro e w7 ⟨l, A, c, i3, k3, rfl, hA, hR, hg, hO⟩
                      have HA := Lib.hid hA; have HO := Lib.hid hO
                      have hz2 := HF.out.z3; have hz0 := HF.out.gr.size; have hz1 := HF.out.z2; have hs := hg.size
                      replace HF := Lib.hid (HF.out.step hR hg)
                      clear hR hg hA hO
                      obtain ⟨⟨c0, c1, c2, c3, c4⟩, f0, f1, f2, f3, f4⟩ := facts5 HF.out.ex
                      go_wp2_with fail
                      go_meet
                      case rel => exact ⟨.mk 7 0 s l (posAt ws i en), A, c, i3, k3, Lib.hid ((HF.out.s0 _).s3 _), Lib.hid (ArgsIn.later HA.out (some b1) (grown_trans (grown_set _ _ _ _) (grown_set _ _ _ _)) (fun g (h : w6.heap.size ≤ g) => by simp; omega) (fun g (h : w6.heap.size ≤ g) => (⟨by omega, by omega⟩ : w.heap.size ≤ g ∧ g ≠ b0))), Lib.hid (out_call HV.out HK.out T7.out HO.out)⟩
                    | false =>
                      simp only [Bool.false_eq_true, if_false] at HF
                      go_wp2_with fail
                      go_meet
                      case rel => exact ⟨.mk 3 0 s [] (posAt ws i en), none, 0, i1, k1, HF, Lib.hid (.nil _ _), Lib.hid (out_var HV.out HK.out T7.out)⟩
end Go.Proofs.YtmngofgminlloaaGreatDoor

namespace Go.Proofs.YtmngofgminlloaaGreatDoor
open Go.RowKit Tw

def badOf (w : World) (rb : Nat) : Bool := match w.cell? ⟨rb, 3, none⟩ with | some (.bool b) => b | _ => false
theorem Rd.badOf {w : World} {rb : Nat} {v : Value} {ws : List Wd} {i en : Nat} {b : Bool} (h : Rd w rb v ws i en b) : badOf w rb = b := by
  unfold Go.Proofs.YtmngofgminlloaaGreatDoor.badOf; rw [h.c3]
/-- How much is left to read. -/
def leftOf (ws : List Wd) (w : World) (rb : Nat) : Nat := 2 * (ws.length - placeOf w rb) + (if badOf w rb then 0 else 1)
theorem Rd.left {w : World} {rb : Nat} {v : Value} {ws : List Wd} {i en : Nat} {b : Bool} (h : Rd w rb v ws i en b) : leftOf ws w rb = 2 * (ws.length - i) + (if b then 0 else 1) := by
  unfold leftOf; rw [h.place, h.badOf]
/-- A round: something has been read, or the reader has failed. -/
theorem Rd.less {w w' : World} {rb : Nat} {v : Value} {ws : List Wd} {i en i' : Nat} {b' : Bool} (h : Rd w rb v ws i en false) (h' : Rd w' rb v ws i' en b') (hi : i ≤ i') (hx : b' = false → i < i') : leftOf ws w' rb < leftOf ws w rb := by
  rw [h.left, h'.left]
  have := h'.pos
  cases b' with
  | true => simp; omega
  | false => have := hx rfl; simp; omega

/-- Behind some arguments. -/
structure InA (ws : List Wd) (en i : Nat) (b : Bool) (l : List Ex) (i' : Nat) (b' : Bool) : Prop where
  le : i ≤ i'
  bt : b = true → b' = true ∧ i' = i
  len : l.length ≤ i' + (if b' then 1 else 0)
  okk : b = false → b' = false → (∀ m j, De ws en (.args l.length i') (.exs m j) → De ws en (.args 0 i) (.exs (l ++ m) j)) ∧ (∀ j, De ws en (.args l.length i') (.bad j) → De ws en (.args 0 i) (.bad j))
  bad : b = false → b' = true → De ws en (.args 0 i) (.bad i')
def CommaS (ws : List Wd) (k i' i2 : Nat) (b2 : Bool) : Prop := (k = 0 ∧ i2 = i' ∧ b2 = false) ∨ (k ≠ 0 ∧ WantS ws sComma i' false i2 b2)
section
variable {ws : List Wd} {en i : Nat} {b : Bool} {l : List Ex} {i' : Nat}
theorem InA.start' (ws : List Wd) (en i : Nat) (b : Bool) : InA ws en i b [] i b :=
  ⟨Nat.le_refl _, fun e => ⟨e, rfl⟩, by simp, fun _ _ => ⟨fun m j h => h, fun j h => h⟩, fun e e' => absurd (e.symm.trans e') (by decide)⟩
theorem InA.close (h : InA ws en i b l i' false) (hc : isAt ws i' sClose = true) : OutA ws en 0 i b l (i' + 1) false := by
  have hle := h.le
  refine ⟨by omega, fun e => absurd (h.bt e).1 (by decide), fun e _ => ⟨by omega, ?_⟩, fun _ e => absurd e (by decide)⟩
  simpa using (h.okk e rfl).1 [] (i' + 1) (.close hc)
theorem InA.out (h : InA ws en i b l i' true) : OutA ws en 0 i b l i' true :=
  ⟨h.le, h.bt, fun _ e => absurd e (by decide), fun e _ => h.bad e rfl⟩
theorem InA.step {x : Ex} {i2 i3 : Nat} {b2 b3 : Bool} (h : InA ws en i b l i' false) (hc : isAt ws i' sClose = false) (hk : CommaS ws l.length i' i2 b2) (hO : OutE ws en (.lvl 1 i2) b2 x i3 b3) :
    InA ws en i b (l ++ [x]) i3 b3 ∧ i' ≤ i3 ∧ (b3 = false → i' < i3) := by
  have h0 := hO.1
  simp only [Qe.at] at h0
  have hle := h.le
  have hlen := h.len
  simp only [Bool.false_eq_true, if_false, Nat.add_zero] at hlen
  have hb : b = false := by cases b with | false => rfl | true => have := (h.bt rfl).1; cases this
  have hok := h.okk hb rfl
  rcases hk with ⟨hk, rfl, rfl⟩ | ⟨hk, hW⟩
  · have hl : l = [] := List.eq_nil_of_length_eq_zero hk
    subst hl
    cases b3 with
    | false =>
      obtain ⟨h1, h2⟩ := hO.2.2.1 rfl rfl
      simp only [Qe.at] at h1
      exact ⟨⟨by omega, fun e => absurd (hb.symm.trans e) (by decide), by simp; omega, fun _ _ => ⟨fun m j h => hok.1 _ _ (.first hc h2 h), fun j h => hok.2 _ (.firstR hc h2 h)⟩, fun _ e => absurd e (by decide)⟩, by omega, fun _ => by omega⟩
    | true =>
      exact ⟨⟨by omega, fun e => absurd (hb.symm.trans e) (by decide), by simp, fun _ e => absurd e (by decide), fun _ _ => hok.2 _ (.firstB hc (hO.2.2.2 rfl rfl))⟩, by omega, fun e => absurd e (by decide)⟩
  · obtain ⟨k, hk⟩ : ∃ k, l.length = k + 1 := ⟨l.length - 1, by omega⟩
    rw [hk] at hok
    rcases want_cases hW with ⟨_, ha, rfl, rfl⟩ | ⟨_, ha, rfl, rfl⟩ | ⟨e, _⟩
    · cases b3 with
      | false =>
        obtain ⟨h1, h2⟩ := hO.2.2.1 rfl rfl
        simp only [Qe.at] at h1
        refine ⟨⟨by omega, fun e => absurd (hb.symm.trans e) (by decide), by simp; omega, fun _ _ => ⟨fun m j h => ?_, fun j h => ?_⟩, fun _ e => absurd e (by decide)⟩, by omega, fun _ => by omega⟩
        · have := hok.1 _ _ (.next hc ha h2 (by simpa [hk] using h)); simpa using this
        · exact hok.2 _ (.nextR hc ha h2 (by simpa [hk] using h))
      | true =>
        exact ⟨⟨by omega, fun e => absurd (hb.symm.trans e) (by decide), by simp; omega, fun _ e => absurd e (by decide), fun _ _ => hok.2 _ (.nextB hc ha (hO.2.2.2 rfl rfl))⟩, by omega, fun e => absurd e (by decide)⟩
    · obtain ⟨rfl, rfl⟩ := hO.2.1 rfl
      exact ⟨⟨by omega, fun e => absurd (hb.symm.trans e) (by decide), by simp; omega, fun _ e => absurd e (by decide), fun _ _ => hok.2 _ (.nextC hc ha)⟩, by omega, fun e => absurd e (by decide)⟩
    · cases e
end
theorem comma_le {ws : List Wd} {en i : Nat} {b : Bool} {l : List Ex} {i' k i2 : Nat} {b2 : Bool} (h : InA ws en i b l i' false) (hk : CommaS ws k i' i2 b2) : i ≤ i2 := by
  have := h.le
  rcases hk with ⟨_, rfl, _⟩ | ⟨_, h | h⟩
  · exact this
  · omega
  · omega
/-- What is kept by an append to a row of new blocks. -/
theorem rd_app {w w' : World} {rb : Nat} {v : Value} {ws : List Wd} {i en : Nat} {b : Bool} {row : Option Nat} (h : Rd w rb v ws i en b) (hg : w.grownBy w' row) (hk : ∀ k, row = some k → rb < k) : Rd w' rb v ws i en b :=
  ⟨(hg.block rb h.lt (fun e => by have := hk rb e.symm; omega)).trans h.blk, h.row.same fun j hj => hg.block j (Nat.lt_trans hj h.lt) (fun e => by have := hk j e.symm; omega), h.len, h.pos⟩
theorem grown_app {w w' w2 : World} {r : Nat} {row : Option Nat} (h : w.grownBy w' (some r)) (k : w'.grownBy w2 row) (hb : ∀ k, row = some k → w.heap.size ≤ k) : w.grownBy w2 (some r) :=
  ⟨k.os.trans h.os, k.tape.trans h.tape, k.output.trans h.output, Nat.le_trans h.size k.size, fun j hj hr => (k.block j (Nat.lt_of_lt_of_le hj h.size) (fun e => by have := hb j e.symm; omega)).trans (h.block j hj hr)⟩
theorem elemEx : ElemOk Tryz.prog 184 186 5 := ⟨Tryz.underlying184, by kernel_rfl, by decide⟩

set_option maxRecDepth 100000 in
set_option maxHeartbeats 8000000 in
theorem args_c (rb : Nat) (v : Value) (ws : List Wd) (en i : Nat) (hr : 10 < rb) (h1 : ∀ j, i ≤ j → LvlC rb v ws en 1 j) : ArgsC rb v ws en i := by
  intro w b h hG
  have H1 := Lib.hid h1; have HR := Lib.hid h; have HG := Lib.hid hG
  have hrl := h.lt
  clear h1 h hG
  go_enter Tryz.func232, Tryz.ntmps232
  go_wp2_with fail
  go_loopw [3, 4] (fun o k wr => ∃ (l : List (Ex × Value)) (A : Option Addr) (c i' : Nat) (b' : Bool), o = .slice A l.length c ∧ k = .int .i64 l.length ∧ Hid (GRow exElem wr w.heap.size 186 5 (.slice A l.length c) l) ∧ Hid (Rd wr rb v ws i' en b') ∧ Hid (InA ws en i b (l.map (·.1)) i' b') ∧ Hid (w.grownBy wr (some rb)))
    (fun _ _ wr => leftOf ws wr rb)
  case atStart => exact ⟨[], none, 0, i, b, rfl, rfl, Lib.hid (GRow.nil _ _ _ _ _), HR, Lib.hid (InA.start' _ _ _ _), Lib.hid (grown_of_below (Below.refl _ _) _)⟩
  case round =>
    obtain ⟨l, A, c, i', b', rfl, rfl, HW, HR', HI, Hgr⟩ := hrel
    clear HR
    obtain ⟨t, ht⟩ : ∃ t, seeB ws i' b' sClose = t := ⟨_, rfl⟩
    have T := Lib.hid ht
    go_wp2_with fail
    refine (take_r sClose t HR'.out ht).mono ?_
    rintro e w1 ⟨rfl, hR, hg⟩
    have hsz := Hgr.out.size
    have HW1 := Lib.hid (HW.out.kept hg (fun k e => .inl (by cases e; exact hrl)))
    have HR1 := Lib.hid hR
    have Hg1 := Lib.hid (grown_trans Hgr.out hg)
    clear hR hg ht HW Hgr
    cases t with
    | true =>
      obtain ⟨rfl, ha⟩ := seeB_yes T.out
      have HA := Lib.hid ha; clear ha
      go_wp2_with fail
      go_ret
      exact ⟨l.map (·.1), A, c, i' + 1, false, by rw [List.length_map]; rfl, by rw [List.length_map]; exact HW1.out.args, by simpa using HR1.out, Hg1.out, HI.out.close HA.out⟩
    | false =>
      cases b' with
      | true =>
        have c3 := HR1.out.c3
        go_wp2_with fail
        go_ret
        exact ⟨l.map (·.1), A, c, i', true, by rw [List.length_map]; rfl, by rw [List.length_map]; exact HW1.out.args, by simpa using HR1.out, Hg1.out, HI.out.out⟩
      | false =>
        simp only [Bool.false_eq_true, if_false] at HR1
        have c3 := HR1.out.c3
        have HA := Lib.hid (seeB_no T.out)
        clear T
        go_upto_if 18 with (fail)
        go_cut [] (fun W => ∃ (i2 : Nat) (b2 : Bool), Hid (Rd W rb v ws i2 en b2) ∧ Hid (CommaS ws l.length i' i2 b2) ∧ Hid (w1.grownBy W (some rb)))
        case first =>
          by_cases hl : l.length = 0
          · have HL := Lib.hid hl; clear hl
            go_wp2_with fail
            · exfalso; have := HL.out; omega
            go_meet
            case rel => exact ⟨i', false, HR1, Lib.hid (.inl ⟨HL.out, rfl, rfl⟩), Lib.hid (grown_of_below (Below.refl _ _) _)⟩
          · have e0 : 0 < l.length := by omega
            have HL := Lib.hid hl; clear hl
            go_wp2_with fail
            refine (want_r sComma HR1.out).mono ?_
            rintro e w2 ⟨rfl, ⟨i2, k2, hR, hW⟩, hg⟩
            have HR2 := Lib.hid hR; have HW2 := Lib.hid hW; have HG2 := Lib.hid hg
            clear hR hW hg
            go_wp2_with fail
            go_meet
            case rel => exact ⟨i2, k2, HR2, Lib.hid (.inr ⟨HL.out, HW2.out⟩), HG2⟩
        case rest =>
          obtain ⟨i2, b2, HR2, HC, HG2⟩ := hcut
          have HW2 := Lib.hid (HW1.out.kept HG2.out (fun k e => .inl (by cases e; exact hrl)))
          have Hg2 := Lib.hid (grown_trans Hg1.out HG2.out)
          clear c3
          go_wp2_with fail
          refine (H1.out i2 (comma_le HI.out HC.out) wc b2 HR2.out (HG.out.of Hg2.out hr)).mono ?_
          rintro e w3 ⟨x, A3, c3, i3, b3, rfl, hA, hR, hO, hg⟩
          have hsz2 := Hg2.out.size
          have HA3 := Lib.hid hA; have HR3 := Lib.hid hR; have HO3 := Lib.hid hO
          have HW3 := Lib.hid (HW2.out.kept hg (fun k e => .inl (by cases e; exact hrl)))
          have Hg3 := Lib.hid (grown_trans Hg2.out hg)
          have hlt := HW2.out.1.lt
          have HS := Lib.hid (HI.out.step HA.out (by rw [List.length_map]; exact HC.out) HO3.out)
          have hn : l.length ≤ 4000 := by
            have := HI.out.len; have := HR'.out.pos; have := HR'.out.len; simp at *; omega
          have hsz3 := hg.size
          clear hA hR hO hg
          go_wp2_with ((at_builtin; go_must (refine wpList_app1 elemEx rfl _ _ rfl w.heap.size _ l.length (l.flatMap exElem.cells) rfl (HW3.out.1.alloc _) w3.heap.size 1 #[.int .i64 x.kind, .int .i64 x.n, .string x.text, .slice A3 x.args.length c3, .int .i64 x.pos] rfl (heap_alloc_new w3 _) rfl (by simp [Value.oneCell']) (by omega) (by simp; omega) ?_); intro g4 cap4 w4 hown4 hgrow4 hat4 hlt4))
          have hg4 : (w3.alloc (.cells #[.int .i64 x.kind, .int .i64 x.n, .string x.text, .slice A3 x.args.length c3, .int .i64 x.pos] 186)).grownBy w4 (Value.slice A l.length c).ownBlock := hgrow4
          have ha4 : (Value.slice A l.length c).ownBlock = some g4 ∨ g4 = (w3.alloc (.cells #[.int .i64 x.kind, .int .i64 x.n, .string x.text, .slice A3 x.args.length c3, .int .i64 x.pos] 186)).heap.size := hat4
          have hk4 : exElem.kid (w3.alloc (.cells #[.int .i64 x.kind, .int .i64 x.n, .string x.text, .slice A3 x.args.length c3, .int .i64 x.pos] 186)) (fun g => wc.heap.size ≤ g) (x, .slice A3 x.args.length c3) := HA3.out.keep fun g h1 h2 => ⟨h1, by simp; omega, heap_alloc_old w3 _ h2⟩
          have HW4 := Lib.hid (GRow.app (HW3.out.below ((Below.refl _ _).alloc (Nat.le_refl _) _)) hk4
            (fun g hg => ⟨by omega, fun e => by have := (hlt g e).2; omega⟩) hown4 hg4 ha4)
          have hrow : ∀ k, (Value.slice A l.length c).ownBlock = some k → w.heap.size ≤ k := fun k e => (hlt k e).1
          have HR4 := Lib.hid (rd_app (HR3.out.keep ((Below.refl _ _).alloc (Nat.le_refl _) _)) hg4 (fun k e => by have := hrow k e; omega))
          have Hg4 := Lib.hid (grown_app (grown_trans Hg3.out (grown_of_below ((Below.refl _ _).alloc (Nat.le_refl _) _) _)) hg4 hrow)
          clear hgrow4 hat4 hown4 hg4 ha4 hk4
          go_roundw
          case rel => exact ⟨l ++ [(x, .slice A3 x.args.length c3)], some ⟨g4, 0, none⟩, cap4, i3, b3, by simp, by simp, by simpa using HW4, HR4, by simpa using (Lib.hid HS.out.1 : Hid _), Hg4⟩
          case measure => exact HR'.out.less HR4.out HS.out.2.1 HS.out.2.2
end Go.Proofs.YtmngofgminlloaaGreatDoor

namespace Go.Proofs.YtmngofgminlloaaGreatDoor
open Go.RowKit Tw

def signsL : Nat → List ByteArray
  | 1 => [⟨#[124, 124]⟩]
  | 2 => [⟨#[38, 38]⟩]
  | 3 => [⟨#[60]⟩, ⟨#[60, 61]⟩, ⟨#[62]⟩, ⟨#[62, 61]⟩, ⟨#[61, 61]⟩, ⟨#[33, 61]⟩]
  | 4 => [⟨#[43]⟩, ⟨#[45]⟩]
  | 5 => [⟨#[42]⟩, ⟨#[47]⟩, ⟨#[37]⟩]
  | _ => []
def signsS : Nat → ByteArray
  | 1 => ⟨#[124, 124]⟩
  | 2 => ⟨#[38, 38]⟩
  | 3 => ⟨#[60, 32, 60, 61, 32, 62, 32, 62, 61, 32, 61, 61, 32, 33, 61]⟩
  | 4 => ⟨#[43, 32, 45]⟩
  | 5 => ⟨#[42, 32, 47, 32, 37]⟩
  | _ => ⟨#[]⟩
theorem signs_lv (n : Nat) (h1 : 1 ≤ n) (h5 : n ≤ 5) (x : ByteArray) : Lib.containsS (signsL n) x = (lv x.data.toList == n) := by
  have key : ∀ a : Array UInt8, ∀ y : ByteArray, y = ⟨a⟩ ↔ y.data.toList = a.toList := fun a y => by
    constructor
    · rintro rfl; rfl
    · intro h; cases y with | mk d => congr 1; exact Array.toList_inj.1 h
  rw [Bool.eq_iff_iff, Lib.containsS_iff, beq_iff_eq]
  generalize hl : x.data.toList = l
  have e : ∀ a : Array UInt8, x = ⟨a⟩ ↔ l = a.toList := fun a => by rw [key, hl]
  obtain rfl | rfl | rfl | rfl | rfl : n = 1 ∨ n = 2 ∨ n = 3 ∨ n = 4 ∨ n = 5 := by omega
  all_goals
    simp only [signsL, List.mem_cons, List.mem_nil_iff, or_false, e]
    unfold lv
    constructor
    · intro h
      repeat' (first | (subst h; decide) | rcases h with h | h)
    · intro h
      repeat' (split at h)
      all_goals first | (exfalso; omega) | (simp_all; done) | (simp_all)
theorem fields_signs (n : Nat) (h1 : 1 ≤ n) (h5 : n ≤ 5) : (Lib.fields (signsS n).data.toList).map (fun l => Value.string ⟨l.toArray⟩) = (signsL n).map Value.string := by
  obtain rfl | rfl | rfl | rfl | rfl : n = 1 ∨ n = 2 ∨ n = 3 ∨ n = 4 ∨ n = 5 := by omega
  all_goals rfl

theorem signs_ascii (n : Nat) (h1 : 1 ≤ n) (h5 : n ≤ 5) : (signsS n).size < 4294967281 ∧ ∀ (j : Nat) b, (signsS n).data.toList[j]? = some b → b.toNat < 128 := by
  obtain rfl | rfl | rfl | rfl | rfl : n = 1 ∨ n = 2 ∨ n = 3 ∨ n = 4 ∨ n = 5 := by omega
  all_goals
    refine ⟨by decide, fun j b hb => ?_⟩
    have := List.mem_of_getElem? hb
    revert this
    generalize hl : b = c
    clear hb hl
    revert c
    decide
theorem fields_at (n : Nat) (h1 : 1 ≤ n) (h5 : n ≤ 5) (w : World) : (∀ j, j < (signsL n).length → (w.alloc (.cells ((Lib.fields (signsS n).data.toList).map fun l => Value.string ⟨l.toArray⟩).toArray 9)).cell? ⟨w.heap.size, 0 + j, none⟩ = some (.string ((signsL n).getD j ByteArray.empty))) ∧ (Lib.fields (signsS n).data.toList).length = (signsL n).length := by
  have hf := fields_signs n h1 h5
  refine ⟨fun j hj => ?_, by simpa using congrArg List.length hf⟩
  rw [hf, Nat.zero_add, Lib.cell_of_heap (heap_alloc_new w _) j]
  simp [List.getD, hj]
set_option maxHeartbeats 1000000 in
theorem signs_c (n : Nat) (h1 : 1 ≤ n) (h5 : n ≤ 5) (w : World) (hg : Glob w) :
    Calls Tryz.prog 202 #[.int .i64 n] w fun e w' => (∃ g, e = .returned (.slice (some ⟨g, 0, none⟩) (signsL n).length (signsL n).length) ∧ ∀ j, j < (signsL n).length → w'.cell? ⟨g, 0 + j, none⟩ = some (.string ((signsL n).getD j ByteArray.empty))) ∧ Below w.heap.size w w' := by
  have HF : ∀ W, Glob W → Calls Tryz.prog 79 #[.string (signsS n)] W fun e w' => (∃ g, e = .returned (.slice (some ⟨g, 0, none⟩) (signsL n).length (signsL n).length) ∧ ∀ j, j < (signsL n).length → w'.cell? ⟨g, 0 + j, none⟩ = some (.string ((signsL n).getD j ByteArray.empty))) ∧ Below W.heap.size W w' := by
    intro W hW
    obtain ⟨a1, a2⟩ := signs_ascii n h1 h5
    refine (Tryz.strings_Fields (signsS n) W a1 a2 hW.spc).mono ?_
    rintro e w' ⟨rfl, rfl⟩
    obtain ⟨b1, b2⟩ := fields_at n h1 h5 W
    exact ⟨⟨_, by rw [b2], b1⟩, (Below.refl _ _).alloc (Nat.le_refl _) _⟩
  have HF := Lib.hid HF; have HG := Lib.hid hg; clear hg
  obtain rfl | rfl | rfl | rfl | rfl : n = 1 ∨ n = 2 ∨ n = 3 ∨ n = 4 ∨ n = 5 := by omega
  all_goals
    clear h1 h5
    go_enter Tryz.func202, Tryz.ntmps202
    go_wp2_with fail
    refine (HF.out _ (HG.out.to ((Below.refl _ _).alloc (Nat.le_refl _) _))).mono ?_
    rintro e w1 ⟨⟨g, rfl, hc⟩, hb⟩
    have HC := Lib.hid hc; have HB := Lib.hid (((Below.refl w.heap.size w).alloc (Nat.le_refl _) _).trans (hb.mono (by simp)))
    clear hc hb
    go_wp2_with fail
    go_ret
    exact ⟨⟨g, rfl, HC.out⟩, HB.out⟩
set_option maxHeartbeats 1000000 in
/-- slices.Contains of a level's operators. -/
theorem contains_c (n : Nat) (h1 : 1 ≤ n) (h5 : n ≤ 5) (g : Nat) (x : ByteArray) (w : World) (hc : ∀ j, j < (signsL n).length → w.cell? ⟨g, 0 + j, none⟩ = some (.string ((signsL n).getD j ByteArray.empty))) (t : Bool) (ht : (lv x.data.toList == n) = t) :
    Calls Tryz.prog 201 #[.slice (some ⟨g, 0, none⟩) (signsL n).length (signsL n).length, .string x] w fun e w' => e = .returned (.bool t) ∧ w = w' := by
  have hl : (signsL n).length ≤ 9223372036854775807 := by
    obtain rfl | rfl | rfl | rfl | rfl : n = 1 ∨ n = 2 ∨ n = 3 ∨ n = 4 ∨ n = 5 := by omega
    all_goals decide
  refine (Tryz.slices_Contains_string g 0 (signsL n).length (signsL n).length (signsL n) x w (Nat.le_refl _) hl hc).mono ?_
  rintro e w' ⟨rfl, rfl⟩
  rw [List.take_length, signs_lv n h1 h5, ht]
  exact ⟨rfl, rfl⟩
end Go.Proofs.YtmngofgminlloaaGreatDoor

namespace Go.Proofs.YtmngofgminlloaaGreatDoor
open Go.RowKit Tw

section
variable {ws : List Wd} {en n i : Nat} {b : Bool} {a y : Ex} {i' i3 : Nat} {b3 : Bool}
theorem OutL.start {i1 : Nat} {b1 : Bool} (hn : n ≠ 6) (hO : OutE ws en (.lvl (n + 1) i) b a i1 b1) : OutL ws en n i b a i1 b1 :=
  ⟨hO.1, hO.2.1, fun e1 e2 => ⟨(hO.2.2.1 e1 e2).1, fun _ hr => .lvl hn (hO.2.2.1 e1 e2).2 hr⟩, fun e1 e2 => .lvlB hn (hO.2.2.2 e1 e2)⟩
theorem OutL.good (h : OutL ws en n i b a i' false) : b = false := by
  cases b with
  | false => rfl
  | true => exact absurd (h.2.1 rfl).1 (by decide)
theorem OutL.next (h3 : n ≠ 3) (h : OutL ws en n i b a i' false) (hl : lvAt ws i' = n) (hO : OutE ws en (.lvl (n + 1) (i' + 1)) false y i3 b3) : OutL ws en n i b (twoEx ws en i' a y) i3 b3 := by
  have hb := h.good
  have h0 := hO.1
  simp only [Qe.at] at h0
  have h1 := h.1
  refine ⟨by omega, fun e => absurd (hb.symm.trans e) (by decide), fun e1 e2 => ⟨by omega, fun _ hr => (h.2.2.1 hb rfl).2 _ (.go h3 hl (hO.2.2.1 rfl e2).2 hr)⟩, fun e1 e2 => (h.2.2.1 hb rfl).2 _ (.goB hl (hO.2.2.2 rfl e2))⟩
theorem OutL.last (h : OutL ws en 3 i b a i' false) (hl : lvAt ws i' = 3) (hO : OutE ws en (.lvl 4 (i' + 1)) false y i3 b3) (t : Bool) (ht : t = (b3 || lvAt ws i3 == 3)) : OutE ws en (.lvl 3 i) b (twoEx ws en i' a y) i3 t := by
  have hb := h.good
  have h0 := hO.1
  simp only [Qe.at] at h0
  have h1 := h.1
  refine ⟨by simp only [Qe.at]; omega, fun e => absurd (hb.symm.trans e) (by decide), fun e1 e2 => ?_, fun e1 e2 => ?_⟩
  · rw [e2] at ht
    obtain ⟨k1, k2⟩ := Bool.or_eq_false_iff.1 ht.symm
    exact ⟨by simp only [Qe.at]; omega, (h.2.2.1 hb rfl).2 _ (.cmp hl (hO.2.2.1 rfl k1).2 (by simpa using k2))⟩
  · cases b3 with
    | true => exact (h.2.2.1 hb rfl).2 _ (.goB hl (hO.2.2.2 rfl rfl))
    | false =>
      rw [e2] at ht
      exact (h.2.2.1 hb rfl).2 _ (.cmpB hl (hO.2.2.1 rfl rfl).2 (by simpa using ht.symm))
theorem OutL.stop (h : OutL ws en n i b a i' false) (hl : lvAt ws i' ≠ n) : OutE ws en (.lvl n i) b a i' false :=
  ⟨h.1, h.2.1, fun e1 e2 => ⟨(h.2.2.1 e1 e2).1, (h.2.2.1 e1 e2).2 _ (.stop hl)⟩, fun _ e => absurd e (by decide)⟩
theorem OutL.fail (h : OutL ws en n i b a i' true) : OutE ws en (.lvl n i) b a i' true :=
  ⟨h.1, h.2.1, fun _ e => absurd e (by decide), h.2.2.2⟩
end

theorem lt_of_some {w : World} {b : Nat} {o : Obj} (h : w.heap[b]? = some o) : b < w.heap.size := (Array.getElem?_eq_some_iff.1 h).1
/-- A write into a block of another one. -/
theorem Fr2.other {w0 w w' : World} {rb b0 b1 k : Nat} {v : Value} {ws : List Wd} {i en : Nat} {b : Bool} {u0 u1 u2 u3 u4 : Value}
    (h : Fr2 w0 w rb b0 b1 v ws i en b u0 u1 u2 u3 u4) (hk : b1 < k) (hg : w.grownBy w' (some k)) : Fr2 w0 w' rb b0 b1 v ws i en b u0 u1 u2 u3 u4 := by
  have h0 := h.z0; have h1 := h.z1; have h2 := h.z2; have h3 := h.z3; have hz := h.gr.size
  exact ⟨h.rd.grown hg (by omega), (hg.block b0 (by omega) (by simp; omega)).trans h.res, (hg.block b1 (by omega) (by simp; omega)).trans h.ex, grown_new h.gr hg (by omega), h.gl.same hg.size (fun g hg' => hg.block g (by have := h.r0; omega) (by simp; have := h.r0; omega)), h.r0, h0, h1, h2, Nat.lt_of_lt_of_le h3 hg.size⟩
theorem args_two {w W : World} {F0 F : Nat → Prop} {x y : Ex} {va vb : Value} {n cap T : Nat} (hA : ArgsIn w F0 va x.args) (hB : ArgsIn w F0 vb y.args) (hk : ∀ g, F0 g → g < w.heap.size → F g ∧ g < W.heap.size ∧ W.heap[g]? = w.heap[g]?)
    (hb : W.heap[n]? = some (.cells #[.int .i64 x.kind, .int .i64 x.n, .string x.text, va, .int .i64 x.pos, .int .i64 y.kind, .int .i64 y.n, .string y.text, vb, .int .i64 y.pos] T (0, 0))) (hFn : F n) :
    ArgsIn W F (.slice (some ⟨n, 0, none⟩) 2 cap) [x, y] := by
  refine ArgsIn.of_block [(x, va), (y, vb)] _ rfl hb hFn fun a ha => ?_
  simp at ha
  rcases ha with rfl | rfl
  · exact hA.keep hk
  · exact hB.keep hk
end Go.Proofs.YtmngofgminlloaaGreatDoor

namespace Go.Proofs.YtmngofgminlloaaGreatDoor
open Go.RowKit Tw

set_option maxHeartbeats 4000000 in
theorem level6 (rb : Nat) (v : Value) (ws : List Wd) (en i : Nat) (h1 : OneC rb v ws en i) : LvlC rb v ws en 6 i := by
  intro w b h hG
  have H1 := Lib.hid h1; have HR := Lib.hid h; have HG := Lib.hid hG
  clear h1 h hG
  go_enter Tryz.func163, Tryz.ntmps163
  go_wp2_with fail
  refine (H1.out _ b (HR.out.keep ((Below.refl _ _).alloc (Nat.le_refl _) _)) (HG.out.to ((Below.refl _ _).alloc (Nat.le_refl _) _))).mono ?_
  rintro e w1 ⟨x, A, c, i', b', rfl, hA, hR1, hO, hg1⟩
  have h0 : w1.heap[w.heap.size]? = some (.cells #[.int .i64 0, .int .i64 0, .string ⟨#[]⟩, .slice none 0 0, .int .i64 0] 186 (0, 0)) :=
    (hg1.block _ (by simp) (by have := HR.out.lt; simp; omega)).trans (heap_alloc_new w _)
  obtain ⟨⟨c0, c1, c2, c3, c4⟩, f0, f1, f2, f3, f4⟩ := facts5 h0
  have HA := Lib.hid hA; have HR1 := Lib.hid hR1; have HO := Lib.hid hO; have HG1 := Lib.hid hg1
  have H0 := Lib.hid h0
  clear hA hR1 hO hg1 h0
  go_wp2_with fail
  have HW := Lib.hid (set5 (.int .i64 x.kind) (.int .i64 x.n) (.string x.text) (.slice A x.args.length c) (.int .i64 x.pos) H0.out)
  have hz : w.heap.size < w1.heap.size := by have := HG1.out.size; simp at this; omega
  (try simp only [Exit.inBlock, Exit.then])
  refine bodyPost_ret (results_cell_row rfl _ _ w.heap.size _ _ _ _ rfl HW.out Tryz.underlying186 rfl exInfo) rfl ?_
  have hg5 := grown5 w1 w.heap.size (.int .i64 x.kind) (.int .i64 x.n) (.string x.text) (.slice A x.args.length c) (.int .i64 x.pos)
  have hO := HO.out
  refine ⟨x, A, c, i', b', rfl, HA.out.grown hg5 (fun g h => by simp at h; omega) (fun g h => by simp at h; omega), HR1.out.grown hg5 HR.out.lt, ⟨hO.1, hO.2.1, fun h1 h2 => ⟨(hO.2.2.1 h1 h2).1, .lvl6 (hO.2.2.1 h1 h2).2⟩, fun h1 h2 => .lvl6 (hO.2.2.2 h1 h2)⟩, ?_⟩
  exact grown_new (grown_pre ((Below.refl _ _).alloc (Nat.le_refl _) _) HG1.out) hg5 (Nat.le_refl _)
end Go.Proofs.YtmngofgminlloaaGreatDoor
