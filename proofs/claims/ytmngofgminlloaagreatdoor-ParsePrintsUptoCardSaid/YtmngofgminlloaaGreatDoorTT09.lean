/-
  The reference's level(n) below 6, of whatever its callees answer by contract.
  What an expression is (De) is one thing; and what statements, parameters, functions and scripts are (Ds, Dp, Df, Du), in plain Lean.
  The frame of the reference's stmt(): blocks of ten cells, and what its methods answer (RetS, StmtC, BlockC).
  What stmt() has read, by the ways through it, in plain Lean.
-/
import Derived.Test.YtmngofgminlloaaGreatDoorTT08
import Derived.Test.YtmngofgminlloaaGreatDoorTT07
set_option linter.all false
namespace Go.Proofs.YtmngofgminlloaaGreatDoor
open Go.RowKit Tw

set_option maxRecDepth 100000 in
set_option maxHeartbeats 16000000 in
theorem level_n (rb : Nat) (v : Value) (ws : List Wd) (en i n : Nat) (hn1 : 1 ≤ n) (hn5 : n ≤ 5) (hr : 10 < rb) (h1 : LvlC rb v ws en (n + 1) i) (h2 : ∀ j, i < j → LvlC rb v ws en (n + 1) j) : LvlC rb v ws en n i := by
  intro w b h hG
  have H1 := Lib.hid h1; have H2 := Lib.hid h2; have HR := Lib.hid h; have HG := Lib.hid hG
  have hrl := h.lt
  have e6 : ((n : Int) == 6) = false := by simp; omega
  clear h1 h2 h hG
  go_enter Tryz.func163, Tryz.ntmps163
  go_wp2_with fail
  refine (H1.out _ b (HR.out.keep ((Below.refl _ _).alloc (Nat.le_refl _) _)) (HG.out.to ((Below.refl _ _).alloc (Nat.le_refl _) _))).mono ?_
  rintro e w1 ⟨x, A, c, i1, b1, rfl, hA, hR1, hO, hg1⟩
  have h0 : w1.heap[w.heap.size]? = some (.cells #[.int .i64 0, .int .i64 0, .string ⟨#[]⟩, .slice none 0 0, .int .i64 0] 186 (0, 0)) :=
    (hg1.block _ (by simp) (by simp; omega)).trans (heap_alloc_new w _)
  have hz1 : w.heap.size < w1.heap.size := by have := hg1.size; simp at this; omega
  have HA := Lib.hid hA; have HO := Lib.hid hO
  have Hg1 := Lib.hid (grown_pre ((Below.refl _ _).alloc (Nat.le_refl _) _) hg1)
  have HF := Lib.hid (Fr2.start hR1 (HG.out.of Hg1.out hr) hr Hg1.out hrl (Nat.le_refl _) hz1 h0 (.int .i64 x.kind) (.int .i64 x.n) (.string x.text) (.slice A x.args.length c) (.int .i64 x.pos))
  clear hA hR1 hO hg1 h0
  go_wp2_with fail
  have HA0 : Hid (ArgsIn (w1.alloc (.cells #[.int .i64 x.kind, .int .i64 x.n, .string x.text, .slice A x.args.length c, .int .i64 x.pos] 186)) (fun g => w.heap.size ≤ g ∧ g ≠ w.heap.size ∧ g ≠ w1.heap.size) (.slice A x.args.length c) x.args) :=
    Lib.hid (HA.out.keep fun g hg hl => ⟨⟨by simp at hg; omega, by simp at hg; omega, by omega⟩, by simp; omega, heap_alloc_old w1 _ hl⟩)
  generalize w1.alloc _ = W1 at HF HA0 ⊢
  generalize w1.heap.size = b5 at HF HA0 ⊢
  obtain ⟨b4, hb4⟩ : ∃ b4, w.heap.size = b4 := ⟨_, rfl⟩
  have hb4' := hb4
  rw [hb4'] at HF HA0
  simp only [hb4']
  clear hb4' HA Hg1 hz1 w1
  have HB4 := Lib.hid hb4; clear hb4
  go_loopw [] (fun wr => ∃ (a : Ex) (A : Option Addr) (c i' : Nat) (b' : Bool), Hid (Fr2 w wr rb b4 b5 v ws i' en b' (.int .i64 a.kind) (.int .i64 a.n) (.string a.text) (.slice A a.args.length c) (.int .i64 a.pos)) ∧
    Hid (ArgsIn wr (fun g => b4 ≤ g ∧ g ≠ b4 ∧ g ≠ b5) (.slice A a.args.length c) a.args) ∧ Hid (OutL ws en n i b a i' b')) (fun wr => leftOf ws wr rb)
  case atStart => exact ⟨x, A, c, i1, b1, HF, HA0, Lib.hid (OutL.start (by omega) HO.out)⟩
  case round =>
    obtain ⟨a, A1, c1, i', b', HF, HA, HL⟩ := hrel
    have HFr := HF
    go_upto_region 4 with (fail)
    go_cut [48] (fun u W => ∃ t : Bool, u = .bool t ∧ Hid (t = true → b' = false ∧ lvAt ws i' = n) ∧ Hid (t = false → b' = true ∨ lvAt ws i' ≠ n) ∧ Hid (Below wr.heap.size wr W))
    case first =>
      have r0 := HF.out.rd.c0; have r1 := HF.out.rd.c1; have r3 := HF.out.rd.c3
      have hn := HF.out.rd.len; have hp := HF.out.rd.pos
      obtain ⟨A0, cap0, rfl, hform⟩ := HF.out.rd.row.form
      have HFm := Lib.hid hform; clear hform
      cases b' with
      | true =>
        go_quiet (fail)
        go_wp2_with fail
        go_meet
        case rel => exact ⟨false, rfl, Lib.hid (by simp), Lib.hid (by simp), Lib.hid (below_drewN (Below.refl _ _) _)⟩
      | false =>
        by_cases hlt : i' < ws.length
        · obtain ⟨y, hy⟩ : ∃ y, ws[i']? = some y := ⟨_, List.getElem?_eq_getElem hlt⟩
          obtain ⟨g, rfl, hg, -, d1, -⟩ := HFm.out i' y hy
          obtain ⟨t, ht⟩ : ∃ t, (lv y.text.data.toList == n) = t := ⟨_, rfl⟩
          have k0 : (0 : Int) ≤ (i' : Int) := by omega
          have k1 : (i' : Int) < (ws.length : Int) := by omega
          have HY : Hid (lvAt ws i' = lv y.text.data.toList) := Lib.hid (by unfold lvAt; rw [hy])
          have HT := Lib.hid ht
          have hz1 := HF.out.z1; have hz2 := HF.out.z2; have hz3 := HF.out.z3; have hz0 := HF.out.z0
          have HGr := Lib.hid HF.out.gl
          have q1 : rb < wr.heap.size := by omega
          have q2 : g < wr.heap.size := by omega
          clear hy ht
          go_region_held3 (fun W => W.cell? ⟨rb, 0, none⟩ = some (.slice (some ⟨g, 0, none⟩) ws.length cap0) ∧ W.cell? ⟨rb, 1, none⟩ = some (.int .i64 i') ∧ W.cell? ⟨rb, 3, none⟩ = some (.bool false) ∧ W.cell? ⟨g, i' * 3 + 1, none⟩ = some (.string y.text) ∧ Below wr.heap.size wr W)
            (first | (with_reducible exact sc_first r0 r1 r3 d1) | (with_reducible assumption) | (with_reducible exact sc_keep (by assumption) (by assumption) q1 q1 q1 q2))
            (first | (go_at_call 202; refine (signs_c n hn1 hn5 _ (sc_glob HGr.out (by assumption))).mono ?_; rintro e w5 ⟨⟨g5, rfl, hc5⟩, hb5⟩) | (go_at_call 201; refine (contains_c n hn1 hn5 g5 y.text _ hc5 t HT.out).mono ?_; rintro e w6 ⟨rfl, rfl⟩))
          rename_i hS
          have HB := Lib.hid hS.2.2.2.2
          clear hS
          go_wp2_with fail
          go_meet
          case rel => exact ⟨t, rfl, Lib.hid (fun e => ⟨by simp, by rw [HY.out]; have := HT.out; rw [e] at this; simpa using this⟩), Lib.hid (fun e => .inr (by rw [HY.out]; have := HT.out; rw [e] at this; simpa using this)), HB⟩
        · have HX : Hid (lvAt ws i' = 0) := Lib.hid (by unfold lvAt; rw [List.getElem?_eq_none (by omega)])
          go_quiet (fail)
          go_wp2_with fail
          go_meet
          case rel => exact ⟨false, rfl, Lib.hid (by simp), Lib.hid (fun _ => .inr (by rw [HX.out]; omega)), Lib.hid (below_drewN (Below.refl _ _) _)⟩
    case rest =>
      obtain ⟨t, rfl, HT, HT', HBW⟩ := hcut
      replace HF := Lib.hid (HF.out.below HBW.out)
      replace HA := Lib.hid (ArgsIn.keep (F' := fun g => b4 ≤ g ∧ g ≠ b4 ∧ g ≠ b5) (fun g h1 h2 => ⟨h1, Nat.lt_of_lt_of_le h2 HBW.out.size, HBW.out.block g h2⟩) HA.out)
      have HBz := Lib.hid HBW.out.size
      clear HBW
      cases t with
      | false =>
        obtain ⟨⟨z0, z1, z2, z3, z4⟩, q0, q1, q2, q3, q4⟩ := facts5 HF.out.ex
        obtain ⟨⟨d0, d1, d2, d3, d4⟩, g0, g1, g2, g3, g4⟩ := facts5 HF.out.res
        have HW := Lib.hid (set5 (.int .i64 a.kind) (.int .i64 a.n) (.string a.text) (.slice A1 a.args.length c1) (.int .i64 a.pos) HF.out.res)
        go_wp2_with fail
        (try simp only [Exit.inBlock, Exit.then])
        refine bodyPost_ret (results_cell_row rfl _ _ b4 _ _ _ _ rfl HW.out Tryz.underlying186 rfl exInfo) rfl ?_
        exact HF.out.ret HA.out (fun g h => ⟨by rw [HB4.out]; exact h.1, h.2.1⟩) (by cases b' with | true => exact HL.out.fail | false => exact HL.out.stop ((HT'.out (by simp)).resolve_left (by simp)))
      | true =>
        obtain ⟨rfl, hlv⟩ := HT.out rfl
        have HLV := Lib.hid hlv; clear hlv
        go_wp2_with fail
        clear HT HT' HR HA0 HO
        obtain ⟨wa, rfl⟩ : ∃ wo : World, wo = wc := ⟨_, rfl⟩
        go_cut [6] (fun u W => ∃ b6 : Nat, u = .pointer (some ⟨b6, 0, none⟩) ∧ wa.heap.size ≤ b6 ∧ Hid (W.heap[b6]? = some (.cells #[.int .i64 6, .int .i64 0, .string (textAt ws i'), .slice none 0 0, .int .i64 (posAt ws i' en)] 186 (0, 0))) ∧ Hid (Below wa.heap.size wa W))
        case first =>
          have hlt : i' < ws.length := by
            rcases Nat.lt_or_ge i' ws.length with h | h
            · exact h
            · have := HLV.out; unfold lvAt at this; rw [List.getElem?_eq_none h] at this; simp at this; omega
          have r0 := HF.out.rd.c0; have r1 := HF.out.rd.c1; have r3 := HF.out.rd.c3
          have hn := HF.out.rd.len; have hp := HF.out.rd.pos
          obtain ⟨A0, cap0, rfl, hform⟩ := HF.out.rd.row.form
          obtain ⟨y, hy⟩ : ∃ y, ws[i']? = some y := ⟨_, List.getElem?_eq_getElem hlt⟩
          obtain ⟨g, rfl, hg, -, d1, -⟩ := hform i' y hy
          have HY : Hid (textAt ws i' = y.text) := Lib.hid (by unfold textAt; rw [hy])
          have k0 : (0 : Int) ≤ (i' : Int) := by omega
          have k1 : (i' : Int) < (ws.length : Int) := by omega
          have hz1 := HF.out.z1; have hz2 := HF.out.z2; have hz3 := HF.out.z3; have hz0 := HF.out.z0
          have k5 : rb < wa.heap.size := by omega
          have k6 : g < wa.heap.size := by omega
          clear hform hy
          go_region_held3 (fun W => W.cell? ⟨rb, 0, none⟩ = some (.slice (some ⟨g, 0, none⟩) ws.length cap0) ∧ W.cell? ⟨rb, 1, none⟩ = some (.int .i64 i') ∧ W.cell? ⟨rb, 3, none⟩ = some (.bool false) ∧ W.cell? ⟨g, i' * 3 + 1, none⟩ = some (.string y.text) ∧ Below wa.heap.size wa W)
            (first | (with_reducible exact sc_first r0 r1 r3 d1) | (with_reducible assumption) | (with_reducible exact sc_keep5 (by assumption) (Nat.le_refl _) k5 k5 k5 k6) | (with_reducible exact sc_realloc (by assumption) k8 k5 k5 k5 k6) | (with_reducible exact sc_keep (by assumption) (by assumption) k5 k5 k5 k6) | (with_reducible exact sc_keep (by assumption) ((Below.refl _ _).alloc (Nat.le_refl _) _) k5 k5 k5 k6))
            (first | (go_at_call 51; refine (at_r (sc_rd HF.out.rd (by assumption))).mono ?_; rintro e w6 ⟨rfl, hb6⟩; have k8 := sc_le (by assumption) hb6; have n0 := cell_cond wa hb6; have n1 := frozen_cond wa hb6))
          · rename_i hS
            have HB := Lib.hid hS.2.2.2.2
            have HN := Lib.hid (heap_alloc_new w6 (.cells #[.int .i64 6, .int .i64 0, .string y.text, .slice none 0 0, .int .i64 (posAt ws i' en)] 186))
            clear hS n0 n1 hb6
            go_wp2_with fail
            go_meet
            case rel => exact ⟨w6.heap.size, rfl, k8, by rw [HY.out]; exact HN, HB⟩
          · rename_i hS
            have HB := Lib.hid hS.2.2.2.2
            have HN := Lib.hid (set5 (.int .i64 6) (.int .i64 0) (.string y.text) (.slice none 0 0) (.int .i64 (posAt ws i' en)) ((hb6.block wa.heap.size (alloc_drew_lt wa _)).trans (heap_alloc_new wa _)))
            clear hS n0 n1 hb6
            go_wp2_with fail
            go_meet
            case rel => exact ⟨wa.heap.size, rfl, Nat.le_refl _, by rw [HY.out]; exact HN, HB⟩
        case rest =>
          obtain ⟨b6, rfl, hb6, HN, HB⟩ := hcut
          have hz1 := HF.out.z1; have hz2 := HF.out.z2; have hz3 := HF.out.z3; have hz0 := HF.out.z0
          have hlt : i' < ws.length := by
            rcases Nat.lt_or_ge i' ws.length with h | h
            · exact h
            · have := HLV.out; unfold lvAt at this; rw [List.getElem?_eq_none h] at this; simp at this; omega
          have hi : i ≤ i' := HL.out.1
          replace HF := Lib.hid (HF.out.below HB.out)
          replace HA := Lib.hid (ArgsIn.keep (F' := fun g => b4 ≤ g ∧ g ≠ b4 ∧ g ≠ b5 ∧ g < b6) (fun g h1 h2 => ⟨⟨h1.1, h1.2.1, h1.2.2, by omega⟩, Nat.lt_of_lt_of_le h2 HB.out.size, HB.out.block g h2⟩) HA.out)
          clear HB
          have r1 := HF.out.rd.c1; have rf := HF.out.rd.fz 1
          have hn4 := HF.out.rd.len
          go_wp2_with fail
          clear r1 rf
          have HS := Lib.hid (grown_set wc rb 1 (.int .i64 ((i' : Int) + 1)))
          have HR2 := Lib.hid (HF.out.rd.setI (i' + 1) hlt)
          replace HF := Lib.hid (HF.out.step (by exact HR2.out) HS.out)
          replace HA := Lib.hid (ArgsIn.later HA.out (some rb) HS.out (fun g h => by simp; omega) (fun g h => h))
          replace HN := Lib.hid ((HS.out.block b6 (lt_of_some HN.out) (by simp; omega)).trans HN.out)
          clear HS HR2
          generalize wc.setCell ⟨rb, 1, none⟩ _ = w2 at HF HA HN ⊢
          refine (H2.out (i' + 1) (by omega) w2 false HF.out.rd HF.out.gl).mono ?_
          rintro e w7 ⟨y, A7, c7, i3, b3, rfl, hA, hR, hO, hg⟩
          have HA7 := Lib.hid hA; have HO7 := Lib.hid hO
          replace HF := Lib.hid (HF.out.step hR hg)
          replace HA := Lib.hid (ArgsIn.later HA.out (some rb) hg (fun g h => by simp; omega) (fun g h => h))
          have hb62 := lt_of_some HN.out
          replace HN := Lib.hid ((hg.block b6 hb62 (by simp; omega)).trans HN.out)
          have hs7 := hg.size
          clear hA hR hO hg
          go_upto_region 8 with (fail)
          have hb7 : b6 < w7.heap.size := by omega
          have HM := Lib.hid (heap_alloc_new w7 (.cells #[.int .i64 y.kind, .int .i64 y.n, .string y.text, .slice A7 y.args.length c7, .int .i64 y.pos] 186))
          have HA7' : Hid (ArgsIn (w7.alloc (.cells #[.int .i64 y.kind, .int .i64 y.n, .string y.text, .slice A7 y.args.length c7, .int .i64 y.pos] 186)) (fun g => b4 ≤ g ∧ g ≠ b4 ∧ g ≠ b5 ∧ g ≠ b6) (.slice A7 y.args.length c7) y.args) :=
            Lib.hid (HA7.out.keep fun g (h1 : w2.heap.size ≤ g) h2 => ⟨⟨by omega, by omega, by omega, by omega⟩, by simp; omega, heap_alloc_old w7 _ h2⟩)
          have HA' : Hid (ArgsIn (w7.alloc (.cells #[.int .i64 y.kind, .int .i64 y.n, .string y.text, .slice A7 y.args.length c7, .int .i64 y.pos] 186)) (fun g => b4 ≤ g ∧ g ≠ b4 ∧ g ≠ b5 ∧ g ≠ b6) (.slice A1 a.args.length c1) a.args) :=
            Lib.hid (HA.out.keep fun g h1 h2 => ⟨⟨h1.1, h1.2.1, h1.2.2.1, by omega⟩, by simp; omega, heap_alloc_old w7 _ h2⟩)
          replace HF := Lib.hid (HF.out.below (w' := w7.alloc (.cells #[.int .i64 y.kind, .int .i64 y.n, .string y.text, .slice A7 y.args.length c7, .int .i64 y.pos] 186)) ((Below.refl _ _).alloc (Nat.le_refl _) _))
          replace HN := Lib.hid ((heap_alloc_old w7 (.cells #[.int .i64 y.kind, .int .i64 y.n, .string y.text, .slice A7 y.args.length c7, .int .i64 y.pos] 186) hb7).trans HN.out)
          clear HA HA7
          generalize w7.alloc _ = w8 at HF HN HM HA' HA7' ⊢
          generalize w7.heap.size = b7 at HM hb7 ⊢
          obtain ⟨⟨x0, x1, x2, x3, x4⟩, -⟩ := facts5 HF.out.ex
          obtain ⟨⟨m0, m1, m2, m3, m4⟩, -⟩ := facts5 HM.out
          obtain ⟨⟨z0, z1, z2, z3, z4⟩, q0, q1, q2, q3, q4⟩ := facts5 HN.out
          have hb68 := lt_of_some HN.out
          go_upto_region 9 with (fail)
          clear x0 x1 x2 x3 x4 m0 m1 m2 m3 m4 z0 z1 z2 z3 z4 q0 q1 q2 q3 q4
          have HG6 := Lib.hid (grown_trans (grown_set w8 b6 3 (.slice (some ⟨w8.heap.size, 0, none⟩) 2 2)) (grown_of_below ((Below.refl _ _).alloc (Nat.le_refl _) (.cells #[.int .i64 a.kind, .int .i64 a.n, .string a.text, .slice A1 a.args.length c1, .int .i64 a.pos, .int .i64 y.kind, .int .i64 y.n, .string y.text, .slice A7 y.args.length c7, .int .i64 y.pos] 186)) (some b6)))
          have HN9 : Hid (((w8.setCell ⟨b6, 3, none⟩ (.slice (some ⟨w8.heap.size, 0, none⟩) 2 2)).alloc (.cells #[.int .i64 a.kind, .int .i64 a.n, .string a.text, .slice A1 a.args.length c1, .int .i64 a.pos, .int .i64 y.kind, .int .i64 y.n, .string y.text, .slice A7 y.args.length c7, .int .i64 y.pos] 186)).heap[b6]? = some (.cells #[.int .i64 6, .int .i64 0, .string (textAt ws i'), (.slice (some ⟨w8.heap.size, 0, none⟩) 2 2), .int .i64 (posAt ws i' en)] 186 (0, 0))) :=
            Lib.hid ((heap_alloc_old _ _ (by simpa using hb68)).trans (by simpa using heap_setCell_same w8 b6 3 _ _ (.slice (some ⟨w8.heap.size, 0, none⟩) 2 2) HN.out))
          have HB9 : Hid (((w8.setCell ⟨b6, 3, none⟩ (.slice (some ⟨w8.heap.size, 0, none⟩) 2 2)).alloc (.cells #[.int .i64 a.kind, .int .i64 a.n, .string a.text, .slice A1 a.args.length c1, .int .i64 a.pos, .int .i64 y.kind, .int .i64 y.n, .string y.text, .slice A7 y.args.length c7, .int .i64 y.pos] 186)).heap[w8.heap.size]? = some (.cells #[.int .i64 a.kind, .int .i64 a.n, .string a.text, .slice A1 a.args.length c1, .int .i64 a.pos, .int .i64 y.kind, .int .i64 y.n, .string y.text, .slice A7 y.args.length c7, .int .i64 y.pos] 186)) := Lib.hid (by simpa using heap_alloc_new (w8.setCell ⟨b6, 3, none⟩ (.slice (some ⟨w8.heap.size, 0, none⟩) 2 2)) (.cells #[.int .i64 a.kind, .int .i64 a.n, .string a.text, .slice A1 a.args.length c1, .int .i64 a.pos, .int .i64 y.kind, .int .i64 y.n, .string y.text, .slice A7 y.args.length c7, .int .i64 y.pos] 186))
          replace HF := Lib.hid (HF.out.other (k := b6) (by omega) HG6.out)
          have HT2 : Hid (ArgsIn ((w8.setCell ⟨b6, 3, none⟩ (.slice (some ⟨w8.heap.size, 0, none⟩) 2 2)).alloc (.cells #[.int .i64 a.kind, .int .i64 a.n, .string a.text, .slice A1 a.args.length c1, .int .i64 a.pos, .int .i64 y.kind, .int .i64 y.n, .string y.text, .slice A7 y.args.length c7, .int .i64 y.pos] 186)) (fun g => b4 ≤ g ∧ g ≠ b4 ∧ g ≠ b5) (.slice (some ⟨w8.heap.size, 0, none⟩) 2 2) [a, y]) :=
            Lib.hid (args_two HA'.out HA7'.out (fun g h1 h2 => ⟨⟨h1.1, h1.2.1, h1.2.2.1⟩, Nat.lt_of_lt_of_le h2 HG6.out.size, HG6.out.block g h2 (by simp; exact h1.2.2.2)⟩) HB9.out ⟨by omega, by omega, by omega⟩)
          clear HA' HA7' HG6 HB9 HM HN
          generalize ((w8.setCell ⟨b6, 3, none⟩ _).alloc _) = w9 at HF HN9 HT2 ⊢
          generalize w8.heap.size = b8 at HF HN9 HT2 hb68 ⊢
          obtain ⟨⟨z0, z1, z2, z3, z4⟩, -⟩ := facts5 HN9.out
          obtain ⟨⟨x0, x1, x2, x3, x4⟩, y0, y1, y2, y3, y4⟩ := facts5 HF.out.ex
          go_upto_region 10 with (fail)
          clear x0 x1 x2 x3 x4 y0 y1 y2 y3 y4 z0 z1 z2 z3 z4
          have HG9 := Lib.hid (grown5 w9 b5 (.int .i64 6) (.int .i64 0) (.string (textAt ws i')) (.slice (some ⟨b8, 0, none⟩) 2 2) (.int .i64 (posAt ws i' en)))
          replace HF := Lib.hid (((((HF.out.s0 (.int .i64 6)).s1 (.int .i64 0)).s2 (.string (textAt ws i'))).s3 (.slice (some ⟨b8, 0, none⟩) 2 2)).s4 (.int .i64 (posAt ws i' en)))
          replace HT2 := Lib.hid (HT2.out.later (some b5) HG9.out (fun g h => by simp; omega) (fun g h => h))
          clear HG9 HN9
          generalize (((((w9.setCell ⟨b5, 0, none⟩ _).setCell ⟨b5, 1, none⟩ _).setCell ⟨b5, 2, none⟩ _).setCell ⟨b5, 3, none⟩ _).setCell ⟨b5, 4, none⟩ _) = wx at HF HT2 ⊢
          have hi3 : i' + 1 ≤ i3 := HO7.out.1
          by_cases hn3 : n = 3
          · subst hn3
            go_wp2_with fail
            clear HFr
            obtain ⟨wa, rfl⟩ : ∃ wo : World, wo = wx := ⟨_, rfl⟩
            go_cut [105] (fun u W => ∃ t : Bool, u = .bool t ∧ Hid ((lvAt ws i3 == 3) = t) ∧ Hid (Below wa.heap.size wa W))
            case first =>
              have r0 := HF.out.rd.c0; have r1 := HF.out.rd.c1; have r3 := HF.out.rd.c3
              have hn := HF.out.rd.len; have hp := HF.out.rd.pos
              obtain ⟨A0, cap0, rfl, hform⟩ := HF.out.rd.row.form
              have HFm := Lib.hid hform; clear hform
              by_cases hlt : i3 < ws.length
              · obtain ⟨z, hy⟩ : ∃ y, ws[i3]? = some y := ⟨_, List.getElem?_eq_getElem hlt⟩
                obtain ⟨g, rfl, hg, -, d1, -⟩ := HFm.out i3 z hy
                obtain ⟨t, ht⟩ : ∃ t, (lv z.text.data.toList == 3) = t := ⟨_, rfl⟩
                have k0 : (0 : Int) ≤ (i3 : Int) := by omega
                have k1 : (i3 : Int) < (ws.length : Int) := by omega
                have HY : Hid (lvAt ws i3 = lv z.text.data.toList) := Lib.hid (by unfold lvAt; rw [hy])
                have HT := Lib.hid ht
                have HGr := Lib.hid HF.out.gl
                have q1 : rb < wa.heap.size := HF.out.rd.lt
                have q2 : g < wa.heap.size := by omega
                clear hy ht
                go_region_held3 (fun W => W.cell? ⟨rb, 0, none⟩ = some (.slice (some ⟨g, 0, none⟩) ws.length cap0) ∧ W.cell? ⟨rb, 1, none⟩ = some (.int .i64 i3) ∧ W.cell? ⟨rb, 3, none⟩ = some (.bool b3) ∧ W.cell? ⟨g, i3 * 3 + 1, none⟩ = some (.string z.text) ∧ Below wa.heap.size wa W)
                  (first | (with_reducible exact sc_first r0 r1 r3 d1) | (with_reducible assumption) | (with_reducible exact sc_keep (by assumption) (by assumption) q1 q1 q1 q2))
                  (first | (go_at_call 202; refine (signs_c 3 (by decide) (by decide) _ (sc_glob HGr.out (by assumption))).mono ?_; rintro e w5 ⟨⟨g5, rfl, hc5⟩, hb5⟩) | (go_at_call 201; refine (contains_c 3 (by decide) (by decide) g5 z.text _ hc5 t HT.out).mono ?_; rintro e w6 ⟨rfl, rfl⟩))
                rename_i hS
                have HB := Lib.hid hS.2.2.2.2
                clear hS
                go_wp2_with fail
                go_meet
                case rel => exact ⟨t, rfl, Lib.hid (by rw [HY.out]; exact HT.out), HB⟩
              · have HX : Hid (lvAt ws i3 = 0) := Lib.hid (by unfold lvAt; rw [List.getElem?_eq_none (by omega)])
                go_quiet (fail)
                go_wp2_with fail
                go_meet
                case rel => exact ⟨false, rfl, Lib.hid (by rw [HX.out]; decide), Lib.hid (below_drewN (Below.refl _ _) _)⟩
            case rest =>
              obtain ⟨t, rfl, HT, HBW⟩ := hcut
              replace HF := Lib.hid (HF.out.below HBW.out)
              replace HT2 := Lib.hid (ArgsIn.keep (F' := fun g => b4 ≤ g ∧ g ≠ b4 ∧ g ≠ b5) (fun g h1 h2 => ⟨h1, Nat.lt_of_lt_of_le h2 HBW.out.size, HBW.out.block g h2⟩) HT2.out)
              clear HBW
              cases t with
              | false =>
                obtain ⟨⟨z0, z1, z2, z3, z4⟩, q0, q1, q2, q3, q4⟩ := facts5 HF.out.ex
                obtain ⟨⟨d0, d1, d2, d3, d4⟩, g0, g1, g2, g3, g4⟩ := facts5 HF.out.res
                have HW := Lib.hid (set5 (.int .i64 6) (.int .i64 0) (.string (textAt ws i')) (.slice (some ⟨b8, 0, none⟩) 2 2) (.int .i64 (posAt ws i' en)) HF.out.res)
                go_wp2_with fail
                (try simp only [Exit.inBlock, Exit.then])
                refine bodyPost_ret (results_cell_row rfl _ _ b4 _ _ _ _ rfl HW.out Tryz.underlying186 rfl exInfo) rfl ?_
                exact Fr2.ret (x := twoEx ws en i' a y) HF.out HT2.out (fun g h => ⟨by rw [HB4.out]; exact h.1, h.2.1⟩) (HL.out.last HLV.out HO7.out _ (by rw [HT.out]; simp))
              | true =>
                have r3 := HF.out.rd.c3; have rf := HF.out.rd.fz 3
                go_upto_region 13 with (fail)
                clear r3 rf
                have HS := Lib.hid (grown_set wc rb 3 (.bool true))
                replace HF := Lib.hid (HF.out.step HF.out.rd.setB HS.out)
                replace HT2 := Lib.hid (HT2.out.later (some rb) HS.out (fun g h => by simp; omega) (fun g h => h))
                clear HS
                generalize wc.setCell ⟨rb, 3, none⟩ _ = wd at HF HT2 ⊢
                obtain ⟨⟨z0, z1, z2, z3, z4⟩, q0, q1, q2, q3, q4⟩ := facts5 HF.out.ex
                obtain ⟨⟨d0, d1, d2, d3, d4⟩, g0, g1, g2, g3, g4⟩ := facts5 HF.out.res
                have HW := Lib.hid (set5 (.int .i64 6) (.int .i64 0) (.string (textAt ws i')) (.slice (some ⟨b8, 0, none⟩) 2 2) (.int .i64 (posAt ws i' en)) HF.out.res)
                go_wp2_with fail
                (try simp only [Exit.inBlock, Exit.then])
                refine bodyPost_ret (results_cell_row rfl _ _ b4 _ _ _ _ rfl HW.out Tryz.underlying186 rfl exInfo) rfl ?_
                exact Fr2.ret (x := twoEx ws en i' a y) HF.out HT2.out (fun g h => ⟨by rw [HB4.out]; exact h.1, h.2.1⟩) (HL.out.last HLV.out HO7.out _ (by rw [HT.out]; simp))
          · have e3 : ((n : Int) == 3) = false := by simp; omega
            have HN3 := Lib.hid hn3; clear hn3
            go_wp2_with fail
            go_roundw
            case rel => exact ⟨twoEx ws en i' a y, some ⟨b8, 0, none⟩, 2, i3, b3, HF, HT2, Lib.hid (HL.out.next HN3.out HLV.out HO7.out)⟩
            case measure => exact HFr.out.rd.less HF.out.rd (by omega) (fun _ => by omega)
end Go.Proofs.YtmngofgminlloaaGreatDoor

namespace Go.Proofs.YtmngofgminlloaaGreatDoor
open Go.RowKit Tw

def sLet : ByteArray := ⟨#[108, 101, 116]⟩
def sIf : ByteArray := ⟨#[105, 102]⟩
def sWhile : ByteArray := ⟨#[119, 104, 105, 108, 101]⟩
def sReturn : ByteArray := ⟨#[114, 101, 116, 117, 114, 110]⟩
def sYield : ByteArray := ⟨#[121, 105, 101, 108, 100]⟩
def sElse : ByteArray := ⟨#[101, 108, 115, 101]⟩
def sFun : ByteArray := ⟨#[102, 117, 110]⟩
def tInt : ByteArray := ⟨#[105, 110, 116]⟩
def tBool : ByteArray := ⟨#[98, 111, 111, 108]⟩
def sEq : ByteArray := ⟨#[61]⟩
def sSemi : ByteArray := ⟨#[59]⟩
def tColon : ByteArray := ⟨#[58]⟩
def sBra : ByteArray := ⟨#[123]⟩
def sKet : ByteArray := ⟨#[125]⟩
/-- With what a statement begins: its kind. -/
def headS (ws : List Wd) (i : Nat) : Nat :=
  if isAt ws i sLet then 1 else if isAt ws i sIf then 3 else if isAt ws i sWhile then 4 else if isAt ws i sReturn then 5 else if isAt ws i sYield then 6
  else if kindAt ws i = 2 ∧ isAt ws (i + 1) sEq = true then 2 else 7
/-- Where the expression of a statement begins. -/
def exprS (ws : List Wd) (i : Nat) : Nat :=
  if headS ws i = 1 then i + 3 else if headS ws i = 2 then i + 2 else if headS ws i = 7 then i else i + 1
def nameS (ws : List Wd) (i : Nat) : ByteArray :=
  if headS ws i = 1 then textAt ws (i + 1) else if headS ws i = 2 then textAt ws i else sNone

inductive Qs where
  | stmt (i : Nat) | block (i : Nat) | stmts (i : Nat)
inductive Rs where
  | st (s : Sm) (j : Nat) | sts (l : List Sm) (j : Nat) | bad (j : Nat)
def Qs.at : Qs → Nat
  | .stmt i => i | .block i => i | .stmts i => i

/-- What statements are. -/
inductive Ds (ws : List Wd) (en : Nat) : Qs → Rs → Prop
  | letN {i : Nat} : headS ws i = 1 → kindAt ws (i + 1) ≠ 2 → Ds ws en (.stmt i) (.bad (i + 1))
  | letE {i : Nat} : headS ws i = 1 → kindAt ws (i + 1) = 2 → isAt ws (i + 2) sEq = false → Ds ws en (.stmt i) (.bad (i + 2))
  | simpB {i j : Nat} : headS ws i ≠ 3 → headS ws i ≠ 4 → (headS ws i = 1 → kindAt ws (i + 1) = 2 ∧ isAt ws (i + 2) sEq = true) → De ws en (.lvl 1 (exprS ws i)) (.bad j) → Ds ws en (.stmt i) (.bad j)
  | simpC {i j : Nat} {x : Ex} : headS ws i ≠ 3 → headS ws i ≠ 4 → (headS ws i = 1 → kindAt ws (i + 1) = 2 ∧ isAt ws (i + 2) sEq = true) → De ws en (.lvl 1 (exprS ws i)) (.ex x j) → isAt ws j sSemi = false → Ds ws en (.stmt i) (.bad j)
  | simp {i j : Nat} {x : Ex} : headS ws i ≠ 3 → headS ws i ≠ 4 → (headS ws i = 1 → kindAt ws (i + 1) = 2 ∧ isAt ws (i + 2) sEq = true) → De ws en (.lvl 1 (exprS ws i)) (.ex x j) → isAt ws j sSemi = true → Ds ws en (.stmt i) (.st (.mk (headS ws i) (nameS ws i) x [] [] (posAt ws i en)) (j + 1))
  | condB {i j : Nat} : headS ws i = 3 ∨ headS ws i = 4 → De ws en (.lvl 1 (i + 1)) (.bad j) → Ds ws en (.stmt i) (.bad j)
  | condD {i j j' : Nat} {x : Ex} : headS ws i = 3 ∨ headS ws i = 4 → De ws en (.lvl 1 (i + 1)) (.ex x j) → Ds ws en (.block j) (.bad j') → Ds ws en (.stmt i) (.bad j')
  | whil {i j j' : Nat} {x : Ex} {l : List Sm} : headS ws i = 4 → De ws en (.lvl 1 (i + 1)) (.ex x j) → Ds ws en (.block j) (.sts l j') → Ds ws en (.stmt i) (.st (.mk 4 sNone x l [] (posAt ws i en)) j')
  | if0 {i j j' : Nat} {x : Ex} {l : List Sm} : headS ws i = 3 → De ws en (.lvl 1 (i + 1)) (.ex x j) → Ds ws en (.block j) (.sts l j') → isAt ws j' sElse = false → Ds ws en (.stmt i) (.st (.mk 3 sNone x l [] (posAt ws i en)) j')
  | ifE {i j j' k : Nat} {x : Ex} {l m : List Sm} : headS ws i = 3 → De ws en (.lvl 1 (i + 1)) (.ex x j) → Ds ws en (.block j) (.sts l j') → isAt ws j' sElse = true → isAt ws (j' + 1) sIf = false → Ds ws en (.block (j' + 1)) (.sts m k) → Ds ws en (.stmt i) (.st (.mk 3 sNone x l m (posAt ws i en)) k)
  | ifEB {i j j' k : Nat} {x : Ex} {l : List Sm} : headS ws i = 3 → De ws en (.lvl 1 (i + 1)) (.ex x j) → Ds ws en (.block j) (.sts l j') → isAt ws j' sElse = true → isAt ws (j' + 1) sIf = false → Ds ws en (.block (j' + 1)) (.bad k) → Ds ws en (.stmt i) (.bad k)
  | ifI {i j j' k : Nat} {x : Ex} {l : List Sm} {s : Sm} : headS ws i = 3 → De ws en (.lvl 1 (i + 1)) (.ex x j) → Ds ws en (.block j) (.sts l j') → isAt ws j' sElse = true → isAt ws (j' + 1) sIf = true → Ds ws en (.stmt (j' + 1)) (.st s k) → Ds ws en (.stmt i) (.st (.mk 3 sNone x l [s] (posAt ws i en)) k)
  | ifIB {i j j' k : Nat} {x : Ex} {l : List Sm} : headS ws i = 3 → De ws en (.lvl 1 (i + 1)) (.ex x j) → Ds ws en (.block j) (.sts l j') → isAt ws j' sElse = true → isAt ws (j' + 1) sIf = true → Ds ws en (.stmt (j' + 1)) (.bad k) → Ds ws en (.stmt i) (.bad k)
  | blockB {i : Nat} : isAt ws i sBra = false → Ds ws en (.block i) (.bad i)
  | block {i : Nat} {r : Rs} : isAt ws i sBra = true → Ds ws en (.stmts (i + 1)) r → Ds ws en (.block i) r
  | done {i : Nat} : isAt ws i sKet = true → Ds ws en (.stmts i) (.sts [] (i + 1))
  | more {i j j' : Nat} {s : Sm} {l : List Sm} : isAt ws i sKet = false → Ds ws en (.stmt i) (.st s j) → Ds ws en (.stmts j) (.sts l j') → Ds ws en (.stmts i) (.sts (s :: l) j')
  | moreR {i j j' : Nat} {s : Sm} : isAt ws i sKet = false → Ds ws en (.stmt i) (.st s j) → Ds ws en (.stmts j) (.bad j') → Ds ws en (.stmts i) (.bad j')
  | moreB {i j : Nat} : isAt ws i sKet = false → Ds ws en (.stmt i) (.bad j) → Ds ws en (.stmts i) (.bad j)

/-- A type. -/
inductive Rt where
  | ok (t : Int) | bad (j : Nat)
def typF (ws : List Wd) (i : Nat) : Rt :=
  if isAt ws i tColon then (if isAt ws (i + 1) tInt then .ok 1 else if isAt ws (i + 1) tBool then .ok 2 else .bad (i + 1)) else .bad i
/-- Parameters. -/
inductive Rp where
  | ok (names : List ByteArray) (types : List Int) (j : Nat) | bad (j : Nat)
def parAt (k i : Nat) : Nat := if k = 0 then i else i + 1
inductive Dp (ws : List Wd) (en : Nat) : Nat → Nat → Rp → Prop
  | close {k i : Nat} : isAt ws i sClose = true → Dp ws en k i (.ok [] [] (i + 1))
  | comma {k i : Nat} : isAt ws i sClose = false → k ≠ 0 → isAt ws i sComma = false → Dp ws en k i (.bad i)
  | name {k i : Nat} : isAt ws i sClose = false → (k ≠ 0 → isAt ws i sComma = true) → kindAt ws (parAt k i) ≠ 2 → Dp ws en k i (.bad (parAt k i))
  | typ {k i j : Nat} : isAt ws i sClose = false → (k ≠ 0 → isAt ws i sComma = true) → kindAt ws (parAt k i) = 2 → typF ws (parAt k i + 1) = .bad j → Dp ws en k i (.bad j)
  | next {k i j : Nat} {t : Int} {ns : List ByteArray} {ts : List Int} : isAt ws i sClose = false → (k ≠ 0 → isAt ws i sComma = true) → kindAt ws (parAt k i) = 2 → typF ws (parAt k i + 1) = .ok t → Dp ws en (k + 1) (parAt k i + 3) (.ok ns ts j) → Dp ws en k i (.ok (textAt ws (parAt k i) :: ns) (t :: ts) j)
  | nextR {k i j : Nat} {t : Int} : isAt ws i sClose = false → (k ≠ 0 → isAt ws i sComma = true) → kindAt ws (parAt k i) = 2 → typF ws (parAt k i + 1) = .ok t → Dp ws en (k + 1) (parAt k i + 3) (.bad j) → Dp ws en k i (.bad j)
/-- A function. -/
inductive Rf where
  | fn (f : Fn) (j : Nat) | bad (j : Nat)
inductive Df (ws : List Wd) (en : Nat) : Nat → Rf → Prop
  | noFun {i : Nat} : isAt ws i sFun = false → Df ws en i (.bad i)
  | noName {i : Nat} : isAt ws i sFun = true → kindAt ws (i + 1) ≠ 2 → Df ws en i (.bad (i + 1))
  | noOpen {i : Nat} : isAt ws i sFun = true → kindAt ws (i + 1) = 2 → isAt ws (i + 2) sOpen = false → Df ws en i (.bad (i + 2))
  | par {i j : Nat} : isAt ws i sFun = true → kindAt ws (i + 1) = 2 → isAt ws (i + 2) sOpen = true → Dp ws en 0 (i + 3) (.bad j) → Df ws en i (.bad j)
  | typ {i j k : Nat} {ns : List ByteArray} {ts : List Int} : isAt ws i sFun = true → kindAt ws (i + 1) = 2 → isAt ws (i + 2) sOpen = true → Dp ws en 0 (i + 3) (.ok ns ts j) → typF ws j = .bad k → Df ws en i (.bad k)
  | body {i j k : Nat} {t : Int} {ns : List ByteArray} {ts : List Int} : isAt ws i sFun = true → kindAt ws (i + 1) = 2 → isAt ws (i + 2) sOpen = true → Dp ws en 0 (i + 3) (.ok ns ts j) → typF ws j = .ok t → Ds ws en (.block (j + 2)) (.bad k) → Df ws en i (.bad k)
  | fn {i j k : Nat} {t : Int} {ns : List ByteArray} {ts : List Int} {l : List Sm} : isAt ws i sFun = true → kindAt ws (i + 1) = 2 → isAt ws (i + 2) sOpen = true → Dp ws en 0 (i + 3) (.ok ns ts j) → typF ws j = .ok t → Ds ws en (.block (j + 2)) (.sts l k) →
      Df ws en i (.fn { name := textAt ws (i + 1), names := ns, types := ts, out := t, body := l, pos := posAt ws i en } k)
/-- A script. -/
inductive Ru where
  | fns (l : List Fn) | bad (j : Nat)
inductive Du (ws : List Wd) (en : Nat) : Nat → Ru → Prop
  | done {i : Nat} : ws.length ≤ i → Du ws en i (.fns [])
  | more {i j : Nat} {f : Fn} {l : List Fn} : i < ws.length → Df ws en i (.fn f j) → Du ws en j (.fns l) → Du ws en i (.fns (f :: l))
  | moreR {i j k : Nat} {f : Fn} : i < ws.length → Df ws en i (.fn f j) → Du ws en j (.bad k) → Du ws en i (.bad k)
  | moreB {i j : Nat} : i < ws.length → Df ws en i (.bad j) → Du ws en i (.bad j)
end Go.Proofs.YtmngofgminlloaaGreatDoor

namespace Go.Proofs.YtmngofgminlloaaGreatDoor
open Go.RowKit Tw

theorem facts10 {w : World} {b t : Nat} {u0 u1 u2 u3 u4 u5 u6 u7 u8 u9 : Value} (h : w.heap[b]? = some (.cells #[u0, u1, u2, u3, u4, u5, u6, u7, u8, u9] t (0, 0))) :
    (w.cell? ⟨b, 0, none⟩ = some u0 ∧ w.cell? ⟨b, 1, none⟩ = some u1 ∧ w.cell? ⟨b, 2, none⟩ = some u2 ∧ w.cell? ⟨b, 3, none⟩ = some u3 ∧ w.cell? ⟨b, 4, none⟩ = some u4 ∧ w.cell? ⟨b, 5, none⟩ = some u5 ∧ w.cell? ⟨b, 6, none⟩ = some u6 ∧ w.cell? ⟨b, 7, none⟩ = some u7 ∧ w.cell? ⟨b, 8, none⟩ = some u8 ∧ w.cell? ⟨b, 9, none⟩ = some u9) ∧
    w.frozen? ⟨b, 0, none⟩ = false ∧ w.frozen? ⟨b, 1, none⟩ = false ∧ w.frozen? ⟨b, 2, none⟩ = false ∧ w.frozen? ⟨b, 3, none⟩ = false ∧ w.frozen? ⟨b, 4, none⟩ = false ∧ w.frozen? ⟨b, 5, none⟩ = false ∧ w.frozen? ⟨b, 6, none⟩ = false ∧ w.frozen? ⟨b, 7, none⟩ = false ∧ w.frozen? ⟨b, 8, none⟩ = false ∧ w.frozen? ⟨b, 9, none⟩ = false :=
  ⟨⟨Lib.cell_of_heap h 0, Lib.cell_of_heap h 1, Lib.cell_of_heap h 2, Lib.cell_of_heap h 3, Lib.cell_of_heap h 4, Lib.cell_of_heap h 5, Lib.cell_of_heap h 6, Lib.cell_of_heap h 7, Lib.cell_of_heap h 8, Lib.cell_of_heap h 9⟩, Lib.frozen_of_heap h 0, Lib.frozen_of_heap h 1, Lib.frozen_of_heap h 2, Lib.frozen_of_heap h 3, Lib.frozen_of_heap h 4, Lib.frozen_of_heap h 5, Lib.frozen_of_heap h 6, Lib.frozen_of_heap h 7, Lib.frozen_of_heap h 8, Lib.frozen_of_heap h 9⟩
theorem set10 {w : World} {b t : Nat} {u0 u1 u2 u3 u4 u5 u6 u7 u8 u9 : Value} (v0 v1 v2 v3 v4 v5 v6 v7 v8 v9 : Value) (h : w.heap[b]? = some (.cells #[u0, u1, u2, u3, u4, u5, u6, u7, u8, u9] t (0, 0))) :
    ((((((((((w.setCell ⟨b, 0, none⟩ v0).setCell ⟨b, 1, none⟩ v1).setCell ⟨b, 2, none⟩ v2).setCell ⟨b, 3, none⟩ v3).setCell ⟨b, 4, none⟩ v4).setCell ⟨b, 5, none⟩ v5).setCell ⟨b, 6, none⟩ v6).setCell ⟨b, 7, none⟩ v7).setCell ⟨b, 8, none⟩ v8).setCell ⟨b, 9, none⟩ v9).heap[b]? = some (.cells #[v0, v1, v2, v3, v4, v5, v6, v7, v8, v9] t (0, 0)) := by
  have h0 := heap_setCell_same _ b 0 _ _ v0 h
  have h1 := heap_setCell_same _ b 1 _ _ v1 h0
  have h2 := heap_setCell_same _ b 2 _ _ v2 h1
  have h3 := heap_setCell_same _ b 3 _ _ v3 h2
  have h4 := heap_setCell_same _ b 4 _ _ v4 h3
  have h5 := heap_setCell_same _ b 5 _ _ v5 h4
  have h6 := heap_setCell_same _ b 6 _ _ v6 h5
  have h7 := heap_setCell_same _ b 7 _ _ v7 h6
  have h8 := heap_setCell_same _ b 8 _ _ v8 h7
  have h9 := heap_setCell_same _ b 9 _ _ v9 h8
  simpa using h9
theorem grown10 (w : World) (b : Nat) (v0 v1 v2 v3 v4 v5 v6 v7 v8 v9 : Value) : w.grownBy ((((((((((w.setCell ⟨b, 0, none⟩ v0).setCell ⟨b, 1, none⟩ v1).setCell ⟨b, 2, none⟩ v2).setCell ⟨b, 3, none⟩ v3).setCell ⟨b, 4, none⟩ v4).setCell ⟨b, 5, none⟩ v5).setCell ⟨b, 6, none⟩ v6).setCell ⟨b, 7, none⟩ v7).setCell ⟨b, 8, none⟩ v8).setCell ⟨b, 9, none⟩ v9) (some b) :=
  grown_trans (grown_trans (grown_trans (grown_trans (grown_trans (grown_trans (grown_trans (grown_trans (grown_trans (grown_set _ _ _ _) (grown_set _ _ _ _)) (grown_set _ _ _ _)) (grown_set _ _ _ _)) (grown_set _ _ _ _)) (grown_set _ _ _ _)) (grown_set _ _ _ _)) (grown_set _ _ _ _)) (grown_set _ _ _ _)) (grown_set _ _ _ _)
theorem smInfo : (Tryz.prog.info? 188).map (·.size) = some 10 := by kernel_rfl

/-- The frame of stmt(): the reader; the cells of its result (b0), of its statement (b1); what has turned since w0. -/
structure FrS (w0 w : World) (rb b0 b1 : Nat) (v : Value) (ws : List Wd) (i en : Nat) (b : Bool) (u0 u1 u2 u3 u4 u5 u6 u7 u8 u9 : Value) : Prop where
  rd : Rd w rb v ws i en b
  res : w.heap[b0]? = some (.cells #[.int .i64 0, .string ⟨#[]⟩, .int .i64 0, .int .i64 0, .string ⟨#[]⟩, .slice none 0 0, .int .i64 0, .slice none 0 0, .slice none 0 0, .int .i64 0] 188 (0, 0))
  ex : w.heap[b1]? = some (.cells #[u0, u1, u2, u3, u4, u5, u6, u7, u8, u9] 188 (0, 0))
  gr : w0.grownBy w (some rb)
  gl : Glob w
  r0 : 10 < rb
  z0 : rb < w0.heap.size
  z1 : w0.heap.size ≤ b0
  z2 : b0 < b1
  z3 : b1 < w.heap.size
section
variable {w0 w w' : World} {rb b0 b1 : Nat} {v : Value} {ws : List Wd} {i en : Nat} {b : Bool} {u0 u1 u2 u3 u4 u5 u6 u7 u8 u9 : Value}
theorem FrS.step {i' : Nat} {b' : Bool} (h : FrS w0 w rb b0 b1 v ws i en b u0 u1 u2 u3 u4 u5 u6 u7 u8 u9) (hr : Rd w' rb v ws i' en b') (hg : w.grownBy w' (some rb)) : FrS w0 w' rb b0 b1 v ws i' en b' u0 u1 u2 u3 u4 u5 u6 u7 u8 u9 := by
  have h0 := h.z0; have h1 := h.z1; have h2 := h.z2; have h3 := h.z3
  exact ⟨hr, (hg.block b0 (by omega) (by simp; omega)).trans h.res, (hg.block b1 h3 (by simp; omega)).trans h.ex, grown_trans h.gr hg, h.gl.of hg h.r0, h.r0, h0, h1, h2, Nat.lt_of_lt_of_le h3 hg.size⟩
theorem FrS.below (h : FrS w0 w rb b0 b1 v ws i en b u0 u1 u2 u3 u4 u5 u6 u7 u8 u9) (hb : Below w.heap.size w w') : FrS w0 w' rb b0 b1 v ws i en b u0 u1 u2 u3 u4 u5 u6 u7 u8 u9 :=
  h.step (h.rd.keep hb) (grown_of_below hb _)
theorem FrS.set {v0 v1 v2 v3 v4 v5 v6 v7 v8 v9 : Value} (h : FrS w0 w rb b0 b1 v ws i en b u0 u1 u2 u3 u4 u5 u6 u7 u8 u9) (hg : w.grownBy w' (some b1)) (he : w'.heap[b1]? = some (.cells #[v0, v1, v2, v3, v4, v5, v6, v7, v8, v9] 188 (0, 0))) : FrS w0 w' rb b0 b1 v ws i en b v0 v1 v2 v3 v4 v5 v6 v7 v8 v9 := by
  have h0 := h.z0; have h1 := h.z1; have h2 := h.z2; have h3 := h.z3; have hz := h.gr.size
  exact ⟨h.rd.grown hg (by omega), (hg.block b0 (by omega) (by simp; omega)).trans h.res, he, grown_new h.gr hg (by omega), h.gl.same hg.size (fun g hg' => hg.block g (by have := h.r0; omega) (by simp; have := h.r0; omega)), h.r0, h0, h1, h2, Nat.lt_of_lt_of_le h3 hg.size⟩
theorem FrS.s0 (h : FrS w0 w rb b0 b1 v ws i en b u0 u1 u2 u3 u4 u5 u6 u7 u8 u9) (x : Value) : FrS w0 (w.setCell ⟨b1, 0, none⟩ x) rb b0 b1 v ws i en b x u1 u2 u3 u4 u5 u6 u7 u8 u9 := h.set (grown_set _ _ _ _) (by simpa using heap_setCell_same w b1 0 _ _ x h.ex)
theorem FrS.s1 (h : FrS w0 w rb b0 b1 v ws i en b u0 u1 u2 u3 u4 u5 u6 u7 u8 u9) (x : Value) : FrS w0 (w.setCell ⟨b1, 1, none⟩ x) rb b0 b1 v ws i en b u0 x u2 u3 u4 u5 u6 u7 u8 u9 := h.set (grown_set _ _ _ _) (by simpa using heap_setCell_same w b1 1 _ _ x h.ex)
theorem FrS.s2 (h : FrS w0 w rb b0 b1 v ws i en b u0 u1 u2 u3 u4 u5 u6 u7 u8 u9) (x : Value) : FrS w0 (w.setCell ⟨b1, 2, none⟩ x) rb b0 b1 v ws i en b u0 u1 x u3 u4 u5 u6 u7 u8 u9 := h.set (grown_set _ _ _ _) (by simpa using heap_setCell_same w b1 2 _ _ x h.ex)
theorem FrS.s3 (h : FrS w0 w rb b0 b1 v ws i en b u0 u1 u2 u3 u4 u5 u6 u7 u8 u9) (x : Value) : FrS w0 (w.setCell ⟨b1, 3, none⟩ x) rb b0 b1 v ws i en b u0 u1 u2 x u4 u5 u6 u7 u8 u9 := h.set (grown_set _ _ _ _) (by simpa using heap_setCell_same w b1 3 _ _ x h.ex)
theorem FrS.s4 (h : FrS w0 w rb b0 b1 v ws i en b u0 u1 u2 u3 u4 u5 u6 u7 u8 u9) (x : Value) : FrS w0 (w.setCell ⟨b1, 4, none⟩ x) rb b0 b1 v ws i en b u0 u1 u2 u3 x u5 u6 u7 u8 u9 := h.set (grown_set _ _ _ _) (by simpa using heap_setCell_same w b1 4 _ _ x h.ex)
theorem FrS.s5 (h : FrS w0 w rb b0 b1 v ws i en b u0 u1 u2 u3 u4 u5 u6 u7 u8 u9) (x : Value) : FrS w0 (w.setCell ⟨b1, 5, none⟩ x) rb b0 b1 v ws i en b u0 u1 u2 u3 u4 x u6 u7 u8 u9 := h.set (grown_set _ _ _ _) (by simpa using heap_setCell_same w b1 5 _ _ x h.ex)
theorem FrS.s6 (h : FrS w0 w rb b0 b1 v ws i en b u0 u1 u2 u3 u4 u5 u6 u7 u8 u9) (x : Value) : FrS w0 (w.setCell ⟨b1, 6, none⟩ x) rb b0 b1 v ws i en b u0 u1 u2 u3 u4 u5 x u7 u8 u9 := h.set (grown_set _ _ _ _) (by simpa using heap_setCell_same w b1 6 _ _ x h.ex)
theorem FrS.s7 (h : FrS w0 w rb b0 b1 v ws i en b u0 u1 u2 u3 u4 u5 u6 u7 u8 u9) (x : Value) : FrS w0 (w.setCell ⟨b1, 7, none⟩ x) rb b0 b1 v ws i en b u0 u1 u2 u3 u4 u5 u6 x u8 u9 := h.set (grown_set _ _ _ _) (by simpa using heap_setCell_same w b1 7 _ _ x h.ex)
theorem FrS.s8 (h : FrS w0 w rb b0 b1 v ws i en b u0 u1 u2 u3 u4 u5 u6 u7 u8 u9) (x : Value) : FrS w0 (w.setCell ⟨b1, 8, none⟩ x) rb b0 b1 v ws i en b u0 u1 u2 u3 u4 u5 u6 u7 x u9 := h.set (grown_set _ _ _ _) (by simpa using heap_setCell_same w b1 8 _ _ x h.ex)
theorem FrS.start (hR : Rd w rb v ws i en b) (hG : Glob w) (hr : 10 < rb) (hg : w0.grownBy w (some rb)) (h0 : rb < w0.heap.size) (h1 : w0.heap.size ≤ b0) (h2 : b0 < w.heap.size)
    (hz : w.heap[b0]? = some (.cells #[.int .i64 0, .string ⟨#[]⟩, .int .i64 0, .int .i64 0, .string ⟨#[]⟩, .slice none 0 0, .int .i64 0, .slice none 0 0, .slice none 0 0, .int .i64 0] 188 (0, 0))) (u0 u1 u2 u3 u4 u5 u6 u7 u8 u9 : Value) :
    FrS w0 (w.alloc (.cells #[u0, u1, u2, u3, u4, u5, u6, u7, u8, u9] 188)) rb b0 w.heap.size v ws i en b u0 u1 u2 u3 u4 u5 u6 u7 u8 u9 :=
  ⟨hR.keep ((Below.refl _ _).alloc (Nat.le_refl _) _), (heap_alloc_old w _ h2).trans hz, heap_alloc_new w _, grown_trans hg (grown_of_below ((Below.refl _ _).alloc (Nat.le_refl _) _) _), hG.to ((Below.refl _ _).alloc (Nat.le_refl _) _), hr, h0, h1, h2, by simp⟩
end
/-- What the answer of stmt() says. -/
def OutS (ws : List Wd) (en i : Nat) (b : Bool) (s : Sm) (i' : Nat) (b' : Bool) : Prop :=
  i ≤ i' ∧ (b = true → b' = true ∧ i' = i) ∧ (b = false → b' = false → i < i' ∧ Ds ws en (.stmt i) (.st s i')) ∧ (b = false → b' = true → Ds ws en (.stmt i) (.bad i'))
def OutB (ws : List Wd) (en i : Nat) (b : Bool) (l : List Sm) (i' : Nat) (b' : Bool) : Prop :=
  i ≤ i' ∧ (b = true → b' = true ∧ i' = i) ∧ (b = false → b' = false → i < i' ∧ Ds ws en (.block i) (.sts l i')) ∧ (b = false → b' = true → Ds ws en (.block i) (.bad i'))
def RetS (w : World) (rb : Nat) (v : Value) (ws : List Wd) (en i : Nat) (b : Bool) (e : Ending) (w' : World) : Prop :=
  ∃ s Aa ca Ab cb Ae ce i' b', e = .returned (.agg #[.int .i64 s.kind, .string s.name, .int .i64 s.a.kind, .int .i64 s.a.n, .string s.a.text, .slice Aa s.a.args.length ca, .int .i64 s.a.pos, .slice Ab s.body.length cb, .slice Ae s.els.length ce, .int .i64 s.pos]) ∧ ArgsIn w' (fun g => w.heap.size ≤ g) (.slice Aa s.a.args.length ca) s.a.args ∧ StmtsIn w' (fun g => w.heap.size ≤ g) (.slice Ab s.body.length cb) s.body ∧ StmtsIn w' (fun g => w.heap.size ≤ g) (.slice Ae s.els.length ce) s.els ∧
    Rd w' rb v ws i' en b' ∧ OutS ws en i b s i' b' ∧ w.grownBy w' (some rb)
def StmtC (rb : Nat) (v : Value) (ws : List Wd) (en i : Nat) : Prop :=
  ∀ (w : World) (b : Bool), Rd w rb v ws i en b → Glob w → Calls Tryz.prog 108 #[.pointer (some ⟨rb, 0, none⟩)] w fun e w' => RetS w rb v ws en i b e w'
def BlockC (rb : Nat) (v : Value) (ws : List Wd) (en i : Nat) : Prop :=
  ∀ (w : World) (b : Bool), Rd w rb v ws i en b → Glob w → Calls Tryz.prog 56 #[.pointer (some ⟨rb, 0, none⟩)] w fun e w' =>
    ∃ l A c i' b', e = .returned (.slice A l.length c) ∧ StmtsIn w' (fun g => w.heap.size ≤ g) (.slice A l.length c) l ∧ Rd w' rb v ws i' en b' ∧ w.grownBy w' (some rb) ∧ OutB ws en i b l i' b'
theorem StmtsIn.later {w w' : World} {F F' : Nat → Prop} {v : Value} {l : List Sm} (h : StmtsIn w F v l) (row : Option Nat) (hg : w.grownBy w' row) (hk : ∀ g, F g → row ≠ some g) (hF : ∀ g, F g → F' g) : StmtsIn w' F' v l :=
  h.keep fun g h1 h2 => ⟨hF g h1, Nat.lt_of_lt_of_le h2 hg.size, hg.block g h2 (fun e => hk g h1 e.symm)⟩
/-- The answer: the statement's cells are written to the result's. -/
theorem FrS.ret {w0 w : World} {rb b0 b1 : Nat} {v : Value} {ws : List Wd} {i i' en : Nat} {b b' : Bool} {s : Sm} {Aa Ab Ae : Option Addr} {ca cb ce : Nat} {F : Nat → Prop}
    (h : FrS w0 w rb b0 b1 v ws i' en b' (.int .i64 s.kind) (.string s.name) (.int .i64 s.a.kind) (.int .i64 s.a.n) (.string s.a.text) (.slice Aa s.a.args.length ca) (.int .i64 s.a.pos) (.slice Ab s.body.length cb) (.slice Ae s.els.length ce) (.int .i64 s.pos)) (hA : ArgsIn w F (.slice Aa s.a.args.length ca) s.a.args) (hB : StmtsIn w F (.slice Ab s.body.length cb) s.body) (hE : StmtsIn w F (.slice Ae s.els.length ce) s.els) (hF : ∀ g, F g → w0.heap.size ≤ g ∧ g ≠ b0) (hO : OutS ws en i b s i' b') :
    RetS w0 rb v ws en i b (.returned (.agg #[.int .i64 s.kind, .string s.name, .int .i64 s.a.kind, .int .i64 s.a.n, .string s.a.text, .slice Aa s.a.args.length ca, .int .i64 s.a.pos, .slice Ab s.body.length cb, .slice Ae s.els.length ce, .int .i64 s.pos]))
      ((((((((((w.setCell ⟨b0, 0, none⟩ (.int .i64 s.kind)).setCell ⟨b0, 1, none⟩ (.string s.name)).setCell ⟨b0, 2, none⟩ (.int .i64 s.a.kind)).setCell ⟨b0, 3, none⟩ (.int .i64 s.a.n)).setCell ⟨b0, 4, none⟩ (.string s.a.text)).setCell ⟨b0, 5, none⟩ (.slice Aa s.a.args.length ca)).setCell ⟨b0, 6, none⟩ (.int .i64 s.a.pos)).setCell ⟨b0, 7, none⟩ (.slice Ab s.body.length cb)).setCell ⟨b0, 8, none⟩ (.slice Ae s.els.length ce)).setCell ⟨b0, 9, none⟩ (.int .i64 s.pos)) := by
  have hg := grown10 w b0 (.int .i64 s.kind) (.string s.name) (.int .i64 s.a.kind) (.int .i64 s.a.n) (.string s.a.text) (.slice Aa s.a.args.length ca) (.int .i64 s.a.pos) (.slice Ab s.body.length cb) (.slice Ae s.els.length ce) (.int .i64 s.pos)
  have h0 := h.z0; have h1 := h.z1
  exact ⟨s, Aa, ca, Ab, cb, Ae, ce, i', b', rfl, hA.later _ hg (fun g h => by simp; exact fun e => (hF g h).2 e.symm) (fun g h => (hF g h).1), hB.later _ hg (fun g h => by simp; exact fun e => (hF g h).2 e.symm) (fun g h => (hF g h).1), hE.later _ hg (fun g h => by simp; exact fun e => (hF g h).2 e.symm) (fun g h => (hF g h).1), h.rd.grown hg (by omega), hO, grown_new h.gr hg h1⟩
end Go.Proofs.YtmngofgminlloaaGreatDoor

namespace Go.Proofs.YtmngofgminlloaaGreatDoor
open Go.RowKit Tw

/-- The kind of the statement at i, before its name. -/
def HeadK (ws : List Wd) (i : Nat) (b : Bool) (kd i1 : Nat) : Prop :=
  (b = false → kd = headS ws i) ∧ (b = true → kd = 2 ∨ kd = 7) ∧ i1 = (if kd = 2 ∨ kd = 7 then i else i + 1)
def NameR (ws : List Wd) (kd i1 : Nat) (b : Bool) (nm : ByteArray) (i3 : Nat) (b3 : Bool) : Prop :=
  (kd ≤ 2 ∧ ∃ i2 b2, KindS ws (2 : Nat) i1 b nm i2 b2 ∧ WantS ws sEq i2 b2 i3 b3) ∨ (2 < kd ∧ nm = sNone ∧ i3 = i1 ∧ b3 = b)
structure NameD (ws : List Wd) (en i : Nat) (b : Bool) (kd : Nat) (nm : ByteArray) (i3 : Nat) (b3 : Bool) : Prop where
  le : i ≤ i3
  bt : b = true → b3 = true ∧ i3 = i
  ok : b = false → b3 = false → kd = headS ws i ∧ i3 = exprS ws i ∧ nm = nameS ws i ∧ (headS ws i = 1 → kindAt ws (i + 1) = 2 ∧ isAt ws (i + 2) sEq = true)
  bad : b = false → b3 = true → Ds ws en (.stmt i) (.bad i3)
section
variable {ws : List Wd} {en i : Nat} {b : Bool}
theorem headS_ge (ws : List Wd) (i : Nat) : 1 ≤ headS ws i ∧ headS ws i ≤ 7 := by
  unfold headS; repeat' (first | (constructor <;> omega) | split)
theorem headS_two (h : headS ws i = 2) : kindAt ws i = 2 ∧ isAt ws (i + 1) sEq = true := by
  unfold headS at h
  repeat' (first | (exfalso; omega) | (split at h))
  assumption
theorem HeadK.name {kd i1 i3 : Nat} {b3 : Bool} {nm : ByteArray} (hk : HeadK ws i b kd i1) (hn : NameR ws kd i1 b nm i3 b3) : NameD ws en i b kd nm i3 b3 := by
  obtain ⟨k1, k2, k3⟩ := hk
  cases b with
  | true =>
    rcases k2 rfl with rfl | rfl
    · simp at k3; subst k3
      rcases hn with ⟨_, i2, b2, hK, hW⟩ | ⟨h, _⟩
      · rcases kind_cases (by decide) hK with ⟨e, _⟩ | ⟨e, _⟩ | ⟨_, rfl, rfl, rfl⟩
        · cases e
        · cases e
        · rcases want_cases hW with ⟨e, _⟩ | ⟨e, _⟩ | ⟨_, rfl, rfl⟩
          · cases e
          · cases e
          · exact ⟨Nat.le_refl _, fun _ => ⟨rfl, rfl⟩, by simp, by simp⟩
      · omega
    · simp at k3; subst k3
      rcases hn with ⟨h, _⟩ | ⟨_, rfl, rfl, rfl⟩
      · omega
      · exact ⟨Nat.le_refl _, fun _ => ⟨rfl, rfl⟩, by simp, by simp⟩
  | false =>
    have hd := k1 rfl
    have hge := headS_ge ws i
    rcases hn with ⟨h, i2, b2, hK, hW⟩ | ⟨h, rfl, rfl, rfl⟩
    · obtain h1 | h2 : kd = 1 ∨ kd = 2 := by omega
      · have hs : headS ws i = 1 := by omega
        have e1 : i1 = i + 1 := by rw [k3, h1]; simp
        subst e1
        rcases kind_cases (by decide) hK with ⟨_, hk, rfl, rfl, rfl⟩ | ⟨_, hk, rfl, rfl, rfl⟩ | ⟨e, _⟩
        · rcases want_cases hW with ⟨_, ha, rfl, rfl⟩ | ⟨_, ha, rfl, rfl⟩ | ⟨e, _⟩
          · exact ⟨by omega, by simp, fun _ _ => ⟨by omega, by unfold exprS; rw [if_pos hs], by unfold nameS; rw [if_pos hs], fun _ => ⟨hk, ha⟩⟩, by simp⟩
          · exact ⟨by omega, by simp, by simp, fun _ _ => .letE hs hk ha⟩
          · cases e
        · rcases want_cases hW with ⟨e, _⟩ | ⟨e, _⟩ | ⟨_, rfl, rfl⟩
          · cases e
          · cases e
          · exact ⟨by omega, by simp, by simp, fun _ _ => .letN hs hk⟩
        · cases e
      · have hs : headS ws i = 2 := by omega
        obtain ⟨q1, q2⟩ := headS_two hs
        have e1 : i1 = i := by rw [k3, h2]; simp
        subst e1
        rcases kind_cases (by decide) hK with ⟨_, hk, rfl, rfl, rfl⟩ | ⟨_, hk, _⟩ | ⟨e, _⟩
        · rcases want_cases hW with ⟨_, ha, rfl, rfl⟩ | ⟨_, ha, _⟩ | ⟨e, _⟩
          · exact ⟨by omega, by simp, fun _ _ => ⟨by omega, by unfold exprS; rw [if_neg (by omega), if_pos hs], by unfold nameS; rw [if_neg (by omega), if_pos hs], fun e => by omega⟩, by simp⟩
          · rw [q2] at ha; cases ha
          · cases e
        · exact absurd q1 hk
        · cases e
    · refine ⟨?_, by simp, fun _ _ => ⟨hd, ?_, ?_, fun e => by omega⟩, by simp⟩
      · rw [k3]; split <;> omega
      · unfold exprS
        rw [if_neg (by omega), if_neg (by omega), k3]
        by_cases h7 : headS ws i = 7
        · rw [if_pos h7, if_pos (by omega)]
        · rw [if_neg h7, if_neg (by omega)]
      · unfold nameS; rw [if_neg (by omega), if_neg (by omega)]
variable {kd i3 i4 i5 i6 : Nat} {nm : ByteArray} {b3 b4 b5 b6 : Bool} {x : Ex} {l m : List Sm} {s : Sm}
theorem outs_simp (hn : NameD ws en i b kd nm i3 b3) (h3 : kd ≠ 3) (h4 : kd ≠ 4) (hO : OutE ws en (.lvl 1 i3) b3 x i4 b4) (hW : WantS ws sSemi i4 b4 i5 b5) : OutS ws en i b (.mk kd nm x [] [] (posAt ws i en)) i5 b5 := by
  have hle := hn.le
  have h0 := hO.1
  simp only [Qe.at] at h0
  cases b with
  | true =>
    obtain ⟨rfl, rfl⟩ := hn.bt rfl
    obtain ⟨rfl, h⟩ := hO.2.1 rfl
    simp only [Qe.at] at h; subst h
    rcases want_cases hW with ⟨e, _⟩ | ⟨e, _⟩ | ⟨_, rfl, rfl⟩
    · cases e
    · cases e
    · exact ⟨Nat.le_refl _, fun _ => ⟨rfl, rfl⟩, by simp, by simp⟩
  | false =>
    cases b3 with
    | true =>
      obtain ⟨rfl, h⟩ := hO.2.1 rfl
      simp only [Qe.at] at h; subst h
      rcases want_cases hW with ⟨e, _⟩ | ⟨e, _⟩ | ⟨_, rfl, rfl⟩
      · cases e
      · cases e
      · exact ⟨hle, by simp, by simp, fun _ _ => hn.bad rfl rfl⟩
    | false =>
      obtain ⟨rfl, rfl, rfl, hl⟩ := hn.ok rfl rfl
      cases b4 with
      | true =>
        rcases want_cases hW with ⟨e, _⟩ | ⟨e, _⟩ | ⟨_, rfl, rfl⟩
        · cases e
        · cases e
        · exact ⟨by omega, by simp, by simp, fun _ _ => .simpB h3 h4 hl (hO.2.2.2 rfl rfl)⟩
      | false =>
        have hd := (hO.2.2.1 rfl rfl).2
        rcases want_cases hW with ⟨_, ha, rfl, rfl⟩ | ⟨_, ha, rfl, rfl⟩ | ⟨e, _⟩
        · exact ⟨by omega, by simp, fun _ _ => ⟨by omega, .simp h3 h4 hl hd ha⟩, by simp⟩
        · exact ⟨by omega, by simp, by simp, fun _ _ => .simpC h3 h4 hl hd ha⟩
        · cases e
theorem cond_at (hk : NameD ws en i false kd nm i3 b3) (h : NameR ws kd (i + 1) false nm i3 b3) (h34 : kd = 3 ∨ kd = 4) : headS ws i = kd ∧ i3 = i + 1 ∧ b3 = false ∧ nm = sNone := by
  rcases h with ⟨h, _⟩ | ⟨_, h1, h2, h3⟩
  · omega
  · exact ⟨(hk.ok rfl h3).1.symm, h2, h3, h1⟩
theorem outs_body (h34 : headS ws i = 3 ∨ headS ws i = 4) (hO : OutE ws en (.lvl 1 (i + 1)) false x i4 b4) (hB : OutB ws en i4 b4 l i5 b5) :
    (b5 = true → OutS ws en i false s i5 true) ∧ (b5 = false → b4 = false ∧ De ws en (.lvl 1 (i + 1)) (.ex x i4) ∧ Ds ws en (.block i4) (.sts l i5) ∧ i < i5) := by
  have h0 := hO.1
  simp only [Qe.at] at h0
  have h1 := hB.1
  cases b4 with
  | true =>
    obtain ⟨rfl, rfl⟩ := hB.2.1 rfl
    exact ⟨fun _ => ⟨by omega, by simp, by simp, fun _ _ => .condB h34 (hO.2.2.2 rfl rfl)⟩, by simp⟩
  | false =>
    have hd := (hO.2.2.1 rfl rfl).2
    exact ⟨fun e => ⟨by omega, by simp, by simp, fun _ _ => .condD h34 hd (hB.2.2.2 rfl e)⟩, fun e => ⟨rfl, hd, (hB.2.2.1 rfl e).2, by omega⟩⟩
theorem outs_while (h4 : headS ws i = 4) (hO : OutE ws en (.lvl 1 (i + 1)) false x i4 b4) (hB : OutB ws en i4 b4 l i5 b5) : OutS ws en i false (.mk 4 sNone x l [] (posAt ws i en)) i5 b5 := by
  obtain ⟨k1, k2⟩ := outs_body (s := .mk 4 sNone x l [] (posAt ws i en)) (.inr h4) hO hB
  cases b5 with
  | true => exact k1 rfl
  | false =>
    obtain ⟨_, g1, g2, g3⟩ := k2 rfl
    exact ⟨by omega, by simp, fun _ _ => ⟨g3, .whil h4 g1 g2⟩, by simp⟩
theorem outs_if0 (h3 : headS ws i = 3) (hO : OutE ws en (.lvl 1 (i + 1)) false x i4 b4) (hB : OutB ws en i4 b4 l i5 b5) (he : seeB ws i5 b5 sElse = false) : OutS ws en i false (.mk 3 sNone x l [] (posAt ws i en)) i5 b5 := by
  obtain ⟨k1, k2⟩ := outs_body (s := .mk 3 sNone x l [] (posAt ws i en)) (.inl h3) hO hB
  cases b5 with
  | true => exact k1 rfl
  | false =>
    obtain ⟨_, g1, g2, g3⟩ := k2 rfl
    exact ⟨by omega, by simp, fun _ _ => ⟨g3, .if0 h3 g1 g2 (seeB_no he)⟩, by simp⟩
theorem outs_ifI (h3 : headS ws i = 3) (hO : OutE ws en (.lvl 1 (i + 1)) false x i4 b4) (hB : OutB ws en i4 b4 l i5 b5) (he : seeB ws i5 b5 sElse = true) (hi : isAt ws (i5 + 1) sIf = true) (hS : OutS ws en (i5 + 1) false s i6 b6) : OutS ws en i false (.mk 3 sNone x l [s] (posAt ws i en)) i6 b6 := by
  obtain ⟨rfl, ha⟩ := seeB_yes he
  obtain ⟨_, g1, g2, g3⟩ := (outs_body (s := s) (.inl h3) hO hB).2 rfl
  have h1 := hS.1
  exact ⟨by omega, by simp, fun _ e => ⟨by omega, .ifI h3 g1 g2 ha hi (hS.2.2.1 rfl e).2⟩, fun _ e => .ifIB h3 g1 g2 ha hi (hS.2.2.2 rfl e)⟩
theorem outs_ifE (h3 : headS ws i = 3) (hO : OutE ws en (.lvl 1 (i + 1)) false x i4 b4) (hB : OutB ws en i4 b4 l i5 b5) (he : seeB ws i5 b5 sElse = true) (hi : isAt ws (i5 + 1) sIf = false) (hS : OutB ws en (i5 + 1) false m i6 b6) : OutS ws en i false (.mk 3 sNone x l m (posAt ws i en)) i6 b6 := by
  obtain ⟨rfl, ha⟩ := seeB_yes he
  obtain ⟨_, g1, g2, g3⟩ := (outs_body (s := .mk 0 sNone x [] [] 0) (.inl h3) hO hB).2 rfl
  have h1 := hS.1
  exact ⟨by omega, by simp, fun _ e => ⟨by omega, .ifE h3 g1 g2 ha hi (hS.2.2.1 rfl e).2⟩, fun _ e => .ifEB h3 g1 g2 ha hi (hS.2.2.2 rfl e)⟩
end

theorem stmts_one {w W : World} {F0 F : Nat → Prop} {s : Sm} {va vb ve : Value} {n b1 cap T : Nat} (hA : ArgsIn w F0 va s.a.args) (hB : StmtsIn w F0 vb s.body) (hE : StmtsIn w F0 ve s.els) (hg : w.grownBy W (some b1)) (hF0 : ∀ g, F0 g → g ≠ b1 ∧ F g) (hn : W.heap.size = n) (hFn : F n) :
    StmtsIn (W.alloc (.cells #[.int .i64 s.kind, .string s.name, .int .i64 s.a.kind, .int .i64 s.a.n, .string s.a.text, va, .int .i64 s.a.pos, vb, ve, .int .i64 s.pos] T)) F (.slice (some ⟨n, 0, none⟩) 1 cap) [s] := by
  subst hn
  have hk : Keeps F0 F w (W.alloc (.cells #[.int .i64 s.kind, .string s.name, .int .i64 s.a.kind, .int .i64 s.a.n, .string s.a.text, va, .int .i64 s.a.pos, vb, ve, .int .i64 s.pos] T)) := fun g h1 h2 => ⟨(hF0 g h1).2, by have := hg.size; simp; omega, by
    rw [heap_alloc_old W _ (Nat.lt_of_lt_of_le h2 hg.size)]
    exact hg.block g h2 (by simp; exact (hF0 g h1).1)⟩
  refine StmtsIn.of_block [(s, va, vb, ve)] _ rfl (heap_alloc_new W _) hFn fun a ha => ?_
  simp at ha; subst ha
  exact ⟨hA.keep hk, hB.keep hk, hE.keep hk⟩
end Go.Proofs.YtmngofgminlloaaGreatDoor
