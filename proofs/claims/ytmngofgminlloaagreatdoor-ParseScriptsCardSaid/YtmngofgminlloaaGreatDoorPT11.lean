/-
  The program's expr(least), of whatever its callees answer by contract.
  The program's reader's methods for expressions, all of them at once, by how many words are left.
  The frame of the reference's stmt(): blocks of ten cells, and what its methods answer (RetS, StmtC, BlockC).
  The frame of the program's stmt(): blocks of ten cells, and what its methods for statements answer.
  What stmt() has read, by the ways through it, in plain Lean.
  The reference's block(), of whatever its callee answers by contract.
-/
import Derived.Test.YtmngofgminlloaaGreatDoorPT10
import Derived.Test.YtmngofgminlloaaGreatDoorPT09
import Derived.Outline
import Derived.Deep.DeepCutAuto
import Derived.Test.YtmngofgminlloaaGreatDoorPT08
namespace Go.Proofs.YtmngofgminlloaaGreatDoor
open Go.RowKit Tw

theorem lvAt_text (ws : List Wd) (i : Nat) : lvAt ws i = lv (textAt ws i).data.toList := by
  unfold lvAt textAt
  cases ws[i]? <;> rfl

set_option maxRecDepth 100000 in
set_option maxHeartbeats 8000000 in
theorem expr_c (rb : Nat) (v : Value) (ws : List Wd) (en m i : Nat) (hr : 10 < rb) (h1 : UnC rb v ws en i) (h2 : ∀ n j, i < j → ExprC rb v ws en n j) : ExprC rb v ws en m i := by
  intro r hd w h hG
  have H1 := Lib.hid h1; have H2 := Lib.hid h2; have HR := Lib.hid h; have HG := Lib.hid hG; have HD := Lib.hid hd
  have hrl := h.lt
  clear h1 h2 h hG hd
  go_enter Tryz.func224, Tryz.ntmps224
  go_wp2_with fail
  have hal : Below w.heap.size w (w.alloc (.cells #[.int .i64 0, .int .i64 0, .string ⟨#[]⟩, .slice none 0 0, .int .i64 0] 186)) := (Below.refl _ _).alloc (Nat.le_refl _) _
  have hX : (∃ j, r = .bad j ∧ Dc ws en (.one i) (.bad j)) ∨ ∃ a j, Dc ws en (.one i) (.ex a j) ∧ Dc ws en (.rest m a j) r := by
    have h := HD.out
    cases h with
    | ex h1 h2 => exact .inr ⟨_, _, h1, h2⟩
    | exB h => exact .inl ⟨_, rfl, h⟩
  have HA0 := Lib.hid hal; clear hal
  rcases hX with ⟨j, rfl, hy⟩ | ⟨a, j, hy, hm⟩
  · have HY := Lib.hid hy; clear hy
    refine (H1.out _ HY.out _ (HR.out.keep HA0.out) (HG.out.to HA0.out)).mono ?_
    rintro e w1 ⟨rfl, hg⟩
    have HGG := Lib.hid (grown_trans (grown_of_below HA0.out (some rb)) hg); clear hg
    unfold badP
    go_wp2_with fail
    exact ⟨rfl, rfl, HGG.out⟩
  · have HY := Lib.hid hy; have HM := Lib.hid hm; clear hy hm
    have hon : i < j := HY.out.on
    refine (H1.out _ HY.out _ (HR.out.keep HA0.out) (HG.out.to HA0.out)).mono ?_
    rintro e w1 ⟨A, c, rfl, hA, hR, hg⟩
    have hz1 := hg.size
    simp at hz1
    have hF := FrP.start hR ((HG.out.to HA0.out).of hg hr) hr (grown_trans (grown_of_below HA0.out (some rb)) hg) hrl (Nat.le_refl _) (by omega) ((hg.block w.heap.size (by simp) (by simp; omega)).trans (heap_alloc_new w _)) (.int .i64 a.kind) (.int .i64 a.n) (.string a.text) (.slice A a.args.length c) (.int .i64 a.pos)
    have HF := Lib.hid hF
    have HA : Hid (ArgsIn (w1.alloc (.cells #[.int .i64 a.kind, .int .i64 a.n, .string a.text, .slice A a.args.length c, .int .i64 a.pos] 186)) (fun g => w.heap.size ≤ g ∧ g ≠ w.heap.size ∧ g ≠ w1.heap.size) (.slice A a.args.length c) a.args) :=
      Lib.hid (hA.keep fun g h1 h2 => ⟨by simp at h1; omega, by simp; omega, heap_alloc_old w1 _ h2⟩)
    clear hA hR hg hF
    go_upto_block 0 with (fail)
    have hzz : w.heap.size < w1.heap.size := by omega
    generalize w1.alloc _ = W1 at HF HA ⊢
    generalize w1.heap.size = b1 at HF HA hzz ⊢
    obtain ⟨b0, hb0⟩ : ∃ b0, w.heap.size = b0 := ⟨_, rfl⟩
    simp only [hb0] at HF HA hzz
    simp only [hb0]
    have HB0 := Lib.hid hb0; clear hb0
    clear HA0 HY
    go_wp2_with fail
    go_loopw [] (fun wr => ∃ (a : Ex) (A : Option Addr) (c i' : Nat), Hid (FrP w wr rb b0 b1 v ws i' en (.int .i64 a.kind) (.int .i64 a.n) (.string a.text) (.slice A a.args.length c) (.int .i64 a.pos)) ∧ Hid (ArgsIn wr (fun g => b0 ≤ g ∧ g ≠ b0 ∧ g ≠ b1) (.slice A a.args.length c) a.args) ∧ Hid (i < i' ∧ Dc ws en (.rest m a i') r))
      (fun wr => ws.length - placeOf wr rb)
    case atStart => exact ⟨a, A, c, j, HF, HA, Lib.hid ⟨hon, HM.out⟩⟩
    case round =>
      clear HF HA HM hon
      obtain ⟨a, A, c, i', HF, HA, HM⟩ := hrel
      have hpl := HF.out.rd.place
      go_wp2_with fail
      refine (text_p HF.out.rd).mono ?_
      rintro e w2 ⟨rfl, hb⟩
      replace HA := Lib.hid (ArgsIn.later HA.out (some rb) (grown_of_below hb _) (fun g h => by simp; have := HF.out.z0; have := HF.out.z1; omega) (fun g h => h))
      replace HF := Lib.hid (HF.out.below hb)
      clear hb
      go_wp2_with fail
      refine (at_p HF.out.rd).mono ?_
      rintro e w3 ⟨rfl, hb⟩
      replace HA := Lib.hid (ArgsIn.later HA.out (some rb) (grown_of_below hb _) (fun g h => by simp; have := HF.out.z0; have := HF.out.z1; omega) (fun g h => h))
      replace HF := Lib.hid (HF.out.below hb)
      clear hb
      go_wp2_with fail
      refine (level_p _ _).mono ?_
      rintro e w4 ⟨rfl, rfl⟩
      rw [← lvAt_text]
      by_cases hle : lvAt ws i' ≤ m
      · have hx : r = .ex a i' := by
          have h := HM.out.2
          cases h with
          | stop _ => rfl
          | go h => omega
          | goB h => omega
          | cmpB h => omega
        subst hx
        have hle' : (lvAt ws i' : Int) ≤ (m : Int) := by omega
        obtain ⟨⟨c0, c1, c2, c3, c4⟩, f0, f1, f2, f3, f4⟩ := facts5 HF.out.ex
        obtain ⟨⟨d0, d1, d2, d3, d4⟩, g0, g1, g2, g3, g4⟩ := facts5 HF.out.res
        have HW := Lib.hid (set5 (.int .i64 a.kind) (.int .i64 a.n) (.string a.text) (.slice A a.args.length c) (.int .i64 a.pos) HF.out.res)
        go_wp2_with fail
        (try simp only [Exit.inBlock, Exit.then])
        refine bodyPost_ret (results_cell_row rfl _ _ b0 _ _ _ _ rfl HW.out Tryz.underlying186 rfl exInfo) rfl ?_
        exact HF.out.ret HA.out (fun g h => ⟨by have := HB0.out; omega, h.2.1⟩)
      · have hgt : m < lvAt ws i' := by omega
        have hlt : i' < ws.length := by
          rcases Nat.lt_or_ge i' ws.length with h | h
          · exact h
          · unfold lvAt at hgt; rw [List.getElem?_eq_none h] at hgt; simp at hgt
        have hgt' : ¬ (lvAt ws i' : Int) ≤ (m : Int) := by omega
        have r1 := HF.out.rd.c1; have rf := HF.out.rd.fz 1
        have hn4 := HF.out.rd.len
        have hi := HM.out.1
        have hq0 := HF.out.z0; have hq1 := HF.out.z1; have hq2 := HF.out.z2
        clear hle
        go_wp2_with fail
        clear r1 rf
        have HS := Lib.hid (grown_set w3 rb 1 (.int .i64 ((i' : Int) + 1)))
        have HR2 := Lib.hid (HF.out.rd.setI (i' + 1) hlt)
        replace HF := Lib.hid (HF.out.step (by exact HR2.out) HS.out)
        replace HA := Lib.hid (ArgsIn.later HA.out (some rb) HS.out (fun g h => by simp; omega) (fun g h => h))
        clear HS HR2
        generalize w3.setCell ⟨rb, 1, none⟩ _ = w5 at HF HA ⊢
        have hD : (∃ j', r = .bad j' ∧ Dc ws en (.lvl (lvAt ws i') (i' + 1)) (.bad j')) ∨ ∃ y j', Dc ws en (.lvl (lvAt ws i') (i' + 1)) (.ex y j') ∧ ((lvAt ws i' = 3 ∧ lvAt ws j' = 3 ∧ r = .bad j') ∨ (¬ (lvAt ws i' = 3 ∧ lvAt ws j' = 3) ∧ Dc ws en (.rest m (twoEx ws en i' a y) j') r)) := by
          have h := HM.out.2
          cases h with
          | stop h => omega
          | go _ h1 h2 h3 => exact .inr ⟨_, _, h1, .inr ⟨h2, h3⟩⟩
          | goB _ h1 => exact .inl ⟨_, rfl, h1⟩
          | cmpB _ h0 h1 h2 => exact .inr ⟨_, _, h1, .inl ⟨h0, h2, rfl⟩⟩
        rcases hD with ⟨j', rfl, hy⟩ | ⟨y, j', hy, hz⟩
        · have HY := Lib.hid hy; clear hy
          refine (H2.out _ (i' + 1) (by omega) _ HY.out w5 HF.out.rd HF.out.gl).mono ?_
          rintro e w6 ⟨rfl, hg⟩
          have HGG := Lib.hid (grown_trans HF.out.gr hg); clear hg
          unfold badP
          go_wp2_with fail
          exact ⟨rfl, rfl, HGG.out⟩
        · have HY := Lib.hid hy; have HZ := Lib.hid hz; clear hy hz
          have hon : i' + 1 < j' := HY.out.on
          refine (H2.out _ (i' + 1) (by omega) _ HY.out w5 HF.out.rd HF.out.gl).mono ?_
          rintro e w7 ⟨A7, c7, rfl, hA, hR, hg⟩
          have HA7 := Lib.hid hA
          have hq3 := HF.out.z3; have hz5 := HF.out.gr.size; have hs7 := hg.size
          have hb0 := HB0.out
          replace HF := Lib.hid (HF.out.step hR hg)
          replace HA := Lib.hid (ArgsIn.later HA.out (some rb) hg (fun g h => by simp; omega) (fun g h => h))
          clear hA hR hg
          go_upto_region 8 with (fail)
          have HW7 := Lib.hid (heap_alloc_new w7 (.cells #[.int .i64 y.kind, .int .i64 y.n, .string y.text, .slice A7 y.args.length c7, .int .i64 y.pos] 186))
          have HA7' : Hid (ArgsIn (w7.alloc (.cells #[.int .i64 y.kind, .int .i64 y.n, .string y.text, .slice A7 y.args.length c7, .int .i64 y.pos] 186)) (fun g => b0 ≤ g ∧ g ≠ b0 ∧ g ≠ b1) (.slice A7 y.args.length c7) y.args) :=
            Lib.hid (HA7.out.keep fun g (h1 : w5.heap.size ≤ g) h2 => ⟨⟨by omega, by omega, by omega⟩, by simp; omega, heap_alloc_old w7 _ h2⟩)
          have HA' : Hid (ArgsIn (w7.alloc (.cells #[.int .i64 y.kind, .int .i64 y.n, .string y.text, .slice A7 y.args.length c7, .int .i64 y.pos] 186)) (fun g => b0 ≤ g ∧ g ≠ b0 ∧ g ≠ b1) (.slice A a.args.length c) a.args) :=
            Lib.hid (HA.out.keep fun g h1 h2 => ⟨h1, by simp; omega, heap_alloc_old w7 _ h2⟩)
          replace HF := Lib.hid (HF.out.below (w' := w7.alloc (.cells #[.int .i64 y.kind, .int .i64 y.n, .string y.text, .slice A7 y.args.length c7, .int .i64 y.pos] 186)) ((Below.refl _ _).alloc (Nat.le_refl _) _))
          clear HA HA7
          generalize w7.alloc _ = w8 at HF HW7 HA' HA7' ⊢
          generalize w7.heap.size = b7 at HW7 hs7 ⊢
          obtain ⟨⟨x0, x1, x2, x3, x4⟩, y0, y1, y2, y3, y4⟩ := facts5 HF.out.ex
          obtain ⟨⟨m0, m1, m2, m3, m4⟩, -⟩ := facts5 HW7.out
          have hb18 := HF.out.z3
          go_upto_region 9 with (fail)
          clear x0 x1 x2 x3 x4 m0 m1 m2 m3 m4 y0 y1 y2 y3 y4
          have HG5 := Lib.hid (grown5 w8 b1 (.int .i64 6) (.int .i64 0) (.string (textAt ws i')) (.slice (some ⟨w8.heap.size, 0, none⟩) 2 2) (.int .i64 (posAt ws i' en)))
          have hsz : (((((w8.setCell ⟨b1, 0, none⟩ (.int .i64 6)).setCell ⟨b1, 1, none⟩ (.int .i64 0)).setCell ⟨b1, 2, none⟩ (.string (textAt ws i'))).setCell ⟨b1, 3, none⟩ (.slice (some ⟨w8.heap.size, 0, none⟩) 2 2)).setCell ⟨b1, 4, none⟩ (.int .i64 (posAt ws i' en))).heap.size = w8.heap.size := by simp
          have hal : Below (((((w8.setCell ⟨b1, 0, none⟩ (.int .i64 6)).setCell ⟨b1, 1, none⟩ (.int .i64 0)).setCell ⟨b1, 2, none⟩ (.string (textAt ws i'))).setCell ⟨b1, 3, none⟩ (.slice (some ⟨w8.heap.size, 0, none⟩) 2 2)).setCell ⟨b1, 4, none⟩ (.int .i64 (posAt ws i' en))).heap.size (((((w8.setCell ⟨b1, 0, none⟩ (.int .i64 6)).setCell ⟨b1, 1, none⟩ (.int .i64 0)).setCell ⟨b1, 2, none⟩ (.string (textAt ws i'))).setCell ⟨b1, 3, none⟩ (.slice (some ⟨w8.heap.size, 0, none⟩) 2 2)).setCell ⟨b1, 4, none⟩ (.int .i64 (posAt ws i' en))) ((((((w8.setCell ⟨b1, 0, none⟩ (.int .i64 6)).setCell ⟨b1, 1, none⟩ (.int .i64 0)).setCell ⟨b1, 2, none⟩ (.string (textAt ws i'))).setCell ⟨b1, 3, none⟩ (.slice (some ⟨w8.heap.size, 0, none⟩) 2 2)).setCell ⟨b1, 4, none⟩ (.int .i64 (posAt ws i' en))).alloc (.cells #[.int .i64 a.kind, .int .i64 a.n, .string a.text, .slice A a.args.length c, .int .i64 a.pos, .int .i64 y.kind, .int .i64 y.n, .string y.text, .slice A7 y.args.length c7, .int .i64 y.pos] 186)) := (Below.refl _ _).alloc (Nat.le_refl _) _
          have HG6 := Lib.hid (grown_trans HG5.out (grown_of_below hal (some b1)))
          replace HF := Lib.hid ((((((HF.out.s0 (.int .i64 6)).s1 (.int .i64 0)).s2 (.string (textAt ws i'))).s3 (.slice (some ⟨w8.heap.size, 0, none⟩) 2 2)).s4 (.int .i64 (posAt ws i' en))).below hal)
          have HB9 := Lib.hid (heap_alloc_new (((((w8.setCell ⟨b1, 0, none⟩ (.int .i64 6)).setCell ⟨b1, 1, none⟩ (.int .i64 0)).setCell ⟨b1, 2, none⟩ (.string (textAt ws i'))).setCell ⟨b1, 3, none⟩ (.slice (some ⟨w8.heap.size, 0, none⟩) 2 2)).setCell ⟨b1, 4, none⟩ (.int .i64 (posAt ws i' en))) (.cells #[.int .i64 a.kind, .int .i64 a.n, .string a.text, .slice A a.args.length c, .int .i64 a.pos, .int .i64 y.kind, .int .i64 y.n, .string y.text, .slice A7 y.args.length c7, .int .i64 y.pos] 186))
          rw [hsz] at HB9
          have HT2 : Hid (ArgsIn ((((((w8.setCell ⟨b1, 0, none⟩ (.int .i64 6)).setCell ⟨b1, 1, none⟩ (.int .i64 0)).setCell ⟨b1, 2, none⟩ (.string (textAt ws i'))).setCell ⟨b1, 3, none⟩ (.slice (some ⟨w8.heap.size, 0, none⟩) 2 2)).setCell ⟨b1, 4, none⟩ (.int .i64 (posAt ws i' en))).alloc (.cells #[.int .i64 a.kind, .int .i64 a.n, .string a.text, .slice A a.args.length c, .int .i64 a.pos, .int .i64 y.kind, .int .i64 y.n, .string y.text, .slice A7 y.args.length c7, .int .i64 y.pos] 186)) (fun g => b0 ≤ g ∧ g ≠ b0 ∧ g ≠ b1) (.slice (some ⟨w8.heap.size, 0, none⟩) 2 2) [a, y]) :=
            Lib.hid (args_two HA'.out HA7'.out (fun g h1 h2 => ⟨h1, Nat.lt_of_lt_of_le h2 HG6.out.size, HG6.out.block g h2 (by simp; omega)⟩) HB9.out ⟨by omega, by omega, by omega⟩)
          clear HA' HA7' HG5 HG6 HB9 HW7 hal hsz
          generalize (((((w8.setCell ⟨b1, 0, none⟩ (.int .i64 6)).setCell ⟨b1, 1, none⟩ (.int .i64 0)).setCell ⟨b1, 2, none⟩ (.string (textAt ws i'))).setCell ⟨b1, 3, none⟩ (.slice (some ⟨w8.heap.size, 0, none⟩) 2 2)).setCell ⟨b1, 4, none⟩ (.int .i64 (posAt ws i' en))).alloc _ = w9 at HF HT2 ⊢
          generalize w8.heap.size = b8 at HF HT2 hb18 ⊢
          have hpos := HF.out.rd.pos
          by_cases h3 : lvAt ws i' = 3
          · have h3' : (lvAt ws i' : Int) = 3 := by omega
            have H3 := Lib.hid h3; clear h3
            go_wp2_with fail
            refine (text_p HF.out.rd).mono ?_
            rintro e wa ⟨rfl, hb⟩
            replace HT2 := Lib.hid (ArgsIn.later HT2.out (some rb) (grown_of_below hb _) (fun g h => by simp; omega) (fun g h => h))
            replace HF := Lib.hid (HF.out.below hb)
            clear hb
            go_wp2_with fail
            refine (level_p _ _).mono ?_
            rintro e w4 ⟨rfl, rfl⟩
            rw [← lvAt_text]
            by_cases h4 : lvAt ws j' = 3
            · have h4' : (lvAt ws j' : Int) = 3 := by omega
              have hx : r = .bad j' := by
                rcases HZ.out with ⟨_, _, h⟩ | ⟨h, _⟩
                · exact h
                · exact absurd ⟨H3.out, h4⟩ h
              subst hx
              go_wp2_with fail
              refine (at_p HF.out.rd).mono ?_
              rintro e w5 ⟨rfl, hb⟩
              replace HF := Lib.hid (HF.out.below hb)
              clear hb
              go_wp2_with fail
              exact ⟨rfl, rfl, HF.out.gr⟩
            · have h4' : ¬ (lvAt ws j' : Int) = 3 := by omega
              have hm : Dc ws en (.rest m (twoEx ws en i' a y) j') r := by
                rcases HZ.out with ⟨_, h, _⟩ | ⟨_, h⟩
                · exact absurd h h4
                · exact h
              have HM2 := Lib.hid hm; clear hm
              go_wp2_with fail
              go_roundw
              case rel => exact ⟨twoEx ws en i' a y, some ⟨b8, 0, none⟩, 2, j', HF, HT2, Lib.hid ⟨by omega, HM2.out⟩⟩
              case measure => rw [HF.out.rd.place, hpl]; omega
          · have h3' : ¬ (lvAt ws i' : Int) = 3 := by omega
            have hm : Dc ws en (.rest m (twoEx ws en i' a y) j') r := by
              rcases HZ.out with ⟨h, _, _⟩ | ⟨_, h⟩
              · exact absurd h h3
              · exact h
            have HM2 := Lib.hid hm; clear hm
            go_wp2_with fail
            go_roundw
            case rel => exact ⟨twoEx ws en i' a y, some ⟨b8, 0, none⟩, 2, j', HF, HT2, Lib.hid ⟨by omega, HM2.out⟩⟩
            case measure => rw [HF.out.rd.place, hpl]; omega
end Go.Proofs.YtmngofgminlloaaGreatDoor

namespace Go.Proofs.YtmngofgminlloaaGreatDoor
open Go.RowKit Tw

theorem knot_p (rb : Nat) (v : Value) (ws : List Wd) (en : Nat) (hr : 10 < rb) (hN : NumsOk ws) : ∀ k i, ws.length < i + k →
    UnC rb v ws en i ∧ AtomC rb v ws en i ∧ (∀ m, ExprC rb v ws en m i) ∧ ArgsP rb v ws en i := by
  intro k
  induction k with
  | zero =>
    intro i hi
    exact ⟨fun _ _ w h => absurd h.pos (by omega), fun _ _ _ _ w h => absurd h.pos (by omega), fun _ _ _ w h => absurd h.pos (by omega), fun _ _ w h => absurd h.pos (by omega)⟩
  | succ k ih =>
    intro i hi
    have later : ∀ j, i < j → UnC rb v ws en j ∧ AtomC rb v ws en j ∧ (∀ m, ExprC rb v ws en m j) ∧ ArgsP rb v ws en j := fun j hj => ih j (by omega)
    have ha := atom_c rb v ws en i hN hr ((later (i + 1) (by omega)).2.2.1 0) (fun j hj => (later j hj).2.2.2)
    have hu := un_c rb v ws en i hr (later (i + 1) (by omega)).1 ha
    have he : ∀ m, ExprC rb v ws en m i := fun m => expr_c rb v ws en m i hr hu (fun n j hj => (later j hj).2.2.1 n)
    refine ⟨hu, ha, he, args_p rb v ws en i hr fun j hj => ?_⟩
    rcases Nat.eq_or_lt_of_le hj with rfl | hj
    · exact he 0
    · exact (later j hj).2.2.1 0
/-- expr(0) at i makes what the words say. -/
theorem expr_r (rb : Nat) (v : Value) (ws : List Wd) (en i m : Nat) (hr : 10 < rb) (hN : NumsOk ws) : ExprC rb v ws en m i := (knot_p rb v ws en hr hN (ws.length + 1) i (by omega)).2.2.1 m
end Go.Proofs.YtmngofgminlloaaGreatDoor

namespace Go.Proofs.YtmngofgminlloaaGreatDoor
open Go.RowKit Tw

theorem facts10 {w : World} {b t : Nat} {u0 u1 u2 u3 u4 u5 u6 u7 u8 u9 : Value} (h : w.heap[b]? = some (.cells #[u0, u1, u2, u3, u4, u5, u6, u7, u8, u9] t (0, 0))) :
    (w.cell? ⟨b, 0, none⟩ = some u0 ∧ w.cell? ⟨b, 1, none⟩ = some u1 ∧ w.cell? ⟨b, 2, none⟩ = some u2 ∧ w.cell? ⟨b, 3, none⟩ = some u3 ∧ w.cell? ⟨b, 4, none⟩ = some u4 ∧ w.cell? ⟨b, 5, none⟩ = some u5 ∧ w.cell? ⟨b, 6, none⟩ = some u6 ∧ w.cell? ⟨b, 7, none⟩ = some u7 ∧ w.cell? ⟨b, 8, none⟩ = some u8 ∧ w.cell? ⟨b, 9, none⟩ = some u9) ∧
    w.frozen? ⟨b, 0, none⟩ = false ∧ w.frozen? ⟨b, 1, none⟩ = false ∧ w.frozen? ⟨b, 2, none⟩ = false ∧ w.frozen? ⟨b, 3, none⟩ = false ∧ w.frozen? ⟨b, 4, none⟩ = false ∧ w.frozen? ⟨b, 5, none⟩ = false ∧ w.frozen? ⟨b, 6, none⟩ = false ∧ w.frozen? ⟨b, 7, none⟩ = false ∧ w.frozen? ⟨b, 8, none⟩ = false ∧ w.frozen? ⟨b, 9, none⟩ = false :=
  ⟨⟨Lib.cell_of_heap h 0, Lib.cell_of_heap h 1, Lib.cell_of_heap h 2, Lib.cell_of_heap h 3, Lib.cell_of_heap h 4, Lib.cell_of_heap h 5, Lib.cell_of_heap h 6, Lib.cell_of_heap h 7, Lib.cell_of_heap h 8, Lib.cell_of_heap h 9⟩, Lib.frozen_of_heap h 0, Lib.frozen_of_heap h 1, Lib.frozen_of_heap h 2, Lib.frozen_of_heap h 3, Lib.frozen_of_heap h 4, Lib.frozen_of_heap h 5, Lib.frozen_of_heap h 6, Lib.frozen_of_heap h 7, Lib.frozen_of_heap h 8, Lib.frozen_of_heap h 9⟩
theorem set10 {w : World} {b t : Nat} {u0 u1 u2 u3 u4 u5 u6 u7 u8 u9 : Value} (v0 v1 v2 v3 v4 v5 v6 v7 v8 v9 : Value) (h : w.heap[b]? = some (.cells #[u0, u1, u2, u3, u4, u5, u6, u7, u8, u9] t (0, 0))) :
    ((((((((((w.setCell ⟨b, 0, none⟩ v0).setCell ⟨b, 1, none⟩ v1).setCell ⟨b, 2, none⟩ v2).setCell ⟨b, 3, none⟩ v3).setCell ⟨b, 4, none⟩ v4).setCell ⟨b, 5, none⟩ v5).setCell ⟨b, 6, none⟩ v6).setCell ⟨b, 7, none⟩ v7).setCell ⟨b, 8, none⟩ v8).setCell ⟨b, 9, none⟩ v9).heap[b]? = some (.cells #[v0, v1, v2, v3, v4, v5, v6, v7, v8, v9] t (0, 0)) := by
  have h0 := heap_setCell_same _ b 0 _ _ v0 h
  have h1 := heap_setCell_same _ b 1 _ _ v1 h0
  have h2 := heap_setCell_same _ b 2 _ _ v2 h1
  have h3 := heap_setCell_same _ b 3 _ _ v3 h2
  have h4 := heap_setCell_same _ b 4 _ _ v4 h3
  have h5 := heap_setCell_same _ b 5 _ _ v5 h4
  have h6 := heap_setCell_same _ b 6 _ _ v6 h5
  have h7 := heap_setCell_same _ b 7 _ _ v7 h6
  have h8 := heap_setCell_same _ b 8 _ _ v8 h7
  have h9 := heap_setCell_same _ b 9 _ _ v9 h8
  simpa using h9
theorem grown10 (w : World) (b : Nat) (v0 v1 v2 v3 v4 v5 v6 v7 v8 v9 : Value) : w.grownBy ((((((((((w.setCell ⟨b, 0, none⟩ v0).setCell ⟨b, 1, none⟩ v1).setCell ⟨b, 2, none⟩ v2).setCell ⟨b, 3, none⟩ v3).setCell ⟨b, 4, none⟩ v4).setCell ⟨b, 5, none⟩ v5).setCell ⟨b, 6, none⟩ v6).setCell ⟨b, 7, none⟩ v7).setCell ⟨b, 8, none⟩ v8).setCell ⟨b, 9, none⟩ v9) (some b) :=
  grown_trans (grown_trans (grown_trans (grown_trans (grown_trans (grown_trans (grown_trans (grown_trans (grown_trans (grown_set _ _ _ _) (grown_set _ _ _ _)) (grown_set _ _ _ _)) (grown_set _ _ _ _)) (grown_set _ _ _ _)) (grown_set _ _ _ _)) (grown_set _ _ _ _)) (grown_set _ _ _ _)) (grown_set _ _ _ _)) (grown_set _ _ _ _)
theorem smInfo : (Tryz.prog.info? 188).map (·.size) = some 10 := by kernel_rfl

/-- The frame of stmt(): the reader; the cells of its result (b0), of its statement (b1); what has turned since w0. -/
structure FrS (w0 w : World) (rb b0 b1 : Nat) (v : Value) (ws : List Wd) (i en : Nat) (b : Bool) (u0 u1 u2 u3 u4 u5 u6 u7 u8 u9 : Value) : Prop where
  rd : Rd w rb v ws i en b
  res : w.heap[b0]? = some (.cells #[.int .i64 0, .string ⟨#[]⟩, .int .i64 0, .int .i64 0, .string ⟨#[]⟩, .slice none 0 0, .int .i64 0, .slice none 0 0, .slice none 0 0, .int .i64 0] 188 (0, 0))
  ex : w.heap[b1]? = some (.cells #[u0, u1, u2, u3, u4, u5, u6, u7, u8, u9] 188 (0, 0))
  gr : w0.grownBy w (some rb)
  gl : Glob w
  r0 : 10 < rb
  z0 : rb < w0.heap.size
  z1 : w0.heap.size ≤ b0
  z2 : b0 < b1
  z3 : b1 < w.heap.size
section
variable {w0 w w' : World} {rb b0 b1 : Nat} {v : Value} {ws : List Wd} {i en : Nat} {b : Bool} {u0 u1 u2 u3 u4 u5 u6 u7 u8 u9 : Value}
theorem FrS.step {i' : Nat} {b' : Bool} (h : FrS w0 w rb b0 b1 v ws i en b u0 u1 u2 u3 u4 u5 u6 u7 u8 u9) (hr : Rd w' rb v ws i' en b') (hg : w.grownBy w' (some rb)) : FrS w0 w' rb b0 b1 v ws i' en b' u0 u1 u2 u3 u4 u5 u6 u7 u8 u9 := by
  have h0 := h.z0; have h1 := h.z1; have h2 := h.z2; have h3 := h.z3
  exact ⟨hr, (hg.block b0 (by omega) (by simp; omega)).trans h.res, (hg.block b1 h3 (by simp; omega)).trans h.ex, grown_trans h.gr hg, h.gl.of hg h.r0, h.r0, h0, h1, h2, Nat.lt_of_lt_of_le h3 hg.size⟩
theorem FrS.below (h : FrS w0 w rb b0 b1 v ws i en b u0 u1 u2 u3 u4 u5 u6 u7 u8 u9) (hb : Below w.heap.size w w') : FrS w0 w' rb b0 b1 v ws i en b u0 u1 u2 u3 u4 u5 u6 u7 u8 u9 :=
  h.step (h.rd.keep hb) (grown_of_below hb _)
theorem FrS.set {v0 v1 v2 v3 v4 v5 v6 v7 v8 v9 : Value} (h : FrS w0 w rb b0 b1 v ws i en b u0 u1 u2 u3 u4 u5 u6 u7 u8 u9) (hg : w.grownBy w' (some b1)) (he : w'.heap[b1]? = some (.cells #[v0, v1, v2, v3, v4, v5, v6, v7, v8, v9] 188 (0, 0))) : FrS w0 w' rb b0 b1 v ws i en b v0 v1 v2 v3 v4 v5 v6 v7 v8 v9 := by
  have h0 := h.z0; have h1 := h.z1; have h2 := h.z2; have h3 := h.z3; have hz := h.gr.size
  exact ⟨h.rd.grown hg (by omega), (hg.block b0 (by omega) (by simp; omega)).trans h.res, he, grown_new h.gr hg (by omega), h.gl.same hg.size (fun g hg' => hg.block g (by have := h.r0; omega) (by simp; have := h.r0; omega)), h.r0, h0, h1, h2, Nat.lt_of_lt_of_le h3 hg.size⟩
theorem FrS.s0 (h : FrS w0 w rb b0 b1 v ws i en b u0 u1 u2 u3 u4 u5 u6 u7 u8 u9) (x : Value) : FrS w0 (w.setCell ⟨b1, 0, none⟩ x) rb b0 b1 v ws i en b x u1 u2 u3 u4 u5 u6 u7 u8 u9 := h.set (grown_set _ _ _ _) (by simpa using heap_setCell_same w b1 0 _ _ x h.ex)
theorem FrS.s1 (h : FrS w0 w rb b0 b1 v ws i en b u0 u1 u2 u3 u4 u5 u6 u7 u8 u9) (x : Value) : FrS w0 (w.setCell ⟨b1, 1, none⟩ x) rb b0 b1 v ws i en b u0 x u2 u3 u4 u5 u6 u7 u8 u9 := h.set (grown_set _ _ _ _) (by simpa using heap_setCell_same w b1 1 _ _ x h.ex)
theorem FrS.s2 (h : FrS w0 w rb b0 b1 v ws i en b u0 u1 u2 u3 u4 u5 u6 u7 u8 u9) (x : Value) : FrS w0 (w.setCell ⟨b1, 2, none⟩ x) rb b0 b1 v ws i en b u0 u1 x u3 u4 u5 u6 u7 u8 u9 := h.set (grown_set _ _ _ _) (by simpa using heap_setCell_same w b1 2 _ _ x h.ex)
theorem FrS.s3 (h : FrS w0 w rb b0 b1 v ws i en b u0 u1 u2 u3 u4 u5 u6 u7 u8 u9) (x : Value) : FrS w0 (w.setCell ⟨b1, 3, none⟩ x) rb b0 b1 v ws i en b u0 u1 u2 x u4 u5 u6 u7 u8 u9 := h.set (grown_set _ _ _ _) (by simpa using heap_setCell_same w b1 3 _ _ x h.ex)
theorem FrS.s4 (h : FrS w0 w rb b0 b1 v ws i en b u0 u1 u2 u3 u4 u5 u6 u7 u8 u9) (x : Value) : FrS w0 (w.setCell ⟨b1, 4, none⟩ x) rb b0 b1 v ws i en b u0 u1 u2 u3 x u5 u6 u7 u8 u9 := h.set (grown_set _ _ _ _) (by simpa using heap_setCell_same w b1 4 _ _ x h.ex)
theorem FrS.s5 (h : FrS w0 w rb b0 b1 v ws i en b u0 u1 u2 u3 u4 u5 u6 u7 u8 u9) (x : Value) : FrS w0 (w.setCell ⟨b1, 5, none⟩ x) rb b0 b1 v ws i en b u0 u1 u2 u3 u4 x u6 u7 u8 u9 := h.set (grown_set _ _ _ _) (by simpa using heap_setCell_same w b1 5 _ _ x h.ex)
theorem FrS.s6 (h : FrS w0 w rb b0 b1 v ws i en b u0 u1 u2 u3 u4 u5 u6 u7 u8 u9) (x : Value) : FrS w0 (w.setCell ⟨b1, 6, none⟩ x) rb b0 b1 v ws i en b u0 u1 u2 u3 u4 u5 x u7 u8 u9 := h.set (grown_set _ _ _ _) (by simpa using heap_setCell_same w b1 6 _ _ x h.ex)
theorem FrS.s7 (h : FrS w0 w rb b0 b1 v ws i en b u0 u1 u2 u3 u4 u5 u6 u7 u8 u9) (x : Value) : FrS w0 (w.setCell ⟨b1, 7, none⟩ x) rb b0 b1 v ws i en b u0 u1 u2 u3 u4 u5 u6 x u8 u9 := h.set (grown_set _ _ _ _) (by simpa using heap_setCell_same w b1 7 _ _ x h.ex)
theorem FrS.s8 (h : FrS w0 w rb b0 b1 v ws i en b u0 u1 u2 u3 u4 u5 u6 u7 u8 u9) (x : Value) : FrS w0 (w.setCell ⟨b1, 8, none⟩ x) rb b0 b1 v ws i en b u0 u1 u2 u3 u4 u5 u6 u7 x u9 := h.set (grown_set _ _ _ _) (by simpa using heap_setCell_same w b1 8 _ _ x h.ex)
theorem FrS.s9 (h : FrS w0 w rb b0 b1 v ws i en b u0 u1 u2 u3 u4 u5 u6 u7 u8 u9) (x : Value) : FrS w0 (w.setCell ⟨b1, 9, none⟩ x) rb b0 b1 v ws i en b u0 u1 u2 u3 u4 u5 u6 u7 u8 x := h.set (grown_set _ _ _ _) (by simpa using heap_setCell_same w b1 9 _ _ x h.ex)
theorem FrS.start (hR : Rd w rb v ws i en b) (hG : Glob w) (hr : 10 < rb) (hg : w0.grownBy w (some rb)) (h0 : rb < w0.heap.size) (h1 : w0.heap.size ≤ b0) (h2 : b0 < w.heap.size)
    (hz : w.heap[b0]? = some (.cells #[.int .i64 0, .string ⟨#[]⟩, .int .i64 0, .int .i64 0, .string ⟨#[]⟩, .slice none 0 0, .int .i64 0, .slice none 0 0, .slice none 0 0, .int .i64 0] 188 (0, 0))) (u0 u1 u2 u3 u4 u5 u6 u7 u8 u9 : Value) :
    FrS w0 (w.alloc (.cells #[u0, u1, u2, u3, u4, u5, u6, u7, u8, u9] 188)) rb b0 w.heap.size v ws i en b u0 u1 u2 u3 u4 u5 u6 u7 u8 u9 :=
  ⟨hR.keep ((Below.refl _ _).alloc (Nat.le_refl _) _), (heap_alloc_old w _ h2).trans hz, heap_alloc_new w _, grown_trans hg (grown_of_below ((Below.refl _ _).alloc (Nat.le_refl _) _) _), hG.to ((Below.refl _ _).alloc (Nat.le_refl _) _), hr, h0, h1, h2, by simp⟩
end
/-- What the answer of stmt() says. -/
def OutS (ws : List Wd) (en i : Nat) (b : Bool) (s : Sm) (i' : Nat) (b' : Bool) : Prop :=
  i ≤ i' ∧ (b = true → b' = true ∧ i' = i) ∧ (b = false → b' = false → i < i' ∧ Ds ws en (.stmt i) (.st s i')) ∧ (b = false → b' = true → Ds ws en (.stmt i) (.bad i'))
def OutB (ws : List Wd) (en i : Nat) (b : Bool) (l : List Sm) (i' : Nat) (b' : Bool) : Prop :=
  i ≤ i' ∧ (b = true → b' = true ∧ i' = i) ∧ (b = false → b' = false → i < i' ∧ Ds ws en (.block i) (.sts l i')) ∧ (b = false → b' = true → Ds ws en (.block i) (.bad i'))
def RetS (w : World) (rb : Nat) (v : Value) (ws : List Wd) (en i : Nat) (b : Bool) (e : Ending) (w' : World) : Prop :=
  ∃ s Aa ca Ab cb Ae ce i' b', e = .returned (.agg #[.int .i64 s.kind, .string s.name, .int .i64 s.a.kind, .int .i64 s.a.n, .string s.a.text, .slice Aa s.a.args.length ca, .int .i64 s.a.pos, .slice Ab s.body.length cb, .slice Ae s.els.length ce, .int .i64 s.pos]) ∧ ArgsIn w' (fun g => w.heap.size ≤ g) (.slice Aa s.a.args.length ca) s.a.args ∧ StmtsIn w' (fun g => w.heap.size ≤ g) (.slice Ab s.body.length cb) s.body ∧ StmtsIn w' (fun g => w.heap.size ≤ g) (.slice Ae s.els.length ce) s.els ∧
    Rd w' rb v ws i' en b' ∧ OutS ws en i b s i' b' ∧ w.grownBy w' (some rb)
def StmtC (rb : Nat) (v : Value) (ws : List Wd) (en i : Nat) : Prop :=
  ∀ (w : World) (b : Bool), Rd w rb v ws i en b → Glob w → Calls Tryz.prog 108 #[.pointer (some ⟨rb, 0, none⟩)] w fun e w' => RetS w rb v ws en i b e w'
def BlockC (rb : Nat) (v : Value) (ws : List Wd) (en i : Nat) : Prop :=
  ∀ (w : World) (b : Bool), Rd w rb v ws i en b → Glob w → Calls Tryz.prog 56 #[.pointer (some ⟨rb, 0, none⟩)] w fun e w' =>
    ∃ l A c i' b', e = .returned (.slice A l.length c) ∧ StmtsIn w' (fun g => w.heap.size ≤ g) (.slice A l.length c) l ∧ Rd w' rb v ws i' en b' ∧ w.grownBy w' (some rb) ∧ OutB ws en i b l i' b'
theorem StmtsIn.later {w w' : World} {F F' : Nat → Prop} {v : Value} {l : List Sm} (h : StmtsIn w F v l) (row : Option Nat) (hg : w.grownBy w' row) (hk : ∀ g, F g → row ≠ some g) (hF : ∀ g, F g → F' g) : StmtsIn w' F' v l :=
  h.keep fun g h1 h2 => ⟨hF g h1, Nat.lt_of_lt_of_le h2 hg.size, hg.block g h2 (fun e => hk g h1 e.symm)⟩
/-- The answer: the statement's cells are written to the result's. -/
theorem FrS.ret {w0 w : World} {rb b0 b1 : Nat} {v : Value} {ws : List Wd} {i i' en : Nat} {b b' : Bool} {s : Sm} {Aa Ab Ae : Option Addr} {ca cb ce : Nat} {F : Nat → Prop}
    (h : FrS w0 w rb b0 b1 v ws i' en b' (.int .i64 s.kind) (.string s.name) (.int .i64 s.a.kind) (.int .i64 s.a.n) (.string s.a.text) (.slice Aa s.a.args.length ca) (.int .i64 s.a.pos) (.slice Ab s.body.length cb) (.slice Ae s.els.length ce) (.int .i64 s.pos)) (hA : ArgsIn w F (.slice Aa s.a.args.length ca) s.a.args) (hB : StmtsIn w F (.slice Ab s.body.length cb) s.body) (hE : StmtsIn w F (.slice Ae s.els.length ce) s.els) (hF : ∀ g, F g → w0.heap.size ≤ g ∧ g ≠ b0) (hO : OutS ws en i b s i' b') :
    RetS w0 rb v ws en i b (.returned (.agg #[.int .i64 s.kind, .string s.name, .int .i64 s.a.kind, .int .i64 s.a.n, .string s.a.text, .slice Aa s.a.args.length ca, .int .i64 s.a.pos, .slice Ab s.body.length cb, .slice Ae s.els.length ce, .int .i64 s.pos]))
      ((((((((((w.setCell ⟨b0, 0, none⟩ (.int .i64 s.kind)).setCell ⟨b0, 1, none⟩ (.string s.name)).setCell ⟨b0, 2, none⟩ (.int .i64 s.a.kind)).setCell ⟨b0, 3, none⟩ (.int .i64 s.a.n)).setCell ⟨b0, 4, none⟩ (.string s.a.text)).setCell ⟨b0, 5, none⟩ (.slice Aa s.a.args.length ca)).setCell ⟨b0, 6, none⟩ (.int .i64 s.a.pos)).setCell ⟨b0, 7, none⟩ (.slice Ab s.body.length cb)).setCell ⟨b0, 8, none⟩ (.slice Ae s.els.length ce)).setCell ⟨b0, 9, none⟩ (.int .i64 s.pos)) := by
  have hg := grown10 w b0 (.int .i64 s.kind) (.string s.name) (.int .i64 s.a.kind) (.int .i64 s.a.n) (.string s.a.text) (.slice Aa s.a.args.length ca) (.int .i64 s.a.pos) (.slice Ab s.body.length cb) (.slice Ae s.els.length ce) (.int .i64 s.pos)
  have h0 := h.z0; have h1 := h.z1
  exact ⟨s, Aa, ca, Ab, cb, Ae, ce, i', b', rfl, hA.later _ hg (fun g h => by simp; exact fun e => (hF g h).2 e.symm) (fun g h => (hF g h).1), hB.later _ hg (fun g h => by simp; exact fun e => (hF g h).2 e.symm) (fun g h => (hF g h).1), hE.later _ hg (fun g h => by simp; exact fun e => (hF g h).2 e.symm) (fun g h => (hF g h).1), h.rd.grown hg (by omega), hO, grown_new h.gr hg h1⟩
end Go.Proofs.YtmngofgminlloaaGreatDoor

namespace Go.Proofs.YtmngofgminlloaaGreatDoor
open Go.RowKit Tw

/-- The frame of stmt(): the reader; the cells of its result (b0), of its statement (b1); what has turned since w0. -/
structure FrQ (w0 w : World) (rb b0 b1 : Nat) (v : Value) (ws : List Wd) (i en : Nat) (u0 u1 u2 u3 u4 u5 u6 u7 u8 u9 : Value) : Prop where
  rd : Rq w rb v ws i en
  res : w.heap[b0]? = some (.cells #[.int .i64 0, .string ⟨#[]⟩, .int .i64 0, .int .i64 0, .string ⟨#[]⟩, .slice none 0 0, .int .i64 0, .slice none 0 0, .slice none 0 0, .int .i64 0] 188 (0, 0))
  ex : w.heap[b1]? = some (.cells #[u0, u1, u2, u3, u4, u5, u6, u7, u8, u9] 188 (0, 0))
  gr : w0.grownBy w (some rb)
  gl : Glob w
  r0 : 10 < rb
  z0 : rb < w0.heap.size
  z1 : w0.heap.size ≤ b0
  z2 : b0 ≠ b1
  z3 : b1 < w.heap.size
  z4 : w0.heap.size ≤ b1
  z5 : b0 < w.heap.size
section
variable {w0 w w' : World} {rb b0 b1 : Nat} {v : Value} {ws : List Wd} {i en : Nat} {u0 u1 u2 u3 u4 u5 u6 u7 u8 u9 : Value}
theorem FrQ.step {i' : Nat} (h : FrQ w0 w rb b0 b1 v ws i en u0 u1 u2 u3 u4 u5 u6 u7 u8 u9) (hr : Rq w' rb v ws i' en) (hg : w.grownBy w' (some rb)) : FrQ w0 w' rb b0 b1 v ws i' en u0 u1 u2 u3 u4 u5 u6 u7 u8 u9 := by
  have h0 := h.z0; have h1 := h.z1; have h2 := h.z2; have h3 := h.z3; have h4 := h.z4; have h5 := h.z5
  exact ⟨hr, (hg.block b0 (by omega) (by simp; omega)).trans h.res, (hg.block b1 h3 (by simp; omega)).trans h.ex, grown_trans h.gr hg, h.gl.of hg h.r0, h.r0, h0, h1, h2, Nat.lt_of_lt_of_le h3 hg.size, h4, Nat.lt_of_lt_of_le h5 hg.size⟩
theorem FrQ.below (h : FrQ w0 w rb b0 b1 v ws i en u0 u1 u2 u3 u4 u5 u6 u7 u8 u9) (hb : Below w.heap.size w w') : FrQ w0 w' rb b0 b1 v ws i en u0 u1 u2 u3 u4 u5 u6 u7 u8 u9 :=
  h.step (h.rd.keep hb) (grown_of_below hb _)
theorem FrQ.set {v0 v1 v2 v3 v4 v5 v6 v7 v8 v9 : Value} (h : FrQ w0 w rb b0 b1 v ws i en u0 u1 u2 u3 u4 u5 u6 u7 u8 u9) (hg : w.grownBy w' (some b1)) (he : w'.heap[b1]? = some (.cells #[v0, v1, v2, v3, v4, v5, v6, v7, v8, v9] 188 (0, 0))) : FrQ w0 w' rb b0 b1 v ws i en v0 v1 v2 v3 v4 v5 v6 v7 v8 v9 := by
  have h0 := h.z0; have h1 := h.z1; have h2 := h.z2; have h3 := h.z3; have h4 := h.z4; have h5 := h.z5; have hz := h.gr.size
  exact ⟨h.rd.grown hg (by omega), (hg.block b0 (by omega) (by simp; omega)).trans h.res, he, grown_new h.gr hg (by omega), h.gl.same hg.size (fun g hg' => hg.block g (by have := h.r0; omega) (by simp; have := h.r0; omega)), h.r0, h0, h1, h2, Nat.lt_of_lt_of_le h3 hg.size, h4, Nat.lt_of_lt_of_le h5 hg.size⟩
theorem FrQ.s0 (h : FrQ w0 w rb b0 b1 v ws i en u0 u1 u2 u3 u4 u5 u6 u7 u8 u9) (x : Value) : FrQ w0 (w.setCell ⟨b1, 0, none⟩ x) rb b0 b1 v ws i en x u1 u2 u3 u4 u5 u6 u7 u8 u9 := h.set (grown_set _ _ _ _) (by simpa using heap_setCell_same w b1 0 _ _ x h.ex)
theorem FrQ.s1 (h : FrQ w0 w rb b0 b1 v ws i en u0 u1 u2 u3 u4 u5 u6 u7 u8 u9) (x : Value) : FrQ w0 (w.setCell ⟨b1, 1, none⟩ x) rb b0 b1 v ws i en u0 x u2 u3 u4 u5 u6 u7 u8 u9 := h.set (grown_set _ _ _ _) (by simpa using heap_setCell_same w b1 1 _ _ x h.ex)
theorem FrQ.s2 (h : FrQ w0 w rb b0 b1 v ws i en u0 u1 u2 u3 u4 u5 u6 u7 u8 u9) (x : Value) : FrQ w0 (w.setCell ⟨b1, 2, none⟩ x) rb b0 b1 v ws i en u0 u1 x u3 u4 u5 u6 u7 u8 u9 := h.set (grown_set _ _ _ _) (by simpa using heap_setCell_same w b1 2 _ _ x h.ex)
theorem FrQ.s3 (h : FrQ w0 w rb b0 b1 v ws i en u0 u1 u2 u3 u4 u5 u6 u7 u8 u9) (x : Value) : FrQ w0 (w.setCell ⟨b1, 3, none⟩ x) rb b0 b1 v ws i en u0 u1 u2 x u4 u5 u6 u7 u8 u9 := h.set (grown_set _ _ _ _) (by simpa using heap_setCell_same w b1 3 _ _ x h.ex)
theorem FrQ.s4 (h : FrQ w0 w rb b0 b1 v ws i en u0 u1 u2 u3 u4 u5 u6 u7 u8 u9) (x : Value) : FrQ w0 (w.setCell ⟨b1, 4, none⟩ x) rb b0 b1 v ws i en u0 u1 u2 u3 x u5 u6 u7 u8 u9 := h.set (grown_set _ _ _ _) (by simpa using heap_setCell_same w b1 4 _ _ x h.ex)
theorem FrQ.s5 (h : FrQ w0 w rb b0 b1 v ws i en u0 u1 u2 u3 u4 u5 u6 u7 u8 u9) (x : Value) : FrQ w0 (w.setCell ⟨b1, 5, none⟩ x) rb b0 b1 v ws i en u0 u1 u2 u3 u4 x u6 u7 u8 u9 := h.set (grown_set _ _ _ _) (by simpa using heap_setCell_same w b1 5 _ _ x h.ex)
theorem FrQ.s6 (h : FrQ w0 w rb b0 b1 v ws i en u0 u1 u2 u3 u4 u5 u6 u7 u8 u9) (x : Value) : FrQ w0 (w.setCell ⟨b1, 6, none⟩ x) rb b0 b1 v ws i en u0 u1 u2 u3 u4 u5 x u7 u8 u9 := h.set (grown_set _ _ _ _) (by simpa using heap_setCell_same w b1 6 _ _ x h.ex)
theorem FrQ.s7 (h : FrQ w0 w rb b0 b1 v ws i en u0 u1 u2 u3 u4 u5 u6 u7 u8 u9) (x : Value) : FrQ w0 (w.setCell ⟨b1, 7, none⟩ x) rb b0 b1 v ws i en u0 u1 u2 u3 u4 u5 u6 x u8 u9 := h.set (grown_set _ _ _ _) (by simpa using heap_setCell_same w b1 7 _ _ x h.ex)
theorem FrQ.s8 (h : FrQ w0 w rb b0 b1 v ws i en u0 u1 u2 u3 u4 u5 u6 u7 u8 u9) (x : Value) : FrQ w0 (w.setCell ⟨b1, 8, none⟩ x) rb b0 b1 v ws i en u0 u1 u2 u3 u4 u5 u6 u7 x u9 := h.set (grown_set _ _ _ _) (by simpa using heap_setCell_same w b1 8 _ _ x h.ex)
theorem FrQ.s9 (h : FrQ w0 w rb b0 b1 v ws i en u0 u1 u2 u3 u4 u5 u6 u7 u8 u9) (x : Value) : FrQ w0 (w.setCell ⟨b1, 9, none⟩ x) rb b0 b1 v ws i en u0 u1 u2 u3 u4 u5 u6 u7 u8 x := h.set (grown_set _ _ _ _) (by simpa using heap_setCell_same w b1 9 _ _ x h.ex)
theorem FrQ.start (hR : Rq w rb v ws i en) (hG : Glob w) (hr : 10 < rb) (hg : w0.grownBy w (some rb)) (h0 : rb < w0.heap.size) (h1 : w0.heap.size ≤ b0) (h2 : b0 < w.heap.size)
    (hz : w.heap[b0]? = some (.cells #[.int .i64 0, .string ⟨#[]⟩, .int .i64 0, .int .i64 0, .string ⟨#[]⟩, .slice none 0 0, .int .i64 0, .slice none 0 0, .slice none 0 0, .int .i64 0] 188 (0, 0))) (u0 u1 u2 u3 u4 u5 u6 u7 u8 u9 : Value) :
    FrQ w0 (w.alloc (.cells #[u0, u1, u2, u3, u4, u5, u6, u7, u8, u9] 188)) rb b0 w.heap.size v ws i en u0 u1 u2 u3 u4 u5 u6 u7 u8 u9 :=
  ⟨hR.keep ((Below.refl _ _).alloc (Nat.le_refl _) _), (heap_alloc_old w _ h2).trans hz, heap_alloc_new w _, grown_trans hg (grown_of_below ((Below.refl _ _).alloc (Nat.le_refl _) _) _), hG.to ((Below.refl _ _).alloc (Nat.le_refl _) _), hr, h0, h1, Nat.ne_of_lt h2, by simp, hg.size, by simp; omega⟩
theorem FrQ.start2 (hR : Rq w rb v ws i en) (hG : Glob w) (hr : 10 < rb) (u0 u1 u2 u3 u4 u5 u6 u7 u8 u9 : Value) :
    FrQ w ((w.alloc (.cells #[u0, u1, u2, u3, u4, u5, u6, u7, u8, u9] 188)).alloc (.cells #[.int .i64 0, .string ⟨#[]⟩, .int .i64 0, .int .i64 0, .string ⟨#[]⟩, .slice none 0 0, .int .i64 0, .slice none 0 0, .slice none 0 0, .int .i64 0] 188)) rb (w.heap.size + 1) w.heap.size v ws i en u0 u1 u2 u3 u4 u5 u6 u7 u8 u9 := by
  have hB : Below w.heap.size w ((w.alloc (.cells #[u0, u1, u2, u3, u4, u5, u6, u7, u8, u9] 188)).alloc (.cells #[.int .i64 0, .string ⟨#[]⟩, .int .i64 0, .int .i64 0, .string ⟨#[]⟩, .slice none 0 0, .int .i64 0, .slice none 0 0, .slice none 0 0, .int .i64 0] 188)) := ((Below.refl _ _).alloc (Nat.le_refl _) _).alloc (by simp) _
  have hl := hR.lt
  exact ⟨hR.keep hB, by simpa using heap_alloc_new (w.alloc (.cells #[u0, u1, u2, u3, u4, u5, u6, u7, u8, u9] 188)) (.cells #[.int .i64 0, .string ⟨#[]⟩, .int .i64 0, .int .i64 0, .string ⟨#[]⟩, .slice none 0 0, .int .i64 0, .slice none 0 0, .slice none 0 0, .int .i64 0] 188), (heap_alloc_old _ _ (by simp)).trans (heap_alloc_new w _), grown_of_below hB _, hG.to hB, hr, hl, by omega, by omega, by simp; omega, Nat.le_refl _, by simp⟩
end

/-- What a method for statements answers, by what stands there. -/
def SmR (w : World) (rb : Nat) (v : Value) (ws : List Wd) (en : Nat) (r : Rs) (e : Ending) (w' : World) : Prop :=
  match r with
  | .st s j => ∃ Aa ca Ab cb Ae ce, e = .returned (.agg #[.int .i64 s.kind, .string s.name, .int .i64 s.a.kind, .int .i64 s.a.n, .string s.a.text, .slice Aa s.a.args.length ca, .int .i64 s.a.pos, .slice Ab s.body.length cb, .slice Ae s.els.length ce, .int .i64 s.pos]) ∧ ArgsIn w' (fun g => w.heap.size ≤ g) (.slice Aa s.a.args.length ca) s.a.args ∧ StmtsIn w' (fun g => w.heap.size ≤ g) (.slice Ab s.body.length cb) s.body ∧ StmtsIn w' (fun g => w.heap.size ≤ g) (.slice Ae s.els.length ce) s.els ∧ Rq w' rb v ws j en ∧ w.grownBy w' (some rb)
  | .bad j => e = badP ws en j ∧ w.grownBy w' (some rb)
  | .sts _ _ => False
def BlR (w : World) (rb : Nat) (v : Value) (ws : List Wd) (en : Nat) (r : Rs) (e : Ending) (w' : World) : Prop :=
  match r with
  | .sts l j => ∃ A c, e = .returned (.slice A l.length c) ∧ StmtsIn w' (fun g => w.heap.size ≤ g) (.slice A l.length c) l ∧ Rq w' rb v ws j en ∧ w.grownBy w' (some rb)
  | .bad j => e = badP ws en j ∧ w.grownBy w' (some rb)
  | .st _ _ => False
def StmtP (rb : Nat) (v : Value) (ws : List Wd) (en i : Nat) : Prop :=
  ∀ r, Ds ws en (.stmt i) r → ∀ w, Rq w rb v ws i en → Glob w → Calls Tryz.prog 191 #[.pointer (some ⟨rb, 0, none⟩)] w fun e w' => SmR w rb v ws en r e w'
def BlockP (rb : Nat) (v : Value) (ws : List Wd) (en i : Nat) : Prop :=
  ∀ r, Ds ws en (.block i) r → ∀ w, Rq w rb v ws i en → Glob w → Calls Tryz.prog 141 #[.pointer (some ⟨rb, 0, none⟩)] w fun e w' => BlR w rb v ws en r e w'
end Go.Proofs.YtmngofgminlloaaGreatDoor

namespace Go.Proofs.YtmngofgminlloaaGreatDoor
open Go.RowKit Tw

/-- The kind of the statement at i, before its name. -/
def HeadK (ws : List Wd) (i : Nat) (b : Bool) (kd i1 : Nat) : Prop :=
  (b = false → kd = headS ws i) ∧ (b = true → kd = 2 ∨ kd = 7) ∧ i1 = (if kd = 2 ∨ kd = 7 then i else i + 1)
def NameR (ws : List Wd) (kd i1 : Nat) (b : Bool) (nm : ByteArray) (i3 : Nat) (b3 : Bool) : Prop :=
  (kd ≤ 2 ∧ ∃ i2 b2, KindS ws (2 : Nat) i1 b nm i2 b2 ∧ WantS ws sEq i2 b2 i3 b3) ∨ (2 < kd ∧ nm = sNone ∧ i3 = i1 ∧ b3 = b)
structure NameD (ws : List Wd) (en i : Nat) (b : Bool) (kd : Nat) (nm : ByteArray) (i3 : Nat) (b3 : Bool) : Prop where
  le : i ≤ i3
  bt : b = true → b3 = true ∧ i3 = i
  ok : b = false → b3 = false → kd = headS ws i ∧ i3 = exprS ws i ∧ nm = nameS ws i ∧ (headS ws i = 1 → kindAt ws (i + 1) = 2 ∧ isAt ws (i + 2) sEq = true)
  bad : b = false → b3 = true → Ds ws en (.stmt i) (.bad i3)
section
variable {ws : List Wd} {en i : Nat} {b : Bool}
theorem headS_ge (ws : List Wd) (i : Nat) : 1 ≤ headS ws i ∧ headS ws i ≤ 7 := by
  unfold headS; repeat' (first | (constructor <;> omega) | split)
theorem headS_two (h : headS ws i = 2) : kindAt ws i = 2 ∧ isAt ws (i + 1) sEq = true := by
  unfold headS at h
  repeat' (first | (exfalso; omega) | (split at h))
  assumption
theorem HeadK.name {kd i1 i3 : Nat} {b3 : Bool} {nm : ByteArray} (hk : HeadK ws i b kd i1) (hn : NameR ws kd i1 b nm i3 b3) : NameD ws en i b kd nm i3 b3 := by
  obtain ⟨k1, k2, k3⟩ := hk
  cases b with
  | true =>
    rcases k2 rfl with rfl | rfl
    · simp at k3; subst k3
      rcases hn with ⟨_, i2, b2, hK, hW⟩ | ⟨h, _⟩
      · rcases kind_cases (by decide) hK with ⟨e, _⟩ | ⟨e, _⟩ | ⟨_, rfl, rfl, rfl⟩
        · cases e
        · cases e
        · rcases want_cases hW with ⟨e, _⟩ | ⟨e, _⟩ | ⟨_, rfl, rfl⟩
          · cases e
          · cases e
          · exact ⟨Nat.le_refl _, fun _ => ⟨rfl, rfl⟩, by simp, by simp⟩
      · omega
    · simp at k3; subst k3
      rcases hn with ⟨h, _⟩ | ⟨_, rfl, rfl, rfl⟩
      · omega
      · exact ⟨Nat.le_refl _, fun _ => ⟨rfl, rfl⟩, by simp, by simp⟩
  | false =>
    have hd := k1 rfl
    have hge := headS_ge ws i
    rcases hn with ⟨h, i2, b2, hK, hW⟩ | ⟨h, rfl, rfl, rfl⟩
    · obtain h1 | h2 : kd = 1 ∨ kd = 2 := by omega
      · have hs : headS ws i = 1 := by omega
        have e1 : i1 = i + 1 := by rw [k3, h1]; simp
        subst e1
        rcases kind_cases (by decide) hK with ⟨_, hk, rfl, rfl, rfl⟩ | ⟨_, hk, rfl, rfl, rfl⟩ | ⟨e, _⟩
        · rcases want_cases hW with ⟨_, ha, rfl, rfl⟩ | ⟨_, ha, rfl, rfl⟩ | ⟨e, _⟩
          · exact ⟨by omega, by simp, fun _ _ => ⟨by omega, by unfold exprS; rw [if_pos hs], by unfold nameS; rw [if_pos hs], fun _ => ⟨hk, ha⟩⟩, by simp⟩
          · exact ⟨by omega, by simp, by simp, fun _ _ => .letE hs hk ha⟩
          · cases e
        · rcases want_cases hW with ⟨e, _⟩ | ⟨e, _⟩ | ⟨_, rfl, rfl⟩
          · cases e
          · cases e
          · exact ⟨by omega, by simp, by simp, fun _ _ => .letN hs hk⟩
        · cases e
      · have hs : headS ws i = 2 := by omega
        obtain ⟨q1, q2⟩ := headS_two hs
        have e1 : i1 = i := by rw [k3, h2]; simp
        subst e1
        rcases kind_cases (by decide) hK with ⟨_, hk, rfl, rfl, rfl⟩ | ⟨_, hk, _⟩ | ⟨e, _⟩
        · rcases want_cases hW with ⟨_, ha, rfl, rfl⟩ | ⟨_, ha, _⟩ | ⟨e, _⟩
          · exact ⟨by omega, by simp, fun _ _ => ⟨by omega, by unfold exprS; rw [if_neg (by omega), if_pos hs], by unfold nameS; rw [if_neg (by omega), if_pos hs], fun e => by omega⟩, by simp⟩
          · rw [q2] at ha; cases ha
          · cases e
        · exact absurd q1 hk
        · cases e
    · refine ⟨?_, by simp, fun _ _ => ⟨hd, ?_, ?_, fun e => by omega⟩, by simp⟩
      · rw [k3]; split <;> omega
      · unfold exprS
        rw [if_neg (by omega), if_neg (by omega), k3]
        by_cases h7 : headS ws i = 7
        · rw [if_pos h7, if_pos (by omega)]
        · rw [if_neg h7, if_neg (by omega)]
      · unfold nameS; rw [if_neg (by omega), if_neg (by omega)]
variable {kd i3 i4 i5 i6 : Nat} {nm : ByteArray} {b3 b4 b5 b6 : Bool} {x : Ex} {l m : List Sm} {s : Sm}
theorem outs_simp (hn : NameD ws en i b kd nm i3 b3) (h3 : kd ≠ 3) (h4 : kd ≠ 4) (hO : OutE ws en (.lvl 1 i3) b3 x i4 b4) (hW : WantS ws sSemi i4 b4 i5 b5) : OutS ws en i b (.mk kd nm x [] [] (posAt ws i en)) i5 b5 := by
  have hle := hn.le
  have h0 := hO.1
  simp only [Qe.at] at h0
  cases b with
  | true =>
    obtain ⟨rfl, rfl⟩ := hn.bt rfl
    obtain ⟨rfl, h⟩ := hO.2.1 rfl
    simp only [Qe.at] at h; subst h
    rcases want_cases hW with ⟨e, _⟩ | ⟨e, _⟩ | ⟨_, rfl, rfl⟩
    · cases e
    · cases e
    · exact ⟨Nat.le_refl _, fun _ => ⟨rfl, rfl⟩, by simp, by simp⟩
  | false =>
    cases b3 with
    | true =>
      obtain ⟨rfl, h⟩ := hO.2.1 rfl
      simp only [Qe.at] at h; subst h
      rcases want_cases hW with ⟨e, _⟩ | ⟨e, _⟩ | ⟨_, rfl, rfl⟩
      · cases e
      · cases e
      · exact ⟨hle, by simp, by simp, fun _ _ => hn.bad rfl rfl⟩
    | false =>
      obtain ⟨rfl, rfl, rfl, hl⟩ := hn.ok rfl rfl
      cases b4 with
      | true =>
        rcases want_cases hW with ⟨e, _⟩ | ⟨e, _⟩ | ⟨_, rfl, rfl⟩
        · cases e
        · cases e
        · exact ⟨by omega, by simp, by simp, fun _ _ => .simpB h3 h4 hl (hO.2.2.2 rfl rfl)⟩
      | false =>
        have hd := (hO.2.2.1 rfl rfl).2
        rcases want_cases hW with ⟨_, ha, rfl, rfl⟩ | ⟨_, ha, rfl, rfl⟩ | ⟨e, _⟩
        · exact ⟨by omega, by simp, fun _ _ => ⟨by omega, .simp h3 h4 hl hd ha⟩, by simp⟩
        · exact ⟨by omega, by simp, by simp, fun _ _ => .simpC h3 h4 hl hd ha⟩
        · cases e
theorem cond_at (hk : NameD ws en i false kd nm i3 b3) (h : NameR ws kd (i + 1) false nm i3 b3) (h34 : kd = 3 ∨ kd = 4) : headS ws i = kd ∧ i3 = i + 1 ∧ b3 = false ∧ nm = sNone := by
  rcases h with ⟨h, _⟩ | ⟨_, h1, h2, h3⟩
  · omega
  · exact ⟨(hk.ok rfl h3).1.symm, h2, h3, h1⟩
theorem outs_body (h34 : headS ws i = 3 ∨ headS ws i = 4) (hO : OutE ws en (.lvl 1 (i + 1)) false x i4 b4) (hB : OutB ws en i4 b4 l i5 b5) :
    (b5 = true → OutS ws en i false s i5 true) ∧ (b5 = false → b4 = false ∧ De ws en (.lvl 1 (i + 1)) (.ex x i4) ∧ Ds ws en (.block i4) (.sts l i5) ∧ i < i5) := by
  have h0 := hO.1
  simp only [Qe.at] at h0
  have h1 := hB.1
  cases b4 with
  | true =>
    obtain ⟨rfl, rfl⟩ := hB.2.1 rfl
    exact ⟨fun _ => ⟨by omega, by simp, by simp, fun _ _ => .condB h34 (hO.2.2.2 rfl rfl)⟩, by simp⟩
  | false =>
    have hd := (hO.2.2.1 rfl rfl).2
    exact ⟨fun e => ⟨by omega, by simp, by simp, fun _ _ => .condD h34 hd (hB.2.2.2 rfl e)⟩, fun e => ⟨rfl, hd, (hB.2.2.1 rfl e).2, by omega⟩⟩
theorem outs_while (h4 : headS ws i = 4) (hO : OutE ws en (.lvl 1 (i + 1)) false x i4 b4) (hB : OutB ws en i4 b4 l i5 b5) : OutS ws en i false (.mk 4 sNone x l [] (posAt ws i en)) i5 b5 := by
  obtain ⟨k1, k2⟩ := outs_body (s := .mk 4 sNone x l [] (posAt ws i en)) (.inr h4) hO hB
  cases b5 with
  | true => exact k1 rfl
  | false =>
    obtain ⟨_, g1, g2, g3⟩ := k2 rfl
    exact ⟨by omega, by simp, fun _ _ => ⟨g3, .whil h4 g1 g2⟩, by simp⟩
theorem outs_if0 (h3 : headS ws i = 3) (hO : OutE ws en (.lvl 1 (i + 1)) false x i4 b4) (hB : OutB ws en i4 b4 l i5 b5) (he : seeB ws i5 b5 sElse = false) : OutS ws en i false (.mk 3 sNone x l [] (posAt ws i en)) i5 b5 := by
  obtain ⟨k1, k2⟩ := outs_body (s := .mk 3 sNone x l [] (posAt ws i en)) (.inl h3) hO hB
  cases b5 with
  | true => exact k1 rfl
  | false =>
    obtain ⟨_, g1, g2, g3⟩ := k2 rfl
    exact ⟨by omega, by simp, fun _ _ => ⟨g3, .if0 h3 g1 g2 (seeB_no he)⟩, by simp⟩
theorem outs_ifI (h3 : headS ws i = 3) (hO : OutE ws en (.lvl 1 (i + 1)) false x i4 b4) (hB : OutB ws en i4 b4 l i5 b5) (he : seeB ws i5 b5 sElse = true) (hi : isAt ws (i5 + 1) sIf = true) (hS : OutS ws en (i5 + 1) false s i6 b6) : OutS ws en i false (.mk 3 sNone x l [s] (posAt ws i en)) i6 b6 := by
  obtain ⟨rfl, ha⟩ := seeB_yes he
  obtain ⟨_, g1, g2, g3⟩ := (outs_body (s := s) (.inl h3) hO hB).2 rfl
  have h1 := hS.1
  exact ⟨by omega, by simp, fun _ e => ⟨by omega, .ifI h3 g1 g2 ha hi (hS.2.2.1 rfl e).2⟩, fun _ e => .ifIB h3 g1 g2 ha hi (hS.2.2.2 rfl e)⟩
theorem outs_ifE (h3 : headS ws i = 3) (hO : OutE ws en (.lvl 1 (i + 1)) false x i4 b4) (hB : OutB ws en i4 b4 l i5 b5) (he : seeB ws i5 b5 sElse = true) (hi : isAt ws (i5 + 1) sIf = false) (hS : OutB ws en (i5 + 1) false m i6 b6) : OutS ws en i false (.mk 3 sNone x l m (posAt ws i en)) i6 b6 := by
  obtain ⟨rfl, ha⟩ := seeB_yes he
  obtain ⟨_, g1, g2, g3⟩ := (outs_body (s := .mk 0 sNone x [] [] 0) (.inl h3) hO hB).2 rfl
  have h1 := hS.1
  exact ⟨by omega, by simp, fun _ e => ⟨by omega, .ifE h3 g1 g2 ha hi (hS.2.2.1 rfl e).2⟩, fun _ e => .ifEB h3 g1 g2 ha hi (hS.2.2.2 rfl e)⟩
end

theorem stmts_one {w W : World} {F0 F : Nat → Prop} {s : Sm} {va vb ve : Value} {n b1 cap T : Nat} (hA : ArgsIn w F0 va s.a.args) (hB : StmtsIn w F0 vb s.body) (hE : StmtsIn w F0 ve s.els) (hg : w.grownBy W (some b1)) (hF0 : ∀ g, F0 g → g ≠ b1 ∧ F g) (hn : W.heap.size = n) (hFn : F n) :
    StmtsIn (W.alloc (.cells #[.int .i64 s.kind, .string s.name, .int .i64 s.a.kind, .int .i64 s.a.n, .string s.a.text, va, .int .i64 s.a.pos, vb, ve, .int .i64 s.pos] T)) F (.slice (some ⟨n, 0, none⟩) 1 cap) [s] := by
  subst hn
  have hk : Keeps F0 F w (W.alloc (.cells #[.int .i64 s.kind, .string s.name, .int .i64 s.a.kind, .int .i64 s.a.n, .string s.a.text, va, .int .i64 s.a.pos, vb, ve, .int .i64 s.pos] T)) := fun g h1 h2 => ⟨(hF0 g h1).2, by have := hg.size; simp; omega, by
    rw [heap_alloc_old W _ (Nat.lt_of_lt_of_le h2 hg.size)]
    exact hg.block g h2 (by simp; exact (hF0 g h1).1)⟩
  refine StmtsIn.of_block [(s, va, vb, ve)] _ rfl (heap_alloc_new W _) hFn fun a ha => ?_
  simp at ha; subst ha
  exact ⟨hA.keep hk, hB.keep hk, hE.keep hk⟩
end Go.Proofs.YtmngofgminlloaaGreatDoor

namespace Go.Proofs.YtmngofgminlloaaGreatDoor
open Go.RowKit Tw

/-- Behind some statements of the block at i. -/
structure InB (ws : List Wd) (en i : Nat) (b : Bool) (l : List Sm) (i' : Nat) (b' : Bool) : Prop where
  le : i ≤ i'
  bt : b = true → b' = true ∧ i' = i
  len : l.length ≤ i' + (if b' then 1 else 0)
  pos : b = false → b' = false → i < i'
  okk : b = false → b' = false → (∀ m j, Ds ws en (.stmts i') (.sts m j) → Ds ws en (.block i) (.sts (l ++ m) j)) ∧ (∀ j, Ds ws en (.stmts i') (.bad j) → Ds ws en (.block i) (.bad j))
  bad : b = false → b' = true → Ds ws en (.block i) (.bad i')
section
variable {ws : List Wd} {en i : Nat} {b : Bool} {l : List Sm} {i' : Nat}
theorem InB.start {b' : Bool} (h : WantS ws sBra i b i' b') : InB ws en i b [] i' b' := by
  rcases want_cases h with ⟨rfl, ha, rfl, rfl⟩ | ⟨rfl, ha, rfl, rfl⟩ | ⟨rfl, rfl, rfl⟩
  · exact ⟨by omega, by simp, by simp, fun _ _ => by omega, fun _ _ => ⟨fun m j h => .block ha h, fun j h => .block ha h⟩, by simp⟩
  · exact ⟨by omega, by simp, by simp, by simp, by simp, fun _ _ => .blockB ha⟩
  · exact ⟨by omega, fun _ => ⟨rfl, rfl⟩, by simp, by simp, by simp, by simp⟩
theorem InB.close (h : InB ws en i b l i' false) (hc : isAt ws i' sKet = true) : OutB ws en i b l (i' + 1) false := by
  have hle := h.le
  refine ⟨by omega, fun e => absurd (h.bt e).1 (by decide), fun e _ => ⟨by omega, ?_⟩, fun _ e => absurd e (by decide)⟩
  simpa using (h.okk e rfl).1 [] (i' + 1) (.done hc)
theorem InB.out (h : InB ws en i b l i' true) : OutB ws en i b l i' true :=
  ⟨h.le, h.bt, fun _ e => absurd e (by decide), fun e _ => h.bad e rfl⟩
theorem InB.step {s : Sm} {i3 : Nat} {b3 : Bool} (h : InB ws en i b l i' false) (hc : isAt ws i' sKet = false) (hO : OutS ws en i' false s i3 b3) :
    InB ws en i b (l ++ [s]) i3 b3 ∧ i' ≤ i3 ∧ (b3 = false → i' < i3) := by
  have h0 := hO.1
  have hle := h.le
  have hlen := h.len
  simp only [Bool.false_eq_true, if_false, Nat.add_zero] at hlen
  have hb : b = false := by cases b with | false => rfl | true => have := (h.bt rfl).1; cases this
  have hok := h.okk hb rfl
  cases b3 with
  | false =>
    obtain ⟨h1, h2⟩ := hO.2.2.1 rfl rfl
    refine ⟨⟨by omega, fun e => absurd (hb.symm.trans e) (by decide), by simp; omega, fun _ _ => by omega, fun _ _ => ⟨fun m j h => ?_, fun j h => hok.2 _ (.moreR hc h2 h)⟩, fun _ e => absurd e (by decide)⟩, by omega, fun _ => by omega⟩
    have := hok.1 _ _ (.more hc h2 h); simpa using this
  | true =>
    exact ⟨⟨by omega, fun e => absurd (hb.symm.trans e) (by decide), by simp; omega, fun _ e => absurd e (by decide), fun _ e => absurd e (by decide), fun _ _ => hok.2 _ (.moreB hc (hO.2.2.2 rfl rfl))⟩, by omega, fun e => absurd e (by decide)⟩
end
theorem elemSm : ElemOk Tryz.prog 30 188 10 := ⟨Tryz.underlying30, by kernel_rfl, by decide⟩

set_option maxRecDepth 100000 in
set_option maxHeartbeats 8000000 in
theorem block_c (rb : Nat) (v : Value) (ws : List Wd) (en i : Nat) (hr : 10 < rb) (h1 : ∀ j, i < j → StmtC rb v ws en j) : BlockC rb v ws en i := by
  intro w b h hG
  have H1 := Lib.hid h1; have HR := Lib.hid h; have HG := Lib.hid hG
  have hrl := h.lt
  clear h1 h hG
  go_enter Tryz.func56, Tryz.ntmps56
  go_wp2_with fail
  refine (want_r sBra HR.out).mono ?_
  rintro e w0 ⟨rfl, ⟨i0, k0, hR, hW⟩, hg⟩
  have HR0 := Lib.hid hR; have HI0 : Hid (InB ws en i b [] i0 k0) := Lib.hid (.start hW)
  have Hg0 := Lib.hid hg
  clear hR hW hg HR
  go_wp2_with fail
  go_loopw [3] (fun o wr => ∃ (l : List (Sm × Value × Value × Value)) (A : Option Addr) (c i' : Nat) (b' : Bool), o = .slice A l.length c ∧ Hid (GRow smElem wr w.heap.size 188 10 (.slice A l.length c) l) ∧ Hid (Rd wr rb v ws i' en b') ∧ Hid (InB ws en i b (l.map (·.1)) i' b') ∧ Hid (w.grownBy wr (some rb)))
    (fun _ wr => leftOf ws wr rb)
  case atStart => exact ⟨[], none, 0, i0, k0, rfl, Lib.hid (GRow.nil _ _ _ _ _), HR0, HI0, Hg0⟩
  case round =>
    obtain ⟨l, A, c, i', b', rfl, HW, HR', HI, Hgr⟩ := hrel
    clear HR0 HI0 Hg0
    obtain ⟨t, ht⟩ : ∃ t, seeB ws i' b' sKet = t := ⟨_, rfl⟩
    have T := Lib.hid ht
    go_wp2_with fail
    refine (take_r sKet t HR'.out ht).mono ?_
    rintro e w1 ⟨rfl, hR, hg⟩
    have hsz := Hgr.out.size
    have HW1 := Lib.hid (HW.out.kept hg (fun k e => .inl (by cases e; exact hrl)))
    have HR1 := Lib.hid hR
    have Hg1 := Lib.hid (grown_trans Hgr.out hg)
    clear hR hg ht HW Hgr
    cases t with
    | true =>
      obtain ⟨rfl, ha⟩ := seeB_yes T.out
      have HA := Lib.hid ha; clear ha
      go_wp2_with fail
      go_ret
      exact ⟨l.map (·.1), A, c, i' + 1, false, by rw [List.length_map]; rfl, by rw [List.length_map]; exact HW1.out.stmts, by simpa using HR1.out, Hg1.out, HI.out.close HA.out⟩
    | false =>
      cases b' with
      | true =>
        have c3 := HR1.out.c3
        go_wp2_with fail
        go_ret
        exact ⟨l.map (·.1), A, c, i', true, by rw [List.length_map]; rfl, by rw [List.length_map]; exact HW1.out.stmts, by simpa using HR1.out, Hg1.out, HI.out.out⟩
      | false =>
        simp only [Bool.false_eq_true, if_false] at HR1
        have c3 := HR1.out.c3
        have HA := Lib.hid (seeB_no T.out)
        clear T
        have hbf : b = false := by cases b with | false => rfl | true => have := (HI.out.bt rfl).1; cases this
        have hlt := HI.out.pos hbf rfl
        go_wp2_with fail
        clear c3
        refine (H1.out i' hlt w1 false HR1.out (HG.out.of Hg1.out hr)).mono ?_
        rintro e w3 ⟨s, Aa, ca, Ab, cb, Ae, ce, i3, b3, rfl, hA, hB, hE, hR, hO, hg⟩
        have hsz2 := Hg1.out.size
        have HK : Hid (smElem.kid w3 (fun g => w1.heap.size ≤ g) (s, .slice Aa s.a.args.length ca, .slice Ab s.body.length cb, .slice Ae s.els.length ce)) := Lib.hid ⟨hA, hB, hE⟩
        have HR3 := Lib.hid hR
        have HW3 := Lib.hid (HW1.out.kept hg (fun k e => .inl (by cases e; exact hrl)))
        have Hg3 := Lib.hid (grown_trans Hg1.out hg)
        have hown := HW1.out.1.lt
        have HS := Lib.hid (HI.out.step HA.out hO)
        have hn : l.length ≤ 4000 := by
          have := HI.out.len; have := HR'.out.pos; have := HR'.out.len; simp at *; omega
        have hsz3 := hg.size
        clear hA hB hE hR hO hg
        go_wp2_with ((at_builtin; go_must (refine wpList_app1 elemSm rfl _ _ rfl w.heap.size _ l.length (l.flatMap smElem.cells) rfl (HW3.out.1.alloc _) w3.heap.size 1 #[.int .i64 s.kind, .string s.name, .int .i64 s.a.kind, .int .i64 s.a.n, .string s.a.text, .slice Aa s.a.args.length ca, .int .i64 s.a.pos, .slice Ab s.body.length cb, .slice Ae s.els.length ce, .int .i64 s.pos] rfl (heap_alloc_new w3 _) rfl (by simp [Value.oneCell']) (by omega) (by simp; omega) ?_); intro g4 cap4 w4 hown4 hgrow4 hat4 hlt4))
        have hg4 : (w3.alloc (.cells #[.int .i64 s.kind, .string s.name, .int .i64 s.a.kind, .int .i64 s.a.n, .string s.a.text, .slice Aa s.a.args.length ca, .int .i64 s.a.pos, .slice Ab s.body.length cb, .slice Ae s.els.length ce, .int .i64 s.pos] 188)).grownBy w4 (Value.slice A l.length c).ownBlock := hgrow4
        have ha4 : (Value.slice A l.length c).ownBlock = some g4 ∨ g4 = (w3.alloc (.cells #[.int .i64 s.kind, .string s.name, .int .i64 s.a.kind, .int .i64 s.a.n, .string s.a.text, .slice Aa s.a.args.length ca, .int .i64 s.a.pos, .slice Ab s.body.length cb, .slice Ae s.els.length ce, .int .i64 s.pos] 188)).heap.size := hat4
        have hk4 : smElem.kid (w3.alloc (.cells #[.int .i64 s.kind, .string s.name, .int .i64 s.a.kind, .int .i64 s.a.n, .string s.a.text, .slice Aa s.a.args.length ca, .int .i64 s.a.pos, .slice Ab s.body.length cb, .slice Ae s.els.length ce, .int .i64 s.pos] 188)) (fun g => w1.heap.size ≤ g) (s, .slice Aa s.a.args.length ca, .slice Ab s.body.length cb, .slice Ae s.els.length ce) :=
          smElem.keep (fun g h1 h2 => ⟨h1, by simp; omega, heap_alloc_old w3 _ h2⟩) HK.out
        have HW4 := Lib.hid (GRow.app (HW3.out.below ((Below.refl _ _).alloc (Nat.le_refl _) _)) hk4 (fun g hg => ⟨by omega, fun e => by have := (hown g e).2; omega⟩) hown4 hg4 ha4)
        have hrow : ∀ k, (Value.slice A l.length c).ownBlock = some k → w.heap.size ≤ k := fun k e => (hown k e).1
        have HR4 := Lib.hid (rd_app (HR3.out.keep ((Below.refl _ _).alloc (Nat.le_refl _) _)) hg4 (fun k e => by have := hrow k e; omega))
        have Hg4 := Lib.hid (grown_app (grown_trans Hg3.out (grown_of_below ((Below.refl _ _).alloc (Nat.le_refl _) _) _)) hg4 hrow)
        clear hgrow4 hat4 hown4 hg4 ha4 hk4
        go_roundw
        case rel => exact ⟨l ++ [(s, .slice Aa s.a.args.length ca, .slice Ab s.body.length cb, .slice Ae s.els.length ce)], some ⟨g4, 0, none⟩, cap4, i3, b3, by simp, by simpa using HW4, HR4, by simpa using (Lib.hid HS.out.1 : Hid _), Hg4⟩
        case measure => exact HR'.out.less HR4.out HS.out.2.1 HS.out.2.2
end Go.Proofs.YtmngofgminlloaaGreatDoor
