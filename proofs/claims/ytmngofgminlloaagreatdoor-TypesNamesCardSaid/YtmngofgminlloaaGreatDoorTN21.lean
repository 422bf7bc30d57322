/-
  The program's args(), of whatever its callee answers by contract.
  The program's expr(least), of whatever its callees answer by contract.
  The program's reader's methods for expressions, all of them at once, by how many words are left.
  The frame of the program's stmt(): blocks of ten cells, and what its methods for statements answer.
  The program's block(), of whatever its callee answers by contract.
-/
import Derived.Test.YtmngofgminlloaaGreatDoorTN19
import Derived.Test.YtmngofgminlloaaGreatDoorTN07
import Derived.Outline
import Derived.Deep.DeepCutAuto
import Derived.Test.YtmngofgminlloaaGreatDoorTN20
import Derived.Test.YtmngofgminlloaaGreatDoorTN08
set_option linter.unusedSimpArgs false
set_option linter.unusedVariables false
namespace Go.Proofs.YtmngofgminlloaaGreatDoor
open Go.RowKit Tw

def dcOn : Qe → Re → Prop
  | .lvl _ i, .ex _ j => i < j
  | .one i, .ex _ j => i < j
  | .rest _ _ i, .ex _ j => i ≤ j
  | .args _ i, .exs _ j => i < j
  | _, _ => True
theorem Dc.on {ws : List Wd} {en : Nat} {q : Qe} {r : Re} (h : Dc ws en q r) : dcOn q r := by
  induction h
  case ex m i j a r _ _ ih1 ih2 => cases r <;> simp only [dcOn] at * <;> omega
  case go m j j' a b r _ _ _ _ ih1 ih2 => cases r <;> simp only [dcOn] at * <;> omega
  all_goals (simp only [dcOn] at *; try omega)

def joinR (l : List Ex) : Re → Re
  | .exs m j => .exs (l ++ m) j
  | r => r
theorem joinR_cons {l m : List Ex} {x : Ex} {j : Nat} : joinR l (.exs (x :: m) j) = joinR (l ++ [x]) (.exs m j) := by simp [joinR]
/-- One argument more, or a failure. -/
theorem args_split {ws : List Wd} {en k i : Nat} {r : Re} (h : Dc ws en (.args k i) r) (hc : isAt ws i sClose = false) :
    (k ≠ 0 ∧ isAt ws i sComma = false ∧ r = .bad i) ∨
    ∃ i2, ((k = 0 ∧ i2 = i) ∨ (k ≠ 0 ∧ isAt ws i sComma = true ∧ i2 = i + 1)) ∧
      ((∃ j, Dc ws en (.lvl 0 i2) (.bad j) ∧ r = .bad j) ∨ ∃ x j r2, Dc ws en (.lvl 0 i2) (.ex x j) ∧ Dc ws en (.args (k + 1) j) r2 ∧ ∀ l, joinR l r = joinR (l ++ [x]) r2) := by
  cases h with
  | close h => rw [hc] at h; cases h
  | first _ h1 h2 => exact .inr ⟨i, .inl ⟨rfl, rfl⟩, .inr ⟨_, _, _, h1, h2, fun l => joinR_cons⟩⟩
  | firstR _ h1 h2 => exact .inr ⟨i, .inl ⟨rfl, rfl⟩, .inr ⟨_, _, _, h1, h2, fun l => rfl⟩⟩
  | firstB _ h1 => exact .inr ⟨i, .inl ⟨rfl, rfl⟩, .inl ⟨_, h1, rfl⟩⟩
  | next _ ha h1 h2 => exact .inr ⟨i + 1, .inr ⟨by omega, ha, rfl⟩, .inr ⟨_, _, _, h1, h2, fun l => joinR_cons⟩⟩
  | nextR _ ha h1 h2 => exact .inr ⟨i + 1, .inr ⟨by omega, ha, rfl⟩, .inr ⟨_, _, _, h1, h2, fun l => rfl⟩⟩
  | nextB _ ha h1 => exact .inr ⟨i + 1, .inr ⟨by omega, ha, rfl⟩, .inl ⟨_, h1, rfl⟩⟩
  | nextC _ ha => exact .inl ⟨by omega, ha, rfl⟩
theorem args_close {ws : List Wd} {en k i : Nat} {r : Re} (h : Dc ws en (.args k i) r) (hc : isAt ws i sClose = true) : r = .exs [] (i + 1) := by
  cases h with
  | close h => rfl
  | first h => rw [hc] at h; cases h
  | firstR h => rw [hc] at h; cases h
  | firstB h => rw [hc] at h; cases h
  | next h => rw [hc] at h; cases h
  | nextR h => rw [hc] at h; cases h
  | nextB h => rw [hc] at h; cases h
  | nextC h => rw [hc] at h; cases h
theorem Rq.place {w : World} {rb : Nat} {v : Value} {ws : List Wd} {i en : Nat} (h : Rq w rb v ws i en) : placeOf w rb = i := by
  unfold placeOf; rw [h.c1]; simp [intOf]
theorem rq_app {w w' : World} {rb : Nat} {v : Value} {ws : List Wd} {i en : Nat} {row : Option Nat} (h : Rq w rb v ws i en) (hg : w.grownBy w' row) (hk : ∀ k, row = some k → rb < k) : Rq w' rb v ws i en :=
  ⟨(hg.block rb h.lt (fun e => by have := hk rb e.symm; omega)).trans h.blk, h.row.same fun j hj => hg.block j (Nat.lt_trans hj h.lt) (fun e => by have := hk j e.symm; omega), h.len, h.pos⟩

set_option maxRecDepth 100000 in
set_option maxHeartbeats 8000000 in
theorem args_p (rb : Nat) (v : Value) (ws : List Wd) (en i : Nat) (hr : 10 < rb) (h1 : ∀ j, i ≤ j → ExprC rb v ws en 0 j) : ArgsP rb v ws en i := by
  intro r hd w h hG
  have H1 := Lib.hid h1; have HR := Lib.hid h; have HG := Lib.hid hG; have HD := Lib.hid hd
  have hrl := h.lt
  clear h1 h hG hd
  go_enter Tryz.func248, Tryz.ntmps248
  go_wp2_with fail
  go_loopw [3] (fun o wr => ∃ (l : List (Ex × Value)) (A : Option Addr) (c i' : Nat) (r' : Re), o = .slice A l.length c ∧ Hid (GRow exElem wr w.heap.size 186 5 (.slice A l.length c) l) ∧ Hid (Rq wr rb v ws i' en) ∧ Hid (i ≤ i' ∧ l.length ≤ i' ∧ Dc ws en (.args l.length i') r' ∧ r = joinR (l.map (·.1)) r') ∧ Hid (w.grownBy wr (some rb)))
    (fun _ wr => ws.length - placeOf wr rb)
  case atStart => exact ⟨[], none, 0, i, r, rfl, Lib.hid (GRow.nil _ _ _ _ _), HR, Lib.hid ⟨Nat.le_refl _, by simp, HD.out, by cases r <;> simp [joinR]⟩, Lib.hid (grown_of_below (Below.refl _ _) _)⟩
  case round =>
    obtain ⟨l, A, c, i', r', rfl, HW, HR', HI, Hgr⟩ := hrel
    clear HR HD
    obtain ⟨t, ht⟩ : ∃ t, isAt ws i' sClose = t := ⟨_, rfl⟩
    have T := Lib.hid ht; clear ht
    go_wp2_with fail
    refine (take_p sClose (ne_of (by decide)) t HR'.out T.out).mono ?_
    rintro e w1 ⟨rfl, hR, hg⟩
    have hsz := Hgr.out.size
    have HW1 := Lib.hid (HW.out.kept hg (fun k e => .inl (by cases e; exact hrl)))
    have HR1 := Lib.hid hR
    have Hg1 := Lib.hid (grown_trans Hgr.out hg)
    clear hR hg HW Hgr
    cases t with
    | true =>
      obtain ⟨_, _, hd, he⟩ := HI.out
      have hq := args_close hd T.out
      subst hq; subst he
      go_wp2_with fail
      go_ret
      refine ⟨A, c, ?_, ?_, by simpa using HR1.out, Hg1.out⟩
      · simp
      · have := HW1.out.args; simpa using this
    | false =>
      simp only [Bool.false_eq_true, if_false] at HR1
      have HS := Lib.hid (args_split HI.out.2.2.1 T.out)
      have hn : l.length ≤ 4000 := by
        have := HI.out.2.1; have := HR'.out.pos; have := HR'.out.len; omega
      have hii := HI.out.1
      by_cases hbad : l.length ≠ 0 ∧ isAt ws i' sComma = false ∧ r' = .bad i'
      · obtain ⟨e0, ha, rfl⟩ := hbad
        have HA := Lib.hid ha; clear ha
        have e1 : 0 < l.length := by omega
        obtain rfl : r = .bad i' := HI.out.2.2.2
        go_wp2_with fail
        refine (want_pb sComma (ne_of (by decide)) HR1.out HA.out).mono ?_
        rintro e w2 ⟨rfl, hg⟩
        have HGG := Lib.hid (grown_trans Hg1.out hg); clear hg
        unfold badP
        go_wp2_with fail
        exact ⟨rfl, rfl, HGG.out⟩
      · have HS2 := Lib.hid (HS.out.resolve_left hbad)
        clear hbad HS
        obtain ⟨i2, hC, hX⟩ := HS2.out
        have HC := Lib.hid hC; have HX := Lib.hid hX; clear hC hX HS2
        go_upto_if 9 with (fail)
        go_cut [] (fun W => Hid (Rq W rb v ws i2 en) ∧ Hid (w1.grownBy W (some rb)))
        case first =>
          by_cases hl : l.length = 0
          · have HL := Lib.hid hl; clear hl
            obtain rfl : i2 = i' := by rcases HC.out with h | h; exact h.2; exact absurd HL.out h.1
            go_wp2_with fail
            · exfalso; have := HL.out; omega
            go_meet
            case rel => exact ⟨HR1, Lib.hid (grown_of_below (Below.refl _ _) _)⟩
          · have e0 : 0 < l.length := by omega
            have ha : isAt ws i' sComma = true ∧ i2 = i' + 1 := by rcases HC.out with h | h; exact absurd h.1 hl; exact h.2
            obtain ⟨ha, rfl⟩ := ha
            have HA := Lib.hid ha; clear ha
            have HL := Lib.hid hl; clear hl
            go_wp2_with fail
            refine (want_p sComma (ne_of (by decide)) HR1.out HA.out).mono ?_
            rintro e w2 ⟨rfl, hR, hg⟩
            have HR2 := Lib.hid hR; have HG2 := Lib.hid hg
            clear hR hg
            go_wp2_with fail
            go_meet
            case rel => exact ⟨HR2, HG2⟩
        case rest =>
          obtain ⟨HR2, HG2⟩ := hcut
          have hi2 : i' ≤ i2 := by rcases HC.out with h | h <;> omega
          have HW2 := Lib.hid (HW1.out.kept HG2.out (fun k e => .inl (by cases e; exact hrl)))
          have Hg2 := Lib.hid (grown_trans Hg1.out HG2.out)
          rcases HX.out with ⟨j, hy, hb⟩ | ⟨x, j, r2, hy, hm, hj⟩
          · have HY := Lib.hid hy; clear hy
            subst hb
            obtain rfl : r = .bad j := HI.out.2.2.2
            go_wp2_with fail
            refine (H1.out i2 (by omega) _ HY.out wc HR2.out (HG.out.of Hg2.out hr)).mono ?_
            rintro e w3 ⟨rfl, hg⟩
            have HGG := Lib.hid (grown_trans Hg2.out hg); clear hg
            unfold badP
            go_wp2_with fail
            exact ⟨rfl, rfl, HGG.out⟩
          · have HY := Lib.hid hy; have HM := Lib.hid hm; have HJ := Lib.hid hj; clear hy hm hj
            have hon : i2 < j := HY.out.on
            go_wp2_with fail
            refine (H1.out i2 (by omega) _ HY.out wc HR2.out (HG.out.of Hg2.out hr)).mono ?_
            rintro e w3 ⟨A3, c3, rfl, hA, hR, hg⟩
            have hsz2 := Hg2.out.size
            have HA3 := Lib.hid hA; have HR3 := Lib.hid hR
            have HW3 := Lib.hid (HW2.out.kept hg (fun k e => .inl (by cases e; exact hrl)))
            have Hg3 := Lib.hid (grown_trans Hg2.out hg)
            have hlt := HW2.out.1.lt
            have hsz3 := hg.size
            clear hA hR hg
            go_wp2_with ((at_builtin; go_must (refine wpList_app1 elemEx rfl _ _ rfl w.heap.size _ l.length (l.flatMap exElem.cells) rfl (HW3.out.1.alloc _) w3.heap.size 1 #[.int .i64 x.kind, .int .i64 x.n, .string x.text, .slice A3 x.args.length c3, .int .i64 x.pos] rfl (heap_alloc_new w3 _) rfl (by simp [Value.oneCell']) (by omega) (by simp; omega) ?_); intro g4 cap4 w4 hown4 hgrow4 hat4 hlt4))
            have hg4 : (w3.alloc (.cells #[.int .i64 x.kind, .int .i64 x.n, .string x.text, .slice A3 x.args.length c3, .int .i64 x.pos] 186)).grownBy w4 (Value.slice A l.length c).ownBlock := hgrow4
            have ha4 : (Value.slice A l.length c).ownBlock = some g4 ∨ g4 = (w3.alloc (.cells #[.int .i64 x.kind, .int .i64 x.n, .string x.text, .slice A3 x.args.length c3, .int .i64 x.pos] 186)).heap.size := hat4
            have hk4 : exElem.kid (w3.alloc (.cells #[.int .i64 x.kind, .int .i64 x.n, .string x.text, .slice A3 x.args.length c3, .int .i64 x.pos] 186)) (fun g => wc.heap.size ≤ g) (x, .slice A3 x.args.length c3) := HA3.out.keep fun g h1 h2 => ⟨h1, by simp; omega, heap_alloc_old w3 _ h2⟩
            have HW4 := Lib.hid (GRow.app (HW3.out.below ((Below.refl _ _).alloc (Nat.le_refl _) _)) hk4
              (fun g hg => ⟨by omega, fun e => by have := (hlt g e).2; omega⟩) hown4 hg4 ha4)
            have hrow : ∀ k, (Value.slice A l.length c).ownBlock = some k → w.heap.size ≤ k := fun k e => (hlt k e).1
            have HR4 := Lib.hid (rq_app (HR3.out.keep ((Below.refl _ _).alloc (Nat.le_refl _) _)) hg4 (fun k e => by have := hrow k e; omega))
            have Hg4 := Lib.hid (grown_app (grown_trans Hg3.out (grown_of_below ((Below.refl _ _).alloc (Nat.le_refl _) _) _)) hg4 hrow)
            clear hgrow4 hat4 hown4 hg4 ha4 hk4
            go_roundw
            case rel => exact ⟨l ++ [(x, .slice A3 x.args.length c3)], some ⟨g4, 0, none⟩, cap4, j, r2, by simp, by simpa using HW4, HR4, Lib.hid ⟨by omega, by have := HI.out.2.1; simp; omega, by simpa using HM.out, by rw [HI.out.2.2.2, HJ.out]; simp⟩, Hg4⟩
            case measure => rw [HR4.out.place, HR'.out.place]; have := HR4.out.pos; omega
end Go.Proofs.YtmngofgminlloaaGreatDoor

namespace Go.Proofs.YtmngofgminlloaaGreatDoor
open Go.RowKit Tw

theorem lvAt_text (ws : List Wd) (i : Nat) : lvAt ws i = lv (textAt ws i).data.toList := by
  unfold lvAt textAt
  cases ws[i]? <;> rfl

set_option maxRecDepth 100000 in
set_option maxHeartbeats 8000000 in
theorem expr_c (rb : Nat) (v : Value) (ws : List Wd) (en m i : Nat) (hr : 10 < rb) (h1 : UnC rb v ws en i) (h2 : ∀ n j, i < j → ExprC rb v ws en n j) : ExprC rb v ws en m i := by
  intro r hd w h hG
  have H1 := Lib.hid h1; have H2 := Lib.hid h2; have HR := Lib.hid h; have HG := Lib.hid hG; have HD := Lib.hid hd
  have hrl := h.lt
  clear h1 h2 h hG hd
  go_enter Tryz.func224, Tryz.ntmps224
  go_wp2_with fail
  have hal : Below w.heap.size w (w.alloc (.cells #[.int .i64 0, .int .i64 0, .string ⟨#[]⟩, .slice none 0 0, .int .i64 0] 186)) := (Below.refl _ _).alloc (Nat.le_refl _) _
  have hX : (∃ j, r = .bad j ∧ Dc ws en (.one i) (.bad j)) ∨ ∃ a j, Dc ws en (.one i) (.ex a j) ∧ Dc ws en (.rest m a j) r := by
    have h := HD.out
    cases h with
    | ex h1 h2 => exact .inr ⟨_, _, h1, h2⟩
    | exB h => exact .inl ⟨_, rfl, h⟩
  have HA0 := Lib.hid hal; clear hal
  rcases hX with ⟨j, rfl, hy⟩ | ⟨a, j, hy, hm⟩
  · have HY := Lib.hid hy; clear hy
    refine (H1.out _ HY.out _ (HR.out.keep HA0.out) (HG.out.to HA0.out)).mono ?_
    rintro e w1 ⟨rfl, hg⟩
    have HGG := Lib.hid (grown_trans (grown_of_below HA0.out (some rb)) hg); clear hg
    unfold badP
    go_wp2_with fail
    exact ⟨rfl, rfl, HGG.out⟩
  · have HY := Lib.hid hy; have HM := Lib.hid hm; clear hy hm
    have hon : i < j := HY.out.on
    refine (H1.out _ HY.out _ (HR.out.keep HA0.out) (HG.out.to HA0.out)).mono ?_
    rintro e w1 ⟨A, c, rfl, hA, hR, hg⟩
    have hz1 := hg.size
    simp at hz1
    have hF := FrP.start hR ((HG.out.to HA0.out).of hg hr) hr (grown_trans (grown_of_below HA0.out (some rb)) hg) hrl (Nat.le_refl _) (by omega) ((hg.block w.heap.size (by simp) (by simp; omega)).trans (heap_alloc_new w _)) (.int .i64 a.kind) (.int .i64 a.n) (.string a.text) (.slice A a.args.length c) (.int .i64 a.pos)
    have HF := Lib.hid hF
    have HA : Hid (ArgsIn (w1.alloc (.cells #[.int .i64 a.kind, .int .i64 a.n, .string a.text, .slice A a.args.length c, .int .i64 a.pos] 186)) (fun g => w.heap.size ≤ g ∧ g ≠ w.heap.size ∧ g ≠ w1.heap.size) (.slice A a.args.length c) a.args) :=
      Lib.hid (hA.keep fun g h1 h2 => ⟨by simp at h1; omega, by simp; omega, heap_alloc_old w1 _ h2⟩)
    clear hA hR hg hF
    go_upto_block 0 with (fail)
    have hzz : w.heap.size < w1.heap.size := by omega
    generalize w1.alloc _ = W1 at HF HA ⊢
    generalize w1.heap.size = b1 at HF HA hzz ⊢
    obtain ⟨b0, hb0⟩ : ∃ b0, w.heap.size = b0 := ⟨_, rfl⟩
    simp only [hb0] at HF HA hzz
    simp only [hb0]
    have HB0 := Lib.hid hb0; clear hb0
    clear HA0 HY
    go_wp2_with fail
    go_loopw [] (fun wr => ∃ (a : Ex) (A : Option Addr) (c i' : Nat), Hid (FrP w wr rb b0 b1 v ws i' en (.int .i64 a.kind) (.int .i64 a.n) (.string a.text) (.slice A a.args.length c) (.int .i64 a.pos)) ∧ Hid (ArgsIn wr (fun g => b0 ≤ g ∧ g ≠ b0 ∧ g ≠ b1) (.slice A a.args.length c) a.args) ∧ Hid (i < i' ∧ Dc ws en (.rest m a i') r))
      (fun wr => ws.length - placeOf wr rb)
    case atStart => exact ⟨a, A, c, j, HF, HA, Lib.hid ⟨hon, HM.out⟩⟩
    case round =>
      clear HF HA HM hon
      obtain ⟨a, A, c, i', HF, HA, HM⟩ := hrel
      have hpl := HF.out.rd.place
      go_wp2_with fail
      refine (text_p HF.out.rd).mono ?_
      rintro e w2 ⟨rfl, hb⟩
      replace HA := Lib.hid (ArgsIn.later HA.out (some rb) (grown_of_below hb _) (fun g h => by simp; have := HF.out.z0; have := HF.out.z1; omega) (fun g h => h))
      replace HF := Lib.hid (HF.out.below hb)
      clear hb
      go_wp2_with fail
      refine (at_p HF.out.rd).mono ?_
      rintro e w3 ⟨rfl, hb⟩
      replace HA := Lib.hid (ArgsIn.later HA.out (some rb) (grown_of_below hb _) (fun g h => by simp; have := HF.out.z0; have := HF.out.z1; omega) (fun g h => h))
      replace HF := Lib.hid (HF.out.below hb)
      clear hb
      go_wp2_with fail
      refine (level_p _ _).mono ?_
      rintro e w4 ⟨rfl, rfl⟩
      rw [← lvAt_text]
      by_cases hle : lvAt ws i' ≤ m
      · have hx : r = .ex a i' := by
          have h := HM.out.2
          cases h with
          | stop _ => rfl
          | go h => omega
          | goB h => omega
          | cmpB h => omega
        subst hx
        have hle' : (lvAt ws i' : Int) ≤ (m : Int) := by omega
        obtain ⟨⟨c0, c1, c2, c3, c4⟩, f0, f1, f2, f3, f4⟩ := facts5 HF.out.ex
        obtain ⟨⟨d0, d1, d2, d3, d4⟩, g0, g1, g2, g3, g4⟩ := facts5 HF.out.res
        have HW := Lib.hid (set5 (.int .i64 a.kind) (.int .i64 a.n) (.string a.text) (.slice A a.args.length c) (.int .i64 a.pos) HF.out.res)
        go_wp2_with fail
        (try simp only [Exit.inBlock, Exit.then])
        refine bodyPost_ret (results_cell_row rfl _ _ b0 _ _ _ _ rfl HW.out Tryz.underlying186 rfl exInfo) rfl ?_
        exact HF.out.ret HA.out (fun g h => ⟨by have := HB0.out; omega, h.2.1⟩)
      · have hgt : m < lvAt ws i' := by omega
        have hlt : i' < ws.length := by
          rcases Nat.lt_or_ge i' ws.length with h | h
          · exact h
          · unfold lvAt at hgt; rw [List.getElem?_eq_none h] at hgt; simp at hgt
        have hgt' : ¬ (lvAt ws i' : Int) ≤ (m : Int) := by omega
        have r1 := HF.out.rd.c1; have rf := HF.out.rd.fz 1
        have hn4 := HF.out.rd.len
        have hi := HM.out.1
        have hq0 := HF.out.z0; have hq1 := HF.out.z1; have hq2 := HF.out.z2
        clear hle
        go_wp2_with fail
        clear r1 rf
        have HS := Lib.hid (grown_set w3 rb 1 (.int .i64 ((i' : Int) + 1)))
        have HR2 := Lib.hid (HF.out.rd.setI (i' + 1) hlt)
        replace HF := Lib.hid (HF.out.step (by exact HR2.out) HS.out)
        replace HA := Lib.hid (ArgsIn.later HA.out (some rb) HS.out (fun g h => by simp; omega) (fun g h => h))
        clear HS HR2
        generalize w3.setCell ⟨rb, 1, none⟩ _ = w5 at HF HA ⊢
        have hD : (∃ j', r = .bad j' ∧ Dc ws en (.lvl (lvAt ws i') (i' + 1)) (.bad j')) ∨ ∃ y j', Dc ws en (.lvl (lvAt ws i') (i' + 1)) (.ex y j') ∧ ((lvAt ws i' = 3 ∧ lvAt ws j' = 3 ∧ r = .bad j') ∨ (¬ (lvAt ws i' = 3 ∧ lvAt ws j' = 3) ∧ Dc ws en (.rest m (twoEx ws en i' a y) j') r)) := by
          have h := HM.out.2
          cases h with
          | stop h => omega
          | go _ h1 h2 h3 => exact .inr ⟨_, _, h1, .inr ⟨h2, h3⟩⟩
          | goB _ h1 => exact .inl ⟨_, rfl, h1⟩
          | cmpB _ h0 h1 h2 => exact .inr ⟨_, _, h1, .inl ⟨h0, h2, rfl⟩⟩
        rcases hD with ⟨j', rfl, hy⟩ | ⟨y, j', hy, hz⟩
        · have HY := Lib.hid hy; clear hy
          refine (H2.out _ (i' + 1) (by omega) _ HY.out w5 HF.out.rd HF.out.gl).mono ?_
          rintro e w6 ⟨rfl, hg⟩
          have HGG := Lib.hid (grown_trans HF.out.gr hg); clear hg
          unfold badP
          go_wp2_with fail
          exact ⟨rfl, rfl, HGG.out⟩
        · have HY := Lib.hid hy; have HZ := Lib.hid hz; clear hy hz
          have hon : i' + 1 < j' := HY.out.on
          refine (H2.out _ (i' + 1) (by omega) _ HY.out w5 HF.out.rd HF.out.gl).mono ?_
          rintro e w7 ⟨A7, c7, rfl, hA, hR, hg⟩
          have HA7 := Lib.hid hA
          have hq3 := HF.out.z3; have hz5 := HF.out.gr.size; have hs7 := hg.size
          have hb0 := HB0.out
          replace HF := Lib.hid (HF.out.step hR hg)
          replace HA := Lib.hid (ArgsIn.later HA.out (some rb) hg (fun g h => by simp; omega) (fun g h => h))
          clear hA hR hg
          go_upto_region 8 with (fail)
          have HW7 := Lib.hid (heap_alloc_new w7 (.cells #[.int .i64 y.kind, .int .i64 y.n, .string y.text, .slice A7 y.args.length c7, .int .i64 y.pos] 186))
          have HA7' : Hid (ArgsIn (w7.alloc (.cells #[.int .i64 y.kind, .int .i64 y.n, .string y.text, .slice A7 y.args.length c7, .int .i64 y.pos] 186)) (fun g => b0 ≤ g ∧ g ≠ b0 ∧ g ≠ b1) (.slice A7 y.args.length c7) y.args) :=
            Lib.hid (HA7.out.keep fun g (h1 : w5.heap.size ≤ g) h2 => ⟨⟨by omega, by omega, by omega⟩, by simp; omega, heap_alloc_old w7 _ h2⟩)
          have HA' : Hid (ArgsIn (w7.alloc (.cells #[.int .i64 y.kind, .int .i64 y.n, .string y.text, .slice A7 y.args.length c7, .int .i64 y.pos] 186)) (fun g => b0 ≤ g ∧ g ≠ b0 ∧ g ≠ b1) (.slice A a.args.length c) a.args) :=
            Lib.hid (HA.out.keep fun g h1 h2 => ⟨h1, by simp; omega, heap_alloc_old w7 _ h2⟩)
          replace HF := Lib.hid (HF.out.below (w' := w7.alloc (.cells #[.int .i64 y.kind, .int .i64 y.n, .string y.text, .slice A7 y.args.length c7, .int .i64 y.pos] 186)) ((Below.refl _ _).alloc (Nat.le_refl _) _))
          clear HA HA7
          generalize w7.alloc _ = w8 at HF HW7 HA' HA7' ⊢
          generalize w7.heap.size = b7 at HW7 hs7 ⊢
          obtain ⟨⟨x0, x1, x2, x3, x4⟩, y0, y1, y2, y3, y4⟩ := facts5 HF.out.ex
          obtain ⟨⟨m0, m1, m2, m3, m4⟩, -⟩ := facts5 HW7.out
          have hb18 := HF.out.z3
          go_upto_region 9 with (fail)
          clear x0 x1 x2 x3 x4 m0 m1 m2 m3 m4 y0 y1 y2 y3 y4
          have HG5 := Lib.hid (grown5 w8 b1 (.int .i64 6) (.int .i64 0) (.string (textAt ws i')) (.slice (some ⟨w8.heap.size, 0, none⟩) 2 2) (.int .i64 (posAt ws i' en)))
          have hsz : (((((w8.setCell ⟨b1, 0, none⟩ (.int .i64 6)).setCell ⟨b1, 1, none⟩ (.int .i64 0)).setCell ⟨b1, 2, none⟩ (.string (textAt ws i'))).setCell ⟨b1, 3, none⟩ (.slice (some ⟨w8.heap.size, 0, none⟩) 2 2)).setCell ⟨b1, 4, none⟩ (.int .i64 (posAt ws i' en))).heap.size = w8.heap.size := by simp
          have hal : Below (((((w8.setCell ⟨b1, 0, none⟩ (.int .i64 6)).setCell ⟨b1, 1, none⟩ (.int .i64 0)).setCell ⟨b1, 2, none⟩ (.string (textAt ws i'))).setCell ⟨b1, 3, none⟩ (.slice (some ⟨w8.heap.size, 0, none⟩) 2 2)).setCell ⟨b1, 4, none⟩ (.int .i64 (posAt ws i' en))).heap.size (((((w8.setCell ⟨b1, 0, none⟩ (.int .i64 6)).setCell ⟨b1, 1, none⟩ (.int .i64 0)).setCell ⟨b1, 2, none⟩ (.string (textAt ws i'))).setCell ⟨b1, 3, none⟩ (.slice (some ⟨w8.heap.size, 0, none⟩) 2 2)).setCell ⟨b1, 4, none⟩ (.int .i64 (posAt ws i' en))) ((((((w8.setCell ⟨b1, 0, none⟩ (.int .i64 6)).setCell ⟨b1, 1, none⟩ (.int .i64 0)).setCell ⟨b1, 2, none⟩ (.string (textAt ws i'))).setCell ⟨b1, 3, none⟩ (.slice (some ⟨w8.heap.size, 0, none⟩) 2 2)).setCell ⟨b1, 4, none⟩ (.int .i64 (posAt ws i' en))).alloc (.cells #[.int .i64 a.kind, .int .i64 a.n, .string a.text, .slice A a.args.length c, .int .i64 a.pos, .int .i64 y.kind, .int .i64 y.n, .string y.text, .slice A7 y.args.length c7, .int .i64 y.pos] 186)) := (Below.refl _ _).alloc (Nat.le_refl _) _
          have HG6 := Lib.hid (grown_trans HG5.out (grown_of_below hal (some b1)))
          replace HF := Lib.hid ((((((HF.out.s0 (.int .i64 6)).s1 (.int .i64 0)).s2 (.string (textAt ws i'))).s3 (.slice (some ⟨w8.heap.size, 0, none⟩) 2 2)).s4 (.int .i64 (posAt ws i' en))).below hal)
          have HB9 := Lib.hid (heap_alloc_new (((((w8.setCell ⟨b1, 0, none⟩ (.int .i64 6)).setCell ⟨b1, 1, none⟩ (.int .i64 0)).setCell ⟨b1, 2, none⟩ (.string (textAt ws i'))).setCell ⟨b1, 3, none⟩ (.slice (some ⟨w8.heap.size, 0, none⟩) 2 2)).setCell ⟨b1, 4, none⟩ (.int .i64 (posAt ws i' en))) (.cells #[.int .i64 a.kind, .int .i64 a.n, .string a.text, .slice A a.args.length c, .int .i64 a.pos, .int .i64 y.kind, .int .i64 y.n, .string y.text, .slice A7 y.args.length c7, .int .i64 y.pos] 186))
          rw [hsz] at HB9
          have HT2 : Hid (ArgsIn ((((((w8.setCell ⟨b1, 0, none⟩ (.int .i64 6)).setCell ⟨b1, 1, none⟩ (.int .i64 0)).setCell ⟨b1, 2, none⟩ (.string (textAt ws i'))).setCell ⟨b1, 3, none⟩ (.slice (some ⟨w8.heap.size, 0, none⟩) 2 2)).setCell ⟨b1, 4, none⟩ (.int .i64 (posAt ws i' en))).alloc (.cells #[.int .i64 a.kind, .int .i64 a.n, .string a.text, .slice A a.args.length c, .int .i64 a.pos, .int .i64 y.kind, .int .i64 y.n, .string y.text, .slice A7 y.args.length c7, .int .i64 y.pos] 186)) (fun g => b0 ≤ g ∧ g ≠ b0 ∧ g ≠ b1) (.slice (some ⟨w8.heap.size, 0, none⟩) 2 2) [a, y]) :=
            Lib.hid (args_two HA'.out HA7'.out (fun g h1 h2 => ⟨h1, Nat.lt_of_lt_of_le h2 HG6.out.size, HG6.out.block g h2 (by simp; omega)⟩) HB9.out ⟨by omega, by omega, by omega⟩)
          clear HA' HA7' HG5 HG6 HB9 HW7 hal hsz
          generalize (((((w8.setCell ⟨b1, 0, none⟩ (.int .i64 6)).setCell ⟨b1, 1, none⟩ (.int .i64 0)).setCell ⟨b1, 2, none⟩ (.string (textAt ws i'))).setCell ⟨b1, 3, none⟩ (.slice (some ⟨w8.heap.size, 0, none⟩) 2 2)).setCell ⟨b1, 4, none⟩ (.int .i64 (posAt ws i' en))).alloc _ = w9 at HF HT2 ⊢
          generalize w8.heap.size = b8 at HF HT2 hb18 ⊢
          have hpos := HF.out.rd.pos
          by_cases h3 : lvAt ws i' = 3
          · have h3' : (lvAt ws i' : Int) = 3 := by omega
            have H3 := Lib.hid h3; clear h3
            go_wp2_with fail
            refine (text_p HF.out.rd).mono ?_
            rintro e wa ⟨rfl, hb⟩
            replace HT2 := Lib.hid (ArgsIn.later HT2.out (some rb) (grown_of_below hb _) (fun g h => by simp; omega) (fun g h => h))
            replace HF := Lib.hid (HF.out.below hb)
            clear hb
            go_wp2_with fail
            refine (level_p _ _).mono ?_
            rintro e w4 ⟨rfl, rfl⟩
            rw [← lvAt_text]
            by_cases h4 : lvAt ws j' = 3
            · have h4' : (lvAt ws j' : Int) = 3 := by omega
              have hx : r = .bad j' := by
                rcases HZ.out with ⟨_, _, h⟩ | ⟨h, _⟩
                · exact h
                · exact absurd ⟨H3.out, h4⟩ h
              subst hx
              go_wp2_with fail
              refine (at_p HF.out.rd).mono ?_
              rintro e w5 ⟨rfl, hb⟩
              replace HF := Lib.hid (HF.out.below hb)
              clear hb
              go_wp2_with fail
              exact ⟨rfl, rfl, HF.out.gr⟩
            · have h4' : ¬ (lvAt ws j' : Int) = 3 := by omega
              have hm : Dc ws en (.rest m (twoEx ws en i' a y) j') r := by
                rcases HZ.out with ⟨_, h, _⟩ | ⟨_, h⟩
                · exact absurd h h4
                · exact h
              have HM2 := Lib.hid hm; clear hm
              go_wp2_with fail
              go_roundw
              case rel => exact ⟨twoEx ws en i' a y, some ⟨b8, 0, none⟩, 2, j', HF, HT2, Lib.hid ⟨by omega, HM2.out⟩⟩
              case measure => rw [HF.out.rd.place, hpl]; omega
          · have h3' : ¬ (lvAt ws i' : Int) = 3 := by omega
            have hm : Dc ws en (.rest m (twoEx ws en i' a y) j') r := by
              rcases HZ.out with ⟨h, _, _⟩ | ⟨_, h⟩
              · exact absurd h h3
              · exact h
            have HM2 := Lib.hid hm; clear hm
            go_wp2_with fail
            go_roundw
            case rel => exact ⟨twoEx ws en i' a y, some ⟨b8, 0, none⟩, 2, j', HF, HT2, Lib.hid ⟨by omega, HM2.out⟩⟩
            case measure => rw [HF.out.rd.place, hpl]; omega
end Go.Proofs.YtmngofgminlloaaGreatDoor

namespace Go.Proofs.YtmngofgminlloaaGreatDoor
open Go.RowKit Tw

theorem knot_p (rb : Nat) (v : Value) (ws : List Wd) (en : Nat) (hr : 10 < rb) (hN : NumsOk ws) : ∀ k i, ws.length < i + k →
    UnC rb v ws en i ∧ AtomC rb v ws en i ∧ (∀ m, ExprC rb v ws en m i) ∧ ArgsP rb v ws en i := by
  intro k
  induction k with
  | zero =>
    intro i hi
    exact ⟨fun _ _ w h => absurd h.pos (by omega), fun _ _ _ _ w h => absurd h.pos (by omega), fun _ _ _ w h => absurd h.pos (by omega), fun _ _ w h => absurd h.pos (by omega)⟩
  | succ k ih =>
    intro i hi
    have later : ∀ j, i < j → UnC rb v ws en j ∧ AtomC rb v ws en j ∧ (∀ m, ExprC rb v ws en m j) ∧ ArgsP rb v ws en j := fun j hj => ih j (by omega)
    have ha := atom_c rb v ws en i hN hr ((later (i + 1) (by omega)).2.2.1 0) (fun j hj => (later j hj).2.2.2)
    have hu := un_c rb v ws en i hr (later (i + 1) (by omega)).1 ha
    have he : ∀ m, ExprC rb v ws en m i := fun m => expr_c rb v ws en m i hr hu (fun n j hj => (later j hj).2.2.1 n)
    refine ⟨hu, ha, he, args_p rb v ws en i hr fun j hj => ?_⟩
    rcases Nat.eq_or_lt_of_le hj with rfl | hj
    · exact he 0
    · exact (later j hj).2.2.1 0
/-- expr(0) at i makes what the words say. -/
theorem expr_r (rb : Nat) (v : Value) (ws : List Wd) (en i m : Nat) (hr : 10 < rb) (hN : NumsOk ws) : ExprC rb v ws en m i := (knot_p rb v ws en hr hN (ws.length + 1) i (by omega)).2.2.1 m
end Go.Proofs.YtmngofgminlloaaGreatDoor

namespace Go.Proofs.YtmngofgminlloaaGreatDoor
open Go.RowKit Tw

/-- The frame of stmt(): the reader; the cells of its result (b0), of its statement (b1); what has turned since w0. -/
structure FrQ (w0 w : World) (rb b0 b1 : Nat) (v : Value) (ws : List Wd) (i en : Nat) (u0 u1 u2 u3 u4 u5 u6 u7 u8 u9 : Value) : Prop where
  rd : Rq w rb v ws i en
  res : w.heap[b0]? = some (.cells #[.int .i64 0, .string ⟨#[]⟩, .int .i64 0, .int .i64 0, .string ⟨#[]⟩, .slice none 0 0, .int .i64 0, .slice none 0 0, .slice none 0 0, .int .i64 0] 188 (0, 0))
  ex : w.heap[b1]? = some (.cells #[u0, u1, u2, u3, u4, u5, u6, u7, u8, u9] 188 (0, 0))
  gr : w0.grownBy w (some rb)
  gl : Glob w
  r0 : 10 < rb
  z0 : rb < w0.heap.size
  z1 : w0.heap.size ≤ b0
  z2 : b0 ≠ b1
  z3 : b1 < w.heap.size
  z4 : w0.heap.size ≤ b1
  z5 : b0 < w.heap.size
section
variable {w0 w w' : World} {rb b0 b1 : Nat} {v : Value} {ws : List Wd} {i en : Nat} {u0 u1 u2 u3 u4 u5 u6 u7 u8 u9 : Value}
theorem FrQ.step {i' : Nat} (h : FrQ w0 w rb b0 b1 v ws i en u0 u1 u2 u3 u4 u5 u6 u7 u8 u9) (hr : Rq w' rb v ws i' en) (hg : w.grownBy w' (some rb)) : FrQ w0 w' rb b0 b1 v ws i' en u0 u1 u2 u3 u4 u5 u6 u7 u8 u9 := by
  have h0 := h.z0; have h1 := h.z1; have h2 := h.z2; have h3 := h.z3; have h4 := h.z4; have h5 := h.z5
  exact ⟨hr, (hg.block b0 (by omega) (by simp; omega)).trans h.res, (hg.block b1 h3 (by simp; omega)).trans h.ex, grown_trans h.gr hg, h.gl.of hg h.r0, h.r0, h0, h1, h2, Nat.lt_of_lt_of_le h3 hg.size, h4, Nat.lt_of_lt_of_le h5 hg.size⟩
theorem FrQ.below (h : FrQ w0 w rb b0 b1 v ws i en u0 u1 u2 u3 u4 u5 u6 u7 u8 u9) (hb : Below w.heap.size w w') : FrQ w0 w' rb b0 b1 v ws i en u0 u1 u2 u3 u4 u5 u6 u7 u8 u9 :=
  h.step (h.rd.keep hb) (grown_of_below hb _)
theorem FrQ.set {v0 v1 v2 v3 v4 v5 v6 v7 v8 v9 : Value} (h : FrQ w0 w rb b0 b1 v ws i en u0 u1 u2 u3 u4 u5 u6 u7 u8 u9) (hg : w.grownBy w' (some b1)) (he : w'.heap[b1]? = some (.cells #[v0, v1, v2, v3, v4, v5, v6, v7, v8, v9] 188 (0, 0))) : FrQ w0 w' rb b0 b1 v ws i en v0 v1 v2 v3 v4 v5 v6 v7 v8 v9 := by
  have h0 := h.z0; have h1 := h.z1; have h2 := h.z2; have h3 := h.z3; have h4 := h.z4; have h5 := h.z5; have hz := h.gr.size
  exact ⟨h.rd.grown hg (by omega), (hg.block b0 (by omega) (by simp; omega)).trans h.res, he, grown_new h.gr hg (by omega), h.gl.same hg.size (fun g hg' => hg.block g (by have := h.r0; omega) (by simp; have := h.r0; omega)), h.r0, h0, h1, h2, Nat.lt_of_lt_of_le h3 hg.size, h4, Nat.lt_of_lt_of_le h5 hg.size⟩
theorem FrQ.s0 (h : FrQ w0 w rb b0 b1 v ws i en u0 u1 u2 u3 u4 u5 u6 u7 u8 u9) (x : Value) : FrQ w0 (w.setCell ⟨b1, 0, none⟩ x) rb b0 b1 v ws i en x u1 u2 u3 u4 u5 u6 u7 u8 u9 := h.set (grown_set _ _ _ _) (by simpa using heap_setCell_same w b1 0 _ _ x h.ex)
theorem FrQ.s1 (h : FrQ w0 w rb b0 b1 v ws i en u0 u1 u2 u3 u4 u5 u6 u7 u8 u9) (x : Value) : FrQ w0 (w.setCell ⟨b1, 1, none⟩ x) rb b0 b1 v ws i en u0 x u2 u3 u4 u5 u6 u7 u8 u9 := h.set (grown_set _ _ _ _) (by simpa using heap_setCell_same w b1 1 _ _ x h.ex)
theorem FrQ.s2 (h : FrQ w0 w rb b0 b1 v ws i en u0 u1 u2 u3 u4 u5 u6 u7 u8 u9) (x : Value) : FrQ w0 (w.setCell ⟨b1, 2, none⟩ x) rb b0 b1 v ws i en u0 u1 x u3 u4 u5 u6 u7 u8 u9 := h.set (grown_set _ _ _ _) (by simpa using heap_setCell_same w b1 2 _ _ x h.ex)
theorem FrQ.s3 (h : FrQ w0 w rb b0 b1 v ws i en u0 u1 u2 u3 u4 u5 u6 u7 u8 u9) (x : Value) : FrQ w0 (w.setCell ⟨b1, 3, none⟩ x) rb b0 b1 v ws i en u0 u1 u2 x u4 u5 u6 u7 u8 u9 := h.set (grown_set _ _ _ _) (by simpa using heap_setCell_same w b1 3 _ _ x h.ex)
theorem FrQ.s4 (h : FrQ w0 w rb b0 b1 v ws i en u0 u1 u2 u3 u4 u5 u6 u7 u8 u9) (x : Value) : FrQ w0 (w.setCell ⟨b1, 4, none⟩ x) rb b0 b1 v ws i en u0 u1 u2 u3 x u5 u6 u7 u8 u9 := h.set (grown_set _ _ _ _) (by simpa using heap_setCell_same w b1 4 _ _ x h.ex)
theorem FrQ.s5 (h : FrQ w0 w rb b0 b1 v ws i en u0 u1 u2 u3 u4 u5 u6 u7 u8 u9) (x : Value) : FrQ w0 (w.setCell ⟨b1, 5, none⟩ x) rb b0 b1 v ws i en u0 u1 u2 u3 u4 x u6 u7 u8 u9 := h.set (grown_set _ _ _ _) (by simpa using heap_setCell_same w b1 5 _ _ x h.ex)
theorem FrQ.s6 (h : FrQ w0 w rb b0 b1 v ws i en u0 u1 u2 u3 u4 u5 u6 u7 u8 u9) (x : Value) : FrQ w0 (w.setCell ⟨b1, 6, none⟩ x) rb b0 b1 v ws i en u0 u1 u2 u3 u4 u5 x u7 u8 u9 := h.set (grown_set _ _ _ _) (by simpa using heap_setCell_same w b1 6 _ _ x h.ex)
theorem FrQ.s7 (h : FrQ w0 w rb b0 b1 v ws i en u0 u1 u2 u3 u4 u5 u6 u7 u8 u9) (x : Value) : FrQ w0 (w.setCell ⟨b1, 7, none⟩ x) rb b0 b1 v ws i en u0 u1 u2 u3 u4 u5 u6 x u8 u9 := h.set (grown_set _ _ _ _) (by simpa using heap_setCell_same w b1 7 _ _ x h.ex)
theorem FrQ.s8 (h : FrQ w0 w rb b0 b1 v ws i en u0 u1 u2 u3 u4 u5 u6 u7 u8 u9) (x : Value) : FrQ w0 (w.setCell ⟨b1, 8, none⟩ x) rb b0 b1 v ws i en u0 u1 u2 u3 u4 u5 u6 u7 x u9 := h.set (grown_set _ _ _ _) (by simpa using heap_setCell_same w b1 8 _ _ x h.ex)
theorem FrQ.start (hR : Rq w rb v ws i en) (hG : Glob w) (hr : 10 < rb) (hg : w0.grownBy w (some rb)) (h0 : rb < w0.heap.size) (h1 : w0.heap.size ≤ b0) (h2 : b0 < w.heap.size)
    (hz : w.heap[b0]? = some (.cells #[.int .i64 0, .string ⟨#[]⟩, .int .i64 0, .int .i64 0, .string ⟨#[]⟩, .slice none 0 0, .int .i64 0, .slice none 0 0, .slice none 0 0, .int .i64 0] 188 (0, 0))) (u0 u1 u2 u3 u4 u5 u6 u7 u8 u9 : Value) :
    FrQ w0 (w.alloc (.cells #[u0, u1, u2, u3, u4, u5, u6, u7, u8, u9] 188)) rb b0 w.heap.size v ws i en u0 u1 u2 u3 u4 u5 u6 u7 u8 u9 :=
  ⟨hR.keep ((Below.refl _ _).alloc (Nat.le_refl _) _), (heap_alloc_old w _ h2).trans hz, heap_alloc_new w _, grown_trans hg (grown_of_below ((Below.refl _ _).alloc (Nat.le_refl _) _) _), hG.to ((Below.refl _ _).alloc (Nat.le_refl _) _), hr, h0, h1, Nat.ne_of_lt h2, by simp, hg.size, by simp; omega⟩
theorem FrQ.start2 (hR : Rq w rb v ws i en) (hG : Glob w) (hr : 10 < rb) (u0 u1 u2 u3 u4 u5 u6 u7 u8 u9 : Value) :
    FrQ w ((w.alloc (.cells #[u0, u1, u2, u3, u4, u5, u6, u7, u8, u9] 188)).alloc (.cells #[.int .i64 0, .string ⟨#[]⟩, .int .i64 0, .int .i64 0, .string ⟨#[]⟩, .slice none 0 0, .int .i64 0, .slice none 0 0, .slice none 0 0, .int .i64 0] 188)) rb (w.heap.size + 1) w.heap.size v ws i en u0 u1 u2 u3 u4 u5 u6 u7 u8 u9 := by
  have hB : Below w.heap.size w ((w.alloc (.cells #[u0, u1, u2, u3, u4, u5, u6, u7, u8, u9] 188)).alloc (.cells #[.int .i64 0, .string ⟨#[]⟩, .int .i64 0, .int .i64 0, .string ⟨#[]⟩, .slice none 0 0, .int .i64 0, .slice none 0 0, .slice none 0 0, .int .i64 0] 188)) := ((Below.refl _ _).alloc (Nat.le_refl _) _).alloc (by simp) _
  have hl := hR.lt
  exact ⟨hR.keep hB, by simpa using heap_alloc_new (w.alloc (.cells #[u0, u1, u2, u3, u4, u5, u6, u7, u8, u9] 188)) (.cells #[.int .i64 0, .string ⟨#[]⟩, .int .i64 0, .int .i64 0, .string ⟨#[]⟩, .slice none 0 0, .int .i64 0, .slice none 0 0, .slice none 0 0, .int .i64 0] 188), (heap_alloc_old _ _ (by simp)).trans (heap_alloc_new w _), grown_of_below hB _, hG.to hB, hr, hl, by omega, by omega, by simp; omega, Nat.le_refl _, by simp⟩
end

/-- What a method for statements answers, by what stands there. -/
def SmR (w : World) (rb : Nat) (v : Value) (ws : List Wd) (en : Nat) (r : Rs) (e : Ending) (w' : World) : Prop :=
  match r with
  | .st s j => ∃ Aa ca Ab cb Ae ce, e = .returned (.agg #[.int .i64 s.kind, .string s.name, .int .i64 s.a.kind, .int .i64 s.a.n, .string s.a.text, .slice Aa s.a.args.length ca, .int .i64 s.a.pos, .slice Ab s.body.length cb, .slice Ae s.els.length ce, .int .i64 s.pos]) ∧ ArgsIn w' (fun g => w.heap.size ≤ g) (.slice Aa s.a.args.length ca) s.a.args ∧ StmtsIn w' (fun g => w.heap.size ≤ g) (.slice Ab s.body.length cb) s.body ∧ StmtsIn w' (fun g => w.heap.size ≤ g) (.slice Ae s.els.length ce) s.els ∧ Rq w' rb v ws j en ∧ w.grownBy w' (some rb)
  | .bad j => e = badP ws en j ∧ w.grownBy w' (some rb)
  | .sts _ _ => False
def BlR (w : World) (rb : Nat) (v : Value) (ws : List Wd) (en : Nat) (r : Rs) (e : Ending) (w' : World) : Prop :=
  match r with
  | .sts l j => ∃ A c, e = .returned (.slice A l.length c) ∧ StmtsIn w' (fun g => w.heap.size ≤ g) (.slice A l.length c) l ∧ Rq w' rb v ws j en ∧ w.grownBy w' (some rb)
  | .bad j => e = badP ws en j ∧ w.grownBy w' (some rb)
  | .st _ _ => False
def StmtP (rb : Nat) (v : Value) (ws : List Wd) (en i : Nat) : Prop :=
  ∀ r, Ds ws en (.stmt i) r → ∀ w, Rq w rb v ws i en → Glob w → Calls Tryz.prog 191 #[.pointer (some ⟨rb, 0, none⟩)] w fun e w' => SmR w rb v ws en r e w'
def BlockP (rb : Nat) (v : Value) (ws : List Wd) (en i : Nat) : Prop :=
  ∀ r, Ds ws en (.block i) r → ∀ w, Rq w rb v ws i en → Glob w → Calls Tryz.prog 141 #[.pointer (some ⟨rb, 0, none⟩)] w fun e w' => BlR w rb v ws en r e w'
end Go.Proofs.YtmngofgminlloaaGreatDoor

namespace Go.Proofs.YtmngofgminlloaaGreatDoor
open Go.RowKit Tw

theorem De.on {ws : List Wd} {en : Nat} {q : Qe} {r : Re} (h : De ws en q r) : dcOn q r := by
  induction h
  case lvl r _ _ _ ih1 ih2 => cases r <;> simp only [dcOn] at * <;> omega
  case lvl6 r _ ih => cases r <;> simp only [dcOn] at * <;> omega
  case go r _ _ _ _ ih1 ih2 => cases r <;> simp only [dcOn] at * <;> omega
  all_goals (simp only [dcOn] at *; try omega)
def dsOn : Qs → Rs → Prop
  | .stmt i, .st _ j => i < j
  | .block i, .sts _ j => i < j
  | .stmts i, .sts _ j => i < j
  | _, _ => True
theorem Ds.on {ws : List Wd} {en : Nat} {q : Qs} {r : Rs} (h : Ds ws en q r) : dsOn q r := by
  induction h
  case simp h _ => have h' : exprS ws _ < _ := De.on h; simp only [dsOn]; unfold exprS at h'; (repeat' split at h') <;> omega
  case block r _ _ ih => cases r <;> simp only [dsOn] at * <;> omega
  case whil h _ ih => have h' : _ < _ := De.on h; simp only [dsOn] at *; omega
  case if0 h _ _ ih => have h' : _ < _ := De.on h; simp only [dsOn] at *; omega
  case ifE h _ _ _ _ ih1 ih2 => have h' : _ < _ := De.on h; simp only [dsOn] at *; omega
  case ifI h _ _ _ _ ih1 ih2 => have h' : _ < _ := De.on h; simp only [dsOn] at *; omega
  all_goals (simp only [dsOn] at *; try omega)

def joinS (l : List Sm) : Rs → Rs
  | .sts m j => .sts (l ++ m) j
  | r => r
set_option maxRecDepth 100000 in
set_option maxHeartbeats 8000000 in
theorem block_p (rb : Nat) (v : Value) (ws : List Wd) (en i : Nat) (hr : 10 < rb) (h1 : ∀ j, i < j → StmtP rb v ws en j) : BlockP rb v ws en i := by
  intro r hd w h hG
  have H1 := Lib.hid h1; have HR := Lib.hid h; have HG := Lib.hid hG; have HD := Lib.hid hd
  have hrl := h.lt
  clear h1 h hG hd
  go_enter Tryz.func141, Tryz.ntmps141
  go_wp2_with fail
  have hX : (isAt ws i sBra = false ∧ r = .bad i) ∨ (isAt ws i sBra = true ∧ Ds ws en (.stmts (i + 1)) r) := by
    have h := HD.out
    cases h with
    | blockB h => exact .inl ⟨h, rfl⟩
    | block h h2 => exact .inr ⟨h, h2⟩
  rcases hX with ⟨ha, rfl⟩ | ⟨ha, hd⟩
  · refine (want_pb sBra (ne_of (by decide)) HR.out ha).mono ?_
    rintro e w2 ⟨rfl, hg⟩
    have HGG := Lib.hid hg; clear hg
    unfold badP
    go_wp2_with fail
    exact ⟨rfl, rfl, HGG.out⟩
  have HS0 := Lib.hid hd; clear hd
  refine (want_p sBra (ne_of (by decide)) HR.out ha).mono ?_
  rintro e w0 ⟨rfl, hR, hg⟩
  have HR0 := Lib.hid hR
  have Hg0 := Lib.hid hg
  clear hR hg HR HD ha
  go_wp2_with fail
  go_loopw [3] (fun o wr => ∃ (l : List (Sm × Value × Value × Value)) (A : Option Addr) (c i' : Nat) (r' : Rs), o = .slice A l.length c ∧ Hid (GRow smElem wr w.heap.size 188 10 (.slice A l.length c) l) ∧ Hid (Rq wr rb v ws i' en) ∧ Hid (i < i' ∧ l.length ≤ i' ∧ Ds ws en (.stmts i') r' ∧ r = joinS (l.map (·.1)) r') ∧ Hid (w.grownBy wr (some rb)))
    (fun _ wr => ws.length - placeOf wr rb)
  case atStart => exact ⟨[], none, 0, i + 1, r, rfl, Lib.hid (GRow.nil _ _ _ _ _), HR0, Lib.hid ⟨by omega, by simp, HS0.out, by cases r <;> simp [joinS]⟩, Hg0⟩
  case round =>
    obtain ⟨l, A, c, i', r', rfl, HW, HR', HI, Hgr⟩ := hrel
    clear HR0 HS0 Hg0
    obtain ⟨t, ht⟩ : ∃ t, isAt ws i' sKet = t := ⟨_, rfl⟩
    have T := Lib.hid ht; clear ht
    go_wp2_with fail
    refine (take_p sKet (ne_of (by decide)) t HR'.out T.out).mono ?_
    rintro e w1 ⟨rfl, hR, hg⟩
    have hsz := Hgr.out.size
    have HW1 := Lib.hid (HW.out.kept hg (fun k e => .inl (by cases e; exact hrl)))
    have HR1 := Lib.hid hR
    have Hg1 := Lib.hid (grown_trans Hgr.out hg)
    clear hR hg HW Hgr
    cases t with
    | true =>
      obtain ⟨_, _, hd, he⟩ := HI.out
      have hq : r' = .sts [] (i' + 1) := by
        cases hd with
        | done _ => rfl
        | more h => rw [T.out] at h; cases h
        | moreR h => rw [T.out] at h; cases h
        | moreB h => rw [T.out] at h; cases h
      subst hq; subst he
      go_wp2_with fail
      go_ret
      refine ⟨A, c, ?_, ?_, by simpa using HR1.out, Hg1.out⟩
      · simp
      · have := HW1.out.stmts; simpa using this
    | false =>
      simp only [Bool.false_eq_true, if_false] at HR1
      have hn : l.length ≤ 4000 := by
        have := HI.out.2.1; have := HR'.out.pos; have := HR'.out.len; omega
      have hii := HI.out.1
      have hX : (∃ j, Ds ws en (.stmt i') (.bad j) ∧ r = .bad j) ∨ ∃ x j r2, Ds ws en (.stmt i') (.st x j) ∧ Ds ws en (.stmts j) r2 ∧ r = joinS (l.map (·.1) ++ [x]) r2 := by
        have h := HI.out.2.2.1; have e := HI.out.2.2.2
        cases h with
        | done h => rw [T.out] at h; cases h
        | more _ h1 h2 => exact .inr ⟨_, _, _, h1, h2, by rw [e]; simp [joinS]⟩
        | moreR _ h1 h2 => exact .inr ⟨_, _, _, h1, h2, by rw [e]; rfl⟩
        | moreB _ h1 => exact .inl ⟨_, h1, by rw [e]; rfl⟩
      rcases hX with ⟨j, hy, rfl⟩ | ⟨s, j, r2, hy, hm, hj⟩
      · have HY := Lib.hid hy; clear hy
        go_wp2_with fail
        refine (H1.out i' hii _ HY.out w1 HR1.out (HG.out.of Hg1.out hr)).mono ?_
        rintro e w3 ⟨rfl, hg⟩
        have HGG := Lib.hid (grown_trans Hg1.out hg); clear hg
        unfold badP
        go_wp2_with fail
        exact ⟨rfl, rfl, HGG.out⟩
      · have HY := Lib.hid hy; have HM := Lib.hid hm; have HJ := Lib.hid hj; clear hy hm hj
        have hon : i' < j := HY.out.on
        go_wp2_with fail
        refine (H1.out i' hii _ HY.out w1 HR1.out (HG.out.of Hg1.out hr)).mono ?_
        rintro e w3 ⟨Aa, ca, Ab, cb, Ae, ce, rfl, hA, hB, hE, hR, hg⟩
        have hsz2 := Hg1.out.size
        have HK : Hid (smElem.kid w3 (fun g => w1.heap.size ≤ g) (s, .slice Aa s.a.args.length ca, .slice Ab s.body.length cb, .slice Ae s.els.length ce)) := Lib.hid ⟨hA, hB, hE⟩
        have HR3 := Lib.hid hR
        have HW3 := Lib.hid (HW1.out.kept hg (fun k e => .inl (by cases e; exact hrl)))
        have Hg3 := Lib.hid (grown_trans Hg1.out hg)
        have hown := HW1.out.1.lt
        have hsz3 := hg.size
        clear hA hB hE hR hg
        go_wp2_with ((at_builtin; go_must (refine wpList_app1 elemSm rfl _ _ rfl w.heap.size _ l.length (l.flatMap smElem.cells) rfl (HW3.out.1.alloc _) w3.heap.size 1 #[.int .i64 s.kind, .string s.name, .int .i64 s.a.kind, .int .i64 s.a.n, .string s.a.text, .slice Aa s.a.args.length ca, .int .i64 s.a.pos, .slice Ab s.body.length cb, .slice Ae s.els.length ce, .int .i64 s.pos] rfl (heap_alloc_new w3 _) rfl (by simp [Value.oneCell']) (by omega) (by simp; omega) ?_); intro g4 cap4 w4 hown4 hgrow4 hat4 hlt4))
        have hg4 : (w3.alloc (.cells #[.int .i64 s.kind, .string s.name, .int .i64 s.a.kind, .int .i64 s.a.n, .string s.a.text, .slice Aa s.a.args.length ca, .int .i64 s.a.pos, .slice Ab s.body.length cb, .slice Ae s.els.length ce, .int .i64 s.pos] 188)).grownBy w4 (Value.slice A l.length c).ownBlock := hgrow4
        have ha4 : (Value.slice A l.length c).ownBlock = some g4 ∨ g4 = (w3.alloc (.cells #[.int .i64 s.kind, .string s.name, .int .i64 s.a.kind, .int .i64 s.a.n, .string s.a.text, .slice Aa s.a.args.length ca, .int .i64 s.a.pos, .slice Ab s.body.length cb, .slice Ae s.els.length ce, .int .i64 s.pos] 188)).heap.size := hat4
        have hk4 : smElem.kid (w3.alloc (.cells #[.int .i64 s.kind, .string s.name, .int .i64 s.a.kind, .int .i64 s.a.n, .string s.a.text, .slice Aa s.a.args.length ca, .int .i64 s.a.pos, .slice Ab s.body.length cb, .slice Ae s.els.length ce, .int .i64 s.pos] 188)) (fun g => w1.heap.size ≤ g) (s, .slice Aa s.a.args.length ca, .slice Ab s.body.length cb, .slice Ae s.els.length ce) :=
          smElem.keep (fun g h1 h2 => ⟨h1, by simp; omega, heap_alloc_old w3 _ h2⟩) HK.out
        have HW4 := Lib.hid (GRow.app (HW3.out.below ((Below.refl _ _).alloc (Nat.le_refl _) _)) hk4 (fun g hg => ⟨by omega, fun e => by have := (hown g e).2; omega⟩) hown4 hg4 ha4)
        have hrow : ∀ k, (Value.slice A l.length c).ownBlock = some k → w.heap.size ≤ k := fun k e => (hown k e).1
        have HR4 := Lib.hid (rq_app (HR3.out.keep ((Below.refl _ _).alloc (Nat.le_refl _) _)) hg4 (fun k e => by have := hrow k e; omega))
        have Hg4 := Lib.hid (grown_app (grown_trans Hg3.out (grown_of_below ((Below.refl _ _).alloc (Nat.le_refl _) _) _)) hg4 hrow)
        clear hgrow4 hat4 hown4 hg4 ha4 hk4
        go_roundw
        case rel => exact ⟨l ++ [(s, .slice Aa s.a.args.length ca, .slice Ab s.body.length cb, .slice Ae s.els.length ce)], some ⟨g4, 0, none⟩, cap4, j, r2, by simp, by simpa using HW4, HR4, Lib.hid ⟨by omega, by have := HI.out.2.1; simp; omega, HM.out, by rw [HJ.out]; simp⟩, Hg4⟩
        case measure => rw [HR4.out.place, HR'.out.place]; have := HR4.out.pos; omega
end Go.Proofs.YtmngofgminlloaaGreatDoor
