/-
  The reference's stmt(), of whatever its callees answer by contract.
  The reference's block(), of whatever its callee answers by contract.
  The methods of the reference's reader answer as they say, each at every place: the knot is tied by the words that are left.
-/
import Derived.Test.YtmngofgminlloaaGreatDoorTT09
import Derived.Outline
import Derived.Deep.DeepCutAuto
import Derived.Test.YtmngofgminlloaaGreatDoorTT08
set_option linter.all false
namespace Go.Proofs.YtmngofgminlloaaGreatDoor
open Go.RowKit Tw

def kw : Nat → ByteArray
  | 0 => sLet | 2 => sIf | 3 => sWhile | 4 => sReturn | 5 => sYield | _ => sNone
/-- Which keyword has been taken. -/
def HeadR (ws : List Wd) (i : Nat) (b : Bool) (kd i1 : Nat) : Prop :=
  (kd = 7 ∧ i1 = i ∧ ∀ j, j < 6 → j ≠ 1 → seeB ws i b (kw j) = false) ∨ (b = false ∧ kd ≠ 7 ∧ kd ≠ 2 ∧ kd = headS ws i ∧ i1 = i + 1)
theorem HeadR.set {ws : List Wd} {i : Nat} {b : Bool} {kd i1 : Nat} (h : HeadR ws i b kd i1) (t : Bool) (ht : t = true ↔ (kd = 7 ∧ kindAt ws i1 = 2 ∧ isAt ws (i1 + 1) sEq = true)) : HeadK ws i b (if t then 2 else kd) i1 := by
  rcases h with ⟨rfl, rfl, hn⟩ | ⟨rfl, h7, h2, hs, rfl⟩
  · refine ⟨fun hb => ?_, fun _ => by cases t <;> simp, by cases t <;> simp⟩
    subst hb
    have e1 := seeB_no (hn 0 (by decide) (by decide)); have e2 := seeB_no (hn 2 (by decide) (by decide)); have e3 := seeB_no (hn 3 (by decide) (by decide)); have e4 := seeB_no (hn 4 (by decide) (by decide)); have e5 := seeB_no (hn 5 (by decide) (by decide))
    simp only [kw] at e1 e2 e3 e4 e5
    unfold headS
    simp only [e1, e2, e3, e4, e5, Bool.false_eq_true, if_false]
    cases t with
    | true => show 2 = _; rw [if_pos (ht.1 rfl).2]
    | false => show 7 = _; rw [if_neg (fun e => absurd (ht.2 ⟨rfl, e⟩) (by decide))]
  · have : t = false := by cases t with | false => rfl | true => exact absurd (ht.1 rfl).1 h7
    subst this
    exact ⟨fun _ => hs, fun e => absurd e (by decide), by simp; exact ⟨h2, h7⟩⟩
theorem HeadR.k0 {ws : List Wd} {i : Nat} {b : Bool} (hn : ∀ j, j < 0 → j ≠ 1 → seeB ws i b (kw j) = false) (h : seeB ws i b sLet = true) : HeadR ws i b 1 (i + 1) := by
  obtain ⟨rfl, ha⟩ := seeB_yes h
  exact .inr ⟨rfl, by decide, by decide, by unfold headS; simp [ha], rfl⟩
theorem HeadR.k2 {ws : List Wd} {i : Nat} {b : Bool} (hn : ∀ j, j < 2 → j ≠ 1 → seeB ws i b (kw j) = false) (h : seeB ws i b sIf = true) : HeadR ws i b 3 (i + 1) := by
  obtain ⟨rfl, ha⟩ := seeB_yes h
  have e0 := seeB_no (hn 0 (by decide) (by decide))
  simp only [kw] at e0
  exact .inr ⟨rfl, by decide, by decide, by unfold headS; simp [ha, e0], rfl⟩
theorem HeadR.k3 {ws : List Wd} {i : Nat} {b : Bool} (hn : ∀ j, j < 3 → j ≠ 1 → seeB ws i b (kw j) = false) (h : seeB ws i b sWhile = true) : HeadR ws i b 4 (i + 1) := by
  obtain ⟨rfl, ha⟩ := seeB_yes h
  have e0 := seeB_no (hn 0 (by decide) (by decide))
  have e2 := seeB_no (hn 2 (by decide) (by decide))
  simp only [kw] at e0 e2
  exact .inr ⟨rfl, by decide, by decide, by unfold headS; simp [ha, e0, e2], rfl⟩
theorem HeadR.k4 {ws : List Wd} {i : Nat} {b : Bool} (hn : ∀ j, j < 4 → j ≠ 1 → seeB ws i b (kw j) = false) (h : seeB ws i b sReturn = true) : HeadR ws i b 5 (i + 1) := by
  obtain ⟨rfl, ha⟩ := seeB_yes h
  have e0 := seeB_no (hn 0 (by decide) (by decide))
  have e2 := seeB_no (hn 2 (by decide) (by decide))
  have e3 := seeB_no (hn 3 (by decide) (by decide))
  simp only [kw] at e0 e2 e3
  exact .inr ⟨rfl, by decide, by decide, by unfold headS; simp [ha, e0, e2, e3], rfl⟩
theorem HeadR.k5 {ws : List Wd} {i : Nat} {b : Bool} (hn : ∀ j, j < 5 → j ≠ 1 → seeB ws i b (kw j) = false) (h : seeB ws i b sYield = true) : HeadR ws i b 6 (i + 1) := by
  obtain ⟨rfl, ha⟩ := seeB_yes h
  have e0 := seeB_no (hn 0 (by decide) (by decide))
  have e2 := seeB_no (hn 2 (by decide) (by decide))
  have e3 := seeB_no (hn 3 (by decide) (by decide))
  have e4 := seeB_no (hn 4 (by decide) (by decide))
  simp only [kw] at e0 e2 e3 e4
  exact .inr ⟨rfl, by decide, by decide, by unfold headS; simp [ha, e0, e2, e3, e4], rfl⟩

set_option maxRecDepth 100000 in
set_option maxHeartbeats 16000000 in
theorem stmt_c (rb : Nat) (v : Value) (ws : List Wd) (en i : Nat) (hr : 10 < rb) (h1 : ∀ j, i ≤ j → LvlC rb v ws en 1 j) (h2 : ∀ j, i < j → BlockC rb v ws en j) (h3 : ∀ j, i < j → StmtC rb v ws en j) : StmtC rb v ws en i := by
  intro w b h hG
  have H1 := Lib.hid h1; have H2 := Lib.hid h2; have H3 := Lib.hid h3; have HR := Lib.hid h; have HG := Lib.hid hG
  have hrl := h.lt
  clear h1 h2 h3 h hG
  go_enter Tryz.func108, Tryz.ntmps108
  go_wp2_with fail
  refine (at_r (HR.out.keep ((Below.refl _ _).alloc (Nat.le_refl _) _))).mono ?_
  rintro e w1 ⟨rfl, hb⟩
  have hb0 : Below w.heap.size w w1 := ((Below.refl _ _).alloc (Nat.le_refl _) _).trans (hb.mono (by simp))
  have HF := Lib.hid (FrS.start (HR.out.keep hb0) (HG.out.to hb0) hr (grown_of_below hb0 _) hrl (Nat.le_refl _) (by have := hb.size; simp at this; omega) ((hb.block _ (by simp)).trans (heap_alloc_new w _)) (.int .i64 7) (.string ⟨#[]⟩) (.int .i64 0) (.int .i64 0) (.string ⟨#[]⟩) (.slice none 0 0) (.int .i64 0) (.slice none 0 0) (.slice none 0 0) (.int .i64 (posAt ws i en)))
  clear hb hb0
  go_upto_block 0 with (fail)
  have HK : Hid (((w1.alloc (.cells #[.int .i64 7, .string ⟨#[]⟩, .int .i64 0, .int .i64 0, .string ⟨#[]⟩, .slice none 0 0, .int .i64 0, .slice none 0 0, .slice none 0 0, .int .i64 (posAt ws i en)] 188)).alloc (.cells #[.string ⟨#[108, 101, 116]⟩, .string ⟨#[]⟩, .string ⟨#[105, 102]⟩, .string ⟨#[119, 104, 105, 108, 101]⟩, .string ⟨#[114, 101, 116, 117, 114, 110]⟩, .string ⟨#[121, 105, 101, 108, 100]⟩] 9)).heap[w1.heap.size + 1]? = some (.cells #[.string ⟨#[108, 101, 116]⟩, .string ⟨#[]⟩, .string ⟨#[105, 102]⟩, .string ⟨#[119, 104, 105, 108, 101]⟩, .string ⟨#[114, 101, 116, 117, 114, 110]⟩, .string ⟨#[121, 105, 101, 108, 100]⟩] 9 (0, 0))) :=
    Lib.hid (by simpa using heap_alloc_new (w1.alloc (.cells #[.int .i64 7, .string ⟨#[]⟩, .int .i64 0, .int .i64 0, .string ⟨#[]⟩, .slice none 0 0, .int .i64 0, .slice none 0 0, .slice none 0 0, .int .i64 (posAt ws i en)] 188)) (.cells #[.string ⟨#[108, 101, 116]⟩, .string ⟨#[]⟩, .string ⟨#[105, 102]⟩, .string ⟨#[119, 104, 105, 108, 101]⟩, .string ⟨#[114, 101, 116, 117, 114, 110]⟩, .string ⟨#[121, 105, 101, 108, 100]⟩] 9))
  replace HF := Lib.hid (HF.out.below (w' := (w1.alloc (.cells #[.int .i64 7, .string ⟨#[]⟩, .int .i64 0, .int .i64 0, .string ⟨#[]⟩, .slice none 0 0, .int .i64 0, .slice none 0 0, .slice none 0 0, .int .i64 (posAt ws i en)] 188)).alloc (.cells #[.string ⟨#[108, 101, 116]⟩, .string ⟨#[]⟩, .string ⟨#[105, 102]⟩, .string ⟨#[119, 104, 105, 108, 101]⟩, .string ⟨#[114, 101, 116, 117, 114, 110]⟩, .string ⟨#[121, 105, 101, 108, 100]⟩] 9)) ((Below.refl _ _).alloc (Nat.le_refl _) _))
  generalize (w1.alloc _).alloc _ = W1 at HF HK ⊢
  have hbk : rb < w1.heap.size + 1 := by have := HF.out.z0; have := HF.out.z1; have := HF.out.z2; omega
  generalize hb2 : w1.heap.size + 1 = b2 at HF HK hbk ⊢
  generalize w1.heap.size = b1 at HF hb2 ⊢
  have HB2 := Lib.hid hb2; clear hb2
  obtain ⟨b0, hb0⟩ : ∃ b0, w.heap.size = b0 := ⟨_, rfl⟩
  rw [hb0] at HF
  simp only [hb0]
  have HB0 := Lib.hid hb0; clear hb0
  clear HR
  go_cut [] (fun W => ∃ kd i1 : Nat, Hid (HeadR ws i b kd i1) ∧ Hid (FrS w W rb b0 b1 v ws i1 en b (.int .i64 kd) (.string ⟨#[]⟩) (.int .i64 0) (.int .i64 0) (.string ⟨#[]⟩) (.slice none 0 0) (.int .i64 0) (.slice none 0 0) (.slice none 0 0) (.int .i64 (posAt ws i en))))
  case first =>
    go_wp2_with fail
    go_loopw [11] (fun k wr => ∃ m : Nat, m ≤ 6 ∧ k = .int .i64 m ∧ Hid (FrS w wr rb b0 b1 v ws i en b (.int .i64 7) (.string ⟨#[]⟩) (.int .i64 0) (.int .i64 0) (.string ⟨#[]⟩) (.slice none 0 0) (.int .i64 0) (.slice none 0 0) (.slice none 0 0) (.int .i64 (posAt ws i en))) ∧ Hid (wr.heap[b2]? = some (.cells #[.string ⟨#[108, 101, 116]⟩, .string ⟨#[]⟩, .string ⟨#[105, 102]⟩, .string ⟨#[119, 104, 105, 108, 101]⟩, .string ⟨#[114, 101, 116, 117, 114, 110]⟩, .string ⟨#[121, 105, 101, 108, 100]⟩] 9 (0, 0))) ∧ Hid (∀ j, j < m → j ≠ 1 → seeB ws i b (kw j) = false)) (fun k _ => 6 - (intOf k).toNat)
    case atStart => exact ⟨0, by omega, rfl, HF, HK, Lib.hid (fun j h => by omega)⟩
    case round =>
      obtain ⟨m, hm, rfl, HF, HK, HN⟩ := hrel
      obtain rfl | rfl | rfl | rfl | rfl | rfl | rfl : m = 0 ∨ m = 1 ∨ m = 2 ∨ m = 3 ∨ m = 4 ∨ m = 5 ∨ m = 6 := by omega
      · have kc : wr.cell? ⟨b2, 0, none⟩ = some (.string ⟨#[108, 101, 116]⟩) := Lib.cell_of_heap HK.out 0
        go_wp2_with fail
        obtain ⟨t, ht⟩ : ∃ t, seeB ws i b sLet = t := ⟨_, rfl⟩
        have T := Lib.hid ht
        refine (take_r sLet t HF.out.rd ht).mono ?_
        rintro e w2 ⟨rfl, hR, hg⟩
        replace HF := Lib.hid (HF.out.step hR hg)
        replace HK := Lib.hid ((hg.block b2 (lt_of_some HK.out) (by simp; omega)).trans HK.out)
        clear hR hg ht kc
        cases t with
        | true =>
          simp only [if_true] at HF
          obtain ⟨-, f0, f1, f2, f3, f4, f5, f6, f7, f8, f9⟩ := facts10 HF.out.ex
          have c0 := (facts10 HF.out.ex).1.1
          go_wp2_with fail
          go_meet
          case rel => exact ⟨1, i + 1, Lib.hid (HeadR.k0 HN.out T.out), Lib.hid (HF.out.s0 _)⟩
        | false =>
          simp only [Bool.false_eq_true, if_false] at HF
          go_wp2_with fail
          go_roundw
          case rel => exact ⟨1, by omega, rfl, HF, HK, Lib.hid (fun j h h' => by
            rcases Nat.lt_or_ge j 0 with h4 | h4
            · exact HN.out j h4 h'
            · obtain rfl : j = 0 := by omega
              exact T.out)⟩
          case measure => simp [intOf]
      · have kc : wr.cell? ⟨b2, 1, none⟩ = some (.string ⟨#[]⟩) := Lib.cell_of_heap HK.out 1
        go_wp2_with fail
        go_roundw
        case rel => exact ⟨2, by omega, rfl, HF, HK, Lib.hid (fun j h h' => HN.out j (by omega) h')⟩
        case measure => simp [intOf]
      · have kc : wr.cell? ⟨b2, 2, none⟩ = some (.string ⟨#[105, 102]⟩) := Lib.cell_of_heap HK.out 2
        go_wp2_with fail
        obtain ⟨t, ht⟩ : ∃ t, seeB ws i b sIf = t := ⟨_, rfl⟩
        have T := Lib.hid ht
        refine (take_r sIf t HF.out.rd ht).mono ?_
        rintro e w2 ⟨rfl, hR, hg⟩
        replace HF := Lib.hid (HF.out.step hR hg)
        replace HK := Lib.hid ((hg.block b2 (lt_of_some HK.out) (by simp; omega)).trans HK.out)
        clear hR hg ht kc
        cases t with
        | true =>
          simp only [if_true] at HF
          obtain ⟨-, f0, f1, f2, f3, f4, f5, f6, f7, f8, f9⟩ := facts10 HF.out.ex
          have c0 := (facts10 HF.out.ex).1.1
          go_wp2_with fail
          go_meet
          case rel => exact ⟨3, i + 1, Lib.hid (HeadR.k2 HN.out T.out), Lib.hid (HF.out.s0 _)⟩
        | false =>
          simp only [Bool.false_eq_true, if_false] at HF
          go_wp2_with fail
          go_roundw
          case rel => exact ⟨3, by omega, rfl, HF, HK, Lib.hid (fun j h h' => by
            rcases Nat.lt_or_ge j 2 with h4 | h4
            · exact HN.out j h4 h'
            · obtain rfl : j = 2 := by omega
              exact T.out)⟩
          case measure => simp [intOf]
      · have kc : wr.cell? ⟨b2, 3, none⟩ = some (.string ⟨#[119, 104, 105, 108, 101]⟩) := Lib.cell_of_heap HK.out 3
        go_wp2_with fail
        obtain ⟨t, ht⟩ : ∃ t, seeB ws i b sWhile = t := ⟨_, rfl⟩
        have T := Lib.hid ht
        refine (take_r sWhile t HF.out.rd ht).mono ?_
        rintro e w2 ⟨rfl, hR, hg⟩
        replace HF := Lib.hid (HF.out.step hR hg)
        replace HK := Lib.hid ((hg.block b2 (lt_of_some HK.out) (by simp; omega)).trans HK.out)
        clear hR hg ht kc
        cases t with
        | true =>
          simp only [if_true] at HF
          obtain ⟨-, f0, f1, f2, f3, f4, f5, f6, f7, f8, f9⟩ := facts10 HF.out.ex
          have c0 := (facts10 HF.out.ex).1.1
          go_wp2_with fail
          go_meet
          case rel => exact ⟨4, i + 1, Lib.hid (HeadR.k3 HN.out T.out), Lib.hid (HF.out.s0 _)⟩
        | false =>
          simp only [Bool.false_eq_true, if_false] at HF
          go_wp2_with fail
          go_roundw
          case rel => exact ⟨4, by omega, rfl, HF, HK, Lib.hid (fun j h h' => by
            rcases Nat.lt_or_ge j 3 with h4 | h4
            · exact HN.out j h4 h'
            · obtain rfl : j = 3 := by omega
              exact T.out)⟩
          case measure => simp [intOf]
      · have kc : wr.cell? ⟨b2, 4, none⟩ = some (.string ⟨#[114, 101, 116, 117, 114, 110]⟩) := Lib.cell_of_heap HK.out 4
        go_wp2_with fail
        obtain ⟨t, ht⟩ : ∃ t, seeB ws i b sReturn = t := ⟨_, rfl⟩
        have T := Lib.hid ht
        refine (take_r sReturn t HF.out.rd ht).mono ?_
        rintro e w2 ⟨rfl, hR, hg⟩
        replace HF := Lib.hid (HF.out.step hR hg)
        replace HK := Lib.hid ((hg.block b2 (lt_of_some HK.out) (by simp; omega)).trans HK.out)
        clear hR hg ht kc
        cases t with
        | true =>
          simp only [if_true] at HF
          obtain ⟨-, f0, f1, f2, f3, f4, f5, f6, f7, f8, f9⟩ := facts10 HF.out.ex
          have c0 := (facts10 HF.out.ex).1.1
          go_wp2_with fail
          go_meet
          case rel => exact ⟨5, i + 1, Lib.hid (HeadR.k4 HN.out T.out), Lib.hid (HF.out.s0 _)⟩
        | false =>
          simp only [Bool.false_eq_true, if_false] at HF
          go_wp2_with fail
          go_roundw
          case rel => exact ⟨5, by omega, rfl, HF, HK, Lib.hid (fun j h h' => by
            rcases Nat.lt_or_ge j 4 with h4 | h4
            · exact HN.out j h4 h'
            · obtain rfl : j = 4 := by omega
              exact T.out)⟩
          case measure => simp [intOf]
      · have kc : wr.cell? ⟨b2, 5, none⟩ = some (.string ⟨#[121, 105, 101, 108, 100]⟩) := Lib.cell_of_heap HK.out 5
        go_wp2_with fail
        obtain ⟨t, ht⟩ : ∃ t, seeB ws i b sYield = t := ⟨_, rfl⟩
        have T := Lib.hid ht
        refine (take_r sYield t HF.out.rd ht).mono ?_
        rintro e w2 ⟨rfl, hR, hg⟩
        replace HF := Lib.hid (HF.out.step hR hg)
        replace HK := Lib.hid ((hg.block b2 (lt_of_some HK.out) (by simp; omega)).trans HK.out)
        clear hR hg ht kc
        cases t with
        | true =>
          simp only [if_true] at HF
          obtain ⟨-, f0, f1, f2, f3, f4, f5, f6, f7, f8, f9⟩ := facts10 HF.out.ex
          have c0 := (facts10 HF.out.ex).1.1
          go_wp2_with fail
          go_meet
          case rel => exact ⟨6, i + 1, Lib.hid (HeadR.k5 HN.out T.out), Lib.hid (HF.out.s0 _)⟩
        | false =>
          simp only [Bool.false_eq_true, if_false] at HF
          go_wp2_with fail
          go_roundw
          case rel => exact ⟨6, by omega, rfl, HF, HK, Lib.hid (fun j h h' => by
            rcases Nat.lt_or_ge j 5 with h4 | h4
            · exact HN.out j h4 h'
            · obtain rfl : j = 5 := by omega
              exact T.out)⟩
          case measure => simp [intOf]
      · go_wp2_with fail
        go_meet
        case rel => exact ⟨7, i, Lib.hid (.inl ⟨rfl, rfl, HN.out⟩), HF⟩
  case rest =>
    obtain ⟨kd, i1, HH, HF⟩ := hcut
    clear HK
    obtain ⟨wa, rfl⟩ : ∃ wo : World, wo = wc := ⟨_, rfl⟩
    go_upto_region 8 with (fail)
    go_cut [71] (fun u W => ∃ t : Bool, u = .bool t ∧ Hid (t = true ↔ (kd = 7 ∧ kindAt ws i1 = 2 ∧ isAt ws (i1 + 1) sEq = true)) ∧ Hid (Below wa.heap.size wa W))
    case first =>
      obtain ⟨⟨c0, -⟩, -⟩ := facts10 HF.out.ex
      have r0 := HF.out.rd.c0; have r1 := HF.out.rd.c1
      have hn := HF.out.rd.len; have hp := HF.out.rd.pos
      obtain ⟨A0, cap0, rfl, hform⟩ := HF.out.rd.row.form
      have HFm := Lib.hid hform; clear hform
      by_cases h7 : kd = 7
      · subst h7
        by_cases hl1 : i1 + 1 < ws.length
        · obtain ⟨y, hy⟩ : ∃ y, ws[i1]? = some y := ⟨_, List.getElem?_eq_getElem (by omega)⟩
          obtain ⟨z, hz⟩ : ∃ y, ws[i1 + 1]? = some y := ⟨_, List.getElem?_eq_getElem hl1⟩
          obtain ⟨g, rfl, hg, d0, -, -⟩ := HFm.out i1 y hy
          obtain ⟨g', hgA, -, -, d1, -⟩ := HFm.out (i1 + 1) z hz
          obtain rfl : g' = g := by injection hgA with h1; injection h1 with h1; exact h1.symm
          have k0 : (0 : Int) ≤ (i1 : Int) := by omega
          have k1 : (i1 : Int) < (ws.length : Int) := by omega
          have k2 : (0 : Int) ≤ (i1 : Int) + 1 := by omega
          have k3 : (i1 : Int) + 1 < (ws.length : Int) := by omega
          have HY : Hid (kindAt ws i1 = y.kind) := Lib.hid (by unfold kindAt; rw [hy])
          have HZ : Hid (isAt ws (i1 + 1) sEq = (z.text.toList == sEq.toList)) := Lib.hid (by unfold isAt; rw [hz])
          obtain ⟨t1, ht1⟩ : ∃ t, ((y.kind : Int) == 2) = t := ⟨_, rfl⟩
          obtain ⟨t2, ht2⟩ : ∃ t, (z.text.toList == sEq.toList) = t := ⟨_, rfl⟩
          have T1 := Lib.hid ht1; have T2 := Lib.hid ht2
          simp only [sEq] at ht2
          clear hy hz hgA
          have c7 : wa.cell? ⟨b1, 0, none⟩ = some (.int .i64 7) := c0
          have q0 : ((i1 : Int) + 1).toNat = i1 + 1 := by omega
          have q1 : IntKind.i64.wrap ((i1 : Int) + 1) = (i1 : Int) + 1 := IntWalk.i64_in _ (by omega)
          clear c0
          cases t1 with
          | false =>
            go_quiet (fail)
            go_wp2_with fail
            go_meet
            case rel => exact ⟨false, rfl, Lib.hid ⟨by simp, fun e => by have := T1.out; rw [← HY.out] at this; rw [e.2.1] at this; exact absurd this (by decide)⟩, Lib.hid (below_drewN (Below.refl _ _) _)⟩
          | true =>
            have HS : Hid (sEq.toList = [61]) := Lib.hid (by simp [sEq, ByteArray.toList_eq] <;> rfl)
            clear T2 ht2
            go_quiet (fail)
            go_wp2_with fail
            go_meet
            case rel => exact ⟨z.text.toList == [61], rfl, Lib.hid ⟨fun e => ⟨by simp, by rw [HY.out]; have := beq_iff_eq.1 T1.out; omega, by rw [HZ.out, HS.out]; exact e⟩, fun e => by rw [HZ.out, HS.out] at e; exact e.2.2⟩, Lib.hid (below_drewN (Below.refl _ _) _)⟩
        · have c7 : wa.cell? ⟨b1, 0, none⟩ = some (.int .i64 7) := c0
          have q1 : IntKind.i64.wrap ((i1 : Int) + 1) = (i1 : Int) + 1 := IntWalk.i64_in _ (by omega)
          have e1 : decide ((i1 : Int) + 1 < (ws.length : Int)) = false := decide_eq_false (by omega)
          have HX : Hid (isAt ws (i1 + 1) sEq = false) := Lib.hid (by unfold isAt; rw [List.getElem?_eq_none (by omega)])
          clear c0
          go_quiet (fail)
          go_wp2_with fail
          go_meet
          case rel => exact ⟨false, rfl, Lib.hid ⟨by simp, fun e => by rw [HX.out] at e; exact e.2.2⟩, Lib.hid (below_drewN (Below.refl _ _) _)⟩
      · have e1 : ((kd : Int) == 7) = false := by simp; omega
        have H7 := Lib.hid h7; clear h7
        go_quiet (fail)
        go_wp2_with fail
        go_meet
        case rel => exact ⟨false, rfl, Lib.hid ⟨by simp, fun e => absurd e.1 H7.out⟩, Lib.hid (below_drewN (Below.refl _ _) _)⟩
    case rest =>
      obtain ⟨t, rfl, HT, HB⟩ := hcut
      replace HF := Lib.hid (HF.out.below HB.out)
      have HK := Lib.hid (HH.out.set t HT.out)
      clear HB HH HT
      go_upto_if 71 with (fail)
      obtain ⟨wb, rfl⟩ : ∃ wo : World, wo = wc := ⟨_, rfl⟩
      go_cut [] (fun W => Hid (FrS w W rb b0 b1 v ws i1 en b (.int .i64 ((if t then 2 else kd : Nat))) (.string ⟨#[]⟩) (.int .i64 0) (.int .i64 0) (.string ⟨#[]⟩) (.slice none 0 0) (.int .i64 0) (.slice none 0 0) (.slice none 0 0) (.int .i64 (posAt ws i en))))
      case first =>
        cases t with
        | true =>
          have c0 := (facts10 HF.out.ex).1.1
          have f0 := (facts10 HF.out.ex).2.1
          go_wp2_with fail
          go_meet
          case rel => exact Lib.hid (HF.out.s0 _)
        | false =>
          go_wp2_with fail
          go_meet
          case rel => exact HF
      case rest =>
        replace HF := hcut
        clear hcut
        generalize (if t = true then 2 else kd) = kd at HK HF
        have c0 := (facts10 HF.out.ex).1.1
        go_upto_if 75 with (fail)
        clear c0
        obtain ⟨wa, rfl⟩ : ∃ wo : World, wo = wc := ⟨_, rfl⟩
        go_cut [] (fun W => ∃ (nm : ByteArray) (i3 : Nat) (b3 : Bool), Hid (NameR ws kd i1 b nm i3 b3) ∧ Hid (FrS w W rb b0 b1 v ws i3 en b3 (.int .i64 kd) (.string nm) (.int .i64 0) (.int .i64 0) (.string ⟨#[]⟩) (.slice none 0 0) (.int .i64 0) (.slice none 0 0) (.slice none 0 0) (.int .i64 (posAt ws i en))))
        case first =>
          by_cases hk : kd ≤ 2
          · have hki : (kd : Int) ≤ 2 := by omega
            go_wp2_with fail
            refine (kind_r 2 HF.out.rd).mono ?_
            rintro e w4 ⟨⟨s, i2, k2, rfl, hR, hK⟩, hg⟩
            have HK2 := Lib.hid hK
            replace HF := Lib.hid (HF.out.step hR hg)
            clear hR hg hK
            have c1 := (facts10 HF.out.ex).1.2.1
            have f1 := (facts10 HF.out.ex).2.2.1
            go_wp2_with fail
            clear c1 f1
            replace HF := Lib.hid (HF.out.s1 (.string s))
            generalize w4.setCell ⟨b1, 1, none⟩ _ = w5 at HF ⊢
            refine (want_r sEq HF.out.rd).mono ?_
            rintro e w6 ⟨rfl, ⟨i3, k3, hR, hW⟩, hg⟩
            have HW := Lib.hid hW
            replace HF := Lib.hid (HF.out.step hR hg)
            clear hR hg hW
            go_wp2_with fail
            go_meet
            case rel => exact ⟨s, i3, k3, Lib.hid (.inl ⟨hk, i2, k2, HK2.out, HW.out⟩), HF⟩
          · have hki : ¬ (kd : Int) ≤ 2 := by omega
            go_wp2_with fail
            go_meet
            case rel => exact ⟨sNone, i1, b, Lib.hid (.inr ⟨by omega, rfl, rfl, rfl⟩), HF⟩
        case rest =>
          clear HF
          obtain ⟨nm, i3, b3, HN, HF⟩ := hcut
          have HD := Lib.hid (HK.out.name (en := en) HN.out)
          go_wp2_with fail
          refine (H1.out i3 HD.out.le wc b3 HF.out.rd HF.out.gl).mono ?_
          rintro e w4 ⟨x, A4, c4, i4, b4, rfl, hA, hR, hO, hg⟩
          have HO := Lib.hid hO
          have hz0 := HF.out.z0; have hz1 := HF.out.z1; have hz2 := HF.out.z2; have hz3 := HF.out.z3; have hzw := HF.out.gr.size
          replace HF := Lib.hid (HF.out.step hR hg)
          have HA : Hid (ArgsIn w4 (fun g => w.heap.size ≤ g ∧ g ≠ b0 ∧ g ≠ b1) (.slice A4 x.args.length c4) x.args) := Lib.hid (hA.keep fun g (h1 : wc.heap.size ≤ g) h2 => ⟨⟨by omega, by omega, by omega⟩, h2, rfl⟩)
          clear hR hg hA hO
          obtain ⟨⟨c0, c1, c2, c3, c4', c5, c6, c7, c8, c9⟩, f0, f1, f2, f3, f4, f5, f6, f7, f8, f9⟩ := facts10 HF.out.ex
          go_upto_region 14 with (fail)
          clear c0 c1 c2 c3 c4' c5 c6 c7 c8 c9 f0 f1 f2 f3 f4 f5 f6 f7 f8 f9
          replace HA := Lib.hid (HA.out.later (some b1) (grown_trans (grown_trans (grown_trans (grown_trans (grown_set w4 b1 2 (.int .i64 x.kind)) (grown_set _ b1 3 (.int .i64 x.n))) (grown_set _ b1 4 (.string x.text))) (grown_set _ b1 5 (.slice A4 x.args.length c4))) (grown_set _ b1 6 (.int .i64 x.pos))) (fun g h => by simp; omega) (fun g h => h))
          replace HF := Lib.hid (((((HF.out.s2 (.int .i64 x.kind)).s3 (.int .i64 x.n)).s4 (.string x.text)).s5 (.slice A4 x.args.length c4)).s6 (.int .i64 x.pos))
          generalize (((((w4.setCell ⟨b1, 2, none⟩ _).setCell ⟨b1, 3, none⟩ _).setCell ⟨b1, 4, none⟩ _).setCell ⟨b1, 5, none⟩ _).setCell ⟨b1, 6, none⟩ _) = w5 at HF HA ⊢
          have hzi := HD.out.le
          have h04 := HO.out.1
          simp only [Qe.at] at h04
          by_cases h34 : kd = 3 ∨ kd = 4
          · have hbf : b = false := by
              cases b with
              | false => rfl
              | true => rcases HK.out.2.1 rfl with h | h <;> omega
            subst hbf
            have hi1 : i1 = i + 1 := by rw [HK.out.2.2]; rw [if_neg (by omega)]
            subst hi1
            obtain ⟨hs, rfl, rfl, rfl⟩ := cond_at HD.out HN.out h34
            have HS := Lib.hid hs; clear hs
            have c0 := (facts10 HF.out.ex).1.1
            rcases h34 with rfl | rfl
            · have c0' : w5.cell? ⟨b1, 0, none⟩ = some (.int .i64 3) := c0
              clear c0
              replace HF : Hid (FrS w w5 rb b0 b1 v ws i4 en b4 (.int .i64 3) (.string sNone) (.int .i64 x.kind) (.int .i64 x.n) (.string x.text) (.slice A4 x.args.length c4) (.int .i64 x.pos) (.slice none 0 0) (.slice none 0 0) (.int .i64 (posAt ws i en))) := HF
              go_wp2_with fail
              clear c0'
              refine (H2.out i4 (by omega) w5 b4 HF.out.rd HF.out.gl).mono ?_
              rintro e w6 ⟨l, Ab, cb, i5, b5, rfl, hB, hR, hg, hOB⟩
              have HOB := Lib.hid hOB
              have hz5 := HF.out.z3; have hzw5 := HF.out.gr.size; have h45 := hOB.1
              replace HF := Lib.hid (HF.out.step hR hg)
              replace HA := Lib.hid (HA.out.later (some rb) hg (fun g h => by simp; omega) (fun g h => h))
              have HB : Hid (StmtsIn w6 (fun g => w.heap.size ≤ g ∧ g ≠ b0 ∧ g ≠ b1) (.slice Ab l.length cb) l) := Lib.hid (hB.keep fun g (h1 : w5.heap.size ≤ g) h2 => ⟨⟨by omega, by omega, by omega⟩, h2, rfl⟩)
              clear hR hg hB hOB
              have c7 := (facts10 HF.out.ex).1.2.2.2.2.2.2.2.1
              have f7 := (facts10 HF.out.ex).2.2.2.2.2.2.2.2.1
              go_upto_region 18 with (fail)
              clear c7 f7
              replace HF := Lib.hid (HF.out.s7 (.slice Ab l.length cb))
              replace HA := Lib.hid (HA.out.later (some b1) (grown_set w6 b1 7 (.slice Ab l.length cb)) (fun g h => by simp; omega) (fun g h => h))
              replace HB := Lib.hid (HB.out.later (some b1) (grown_set w6 b1 7 (.slice Ab l.length cb)) (fun g h => by simp; omega) (fun g h => h))
              generalize w6.setCell ⟨b1, 7, none⟩ _ = w7 at HF HA HB ⊢
              obtain ⟨t2, ht2⟩ : ∃ t, seeB ws i5 b5 sElse = t := ⟨_, rfl⟩
              have T2 := Lib.hid ht2
              have c0 := (facts10 HF.out.ex).1.1
              go_wp2_with fail
              clear c0
              refine (take_r sElse t2 HF.out.rd ht2).mono ?_
              rintro e w8 ⟨rfl, hR, hg⟩
              replace HF := Lib.hid (HF.out.step hR hg)
              replace HA := Lib.hid (HA.out.later (some rb) hg (fun g h => by simp; omega) (fun g h => h))
              replace HB := Lib.hid (HB.out.later (some rb) hg (fun g h => by simp; omega) (fun g h => h))
              clear hR hg ht2
              cases t2 with
              | false =>
                simp only [Bool.false_eq_true, if_false] at HF
                obtain ⟨⟨c0, c1, c2, c3, c4', c5, c6, c7, c8, c9⟩, -⟩ := facts10 HF.out.ex
                obtain ⟨⟨d0, d1, d2, d3, d4, d5, d6, d7, d8, d9⟩, g0, g1, g2, g3, g4, g5, g6, g7, g8, g9⟩ := facts10 HF.out.res
                have HW := Lib.hid (set10 (.int .i64 3) (.string sNone) (.int .i64 x.kind) (.int .i64 x.n) (.string x.text) (.slice A4 x.args.length c4) (.int .i64 x.pos) (.slice Ab l.length cb) (.slice none 0 0) (.int .i64 (posAt ws i en)) HF.out.res)
                go_wp2_with fail
                (try simp only [Exit.inBlock, Exit.then])
                refine bodyPost_ret (results_cell_row rfl _ _ b0 _ _ _ _ rfl HW.out Tryz.underlying188 rfl smInfo) rfl ?_
                exact FrS.ret (s := .mk 3 sNone x l [] (posAt ws i en)) (F := fun g => w.heap.size ≤ g ∧ g ≠ b0 ∧ g ≠ b1) HF.out HA.out HB.out (.nil _ _) (fun g h => ⟨h.1, h.2.1⟩) (outs_if0 HS.out HO.out HOB.out T2.out)
              | true =>
                simp only [if_true] at HF
                obtain ⟨e5, ea⟩ := seeB_yes T2.out
                subst e5
                clear ea
                obtain ⟨t3, ht3⟩ : ∃ t, seeB ws (i5 + 1) false sIf = t := ⟨_, rfl⟩
                have T3 := Lib.hid ht3
                go_wp2_with fail
                refine (see_r sIf t3 HF.out.rd ht3).mono ?_
                rintro e w9 ⟨rfl, hb⟩
                have hg := grown_of_below hb (some rb)
                replace HF := Lib.hid (HF.out.below hb)
                replace HA := Lib.hid (HA.out.later (some rb) hg (fun g h => by simp; omega) (fun g h => h))
                replace HB := Lib.hid (HB.out.later (some rb) hg (fun g h => by simp; omega) (fun g h => h))
                clear hb hg ht3
                have hz9 := HF.out.z3; have hzw9 := HF.out.gr.size
                cases t3 with
                | true =>
                  go_wp2_with fail
                  refine (H3.out (i5 + 1) (by omega) w9 false HF.out.rd HF.out.gl).mono ?_
                  rintro e wx ⟨s, Aa, ca, Ac, cc, Ae, ce, i6, b6, rfl, hA, hB, hE, hR, hO6, hg⟩
                  have HO6 := Lib.hid hO6
                  have hsx := hg.size
                  replace HF := Lib.hid (HF.out.step hR hg)
                  replace HA := Lib.hid (HA.out.later (some rb) hg (fun g h => by simp; omega) (fun g h => h))
                  replace HB := Lib.hid (HB.out.later (some rb) hg (fun g h => by simp; omega) (fun g h => h))
                  have HSA := Lib.hid hA; have HSB := Lib.hid hB; have HSE := Lib.hid hE
                  clear hR hg hA hB hE hO6
                  have c8 := (facts10 HF.out.ex).1.2.2.2.2.2.2.2.2.1
                  have f8 := (facts10 HF.out.ex).2.2.2.2.2.2.2.2.2.1
                  have hz8 := HF.out.z3
                  go_upto_region 22 with (fail)
                  clear c8 f8
                  have hgx := grown_set wx b1 8 (.slice (some ⟨wx.heap.size, 0, none⟩) 1 1)
                  have HO1 := Lib.hid (stmts_one (W := wx.setCell ⟨b1, 8, none⟩ (.slice (some ⟨wx.heap.size, 0, none⟩) 1 1)) (cap := 1) (T := 188) (F := fun g => w.heap.size ≤ g ∧ g ≠ b0 ∧ g ≠ b1) HSA.out HSB.out HSE.out hgx (fun g (h : w9.heap.size ≤ g) => ⟨by omega, by omega, by omega, by omega⟩) (n := wx.heap.size) (by simp) ⟨by omega, by omega, by omega⟩)
                  have hgy := grown_trans hgx (grown_of_below ((Below.refl _ _).alloc (Nat.le_refl _) (.cells #[.int .i64 s.kind, .string s.name, .int .i64 s.a.kind, .int .i64 s.a.n, .string s.a.text, .slice Aa s.a.args.length ca, .int .i64 s.a.pos, .slice Ac s.body.length cc, .slice Ae s.els.length ce, .int .i64 s.pos] 188)) (some b1))
                  replace HF := Lib.hid ((HF.out.s8 (.slice (some ⟨wx.heap.size, 0, none⟩) 1 1)).below ((Below.refl _ _).alloc (Nat.le_refl _) (.cells #[.int .i64 s.kind, .string s.name, .int .i64 s.a.kind, .int .i64 s.a.n, .string s.a.text, .slice Aa s.a.args.length ca, .int .i64 s.a.pos, .slice Ac s.body.length cc, .slice Ae s.els.length ce, .int .i64 s.pos] 188)))
                  replace HA := Lib.hid (HA.out.later (some b1) hgy (fun g h => by simp; omega) (fun g h => h))
                  replace HB := Lib.hid (HB.out.later (some b1) hgy (fun g h => by simp; omega) (fun g h => h))
                  clear hgx hgy HSA HSB HSE
                  generalize ((wx.setCell ⟨b1, 8, none⟩ _).alloc _) = wy at HF HA HB HO1 ⊢
                  generalize wx.heap.size = n1 at HF HO1 ⊢
                  obtain ⟨⟨c0, c1, c2, c3, c4', c5, c6, c7, c8, c9⟩, -⟩ := facts10 HF.out.ex
                  obtain ⟨⟨d0, d1, d2, d3, d4, d5, d6, d7, d8, d9⟩, g0, g1, g2, g3, g4, g5, g6, g7, g8, g9⟩ := facts10 HF.out.res
                  have HW := Lib.hid (set10 (.int .i64 3) (.string sNone) (.int .i64 x.kind) (.int .i64 x.n) (.string x.text) (.slice A4 x.args.length c4) (.int .i64 x.pos) (.slice Ab l.length cb) (.slice (some ⟨n1, 0, none⟩) 1 1) (.int .i64 (posAt ws i en)) HF.out.res)
                  go_wp2_with fail
                  (try simp only [Exit.inBlock, Exit.then])
                  refine bodyPost_ret (results_cell_row rfl _ _ b0 _ _ _ _ rfl HW.out Tryz.underlying188 rfl smInfo) rfl ?_
                  exact FrS.ret (s := .mk 3 sNone x l [s] (posAt ws i en)) (F := fun g => w.heap.size ≤ g ∧ g ≠ b0 ∧ g ≠ b1) HF.out HA.out HB.out HO1.out (fun g h => ⟨h.1, h.2.1⟩) (outs_ifI HS.out HO.out HOB.out T2.out (seeB_yes T3.out).2 HO6.out)
                | false =>
                  go_wp2_with fail
                  refine (H2.out (i5 + 1) (by omega) w9 false HF.out.rd HF.out.gl).mono ?_
                  rintro e wx ⟨m, Ae, ce, i6, b6, rfl, hB, hR, hg, hO6⟩
                  have HO6 := Lib.hid hO6
                  have hsx := hg.size
                  replace HF := Lib.hid (HF.out.step hR hg)
                  replace HA := Lib.hid (HA.out.later (some rb) hg (fun g h => by simp; omega) (fun g h => h))
                  replace HB := Lib.hid (HB.out.later (some rb) hg (fun g h => by simp; omega) (fun g h => h))
                  have HE : Hid (StmtsIn wx (fun g => w.heap.size ≤ g ∧ g ≠ b0 ∧ g ≠ b1) (.slice Ae m.length ce) m) := Lib.hid (hB.keep fun g (h1 : w9.heap.size ≤ g) h2 => ⟨⟨by omega, by omega, by omega⟩, h2, rfl⟩)
                  clear hR hg hB hO6
                  have c8 := (facts10 HF.out.ex).1.2.2.2.2.2.2.2.2.1
                  have f8 := (facts10 HF.out.ex).2.2.2.2.2.2.2.2.2.1
                  go_upto_region 22 with (fail)
                  clear c8 f8
                  have hgx := grown_set wx b1 8 (.slice Ae m.length ce)
                  replace HF := Lib.hid (HF.out.s8 (.slice Ae m.length ce))
                  replace HA := Lib.hid (HA.out.later (some b1) hgx (fun g h => by simp; omega) (fun g h => h))
                  replace HB := Lib.hid (HB.out.later (some b1) hgx (fun g h => by simp; omega) (fun g h => h))
                  replace HE := Lib.hid (HE.out.later (some b1) hgx (fun g h => by simp; omega) (fun g h => h))
                  clear hgx
                  generalize (wx.setCell ⟨b1, 8, none⟩ _) = wy at HF HA HB HE ⊢
                  obtain ⟨⟨c0, c1, c2, c3, c4', c5, c6, c7, c8, c9⟩, -⟩ := facts10 HF.out.ex
                  obtain ⟨⟨d0, d1, d2, d3, d4, d5, d6, d7, d8, d9⟩, g0, g1, g2, g3, g4, g5, g6, g7, g8, g9⟩ := facts10 HF.out.res
                  have HW := Lib.hid (set10 (.int .i64 3) (.string sNone) (.int .i64 x.kind) (.int .i64 x.n) (.string x.text) (.slice A4 x.args.length c4) (.int .i64 x.pos) (.slice Ab l.length cb) (.slice Ae m.length ce) (.int .i64 (posAt ws i en)) HF.out.res)
                  go_wp2_with fail
                  (try simp only [Exit.inBlock, Exit.then])
                  refine bodyPost_ret (results_cell_row rfl _ _ b0 _ _ _ _ rfl HW.out Tryz.underlying188 rfl smInfo) rfl ?_
                  exact FrS.ret (s := .mk 3 sNone x l m (posAt ws i en)) (F := fun g => w.heap.size ≤ g ∧ g ≠ b0 ∧ g ≠ b1) HF.out HA.out HB.out HE.out (fun g h => ⟨h.1, h.2.1⟩) (outs_ifE HS.out HO.out HOB.out T2.out (seeB_no T3.out) HO6.out)
            · have c0' : w5.cell? ⟨b1, 0, none⟩ = some (.int .i64 4) := c0
              clear c0
              replace HF : Hid (FrS w w5 rb b0 b1 v ws i4 en b4 (.int .i64 4) (.string sNone) (.int .i64 x.kind) (.int .i64 x.n) (.string x.text) (.slice A4 x.args.length c4) (.int .i64 x.pos) (.slice none 0 0) (.slice none 0 0) (.int .i64 (posAt ws i en))) := HF
              go_wp2_with fail
              clear c0'
              refine (H2.out i4 (by omega) w5 b4 HF.out.rd HF.out.gl).mono ?_
              rintro e w6 ⟨l, Ab, cb, i5, b5, rfl, hB, hR, hg, hOB⟩
              have HOB := Lib.hid hOB
              have hz5 := HF.out.z3; have hzw5 := HF.out.gr.size; have h45 := hOB.1
              replace HF := Lib.hid (HF.out.step hR hg)
              replace HA := Lib.hid (HA.out.later (some rb) hg (fun g h => by simp; omega) (fun g h => h))
              have HB : Hid (StmtsIn w6 (fun g => w.heap.size ≤ g ∧ g ≠ b0 ∧ g ≠ b1) (.slice Ab l.length cb) l) := Lib.hid (hB.keep fun g (h1 : w5.heap.size ≤ g) h2 => ⟨⟨by omega, by omega, by omega⟩, h2, rfl⟩)
              clear hR hg hB hOB
              have c7 := (facts10 HF.out.ex).1.2.2.2.2.2.2.2.1
              have f7 := (facts10 HF.out.ex).2.2.2.2.2.2.2.2.1
              go_upto_region 18 with (fail)
              clear c7 f7
              replace HF := Lib.hid (HF.out.s7 (.slice Ab l.length cb))
              replace HA := Lib.hid (HA.out.later (some b1) (grown_set w6 b1 7 (.slice Ab l.length cb)) (fun g h => by simp; omega) (fun g h => h))
              replace HB := Lib.hid (HB.out.later (some b1) (grown_set w6 b1 7 (.slice Ab l.length cb)) (fun g h => by simp; omega) (fun g h => h))
              generalize w6.setCell ⟨b1, 7, none⟩ _ = w7 at HF HA HB ⊢
              obtain ⟨⟨c0, c1, c2, c3, c4', c5, c6, c7, c8, c9⟩, -⟩ := facts10 HF.out.ex
              obtain ⟨⟨d0, d1, d2, d3, d4, d5, d6, d7, d8, d9⟩, g0, g1, g2, g3, g4, g5, g6, g7, g8, g9⟩ := facts10 HF.out.res
              have HW := Lib.hid (set10 (.int .i64 4) (.string sNone) (.int .i64 x.kind) (.int .i64 x.n) (.string x.text) (.slice A4 x.args.length c4) (.int .i64 x.pos) (.slice Ab l.length cb) (.slice none 0 0) (.int .i64 (posAt ws i en)) HF.out.res)
              go_wp2_with fail
              (try simp only [Exit.inBlock, Exit.then])
              refine bodyPost_ret (results_cell_row rfl _ _ b0 _ _ _ _ rfl HW.out Tryz.underlying188 rfl smInfo) rfl ?_
              exact FrS.ret (s := .mk 4 sNone x l [] (posAt ws i en)) (F := fun g => w.heap.size ≤ g ∧ g ≠ b0 ∧ g ≠ b1) HF.out HA.out HB.out (.nil _ _) (fun g h => ⟨h.1, h.2.1⟩) (outs_while HS.out HO.out HOB.out)
          · have e3 : ((kd : Int) != 3) = true := by simp; omega
            have e4 : ((kd : Int) != 4) = true := by simp; omega
            have H34 := Lib.hid h34; clear h34
            have c0 := (facts10 HF.out.ex).1.1
            go_wp2_with fail
            clear c0
            refine (want_r sSemi HF.out.rd).mono ?_
            rintro e w6 ⟨rfl, ⟨i5, b5, hR, hW⟩, hg⟩
            have HW' := Lib.hid hW
            replace HF := Lib.hid (HF.out.step hR hg)
            replace HA := Lib.hid (HA.out.later (some rb) hg (fun g h => by simp; omega) (fun g h => h))
            clear hR hg hW e3 e4
            obtain ⟨⟨c0, c1, c2, c3, c4', c5, c6, c7, c8, c9⟩, -⟩ := facts10 HF.out.ex
            obtain ⟨⟨d0, d1, d2, d3, d4, d5, d6, d7, d8, d9⟩, g0, g1, g2, g3, g4, g5, g6, g7, g8, g9⟩ := facts10 HF.out.res
            have HW := Lib.hid (set10 (.int .i64 kd) (.string nm) (.int .i64 x.kind) (.int .i64 x.n) (.string x.text) (.slice A4 x.args.length c4) (.int .i64 x.pos) (.slice none 0 0) (.slice none 0 0) (.int .i64 (posAt ws i en)) HF.out.res)
            go_wp2_with fail
            (try simp only [Exit.inBlock, Exit.then])
            refine bodyPost_ret (results_cell_row rfl _ _ b0 _ _ _ _ rfl HW.out Tryz.underlying188 rfl smInfo) rfl ?_
            exact FrS.ret (s := .mk kd nm x [] [] (posAt ws i en)) (F := fun g => w.heap.size ≤ g ∧ g ≠ b0 ∧ g ≠ b1) HF.out HA.out (.nil _ _) (.nil _ _) (fun g h => ⟨h.1, h.2.1⟩) (outs_simp HD.out (fun e => H34.out (.inl e)) (fun e => H34.out (.inr e)) HO.out HW'.out)
end Go.Proofs.YtmngofgminlloaaGreatDoor

namespace Go.Proofs.YtmngofgminlloaaGreatDoor
open Go.RowKit Tw

/-- Behind some statements of the block at i. -/
structure InB (ws : List Wd) (en i : Nat) (b : Bool) (l : List Sm) (i' : Nat) (b' : Bool) : Prop where
  le : i ≤ i'
  bt : b = true → b' = true ∧ i' = i
  len : l.length ≤ i' + (if b' then 1 else 0)
  pos : b = false → b' = false → i < i'
  okk : b = false → b' = false → (∀ m j, Ds ws en (.stmts i') (.sts m j) → Ds ws en (.block i) (.sts (l ++ m) j)) ∧ (∀ j, Ds ws en (.stmts i') (.bad j) → Ds ws en (.block i) (.bad j))
  bad : b = false → b' = true → Ds ws en (.block i) (.bad i')
section
variable {ws : List Wd} {en i : Nat} {b : Bool} {l : List Sm} {i' : Nat}
theorem InB.start {b' : Bool} (h : WantS ws sBra i b i' b') : InB ws en i b [] i' b' := by
  rcases want_cases h with ⟨rfl, ha, rfl, rfl⟩ | ⟨rfl, ha, rfl, rfl⟩ | ⟨rfl, rfl, rfl⟩
  · exact ⟨by omega, by simp, by simp, fun _ _ => by omega, fun _ _ => ⟨fun m j h => .block ha h, fun j h => .block ha h⟩, by simp⟩
  · exact ⟨by omega, by simp, by simp, by simp, by simp, fun _ _ => .blockB ha⟩
  · exact ⟨by omega, fun _ => ⟨rfl, rfl⟩, by simp, by simp, by simp, by simp⟩
theorem InB.close (h : InB ws en i b l i' false) (hc : isAt ws i' sKet = true) : OutB ws en i b l (i' + 1) false := by
  have hle := h.le
  refine ⟨by omega, fun e => absurd (h.bt e).1 (by decide), fun e _ => ⟨by omega, ?_⟩, fun _ e => absurd e (by decide)⟩
  simpa using (h.okk e rfl).1 [] (i' + 1) (.done hc)
theorem InB.out (h : InB ws en i b l i' true) : OutB ws en i b l i' true :=
  ⟨h.le, h.bt, fun _ e => absurd e (by decide), fun e _ => h.bad e rfl⟩
theorem InB.step {s : Sm} {i3 : Nat} {b3 : Bool} (h : InB ws en i b l i' false) (hc : isAt ws i' sKet = false) (hO : OutS ws en i' false s i3 b3) :
    InB ws en i b (l ++ [s]) i3 b3 ∧ i' ≤ i3 ∧ (b3 = false → i' < i3) := by
  have h0 := hO.1
  have hle := h.le
  have hlen := h.len
  simp only [Bool.false_eq_true, if_false, Nat.add_zero] at hlen
  have hb : b = false := by cases b with | false => rfl | true => have := (h.bt rfl).1; cases this
  have hok := h.okk hb rfl
  cases b3 with
  | false =>
    obtain ⟨h1, h2⟩ := hO.2.2.1 rfl rfl
    refine ⟨⟨by omega, fun e => absurd (hb.symm.trans e) (by decide), by simp; omega, fun _ _ => by omega, fun _ _ => ⟨fun m j h => ?_, fun j h => hok.2 _ (.moreR hc h2 h)⟩, fun _ e => absurd e (by decide)⟩, by omega, fun _ => by omega⟩
    have := hok.1 _ _ (.more hc h2 h); simpa using this
  | true =>
    exact ⟨⟨by omega, fun e => absurd (hb.symm.trans e) (by decide), by simp; omega, fun _ e => absurd e (by decide), fun _ e => absurd e (by decide), fun _ _ => hok.2 _ (.moreB hc (hO.2.2.2 rfl rfl))⟩, by omega, fun e => absurd e (by decide)⟩
end
theorem elemSm : ElemOk Tryz.prog 30 188 10 := ⟨Tryz.underlying30, by kernel_rfl, by decide⟩

set_option maxRecDepth 100000 in
set_option maxHeartbeats 8000000 in
theorem block_c (rb : Nat) (v : Value) (ws : List Wd) (en i : Nat) (hr : 10 < rb) (h1 : ∀ j, i < j → StmtC rb v ws en j) : BlockC rb v ws en i := by
  intro w b h hG
  have H1 := Lib.hid h1; have HR := Lib.hid h; have HG := Lib.hid hG
  have hrl := h.lt
  clear h1 h hG
  go_enter Tryz.func56, Tryz.ntmps56
  go_wp2_with fail
  refine (want_r sBra HR.out).mono ?_
  rintro e w0 ⟨rfl, ⟨i0, k0, hR, hW⟩, hg⟩
  have HR0 := Lib.hid hR; have HI0 : Hid (InB ws en i b [] i0 k0) := Lib.hid (.start hW)
  have Hg0 := Lib.hid hg
  clear hR hW hg HR
  go_wp2_with fail
  go_loopw [3] (fun o wr => ∃ (l : List (Sm × Value × Value × Value)) (A : Option Addr) (c i' : Nat) (b' : Bool), o = .slice A l.length c ∧ Hid (GRow smElem wr w.heap.size 188 10 (.slice A l.length c) l) ∧ Hid (Rd wr rb v ws i' en b') ∧ Hid (InB ws en i b (l.map (·.1)) i' b') ∧ Hid (w.grownBy wr (some rb)))
    (fun _ wr => leftOf ws wr rb)
  case atStart => exact ⟨[], none, 0, i0, k0, rfl, Lib.hid (GRow.nil _ _ _ _ _), HR0, HI0, Hg0⟩
  case round =>
    obtain ⟨l, A, c, i', b', rfl, HW, HR', HI, Hgr⟩ := hrel
    clear HR0 HI0 Hg0
    obtain ⟨t, ht⟩ : ∃ t, seeB ws i' b' sKet = t := ⟨_, rfl⟩
    have T := Lib.hid ht
    go_wp2_with fail
    refine (take_r sKet t HR'.out ht).mono ?_
    rintro e w1 ⟨rfl, hR, hg⟩
    have hsz := Hgr.out.size
    have HW1 := Lib.hid (HW.out.kept hg (fun k e => .inl (by cases e; exact hrl)))
    have HR1 := Lib.hid hR
    have Hg1 := Lib.hid (grown_trans Hgr.out hg)
    clear hR hg ht HW Hgr
    cases t with
    | true =>
      obtain ⟨rfl, ha⟩ := seeB_yes T.out
      have HA := Lib.hid ha; clear ha
      go_wp2_with fail
      go_ret
      exact ⟨l.map (·.1), A, c, i' + 1, false, by rw [List.length_map]; rfl, by rw [List.length_map]; exact HW1.out.stmts, by simpa using HR1.out, Hg1.out, HI.out.close HA.out⟩
    | false =>
      cases b' with
      | true =>
        have c3 := HR1.out.c3
        go_wp2_with fail
        go_ret
        exact ⟨l.map (·.1), A, c, i', true, by rw [List.length_map]; rfl, by rw [List.length_map]; exact HW1.out.stmts, by simpa using HR1.out, Hg1.out, HI.out.out⟩
      | false =>
        simp only [Bool.false_eq_true, if_false] at HR1
        have c3 := HR1.out.c3
        have HA := Lib.hid (seeB_no T.out)
        clear T
        have hbf : b = false := by cases b with | false => rfl | true => have := (HI.out.bt rfl).1; cases this
        have hlt := HI.out.pos hbf rfl
        go_wp2_with fail
        clear c3
        refine (H1.out i' hlt w1 false HR1.out (HG.out.of Hg1.out hr)).mono ?_
        rintro e w3 ⟨s, Aa, ca, Ab, cb, Ae, ce, i3, b3, rfl, hA, hB, hE, hR, hO, hg⟩
        have hsz2 := Hg1.out.size
        have HK : Hid (smElem.kid w3 (fun g => w1.heap.size ≤ g) (s, .slice Aa s.a.args.length ca, .slice Ab s.body.length cb, .slice Ae s.els.length ce)) := Lib.hid ⟨hA, hB, hE⟩
        have HR3 := Lib.hid hR
        have HW3 := Lib.hid (HW1.out.kept hg (fun k e => .inl (by cases e; exact hrl)))
        have Hg3 := Lib.hid (grown_trans Hg1.out hg)
        have hown := HW1.out.1.lt
        have HS := Lib.hid (HI.out.step HA.out hO)
        have hn : l.length ≤ 4000 := by
          have := HI.out.len; have := HR'.out.pos; have := HR'.out.len; simp at *; omega
        have hsz3 := hg.size
        clear hA hB hE hR hO hg
        go_wp2_with ((at_builtin; go_must (refine wpList_app1 elemSm rfl _ _ rfl w.heap.size _ l.length (l.flatMap smElem.cells) rfl (HW3.out.1.alloc _) w3.heap.size 1 #[.int .i64 s.kind, .string s.name, .int .i64 s.a.kind, .int .i64 s.a.n, .string s.a.text, .slice Aa s.a.args.length ca, .int .i64 s.a.pos, .slice Ab s.body.length cb, .slice Ae s.els.length ce, .int .i64 s.pos] rfl (heap_alloc_new w3 _) rfl (by simp [Value.oneCell']) (by omega) (by simp; omega) ?_); intro g4 cap4 w4 hown4 hgrow4 hat4 hlt4))
        have hg4 : (w3.alloc (.cells #[.int .i64 s.kind, .string s.name, .int .i64 s.a.kind, .int .i64 s.a.n, .string s.a.text, .slice Aa s.a.args.length ca, .int .i64 s.a.pos, .slice Ab s.body.length cb, .slice Ae s.els.length ce, .int .i64 s.pos] 188)).grownBy w4 (Value.slice A l.length c).ownBlock := hgrow4
        have ha4 : (Value.slice A l.length c).ownBlock = some g4 ∨ g4 = (w3.alloc (.cells #[.int .i64 s.kind, .string s.name, .int .i64 s.a.kind, .int .i64 s.a.n, .string s.a.text, .slice Aa s.a.args.length ca, .int .i64 s.a.pos, .slice Ab s.body.length cb, .slice Ae s.els.length ce, .int .i64 s.pos] 188)).heap.size := hat4
        have hk4 : smElem.kid (w3.alloc (.cells #[.int .i64 s.kind, .string s.name, .int .i64 s.a.kind, .int .i64 s.a.n, .string s.a.text, .slice Aa s.a.args.length ca, .int .i64 s.a.pos, .slice Ab s.body.length cb, .slice Ae s.els.length ce, .int .i64 s.pos] 188)) (fun g => w1.heap.size ≤ g) (s, .slice Aa s.a.args.length ca, .slice Ab s.body.length cb, .slice Ae s.els.length ce) :=
          smElem.keep (fun g h1 h2 => ⟨h1, by simp; omega, heap_alloc_old w3 _ h2⟩) HK.out
        have HW4 := Lib.hid (GRow.app (HW3.out.below ((Below.refl _ _).alloc (Nat.le_refl _) _)) hk4 (fun g hg => ⟨by omega, fun e => by have := (hown g e).2; omega⟩) hown4 hg4 ha4)
        have hrow : ∀ k, (Value.slice A l.length c).ownBlock = some k → w.heap.size ≤ k := fun k e => (hown k e).1
        have HR4 := Lib.hid (rd_app (HR3.out.keep ((Below.refl _ _).alloc (Nat.le_refl _) _)) hg4 (fun k e => by have := hrow k e; omega))
        have Hg4 := Lib.hid (grown_app (grown_trans Hg3.out (grown_of_below ((Below.refl _ _).alloc (Nat.le_refl _) _) _)) hg4 hrow)
        clear hgrow4 hat4 hown4 hg4 ha4 hk4
        go_roundw
        case rel => exact ⟨l ++ [(s, .slice Aa s.a.args.length ca, .slice Ab s.body.length cb, .slice Ae s.els.length ce)], some ⟨g4, 0, none⟩, cap4, i3, b3, by simp, by simpa using HW4, HR4, by simpa using (Lib.hid HS.out.1 : Hid _), Hg4⟩
        case measure => exact HR'.out.less HR4.out HS.out.2.1 HS.out.2.2
end Go.Proofs.YtmngofgminlloaaGreatDoor

namespace Go.Proofs.YtmngofgminlloaaGreatDoor
open Go.RowKit Tw

theorem knot (rb : Nat) (v : Value) (ws : List Wd) (en : Nat) (hr : 10 < rb) (hN : NumsOk ws) : ∀ k i, ws.length < i + k →
    OneC rb v ws en i ∧ (∀ n, 1 ≤ n → n ≤ 6 → LvlC rb v ws en n i) ∧ ArgsC rb v ws en i ∧ StmtC rb v ws en i ∧ BlockC rb v ws en i := by
  intro k
  induction k with
  | zero =>
    intro i hi
    exact ⟨fun w b h => absurd h.pos (by omega), fun n _ _ w b h => absurd h.pos (by omega), fun w b h => absurd h.pos (by omega), fun w b h => absurd h.pos (by omega), fun w b h => absurd h.pos (by omega)⟩
  | succ k ih =>
    intro i hi
    have later : ∀ j, i < j → OneC rb v ws en j ∧ (∀ n, 1 ≤ n → n ≤ 6 → LvlC rb v ws en n j) ∧ ArgsC rb v ws en j ∧ StmtC rb v ws en j ∧ BlockC rb v ws en j := fun j hj => ih j (by omega)
    have h1 : OneC rb v ws en i := one_c rb v ws en i hN hr (later _ (by omega)).1 ((later _ (by omega)).2.1 1 (by decide) (by decide)) (fun j hj => (later j hj).2.2.1)
    have h6 : LvlC rb v ws en 6 i := level6 rb v ws en i h1
    have hl : ∀ d n, n + d = 6 → 1 ≤ n → LvlC rb v ws en n i := by
      intro d
      induction d with
      | zero => intro n hn _; obtain rfl : n = 6 := by omega
                exact h6
      | succ d ihd =>
        intro n hn h1n
        exact level_n rb v ws en i n h1n (by omega) hr (ihd (n + 1) (by omega) (by omega)) (fun j hj => (later j hj).2.1 (n + 1) (by omega) (by omega))
    have hlv : ∀ n, 1 ≤ n → n ≤ 6 → LvlC rb v ws en n i := fun n a b => hl (6 - n) n (by omega) a
    have hl1 : ∀ j, i ≤ j → LvlC rb v ws en 1 j := fun j hj => by
      rcases Nat.lt_or_ge i j with h | h
      · exact (later j h).2.1 1 (by decide) (by decide)
      · obtain rfl : j = i := by omega
        exact hlv 1 (by decide) (by decide)
    exact ⟨h1, hlv, args_c rb v ws en i hr hl1, stmt_c rb v ws en i hr hl1 (fun j hj => (later j hj).2.2.2.2) (fun j hj => (later j hj).2.2.2.1), block_c rb v ws en i hr (fun j hj => (later j hj).2.2.2.1)⟩
theorem block_r (rb : Nat) (v : Value) (ws : List Wd) (en : Nat) (hr : 10 < rb) (hN : NumsOk ws) (i : Nat) : BlockC rb v ws en i := (knot rb v ws en hr hN (ws.length + 1) i (by omega)).2.2.2.2
end Go.Proofs.YtmngofgminlloaaGreatDoor
