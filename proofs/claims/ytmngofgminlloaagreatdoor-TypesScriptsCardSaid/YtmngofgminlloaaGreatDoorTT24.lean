/-
  The program's Check answers unitF.
  Scripts function by function: what the loops of types.Check go by.
  Sets of names (maps of names to bools): made, read, written.
  The reference's TypesFault, at every script.
-/
import Derived.Test.YtmngofgminlloaaGreatDoorTT14
import Derived.Test.YtmngofgminlloaaGreatDoorTT23
import Derived.Test.YtmngofgminlloaaGreatDoorTT15
import Derived.Test.YtmngofgminlloaaGreatDoorTT18
set_option linter.all false
namespace Go.Proofs.YtmngofgminlloaaGreatDoor
open Go.RowKit Tw

theorem okTo_later (f : Fn) (q m : Nat) (h : okTo f q = false) : okTo f (q + m) = false := by
  induction m with
  | zero => exact h
  | succ m ih => exact okTo_no f (q + m) ih
theorem fnF_bad {f : Fn} {q : Nat} (h6 : ¬ 6 < f.names.length) (hq : q ≤ f.names.length) (h : okTo f q = false) : fnF f = 3 := by
  unfold fnF
  rw [if_neg h6, if_pos]
  rw [← okTo_end]
  have := okTo_later f q (f.names.length - q) h
  rwa [show q + (f.names.length - q) = f.names.length by omega] at this
theorem fnF_ok {f : Fn} (h6 : ¬ 6 < f.names.length) (h : okTo f f.names.length = true) : fnF f = smsF f.body 40 := by
  unfold fnF; rw [if_neg h6, if_neg (by rw [← okTo_end, h]; decide)]
theorem okTo_typ (f : Fn) (q : Nat) (n : ByteArray) (t : Int) (hn : f.names[q]? = some n) (ht : f.types[q]? = some t) (h : typB t = false) : okTo f (q + 1) = false := by
  rw [okTo_succ f q n t hn ht, h, Bool.and_false]

set_option maxRecDepth 100000 in
set_option maxHeartbeats 16000000 in
theorem check_c (l : List Fn) (A : Option Addr) (c : Nat) (F : Nat → Prop) (w : World) (hA : FnsIn w F (.slice A l.length c) l) (hZ : ∀ f ∈ l, FnZ f) (hlen : l.length ≤ 281474976710656) :
    Calls Tryz.prog 14 #[.agg #[.slice A l.length c]] w fun e w' => e = .returned (.int .i64 (unitF l)) ∧ Below w.heap.size w w' := by
  have HA := Lib.hid hA; have HZ := Lib.hid hZ
  clear hA hZ
  by_cases h16 : 16 < l.length
  · have h16' : (16 : Int) < (l.length : Int) := by omega
    go_enter Tryz.func14, Tryz.ntmps14
    go_wp2_with fail
    go_ret
    exact ⟨by unfold unitF; rw [if_pos h16]; rfl, (Below.refl _ _).alloc (Nat.le_refl _) _⟩
  have h16' : (l.length : Int) ≤ 16 := by omega
  have hU : Hid (unitF l = fnsF l) := Lib.hid (by unfold unitF; rw [if_neg h16])
  clear h16
  go_enter Tryz.func14, Tryz.ntmps14
  go_wp2_with fail
  go_loopw [15] (fun i wr => ∃ j : Nat, j ≤ l.length ∧ i = .int .i64 j ∧ Hid (fnsF (l.take j) = 0) ∧ Hid (Below w.heap.size w wr)) (fun i _ => l.length - (intOf i).toNat)
  case atStart => exact ⟨0, Nat.zero_le _, rfl, Lib.hid (by rw [List.take_zero, fnsF]), Lib.hid ((Below.refl _ _).alloc (Nat.le_refl _) _)⟩
  case round =>
    obtain ⟨j, hj, rfl, HE, HB⟩ := hrel
    by_cases hlt : j < l.length
    · obtain ⟨f, hf⟩ : ∃ f, l[j]? = some f := ⟨_, List.getElem?_eq_getElem hlt⟩
      obtain ⟨g, off, An, cn, At, ct, Ab, cb, rfl, hg, hkn, hkt, hkb, hc⟩ := HA.out.at j f hf
      have b0 := (HB.out.cell (p := ⟨g, off + j * 6, none⟩) hg).trans (hc 0 _ rfl)
      have b1 := (HB.out.cell (p := ⟨g, off + j * 6 + 1, none⟩) hg).trans (hc 1 _ rfl)
      have b2 := (HB.out.cell (p := ⟨g, off + j * 6 + 2, none⟩) hg).trans (hc 2 _ rfl)
      have b3 := (HB.out.cell (p := ⟨g, off + j * 6 + 3, none⟩) hg).trans (hc 3 _ rfl)
      have b4 := (HB.out.cell (p := ⟨g, off + j * 6 + 4, none⟩) hg).trans (hc 4 _ rfl)
      have b5 := (HB.out.cell (p := ⟨g, off + j * 6 + 5, none⟩) hg).trans (hc 5 _ rfl)
      have hin : f ∈ l := List.mem_of_getElem? hf
      have HS := Lib.hid hf; have HKN := Lib.hid hkn; have HKT := Lib.hid hkt; have HKB := Lib.hid hkb; have HZS := Lib.hid (HZ.out f hin)
      clear hf hkn hkt hkb hc hin
      have k0 : (0 : Int) ≤ (j : Int) := by omega
      have k1 : (j : Int) < (l.length : Int) := by omega
      go_upto_region 6 with (fail)
      clear b0 b1 b2 b3 b4 b5
      have HBa := Lib.hid (HB.out.alloc HB.out.size (.cells #[.string f.name, .slice An f.names.length cn, .slice At f.types.length ct, .int .i64 f.out, .slice Ab f.body.length cb, .int .i64 f.pos] 32))
      have HQ := Lib.hid (heap_alloc_new wr (.cells #[.string f.name, .slice An f.names.length cn, .slice At f.types.length ct, .int .i64 f.out, .slice Ab f.body.length cb, .int .i64 f.pos] 32))
      generalize wr.alloc _ = wa at HBa HQ ⊢
      have hb6 := lt_of_some HQ.out
      generalize wr.heap.size = b6 at HQ hb6 ⊢
      have hnl := HZS.out.nlen; have htl := HZS.out.tlen; have hbl := HZS.out.blen
      obtain ⟨⟨c0, c1, c2, c3, c4, c5⟩, -⟩ := facts6 HQ.out
      by_cases h6 : 6 < f.names.length
      · have h6' : (6 : Int) < (f.names.length : Int) := by omega
        have e : fnF f = 2 := by unfold fnF; rw [if_pos h6]
        have HF := Lib.hid e; clear e h6
        go_wp2_with fail
        go_ret
        exact ⟨by rw [hU.out, fnsF_hit HS.out HE.out (by rw [HF.out]; decide), HF.out]; rfl, HBa.out⟩
      have h6' : (f.names.length : Int) ≤ 6 := by omega
      have H6 := Lib.hid h6; clear h6
      obtain ⟨bn, hbn⟩ : ∃ b, nameB f.name = b := ⟨_, rfl⟩
      have HN := Lib.hid hbn; have HZN := Lib.hid HZS.out.name
      clear hbn
      obtain ⟨ho, hho⟩ : ∃ b, okTo f 0 = b := ⟨_, rfl⟩
      have HO := Lib.hid hho; clear hho
      go_upto_region 8 with (fail)
      go_cut [45] (fun u W => u = .bool (!ho) ∧ W = wa)
      case first =>
        have HX : Hid (ho = (decide (f.names.length = f.types.length) && bn && typB f.out)) := Lib.hid (by rw [← HO.out, okTo_zero, ← HN.out]; rfl)
        by_cases hl : f.names.length = f.types.length
        · have e1 : ((f.names.length : Int) != (f.types.length : Int)) = false := by simp; omega
          have HL := Lib.hid hl; clear hl
          cases bn with
          | false =>
            go_wp2_with fail
            refine (isName_pb f.name false HN.out HZN.out _).mono ?_
            rintro e w7 ⟨rfl, rfl⟩
            go_wp2_with fail
            all_goals
              go_meet
              case rel => exact ⟨congrArg Value.bool (by rw [HX.out]; simp), rfl⟩
          | true =>
            cases et1 : (f.out != 1) with
            | false =>
              go_wp2_with fail
              refine (isName_pb f.name true HN.out HZN.out _).mono ?_
              rintro e w7 ⟨rfl, rfl⟩
              go_wp2_with fail
              all_goals
                go_meet
                case rel => exact ⟨congrArg Value.bool (by rw [HX.out]; have : f.out = 1 := by simpa using et1
                                                           simp [typB, this, HL.out]), rfl⟩
            | true =>
              cases et2 : (f.out != 2) with
              | false =>
                go_wp2_with fail
                refine (isName_pb f.name true HN.out HZN.out _).mono ?_
                rintro e w7 ⟨rfl, rfl⟩
                go_wp2_with fail
                all_goals
                  go_meet
                  case rel => exact ⟨congrArg Value.bool (by rw [HX.out]; have : f.out = 2 := by simpa using et2
                                                             simp [typB, this, HL.out]), rfl⟩
              | true =>
                go_wp2_with fail
                refine (isName_pb f.name true HN.out HZN.out _).mono ?_
                rintro e w7 ⟨rfl, rfl⟩
                go_wp2_with fail
                all_goals
                  go_meet
                  case rel => exact ⟨congrArg Value.bool (by rw [HX.out]; have h1 : ¬ f.out = 1 := by simpa using et1
                                                             have h2 : ¬ f.out = 2 := by simpa using et2
                                                             simp [typB, h1, h2]), rfl⟩
        · have e1 : ((f.names.length : Int) != (f.types.length : Int)) = true := by simp; omega
          have HL := Lib.hid hl; clear hl
          go_wp2_with fail
          all_goals
            go_meet
            case rel => exact ⟨congrArg Value.bool (by rw [HX.out]; simp [HL.out]), rfl⟩
      case rest =>
        obtain ⟨rfl, hw⟩ := hcut
        subst hw
        clear HN HZN
        cases ho with
        | false =>
          have HF := Lib.hid (fnF_bad H6.out (Nat.zero_le _) HO.out)
          go_wp2_with fail
          go_ret
          exact ⟨by rw [hU.out, fnsF_hit HS.out HE.out (by rw [HF.out]; decide), HF.out]; rfl, HBa.out⟩
        | true =>
          have HL : Hid (f.names.length = f.types.length) := Lib.hid (by
            have := HO.out
            rw [okTo_zero] at this
            unfold okHead at this
            simp only [Bool.and_eq_true, decide_eq_true_eq] at this
            exact this.1.1)
          have hltt : (f.types.length : Int) = (f.names.length : Int) := by have := HL.out; omega
          have HLT := Lib.hid hltt; clear hltt
          go_upto_block 2 with (fail)
          go_cut [] (fun W => Hid (okTo f f.names.length = true) ∧ W = wc)
          case first =>
            go_wp2_with fail
            go_loopw [49] (fun i wq => ∃ q : Nat, q ≤ f.names.length ∧ i = .int .i64 q ∧ Hid (okTo f q = true) ∧ wq = wc) (fun i _ => f.names.length - (intOf i).toNat)
            case atStart => exact ⟨0, Nat.zero_le _, rfl, HO, rfl⟩
            case round =>
              clear HO
              obtain ⟨q, hq, rfl, HO, hw⟩ := hrel
              subst hw
              by_cases hlt2 : q < f.names.length
              · obtain ⟨n, hn⟩ : ∃ n, f.names[q]? = some n := ⟨_, List.getElem?_eq_getElem hlt2⟩
                obtain ⟨t, ht⟩ : ∃ t, f.types[q]? = some t := ⟨_, List.getElem?_eq_getElem (by have := HL.out; omega)⟩
                obtain ⟨gn, on, rfl, hgn, hcn⟩ := HKN.out.at q n hn
                obtain ⟨gt, ot, rfl, hgt, hct⟩ := HKT.out.at q t ht
                have kn := (HBa.out.cell (p := ⟨gn, on + q, none⟩) hgn).trans hcn
                have kt := (HBa.out.cell (p := ⟨gt, ot + q, none⟩) hgt).trans hct
                have HNn := Lib.hid hn; have HTt := Lib.hid ht; have HNI := Lib.hid (HZS.out.names n (List.mem_of_getElem? hn))
                clear hcn hct hn ht hgn hgt
                have q0 : (0 : Int) ≤ (q : Int) := by omega
                have q1 : (q : Int) < (f.names.length : Int) := by omega
                have q2 : (q : Int) < (f.types.length : Int) := by have := HLT.out; omega
                obtain ⟨bn, hbn⟩ : ∃ b, nameB n = b := ⟨_, rfl⟩
                have HN := Lib.hid hbn; clear hbn
                cases bn with
                | false =>
                  have HF := Lib.hid (fnF_bad H6.out (q := q + 1) (by omega) (okTo_name f q n HNn.out HN.out))
                  go_wp2_with fail
                  refine (isName_pb n false HN.out HNI.out _).mono ?_
                  rintro e w7 ⟨rfl, rfl⟩
                  go_wp2_with fail
                  go_ret
                  exact ⟨by rw [hU.out, fnsF_hit HS.out HE.out (by rw [HF.out]; decide), HF.out]; rfl, HBa.out⟩
                | true =>
                  cases et1 : (t != 1) with
                  | false =>
                    have HQq : Hid (okTo f (q + 1) = true) := Lib.hid (by
                      have h1 : t = 1 := by simpa using et1
                      rw [okTo_succ f q n t HNn.out HTt.out, HO.out, HN.out]; simp [typB, h1])
                    go_wp2_with fail
                    refine (isName_pb n true HN.out HNI.out _).mono ?_
                    rintro e w7 ⟨rfl, rfl⟩
                    go_wp2_with fail
                    go_roundw
                    case rel => (repeat apply Exists.intro); exact ⟨⟨q + 1, by omega, by go_num, HQq, trivial⟩, rfl⟩
                    case measure => simp [intOf]; omega
                  | true =>
                    cases et2 : (t != 2) with
                    | false =>
                      have HQq : Hid (okTo f (q + 1) = true) := Lib.hid (by
                        have h1 : t = 2 := by simpa using et2
                        rw [okTo_succ f q n t HNn.out HTt.out, HO.out, HN.out]; simp [typB, h1])
                      go_wp2_with fail
                      refine (isName_pb n true HN.out HNI.out _).mono ?_
                      rintro e w7 ⟨rfl, rfl⟩
                      go_wp2_with fail
                      go_roundw
                      case rel => (repeat apply Exists.intro); exact ⟨⟨q + 1, by omega, by go_num, HQq, trivial⟩, rfl⟩
                      case measure => simp [intOf]; omega
                    | true =>
                      have HF := Lib.hid (fnF_bad H6.out (q := q + 1) (by omega) (okTo_typ f q n t HNn.out HTt.out (by
                        have h1 : ¬ t = 1 := by simpa using et1
                        have h2 : ¬ t = 2 := by simpa using et2
                        simp [typB, h1, h2])))
                      go_wp2_with fail
                      refine (isName_pb n true HN.out HNI.out _).mono ?_
                      rintro e w7 ⟨rfl, rfl⟩
                      go_wp2_with fail
                      go_ret
                      exact ⟨by rw [hU.out, fnsF_hit HS.out HE.out (by rw [HF.out]; decide), HF.out]; rfl, HBa.out⟩
              · have hqe : q = f.names.length := by omega
                subst hqe
                go_wp2_with fail
                go_meet
                case rel => exact ⟨HO, rfl⟩
          case rest =>
            clear HO
            obtain ⟨HO, hw⟩ := hcut
            subst hw
            have HF := Lib.hid (fnF_ok H6.out HO.out)
            have c4' : _ := (facts6 HQ.out).1.2.2.2.2.1
            clear c0 c1 c2 c3 c4 c5
            go_wp2_with fail
            clear c4'
            refine (psmsF_r 40 (by decide) 40 rfl f.body Ab cb F _ (HKB.out.keep (F' := F) (fun q h1 h2 => ⟨h1, Nat.lt_of_lt_of_le h2 HBa.out.size, HBa.out.block q h2⟩)) HZS.out.body HZS.out.blen).mono ?_
            rintro e w8 ⟨rfl, hb8⟩
            have HB8 := Lib.hid (HBa.out.trans (hb8.mono HBa.out.size))
            clear hb8
            obtain ⟨z, hz⟩ : ∃ z, smsF f.body 40 = z := ⟨_, rfl⟩
            rw [hz]
            have HZ2 := Lib.hid (HF.out.trans hz)
            clear hz
            by_cases hz0 : z = 0
            · subst hz0
              go_wp2_with fail
              go_roundw
              case rel => exact ⟨j + 1, by omega, by go_num, Lib.hid (fnsF_snoc HS.out HE.out HZ2.out), HB8⟩
              case measure => simp [intOf]; omega
            · have e0 : (z != 0) = true := by simpa using hz0
              have HZ0 := Lib.hid hz0; clear hz0
              go_wp2_with fail
              go_ret
              exact ⟨by rw [hU.out, fnsF_hit HS.out HE.out (by rw [HZ2.out]; exact HZ0.out), HZ2.out]; rfl, HB8.out⟩
    · have hje : j = l.length := by omega
      have HF : Hid (fnsF l = 0) := Lib.hid (by have := HE.out; rw [hje, List.take_length] at this; exact this)
      clear hje
      go_wp2_with fail
      go_ret
      exact ⟨by rw [hU.out, HF.out]; rfl, HB.out⟩
end Go.Proofs.YtmngofgminlloaaGreatDoor

namespace Go.Proofs.YtmngofgminlloaaGreatDoor
open Go.RowKit Tw

theorem fnsF_all' : ∀ l : List Fn, fnsF l = 0 → ∀ f ∈ l, fnF f = 0 := by
  intro l
  induction l with
  | nil => intro _ f hf; cases hf
  | cons g l ih =>
    intro h f hf
    rw [fnsF] at h
    split at h
    · rename_i h0
      rcases List.mem_cons.1 hf with rfl | hf
      · exact h0
      · exact ih h f hf
    · rename_i h0; exact absurd h h0
theorem unitF_parts {us : List Fn} (h : unitF us = 0) : us.length ≤ 16 ∧ ∀ f ∈ us, f.names.length = f.types.length ∧ f.names.length ≤ 6 ∧ typB f.out = true ∧ (∀ t ∈ f.types, typB t = true) ∧ smsF f.body 40 = 0 := by
  unfold unitF at h
  by_cases h16 : 16 < us.length
  · rw [if_pos h16] at h; cases h
  rw [if_neg h16] at h
  refine ⟨by omega, fun f hf => ?_⟩
  have h1 := fnsF_all' us h f hf
  unfold fnF at h1
  by_cases h6 : 6 < f.names.length
  · rw [if_pos h6] at h1; cases h1
  rw [if_neg h6] at h1
  split at h1
  · cases h1
  · rename_i h2
    simp only [Bool.not_eq_false, Bool.and_eq_true, decide_eq_true_eq, List.all_eq_true] at h2
    exact ⟨h2.1.1.1.1, by omega, h2.1.1.2, h2.2, h1⟩
/-- No one of the first j functions has the name of an earlier one. -/
def NoDup (us : List Fn) (j : Nat) : Prop := ∀ (m : Nat) (f : Fn), m < j → us[m]? = some f → findF (us.take m) f.name = none
theorem find_some {α : Type} (p : α → Bool) (l : List α) : (l.find? p).isSome = l.any p := by
  induction l with
  | nil => rfl
  | cons a l ih => rw [List.find?_cons, List.any_cons]; cases h : p a <;> simp [ih]
theorem findF_any (l : List Fn) (s : ByteArray) : (findF l s).isSome = (l.reverse.map Fn.name).any (fun n => decide (n = s)) := by
  unfold findF
  rw [List.any_map, List.any_reverse, find_some]
  rfl
theorem dupF_pre {us : List Fn} : ∀ j : Nat, j ≤ us.length → NoDup us j → dupF [] us = dupF ((us.take j).reverse.map Fn.name) (us.drop j) := by
  intro j
  induction j with
  | zero => intro _ _; simp
  | succ j ih =>
    intro hj h
    have hlt : j < us.length := by omega
    rw [ih (by omega) (fun m f hm => h m f (by omega)), List.drop_eq_getElem_cons hlt, dupF]
    have h1 := h j us[j] (by omega) (List.getElem?_eq_getElem hlt)
    have h2 := findF_any (us.take j) us[j].name
    rw [h1] at h2
    rw [if_neg (by rw [← h2]; decide), take_snoc_at (List.getElem?_eq_getElem hlt), List.reverse_append, List.map_append]
    rfl
theorem dupF_hit {us : List Fn} {j : Nat} {f : Fn} (hf : us[j]? = some f) (h : NoDup us j) (hd : (findF (us.take j) f.name).isSome = true) : dupF [] us = some f.pos := by
  have hlt := (List.getElem?_eq_some_iff.1 hf).1
  have e : us[j] = f := (List.getElem?_eq_some_iff.1 hf).2
  rw [dupF_pre j (by omega) h, List.drop_eq_getElem_cons hlt, dupF, e, if_pos (by rw [← findF_any]; exact hd)]
theorem dupF_end {us : List Fn} (h : NoDup us us.length) : dupF [] us = none := by
  rw [dupF_pre us.length (Nat.le_refl _) h, List.drop_length]; rfl
theorem NoDup.next {us : List Fn} {j : Nat} {f : Fn} (h : NoDup us j) (hf : us[j]? = some f) (hd : (findF (us.take j) f.name).isSome = false) : NoDup us (j + 1) := by
  intro m g hm hg
  rcases Nat.lt_or_ge m j with h1 | h1
  · exact h m g h1 hg
  · obtain rfl : m = j := by omega
    rw [hf] at hg
    obtain rfl := Option.some.inj hg
    cases hx : findF (us.take m) f.name with
    | none => rfl
    | some y => rw [hx] at hd; cases hd
theorem any_next {us : List Fn} {j : Nat} {f : Fn} (hf : us[j]? = some f) : (us.take (j + 1)).any isMain = ((us.take j).any isMain || isMain f) := by
  rw [take_snoc_at hf, List.any_append]; simp
theorem fnsT_app (us a b : List Fn) : fnsT us (a ++ b) = match fnsT us a with | .ok _ => fnsT us b | .bad q e => .bad q e := by
  induction a with
  | nil => rfl
  | cons f a ih => simp only [List.cons_append, fnsT]; cases fnT us f with
    | ok _ => exact ih
    | bad q e => rfl
theorem fnsT_next {us l : List Fn} {j : Nat} {f : Fn} (hf : l[j]? = some f) (h : fnsT us (l.take j) = .ok ()) (h1 : fnT us f = .ok ()) : fnsT us (l.take (j + 1)) = .ok () := by
  rw [take_snoc_at hf, fnsT_app, h]
  simp only [fnsT, h1]
theorem fnsT_hit {us l : List Fn} {j : Nat} {f : Fn} {q e : Int} (hf : l[j]? = some f) (h : fnsT us (l.take j) = .ok ()) (h1 : fnT us f = .bad q e) : fnsT us l = .bad q e := by
  have hlt := (List.getElem?_eq_some_iff.1 hf).1
  have e1 : l = l.take j ++ f :: l.drop (j + 1) := by
    have h1 := List.take_append_drop j l
    rw [List.drop_eq_getElem_cons hlt] at h1
    rw [(List.getElem?_eq_some_iff.1 hf).2] at h1
    exact h1.symm
  rw [e1, fnsT_app, h]
  simp only [fnsT, h1]
theorem parT_app (p : Int) : ∀ (a : List ByteArray) (a' : List Int) (b : List ByteArray) (b' : List Int) (env : Env) (m : Nat), a.length = a'.length → parT p (a ++ b) (a' ++ b') env m = match parT p a a' env m with | .ok (e, n) => parT p b b' e n | .bad q e => .bad q e := by
  intro a
  induction a with
  | nil => intro a' b b' env m h; cases a' with
    | nil => rfl
    | cons => simp at h
  | cons n a ih =>
    intro a' b b' env m h
    cases a' with
    | nil => simp at h
    | cons t a' =>
      simp only [List.cons_append, parT]
      cases letT env m p n t with
      | bad q e => rfl
      | ok z => obtain ⟨e1, m1⟩ := z; exact ih a' b b' e1 m1 (by simpa using h)
theorem parT_next {p : Int} {ns : List ByteArray} {ts : List Int} {k : Nat} {n : ByteArray} {t : Int} {env : Env} {m : Nat} (hn : ns[k]? = some n) (ht : ts[k]? = some t) (h : parT p (ns.take k) (ts.take k) [] 0 = .ok (env, m)) : parT p (ns.take (k + 1)) (ts.take (k + 1)) [] 0 = letT env m p n t := by
  have h1 := (List.getElem?_eq_some_iff.1 hn).1; have h2 := (List.getElem?_eq_some_iff.1 ht).1
  rw [take_snoc_at hn, take_snoc_at ht, parT_app _ _ _ _ _ _ _ (by simp; omega), h]
  simp only [parT]
  cases letT env m p n t with
  | bad q e => rfl
  | ok z => rfl
theorem parT_hit {p : Int} {ns : List ByteArray} {ts : List Int} {k : Nat} {n : ByteArray} {t : Int} {env : Env} {m : Nat} {q e : Int} (hn : ns[k]? = some n) (ht : ts[k]? = some t) (h : parT p (ns.take k) (ts.take k) [] 0 = .ok (env, m)) (hl : letT env m p n t = .bad q e) : parT p ns ts [] 0 = .bad q e := by
  have h1 := parT_next hn ht h
  rw [hl] at h1
  have e1 := List.take_append_drop (k + 1) ns
  have e2 := List.take_append_drop (k + 1) ts
  have h3 := (List.getElem?_eq_some_iff.1 hn).1; have h4 := (List.getElem?_eq_some_iff.1 ht).1
  rw [← e1, ← e2, parT_app _ _ _ _ _ _ _ (by simp; omega), h1]
theorem parT_env {p : Int} : ∀ (ns : List ByteArray) (ts : List Int) (env env' : Env) (m m' : Nat), (∀ t ∈ ts, typB t = true) → EnvOK env → env.length = m → m ≤ 64 → parT p ns ts env m = .ok (env', m') → EnvOK env' ∧ env'.length = m' ∧ m' ≤ 64 := by
  intro ns
  induction ns with
  | nil => intro ts env env' m m' _ hE hl hm h; rw [parT] at h; injection h with h; injection h with h1 h2; subst h1 h2; exact ⟨hE, hl, hm⟩; intro n ns t ts e; cases e
  | cons n ns ih =>
    intro ts env env' m m' ht hE hl hm h
    cases ts with
    | nil => rw [parT] at h; injection h with h; injection h with h1 h2; subst h1 h2; exact ⟨hE, hl, hm⟩; intro n ns t ts e e2; cases e2
    | cons t ts =>
      rw [parT] at h
      cases hx : letT env m p n t with
      | bad q e => rw [hx] at h; cases h
      | ok z =>
        obtain ⟨e1, m1⟩ := z
        rw [hx] at h
        have h2 := hE.letT (typB_iff.1 (ht t (List.mem_cons_self ..))) hx
        obtain ⟨rfl, h3, rfl, -⟩ := letT_le hx
        exact ih ts _ env' _ m' (fun t ht' => ht t (List.mem_cons_of_mem _ ht')) h2 (by simp; omega) (by omega) h
theorem fnT_bad {us : List Fn} {f : Fn} {q e : Int} (h : parT f.pos f.names f.types [] 0 = .bad q e) : fnT us f = .bad q e := by unfold fnT; rw [h]
theorem fnT_body {us : List Fn} {f : Fn} {env : Env} {m : Nat} (h : parT f.pos f.names f.types [] 0 = .ok (env, m)) : fnT us f = match blT us f.out f.body env m with | .bad q e => .bad q e | .ok (_, r) => if r then .ok () else .bad f.pos 3 := by unfold fnT; rw [h]; rfl
theorem FnsIn.take {w : World} {F : Nat → Prop} {A : Option Addr} {c : Nat} {us : List Fn} (h : FnsIn w F (.slice A us.length c) us) (j : Nat) (hj : j ≤ us.length) : FnsIn w F (.slice A (us.take j).length c) (us.take j) := by
  rcases h with ⟨a, c', h1, rfl⟩ | ⟨g, off, cap, vn, vt, vb, h1, h2, h3, h4⟩
  · exact .inl ⟨A, c, by simp, by simp⟩
  · injection h1 with e1 e2 e3
    subst e1 e3
    refine .inr ⟨g, off, c, vn, vt, vb, rfl, h2, h3, fun k f hk => h4 k f ?_⟩
    rw [List.getElem?_take] at hk
    split at hk
    · exact hk
    · cases hk
set_option maxRecDepth 100000 in
set_option maxHeartbeats 4000000 in
theorem has_dup (p : Addr) (s : ByteArray) (A : Option Addr) (c : Nat) (F : Nat → Prop) (us : List Fn) (w : World) (hU : FnsIn w F (.slice A us.length c) us) (hC : CloF 63 p s w) (hl : us.length ≤ 281474976710656) :
    Calls Tryz.prog 62 #[.slice A us.length c, .func (.func 63) #[] #[.pointer (some p)]] w fun e w' => e = .returned (.bool (findF us s).isSome) ∧ Below w.heap.size w w' := by
  have IC := Lib.hid (idx_dup p s A c F us w hU hC hl)
  clear hU hC
  go_enter Tryz.func62, Tryz.ntmps62
  go_wp2_with fail
  refine IC.out.mono ?_
  rintro e w8 ⟨z, rfl, hz, hb8⟩
  have HB8 := Lib.hid hb8; have HZ := Lib.hid hz
  clear hb8 hz
  by_cases h0 : 0 ≤ z
  · have HN := Lib.hid h0
    go_wp2_with fail
    go_ret
    refine ⟨?_, HB8.out⟩
    rcases HZ.out with ⟨i, f, h1, h2, h3⟩ | ⟨h1, h2⟩
    · rw [h2]; rfl
    · have := HN.out; omega
  · have h0' : z < 0 := by omega
    have HN := Lib.hid h0'
    clear h0
    go_wp2_with fail
    go_ret
    refine ⟨?_, HB8.out⟩
    rcases HZ.out with ⟨i, f, h1, h2, h3⟩ | ⟨h1, h2⟩
    · have := HN.out; omega
    · subst h2
      rw [h1]
      rfl
theorem isMain_eq (f : Fn) : isMain f = (decide (f.name = mainT) && decide (f.names.length = 0) && decide (f.out = 1)) := rfl
theorem unitT_0 {us : List Fn} (h : unitF us ≠ 0) : unitT us = (0, unitF us) := by unfold unitT; rw [if_pos h]
theorem unitT_1 {us : List Fn} {p : Int} (h : unitF us = 0) (hd : dupF [] us = some p) : unitT us = (p, 5) := by unfold unitT; rw [if_neg (fun e => e h), hd]
theorem unitT_2 {us : List Fn} (h : unitF us = 0) (hd : dupF [] us = none) (hm : us.any isMain = false) : unitT us = (0, 16) := by unfold unitT; rw [if_neg (fun e => e h), hd]; simp only; rw [if_pos hm]
theorem unitT_3 {us : List Fn} {p e : Int} (h : unitF us = 0) (hd : dupF [] us = none) (hm : us.any isMain = true) (hf : fnsT us us = .bad p e) : unitT us = (p, e) := by unfold unitT; rw [if_neg (fun e => e h), hd]; simp only; rw [if_neg (by rw [hm]; decide), hf]
theorem unitT_4 {us : List Fn} (h : unitF us = 0) (hd : dupF [] us = none) (hm : us.any isMain = true) (hf : fnsT us us = .ok ()) : unitT us = (0, 0) := by unfold unitT; rw [if_neg (fun e => e h), hd]; simp only; rw [if_neg (by rw [hm]; decide), hf]
end Go.Proofs.YtmngofgminlloaaGreatDoor

namespace Go.Proofs.YtmngofgminlloaaGreatDoor
open Go.RowKit Tw Go.Maps

theorem bl_zero (w : World) : (zeroValue 4).run Tryz.prog w = .ok (.bool false) w := by kernel_rfl
theorem plainElem_bool_inv {P : Program} {e : TypeId} (he : P.underlying e = some .bool) {v : Value} {z : MapD × List MemPlace} (h : plainElem P e v = some z) : ∃ x, v = .bool x ∧ z = (.lit (.bool x), []) := by
  unfold plainElem at h
  rw [he] at h
  cases v <;> simp at h
  subst h
  exact ⟨_, rfl, rfl⟩
/-- Block b is a set: the names l. -/
def NamesAt (w : World) (b : Nat) (l : List ByteArray) : Prop :=
  ∃ (n : Nat) (D : MapD), w.ownsMap Tryz.prog 9 (plainElem Tryz.prog 4) b n D ∧ n ≤ l.length ∧ (∀ s : ByteArray, s.size ≤ maxLen → D.atKey (.string s.data.toList) (.lit (.bool false)) = .lit (.bool (l.any (fun n => decide (n = s)))))
theorem NamesAt.made (w : World) : NamesAt (w.alloc (.map #[] 0)) w.heap.size [] :=
  ⟨0, .map [], World.ownsMap_made _ _ _ _, Nat.le_refl _, fun _ _ => rfl⟩
theorem NamesAt.kept {w w' : World} {b : Nat} {l : List ByteArray} {row : Option Nat} (h : NamesAt w b l) (hg : w.grownBy w' row) (hr : row ≠ some b) : NamesAt w' b l := by
  obtain ⟨n, D, h1, h2, h4⟩ := h
  exact ⟨n, D, h1.kept hg (by first | exact hr | exact fun e => hr e.symm), h2, h4⟩
theorem NamesAt.lt {w : World} {b : Nat} {l : List ByteArray} (h : NamesAt w b l) : b < w.heap.size := by
  obtain ⟨n, D, h1, _⟩ := h
  exact h1.lt
theorem NamesAt.look {w : World} {b : Nat} {l : List ByteArray} (h : NamesAt w b l) (s : ByteArray) (hs : s.size ≤ maxLen) : (Instr.lookup 133 (.map (some b)) (.string s) false).run Tryz.prog w = .ok (.bool (l.any (fun n => decide (n = s)))) w := by
  obtain ⟨n, D, h1, _, h4⟩ := h
  obtain ⟨v, ps, hrun, hv⟩ := h1.lookup nm_law Tryz.underlying133 (bl_zero w) (plainElem_bool Tryz.underlying4 false) (Go.WideMaps.keyOf_string_mk Tryz.underlying9 hs)
  rw [h4 s hs] at hv
  obtain ⟨x, rfl, hx⟩ := plainElem_bool_inv Tryz.underlying4 hv
  have hx1 := (Prod.mk.inj hx).1
  have : l.any (fun n => decide (n = s)) = x := Lit.bool.inj (DataW.lit.inj hx1)
  rw [this]; exact hrun
theorem NamesAt.put {w : World} {b : Nat} {l : List ByteArray} (h : NamesAt w b l) (s : ByteArray) (hs : s.size ≤ maxLen) (hl : l.length ≤ 1000) :
    ∃ w', (Instr.mapUpdate 133 (.map (some b)) (.string s) (.bool true)).run Tryz.prog w = .ok () w' ∧ NamesAt w' b (s :: l) ∧ w.grownBy w' (some b) := by
  obtain ⟨n, D, h1, h2, h4⟩ := h
  obtain ⟨w', hrun, h1', hg⟩ := h1.update nm_law Tryz.underlying133 (by unfold maxLen; omega) (Go.WideMaps.keyOf_string_mk Tryz.underlying9 hs) (plainElem_bool Tryz.underlying4 true)
  refine ⟨w', hrun, ⟨n + 1, _, h1', by simp; omega, fun s' hs' => ?_⟩, hg⟩
  by_cases e : s = s'
  · subst e
    rw [atKey_put_same h1.isMap (isKey hs)]
    simp
  · have hne : (Lit.string s'.data.toList) ≠ .string s.data.toList := by
      intro he
      injection he with he
      exact e (ByteArray.ext (Array.toList_inj.1 he)).symm
    rw [atKey_put_other hne, h4 s' hs']
    simp [e]
end Go.Proofs.YtmngofgminlloaaGreatDoor

namespace Go.Proofs.YtmngofgminlloaaGreatDoor
open Go.RowKit Tw Go.Maps

/-- The frame of TypesFault: the unit's box. -/
structure FrZ (w W : World) (b1 : Nat) (A : Option Addr) (n c : Nat) : Prop where
  un : W.heap[b1]? = some (.cells #[.slice A n c] 24 (0, 0))
  bel : Below w.heap.size w W
  lo : w.heap.size ≤ b1
  big : 10 < w.heap.size
  gl : Glob W
section
variable {w W W' : World} {b1 r r2 : Nat} {A : Option Addr} {n c : Nat}
theorem FrZ.later (h : FrZ w W b1 A n c) (hb : Below W.heap.size W W') : FrZ w W' b1 A n c :=
  ⟨(hb.block b1 (lt_of_some h.un)).trans h.un, h.bel.trans (hb.mono h.bel.size), h.lo, h.big, h.gl.to hb⟩
theorem FrZ.two (h : FrZ w W b1 A n c) (ht : Two W W' r r2) (hr : b1 < r) (hr2 : b1 < r2) : FrZ w W' b1 A n c :=
  ⟨(ht.block b1 (lt_of_some h.un) (by omega) (by omega)).trans h.un, ⟨ht.os.trans h.bel.os, ht.tape.trans h.bel.tape, ht.output.trans h.bel.output, Nat.le_trans h.bel.size ht.size, fun k hk => (ht.block k (Nat.lt_of_lt_of_le hk h.bel.size) (by have := h.lo; omega) (by have := h.lo; omega)).trans (h.bel.block k hk)⟩, h.lo, h.big,
    h.gl.same ht.size fun g hg => ht.block g (by have := h.gl.big; omega) (by have := h.lo; have := h.big; omega) (by have := h.lo; have := h.big; omega)⟩
theorem FrZ.grown (h : FrZ w W b1 A n c) (hg : W.grownBy W' (some r)) (hr : b1 < r) : FrZ w W' b1 A n c := h.two (Two.of r hg) hr hr
end
theorem map_below (w : World) : Below w.heap.size w (w.alloc (.map #[] 0)) := (Below.refl _ _).alloc (Nat.le_refl _) _
theorem NoDup.apart {us : List Fn} (h : NoDup us us.length) : Apart us := by
  have key : ∀ (i j : Nat) (f g : Fn), i < j → us[i]? = some f → us[j]? = some g → f.name = g.name → False := by
    intro i j f g hij hf hg e
    have hj : j < us.length := (List.getElem?_eq_some_iff.1 hg).1
    have h1 := h j g hj hg
    unfold findF at h1
    rw [List.find?_eq_none] at h1
    have h2 : f ∈ us.take j := List.mem_of_getElem? (i := i) (by rw [List.getElem?_take, if_pos hij]; exact hf)
    have := h1 f h2
    simp [e] at this
  intro i j f g hf hg e
  rcases Nat.lt_trichotomy i j with h1 | h1 | h1
  · exact (key i j f g h1 hf hg e).elim
  · exact h1
  · exact (key j i g f h1 hg hf e.symm).elim
theorem parT_bads {p : Int} : ∀ {ns : List ByteArray} {ts : List Int} {k : Nat} {n : ByteArray} {t : Int} {env : Env} {m : Nat} {F : Flt}, ns[k]? = some n → ts[k]? = some t →
    (F = none → parT p (ns.take k) (ts.take k) [] 0 = .ok (env, m)) → (∀ q, F = some q → parT p ns ts [] 0 = .bad q.1 q.2) →
    (F.on (letT env m p n t) = none → parT p (ns.take (k + 1)) (ts.take (k + 1)) [] 0 = .ok ((n, t) :: env, m + 1)) ∧ (∀ q, F.on (letT env m p n t) = some q → parT p ns ts [] 0 = .bad q.1 q.2) := by
  intro ns ts k n t env m F hn ht h1 h2
  cases F with
  | some q =>
    refine ⟨fun h => ?_, fun q' h => ?_⟩
    · cases hl : letT env m p n t <;> simp [Flt.on, hl] at h
    · have : q' = q := by cases hl : letT env m p n t <;> simp [Flt.on, hl] at h <;> exact h.symm
      rw [this]; exact h2 q rfl
  | none =>
    cases hl : letT env m p n t with
    | ok z =>
      obtain ⟨e1, m1⟩ := z
      obtain ⟨a1, -, a2, -⟩ := letT_le hl
      refine ⟨fun _ => by rw [parT_next hn ht (h1 rfl), hl, a1, a2], fun q h => by simp [Flt.on] at h⟩
    | bad q e =>
      refine ⟨fun h => by simp [Flt.on] at h, fun q' h => ?_⟩
      simp [Flt.on] at h
      subst h
      exact parT_hit hn ht (h1 rfl) hl
set_option maxRecDepth 100000 in
set_option maxHeartbeats 16000000 in
theorem tfault_c (us : List Fn) (A : Option Addr) (c : Nat) (F0 : Nat → Prop) (w : World) (hU : FnsIn w F0 (.slice A us.length c) us) (hZ : ∀ f ∈ us, FnZ f) (hlen : us.length ≤ 281474976710656) (hG : Glob w) :
    Calls Tryz.prog 18 #[.agg #[.slice A us.length c]] w fun e w' => e = .returned (.tuple #[.int .i64 (unitT us).1, .int .i64 (unitT us).2]) ∧ Below w.heap.size w w' := by
  have hbig := hG.big
  obtain ⟨F, hFd⟩ : ∃ F : Nat → Prop, F = fun g => F0 g ∧ g < w.heap.size := ⟨_, rfl⟩
  have hU1 : FnsIn w F (.slice A us.length c) us := hU.keep (fun g h1 h2 => ⟨by rw [hFd]; exact ⟨h1, h2⟩, h2, rfl⟩)
  have hFw : ∀ g, F g → g < w.heap.size := fun g hg => by rw [hFd] at hg; exact hg.2
  have HU := Lib.hid hU1; have HFW := Lib.hid hFw; have HZ := Lib.hid hZ
  have hmm := @run_makeMap Tryz.prog
  have hB1 : Below w.heap.size w (w.alloc (.cells #[.slice A us.length c] 24)) := (Below.refl _ _).alloc (Nat.le_refl _) _
  have UC := Lib.hid (unitF_c us A c F (w.alloc (.cells #[.slice A us.length c] 24)) (hU1.keep (fun g h1 h2 => ⟨h1, Nat.lt_of_lt_of_le h2 hB1.size, hB1.block g h2⟩)) hZ hlen (hG.to hB1))
  have HF0 : Hid (FrZ w (w.alloc (.cells #[.slice A us.length c] 24)) w.heap.size A us.length c) := Lib.hid ⟨heap_alloc_new w _, hB1, Nat.le_refl _, hbig, hG.to hB1⟩
  clear hU hU1 hFw hZ hFd hG hB1
  go_enter Tryz.func18, Tryz.ntmps18
  go_upto_region 1 with (fail)
  generalize w.alloc _ = w0 at UC HF0 ⊢
  obtain ⟨b1, hb1⟩ : ∃ b, w.heap.size = b := ⟨_, rfl⟩
  have n0 : 10 < b1 := by omega
  have hwb : w.heap.size ≤ b1 := by omega
  rw [hb1] at HF0
  simp only [hb1]
  clear hbig hb1
  have c1 : w0.cell? ⟨b1, 0, none⟩ = some (.slice A us.length c) := Lib.cell_of_heap HF0.out.un 0
  go_wp2_with fail
  refine UC.out.mono ?_
  rintro e w1 ⟨rfl, hb⟩
  have HF1 := Lib.hid (HF0.out.later hb)
  clear c1 hb UC HF0
  by_cases hz0 : unitF us = 0
  case neg =>
    obtain ⟨z, hz⟩ : ∃ z, unitF us = z := ⟨_, rfl⟩
    rw [hz] at hz0 ⊢
    have e1 : (z != 0) = true := by simpa using hz0
    have HZN : Hid (unitT us = (0, z)) := Lib.hid (by rw [unitT_0 (by rw [hz]; exact hz0), hz])
    clear hz0 hz
    go_wp2_with fail
    go_ret2
    exact ⟨by rw [HZN.out]; rfl, HF1.out.bel⟩
  case pos =>
  rw [hz0]
  have HUF := Lib.hid hz0
  have hul := (unitF_parts hz0).1
  have HPT := Lib.hid (unitF_parts hz0).2
  clear hz0
  have hb1w : b1 < w1.heap.size := lt_of_some HF1.out.un
  go_upto_region 6 with (fail)
  have HNS := Lib.hid (NamesAt.made w1)
  have HF2 := Lib.hid (HF1.out.later (map_below w1))
  generalize w1.alloc _ = w2 at HNS HF2 ⊢
  generalize w1.heap.size = bm at HNS hb1w ⊢
  have c1 : w2.cell? ⟨b1, 0, none⟩ = some (.slice A us.length c) := Lib.cell_of_heap HF2.out.un 0
  go_wp2_with fail
  clear c1 HF1
  go_loopw [5, 25] (fun u i wr => ∃ j : Nat, j ≤ us.length ∧ i = .int .i64 j ∧ u = .bool ((us.take j).any isMain) ∧ Hid (NoDup us j) ∧ Hid (FrZ w wr b1 A us.length c) ∧ Hid (NamesAt wr bm ((us.take j).reverse.map Fn.name))) (fun _ i _ => us.length - (intOf i).toNat)
  case atStart => exact ⟨0, Nat.zero_le _, rfl, rfl, Lib.hid (fun m f h => absurd h (Nat.not_lt_zero m)), HF2, HNS⟩
  case round =>
    clear HF2 HNS
    obtain ⟨j, hj, rfl, rfl, HN, HF, HM⟩ := hrel
    by_cases hlt : j < us.length
    · obtain ⟨f, hf⟩ : ∃ f, us[j]? = some f := ⟨_, List.getElem?_eq_getElem hlt⟩
      obtain ⟨g, off, An, cn, At, ct, Ab, cbb, rfl, hg, hkn, hkt, hkb, hc⟩ := HU.out.at j f hf
      have q0 := (HF.out.bel.cell (p := ⟨g, off + j * 6, none⟩) hg).trans (hc 0 _ rfl)
      have q1 := (HF.out.bel.cell (p := ⟨g, off + j * 6 + 1, none⟩) hg).trans (hc 1 _ rfl)
      have q2 := (HF.out.bel.cell (p := ⟨g, off + j * 6 + 2, none⟩) hg).trans (hc 2 _ rfl)
      have q3 := (HF.out.bel.cell (p := ⟨g, off + j * 6 + 3, none⟩) hg).trans (hc 3 _ rfl)
      have q4 := (HF.out.bel.cell (p := ⟨g, off + j * 6 + 4, none⟩) hg).trans (hc 4 _ rfl)
      have q5 := (HF.out.bel.cell (p := ⟨g, off + j * 6 + 5, none⟩) hg).trans (hc 5 _ rfl)
      have HS := Lib.hid hf
      have HFZ := Lib.hid (HZ.out f (List.mem_of_getElem? hf))
      have hnl := HFZ.out.nlen
      have hb := (Below.refl wr.heap.size wr).alloc (Nat.le_refl _) (.cells #[.string f.name, .slice An f.names.length cn, .slice At f.types.length ct, .int .i64 f.out, .slice Ab f.body.length cbb, .int .i64 f.pos] 32)
      have HFa := Lib.hid (HF.out.later hb)
      have HX := Lib.hid (heap_alloc_new wr (.cells #[.string f.name, .slice An f.names.length cn, .slice At f.types.length ct, .int .i64 f.out, .slice Ab f.body.length cbb, .int .i64 f.pos] 32))
      have HMa := Lib.hid (HM.out.kept (grown_of_below hb none) (by simp))
      have hbx : bm ≠ wr.heap.size := by have := HM.out.lt; omega
      have k0 : (0 : Int) ≤ (j : Int) := by omega
      have k1 : (j : Int) < (us.length : Int) := by omega
      clear hf hkn hkt hkb hc hb hg
      go_upto_region 9 with (fail)
      clear q0 q1 q2 q3 q4 q5
      generalize wr.alloc _ = wa at HFa HX HMa ⊢
      generalize wr.heap.size = bf at HX hbx ⊢
      obtain ⟨⟨q0, q1, q2, q3, q4, q5⟩, -⟩ := facts6 HX.out
      obtain ⟨d, hd⟩ : ∃ d, (findF (us.take j) f.name).isSome = d := ⟨_, rfl⟩
      have hlk := HMa.out.look f.name HFZ.out.name
      rw [← findF_any, hd] at hlk
      have HDD := Lib.hid hd
      clear hd
      cases d with
      | true =>
        have HUT := Lib.hid (unitT_1 HUF.out (dupF_hit HS.out HN.out HDD.out))
        go_wp2_with fail
        go_ret2
        exact ⟨by rw [HUT.out]; rfl, HFa.out.bel⟩
      | false =>
        have HND := Lib.hid (HN.out.next HS.out HDD.out)
        have HAN := Lib.hid (any_next HS.out)
        obtain ⟨w3, hput, hS3, hg3⟩ := HMa.out.put f.name HFZ.out.name (by simp; omega)
        have HM3 : Hid (NamesAt w3 bm ((us.take (j + 1)).reverse.map Fn.name)) := Lib.hid (by rw [take_snoc_at HS.out, List.reverse_append, List.map_append]; exact hS3)
        have HF3 := Lib.hid (HFa.out.grown hg3 hb1w)
        have HX3 := Lib.hid ((hg3.block bf (lt_of_some HX.out) (by simpa using fun e => hbx e.symm)).trans HX.out)
        clear hS3 hg3
        go_upto_region 12 with (fail)
        clear q0 q1 q2 q3 q4 q5 hlk hput
        obtain ⟨⟨q0, q1, q2, q3, q4, q5⟩, -⟩ := facts6 HX3.out
        obtain ⟨mb, hmb⟩ : ∃ b, (us.take j).any isMain = b := ⟨_, rfl⟩
        rw [hmb] at HAN ⊢
        clear hmb
        have hnm : (f.name.toList == [109, 97, 105, 110]) = decide (f.name = mainT) := by
          rw [tl_is]
          refine decide_eq_decide.2 ⟨fun h => ?_, fun h => by rw [h]; rfl⟩
          rw [← bs_mk' f.name, h]; rfl
        have HMN := Lib.hid (isMain_eq f)
        obtain ⟨d1, h1⟩ : ∃ d, decide (f.name = mainT) = d := ⟨_, rfl⟩
        obtain ⟨d2, h2⟩ : ∃ d, decide (f.names.length = 0) = d := ⟨_, rfl⟩
        obtain ⟨d3, h3⟩ : ∃ d, decide (f.out = 1) = d := ⟨_, rfl⟩
        have e2 : ((f.names.length : Int) == 0) = d2 := by rw [← h2]; by_cases h : f.names.length = 0 <;> simp [h]
        have e3 : (f.out == 1) = d3 := by rw [← h3]; by_cases h : f.out = 1 <;> simp [h]
        rw [h1] at hnm
        have HM2 : Hid (isMain f = (d1 && d2 && d3)) := Lib.hid (by rw [HMN.out, h1, h2, h3])
        clear h1 h2 h3 HMN
        cases d1 with
        | false =>
          go_wp2_with fail
          go_roundw
          case rel => exact ⟨j + 1, by omega, by go_num, by rw [HAN.out, HM2.out]; simp, HND, HF3, HM3⟩
          case measure => simp [intOf]; omega
        | true =>
          cases d2 with
          | false =>
            go_wp2_with fail
            go_roundw
            case rel => exact ⟨j + 1, by omega, by go_num, by rw [HAN.out, HM2.out]; simp, HND, HF3, HM3⟩
            case measure => simp [intOf]; omega
          | true =>
            cases d3 with
            | false =>
              go_wp2_with fail
              go_roundw
              case rel => exact ⟨j + 1, by omega, by go_num, by rw [HAN.out, HM2.out]; simp, HND, HF3, HM3⟩
              case measure => simp [intOf]; omega
            | true =>
              go_wp2_with fail
              go_roundw
              case rel => exact ⟨j + 1, by omega, by go_num, by rw [HAN.out, HM2.out]; simp, HND, HF3, HM3⟩
              case measure => simp [intOf]; omega
    · obtain rfl : j = us.length := by omega
      rw [List.take_length]
      have HDN := Lib.hid (dupF_end HN.out)
      have HAP := Lib.hid HN.out.apart
      clear HN HM
      obtain ⟨mb, hmb⟩ : ∃ b, us.any isMain = b := ⟨_, rfl⟩
      have HMB := Lib.hid hmb
      rw [hmb]
      clear hmb
      cases mb with
      | false =>
        have HUT := Lib.hid (unitT_2 HUF.out HDN.out HMB.out)
        go_wp2_with fail
        go_ret2
        exact ⟨by rw [HUT.out]; rfl, HF.out.bel⟩
      | true =>
        have c1 : wr.cell? ⟨b1, 0, none⟩ = some (.slice A us.length c) := Lib.cell_of_heap HF.out.un 0
        go_wp2_with fail
        clear c1
        have HFi := HF
        clear HF
        obtain ⟨wx, rfl⟩ : ∃ wo : World, wo = wr := ⟨_, rfl⟩
        go_loopw [58] (fun i wr => ∃ j : Nat, j ≤ us.length ∧ i = .int .i64 j ∧ Hid (fnsT us (us.take j) = .ok ()) ∧ Hid (FrZ w wr b1 A us.length c)) (fun i _ => us.length - (intOf i).toNat)
        case atStart => exact ⟨0, Nat.zero_le _, rfl, Lib.hid rfl, HFi⟩
        case round =>
          clear HFi
          obtain ⟨j, hj, rfl, HT, HF⟩ := hrel
          by_cases hlt : j < us.length
          · obtain ⟨f, hf⟩ : ∃ f, us[j]? = some f := ⟨_, List.getElem?_eq_getElem hlt⟩
            obtain ⟨g, off, An, cn, At, ct, Ab, cbb, rfl, hg, hkn, hkt, hkb, hc⟩ := HU.out.at j f hf
            have q0 := (HF.out.bel.cell (p := ⟨g, off + j * 6, none⟩) hg).trans (hc 0 _ rfl)
            have q1 := (HF.out.bel.cell (p := ⟨g, off + j * 6 + 1, none⟩) hg).trans (hc 1 _ rfl)
            have q2 := (HF.out.bel.cell (p := ⟨g, off + j * 6 + 2, none⟩) hg).trans (hc 2 _ rfl)
            have q3 := (HF.out.bel.cell (p := ⟨g, off + j * 6 + 3, none⟩) hg).trans (hc 3 _ rfl)
            have q4 := (HF.out.bel.cell (p := ⟨g, off + j * 6 + 4, none⟩) hg).trans (hc 4 _ rfl)
            have q5 := (HF.out.bel.cell (p := ⟨g, off + j * 6 + 5, none⟩) hg).trans (hc 5 _ rfl)
            have HS := Lib.hid hf; have HKN := Lib.hid hkn; have HKT := Lib.hid hkt; have HKB := Lib.hid hkb
            have hin := List.mem_of_getElem? hf
            have HFZ := Lib.hid (HZ.out f hin)
            obtain ⟨pl, p6, pou, pty, pbo⟩ := HPT.out f hin
            have HPTY := Lib.hid pty; have HPBO := Lib.hid pbo; have HPL := Lib.hid pl; have HPO := Lib.hid pou
            clear pl pou
            have hb := (Below.refl wr.heap.size wr).alloc (Nat.le_refl _) (.cells #[.string f.name, .slice An f.names.length cn, .slice At f.types.length ct, .int .i64 f.out, .slice Ab f.body.length cbb, .int .i64 f.pos] 32)
            have HFa := Lib.hid (HF.out.later hb)
            have HX := Lib.hid (heap_alloc_new wr (.cells #[.string f.name, .slice An f.names.length cn, .slice At f.types.length ct, .int .i64 f.out, .slice Ab f.body.length cbb, .int .i64 f.pos] 32))
            have hx1 : b1 < wr.heap.size := lt_of_some HF.out.un
            have k0 : (0 : Int) ≤ (j : Int) := by omega
            have k1 : (j : Int) < (us.length : Int) := by omega
            clear hf hkn hkt hkb hc hb hg pty pbo hin
            go_upto_region 20 with (fail)
            clear q0 q1 q2 q3 q4 q5 HF
            generalize wr.alloc _ = wa at HFa HX ⊢
            generalize wr.heap.size = bf at HX hx1 ⊢
            obtain ⟨⟨q0, q1, q2, q3, q4, q5⟩, -⟩ := facts6 HX.out
            have c1 : wa.cell? ⟨b1, 0, none⟩ = some (.slice (some ⟨g, off, none⟩) us.length c) := Lib.cell_of_heap HFa.out.un 0
            have hx0 := lt_of_some HX.out
            have hbk := (Below.refl wa.heap.size wa).alloc (Nat.le_refl _) (.cells #[.slice (some ⟨g, off, none⟩) us.length c, .int .i64 f.out, .int .i64 0, .int .i64 0, .int .i64 0] 136)
            have HC0 : Hid (Sco (wa.alloc (.cells #[.slice (some ⟨g, off, none⟩) us.length c, .int .i64 f.out, .int .i64 0, .int .i64 0, .int .i64 0] 136)) wa.heap.size (.slice (some ⟨g, off, none⟩) us.length c) f.out 0 none) := Lib.hid ⟨heap_alloc_new wa _, (fun _ h => by cases h), by omega⟩
            have HFb := Lib.hid (HFa.out.later hbk)
            have HXb := Lib.hid ((hbk.block _ hx0).trans HX.out)
            clear hbk
            go_upto_region 21 with (fail)
            clear q0 q1 q2 q3 q4 q5 c1 HX HFa
            generalize wa.alloc _ = wb at HC0 HFb HXb ⊢
            obtain ⟨cb, hcb⟩ : ∃ n, wa.heap.size = n := ⟨_, rfl⟩
            rw [hcb] at HC0 hx0 ⊢
            clear hcb
            go_upto_region 22 with (fail)
            have HE0 := Lib.hid (SeenAt.made wb)
            have HFc := Lib.hid (HFb.out.later (map_below wb))
            have HCc := Lib.hid (HC0.out.kept ((map_below wb).block cb HC0.out.lt))
            have HXc := Lib.hid (((map_below wb).block bf (lt_of_some HXb.out)).trans HXb.out)
            have hcw : cb < wb.heap.size := HC0.out.lt
            clear HFb HC0 HXb
            generalize wb.alloc _ = wc at HE0 HFc HCc HXc ⊢
            generalize wb.heap.size = bs at HE0 hcw ⊢
            obtain ⟨⟨q0, q1, q2, q3, q4, q5⟩, -⟩ := facts6 HXc.out
            go_wp2_with fail
            clear q0 q1 q2 q3 q4 q5
            go_loopw [71] (fun i wr => ∃ (k : Nat) (env : Env) (Fl : Flt), k ≤ f.names.length ∧ i = .int .i64 k ∧ Hid (env.length = k) ∧ Hid (∀ q ∈ env, q.2 = 1 ∨ q.2 = 2) ∧ Hid (Fl = none → parT f.pos (f.names.take k) (f.types.take k) [] 0 = .ok (env, k)) ∧ Hid (∀ q, Fl = some q → parT f.pos f.names f.types [] 0 = .bad q.1 q.2) ∧
              Hid (Sco wr cb (.slice (some ⟨g, off, none⟩) us.length c) f.out k Fl) ∧ Hid (SeenAt wr bs env) ∧ Hid (wr.heap[bf]? = some (.cells #[.string f.name, .slice An f.names.length cn, .slice At f.types.length ct, .int .i64 f.out, .slice Ab f.body.length cbb, .int .i64 f.pos] 32 (0, 0))) ∧ Hid (FrZ w wr b1 (some ⟨g, off, none⟩) us.length c)) (fun i _ => f.names.length - (intOf i).toNat)
            case atStart => exact ⟨0, [], none, Nat.zero_le _, rfl, Lib.hid rfl, Lib.hid (fun _ h => by cases h), Lib.hid (fun _ => rfl), Lib.hid (fun _ h => by cases h), HCc, HE0, HXc, HFc⟩
            case round =>
              clear HFc HCc HE0 HXc
              obtain ⟨k, env, Fl, hk, rfl, HEL, HEV, HP1, HP2, HC, HE, HX, HF⟩ := hrel
              by_cases hlk : k < f.names.length
              · obtain ⟨n, hn⟩ : ∃ n, f.names[k]? = some n := ⟨_, List.getElem?_eq_getElem hlk⟩
                obtain ⟨t, ht⟩ : ∃ t, f.types[k]? = some t := ⟨_, List.getElem?_eq_getElem (by have := HPL.out; omega)⟩
                obtain ⟨gn, on, rfl, hgn, hcn⟩ := HKN.out.at k n hn
                obtain ⟨gt, ot, rfl, hgt, hct⟩ := HKT.out.at k t ht
                have kn := (HF.out.bel.cell (p := ⟨gn, on + k, none⟩) hgn).trans hcn
                have kt := (HF.out.bel.cell (p := ⟨gt, ot + k, none⟩) hgt).trans hct
                have ht12 := typB_iff.1 (HPTY.out t (List.mem_of_getElem? ht))
                have HNn := Lib.hid hn; have HTt := Lib.hid ht; have HT12 := Lib.hid ht12
                have i0 : (0 : Int) ≤ (k : Int) := by omega
                have i1 : (k : Int) < (f.names.length : Int) := by omega
                have i2 : (k : Int) < (f.types.length : Int) := by have := HPL.out; omega
                have HLT := Lib.hid (let_c f.pos n t (HFZ.out.names n (List.mem_of_getElem? hn)) (by rcases ht12 with rfl | rfl <;> decide) (w := wr.drew) (HC.out.kept rfl) (HE.out.kept (grown_of_below (bel_drew wr) none) (by simp)) (by omega) (by omega) (by have := HEL.out; omega) (fun s => by
                  by_cases h0 : lookE env s = 0
                  · omega
                  · have := HEV.out _ (lookE_mem h0); simp only at this; omega))
                clear hn ht hcn hct ht12
                obtain ⟨⟨q0, q1, q2, q3, q4, q5⟩, -⟩ := facts6 HX.out
                go_upto_region 25 with (fail)
                go_region_law (first | (go_simp; go_at_call 66; refine HLT.out.mono ?_; rintro e w3 ⟨rfl, hC3, hE3, hT3⟩; have HC3 := Lib.hid hC3; have HE3 := Lib.hid hE3; have HX3 := Lib.hid ((hT3.block bf (lt_of_some HX.out) (by omega) (by omega)).trans HX.out); have HF3 := Lib.hid ((HF.out.later (bel_drew wr)).two hT3 (by omega) (by omega)); clear hC3 hE3 hT3))
                all_goals
                  have HPB := Lib.hid (parT_bads HNn.out HTt.out HP1.out HP2.out)
                  go_wp2_with fail
                  go_roundw
                  case rel => exact ⟨k + 1, (n, t) :: env, _, by omega, by go_num, Lib.hid (by simp [HEL.out]), Lib.hid (fun q hq => by rcases List.mem_cons.1 hq with rfl | hq; exact HT12.out; exact HEV.out q hq), Lib.hid HPB.out.1, Lib.hid HPB.out.2, HC3, HE3, HX3, HF3⟩
                  case measure => simp [intOf]; omega
              · obtain rfl : k = f.names.length := by omega
                have HSB : Hid (StmtsIn wr F (.slice Ab f.body.length cbb) f.body) := Lib.hid (HKB.out.keep (fun q h1 h2 => ⟨h1, Nat.lt_of_lt_of_le h2 HF.out.bel.size, HF.out.bel.block q h2⟩))
                have hcb1 : cb < wr.heap.size := HC.out.lt
                have hbf1 : bf < wr.heap.size := lt_of_some HX.out
                obtain ⟨⟨q0, q1, q2, q3, q4, q5⟩, -⟩ := facts6 HX.out
                cases Fl with
                | some q =>
                  have HFT := Lib.hid (fnT_bad (us := us) (HP2.out q rfl))
                  have HUT := Lib.hid (unitT_3 HUF.out HDN.out HMB.out (fnsT_hit HS.out HT.out HFT.out))
                  have HBC := Lib.hid (sms_e f.body Ab cbb F wr cb bs _ f.out _ env q HFZ.out.blen (by have := HEL.out; omega) HC.out HE.out (fun g' hg' => by have := HFW.out g' hg'; omega) HSB.out)
                  go_wp2_with fail
                  refine HBC.out.mono ?_
                  rintro e w3 ⟨⟨r, rfl⟩, hC3, hg3⟩
                  have HF3 := Lib.hid (HF.out.grown hg3 (by omega))
                  obtain ⟨-, -, -, d3, d4⟩ := hC3.cells
                  have hq0 : (q.2 == 0) = false := by simpa using hC3.ne q rfl
                  have hq1 : (q.2 != 0) = true := by simpa using hC3.ne q rfl
                  simp only [Flt.p, Flt.e] at d3 d4
                  clear hC3 hg3 q0 q1 q2 q3 q4 q5
                  go_wp2_with fail
                  go_quiet (fail)
                  go_wp2_with fail
                  go_ret2
                  exact ⟨by rw [HUT.out]; rfl, below_drewN HF3.out.bel _⟩
                | none =>
                  have hp0 := HP1.out rfl
                  rw [List.take_length, HPL.out, List.take_length] at hp0
                  have HPW := Lib.hid hp0
                  have hpe := parT_env _ _ _ _ _ _ HPTY.out EnvOK.nil rfl (by decide) hp0
                  have HFB := Lib.hid (fnT_body (us := us) hp0)
                  obtain ⟨rb, hrb⟩ : ∃ r, blT us f.out f.body env f.types.length = r := ⟨_, rfl⟩
                  have HRB := Lib.hid hrb
                  have HBC : Hid (Calls Tryz.prog 67 #[.pointer (some ⟨cb, 0, none⟩), .slice Ab f.body.length cbb, .map (some bs)] wr (StmsR wr cb (.slice (some ⟨g, off, none⟩) us.length c) f.out rb)) := Lib.hid (by
                    rw [← hrb, ← HPL.out]
                    refine stms_r 40 f.body Ab cbb F wr cb bs (some ⟨g, off, none⟩) c us f.out f.names.length env HPBO.out HFZ.out.body HFZ.out.blen HZ.out hlen HAP.out (fun f hf => (HPT.out f hf).2.2.1) (typB_iff.1 HPO.out) hpe.1 (by have := HEL.out; omega) (by omega) ?_ HSB.out
                    exact ⟨HC.out, HE.out, HU.out.keep (fun q h1 h2 => ⟨h1, Nat.lt_of_lt_of_le h2 HF.out.bel.size, HF.out.bel.block q h2⟩), grown_of_below (Below.refl _ _) _, HF.out.gl, by omega, fun g' hg' => by have := HFW.out g' hg'; omega⟩)
                  clear hrb hp0 hpe
                  go_wp2_with fail
                  refine HBC.out.mono ?_
                  rintro e w3 ⟨hg3, he⟩
                  have HF3 := Lib.hid (HF.out.grown hg3 (by omega))
                  have HX3 := Lib.hid ((hg3.block bf hbf1 (by simp; omega)).trans HX.out)
                  clear hg3 q0 q1 q2 q3 q4 q5
                  cases rb with
                  | bad p er =>
                    obtain ⟨r, m, rfl, hC3⟩ := he
                    have HUT := Lib.hid (unitT_3 HUF.out HDN.out HMB.out (fnsT_hit HS.out HT.out (by rw [HFB.out, HRB.out])))
                    obtain ⟨-, -, -, d3, d4⟩ := hC3.cells
                    have hq0 : (er == 0) = false := by simpa using hC3.ne (p, er) rfl
                    have hq1 : (er != 0) = true := by simpa using hC3.ne (p, er) rfl
                    simp only [Flt.p, Flt.e] at d3 d4
                    clear hC3
                    go_wp2_with fail
                    go_quiet (fail)
                    go_wp2_with fail
                    go_ret2
                    exact ⟨by rw [HUT.out]; rfl, below_drewN HF3.out.bel _⟩
                  | ok z =>
                    obtain ⟨m1, rr⟩ := z
                    obtain ⟨rfl, hC3⟩ := he
                    obtain ⟨-, -, -, d3, d4⟩ := hC3.cells
                    obtain ⟨⟨q0, q1, q2, q3, q4, q5⟩, -⟩ := facts6 HX3.out
                    simp only [Flt.p, Flt.e] at d3 d4
                    clear hC3
                    cases rr with
                    | false =>
                      have HUT := Lib.hid (unitT_3 HUF.out HDN.out HMB.out (fnsT_hit HS.out HT.out (show fnT us f = .bad f.pos 3 by rw [HFB.out, HRB.out]; rfl)))
                      go_wp2_with fail
                      go_ret2
                      exact ⟨by rw [HUT.out]; rfl, HF3.out.bel⟩
                    | true =>
                      have HTN := Lib.hid (fnsT_next HS.out HT.out (show fnT us f = .ok () by rw [HFB.out, HRB.out]; rfl))
                      go_wp2_with fail
                      go_roundw
                      case rel => exact ⟨j + 1, by omega, by go_num, HTN, HF3⟩
                      case measure => simp [intOf]; omega
          · obtain rfl : j = us.length := by omega
            have HUT := Lib.hid (unitT_4 HUF.out HDN.out HMB.out (by have := HT.out; rwa [List.take_length] at this))
            go_wp2_with fail
            go_ret2
            exact ⟨by rw [HUT.out]; rfl, HF.out.bel⟩
end Go.Proofs.YtmngofgminlloaaGreatDoor
