/-
  The program's types.Check, at every script.
  The walk of the law TypesNames: for all numbers it returns true.
-/
import Derived.Test.YtmngofgminlloaaGreatDoorTN29
import Derived.Deep.RegionLaw
import Derived.Test.YtmngofgminlloaaGreatDoorTN19
import Derived.Test.YtmngofgminlloaaGreatDoorTN15
import Derived.Test.YtmngofgminlloaaGreatDoorTN25
set_option linter.all false
namespace Go.Proofs.YtmngofgminlloaaGreatDoor
open Go.RowKit Tw

/-- The frame of Check: the unit's box, the two results. -/
structure FrK (w W : World) (b1 bp be : Nat) (A : Option Addr) (n c : Nat) : Prop where
  un : W.heap[b1]? = some (.cells #[.slice A n c] 24 (0, 0))
  pp : W.heap[bp]? = some (.cells #[.int .i64 0] 3 (0, 0))
  ee : W.heap[be]? = some (.cells #[.int .i64 0] 25 (0, 0))
  bel : Below w.heap.size w W
  gl : Glob W
section
variable {w W W' : World} {b1 bp be : Nat} {A : Option Addr} {n c : Nat}
theorem FrK.below {B : Nat} (h : FrK w W b1 bp be A n c) (hb : Below B W W') (hB : w.heap.size ≤ B) (h1 : b1 < B) (h2 : bp < B) (h3 : be < B) (h10 : 10 < B) : FrK w W' b1 bp be A n c :=
  ⟨(hb.block b1 h1).trans h.un, (hb.block bp h2).trans h.pp, (hb.block be h3).trans h.ee, h.bel.trans (hb.mono hB), h.gl.same hb.size (fun g hg => hb.block g (by omega)), ⟩
theorem FrK.later (h : FrK w W b1 bp be A n c) (hb : Below W.heap.size W W') : FrK w W' b1 bp be A n c :=
  ⟨(hb.block b1 (lt_of_some h.un)).trans h.un, (hb.block bp (lt_of_some h.pp)).trans h.pp, (hb.block be (lt_of_some h.ee)).trans h.ee, h.bel.trans (hb.mono h.bel.size), h.gl.to hb⟩
end
set_option maxRecDepth 100000 in
set_option maxHeartbeats 16000000 in
theorem tcheck_c (us : List Fn) (A : Option Addr) (c : Nat) (F0 : Nat → Prop) (w : World) (hU : FnsIn w F0 (.slice A us.length c) us) (hZ : ∀ f ∈ us, FnZ f) (hlen : us.length ≤ 281474976710656) (hcap : us.length ≤ c) (hG : Glob w) :
    Calls Tryz.prog 17 #[.agg #[.slice A us.length c]] w fun e w' => CkR w us e w' := by
  have hbig := hG.big
  obtain ⟨F, hFd⟩ : ∃ F : Nat → Prop, F = fun g => F0 g ∧ g < w.heap.size := ⟨_, rfl⟩
  have hU1 : FnsIn w F (.slice A us.length c) us := hU.keep (fun g h1 h2 => ⟨by rw [hFd]; exact ⟨h1, h2⟩, h2, rfl⟩)
  have hFw : ∀ g, F g → g < w.heap.size := fun g hg => by rw [hFd] at hg; exact hg.2
  have HU := Lib.hid hU1; have HFW := Lib.hid hFw; have HZ := Lib.hid hZ; have HG := Lib.hid hG
  have hB3 : Below w.heap.size w (((w.alloc (.cells #[.slice A us.length c] 24)).alloc (.cells #[.int .i64 0] 3)).alloc (.cells #[.int .i64 0] 25)) := (((Below.refl _ _).alloc (Nat.le_refl _) _).alloc (by simp) _).alloc (by simp; omega) _
  have WC := Lib.hid (check_c us A c F (((w.alloc (.cells #[.slice A us.length c] 24)).alloc (.cells #[.int .i64 0] 3)).alloc (.cells #[.int .i64 0] 25)) (hU1.keep (fun g h1 h2 => ⟨h1, Nat.lt_of_lt_of_le h2 hB3.size, hB3.block g h2⟩)) hZ hlen)
  have hu0 : (((w.alloc (.cells #[.slice A us.length c] 24)).alloc (.cells #[.int .i64 0] 3)).alloc (.cells #[.int .i64 0] 25)).heap[w.heap.size]? = some (.cells #[.slice A us.length c] 24 (0, 0)) := (heap_alloc_old _ _ (by simp; omega)).trans ((heap_alloc_old _ _ (by simp)).trans (heap_alloc_new w _))
  have hp0 : (((w.alloc (.cells #[.slice A us.length c] 24)).alloc (.cells #[.int .i64 0] 3)).alloc (.cells #[.int .i64 0] 25)).heap[w.heap.size + 1]? = some (.cells #[.int .i64 0] 3 (0, 0)) := (heap_alloc_old _ _ (by simp)).trans (by simpa using heap_alloc_new (w.alloc (.cells #[.slice A us.length c] 24)) (.cells #[.int .i64 0] 3))
  have he0 : (((w.alloc (.cells #[.slice A us.length c] 24)).alloc (.cells #[.int .i64 0] 3)).alloc (.cells #[.int .i64 0] 25)).heap[w.heap.size + 2]? = some (.cells #[.int .i64 0] 25 (0, 0)) := by simpa using heap_alloc_new ((w.alloc (.cells #[.slice A us.length c] 24)).alloc (.cells #[.int .i64 0] 3)) (.cells #[.int .i64 0] 25)
  have hmf : ∀ (fn : Go.Fn) (first cap : Array Value) (w : World), (Instr.makeFunc fn first cap).run Tryz.prog w = .ok (.func fn first cap) w := fun _ _ _ _ => rfl
  have HF0 := Lib.hid (FrK.mk hu0 hp0 he0 hB3 (hG.to hB3) : FrK w (((w.alloc (.cells #[.slice A us.length c] 24)).alloc (.cells #[.int .i64 0] 3)).alloc (.cells #[.int .i64 0] 25)) w.heap.size (w.heap.size + 1) (w.heap.size + 2) A us.length c)
  have hz3 : (((w.alloc (.cells #[.slice A us.length c] 24)).alloc (.cells #[.int .i64 0] 3)).alloc (.cells #[.int .i64 0] 25)).heap.size = w.heap.size + 3 := by simp
  clear hU hU1 hFw hZ hG hFd hu0 hp0 he0
  go_enter_defers Tryz.func17, Tryz.ntmps17
  go_upto_region 1 with (fail)
  generalize ((w.alloc _).alloc _).alloc _ = w0 at WC HF0 hz3 hB3 ⊢
  obtain ⟨b1, hb1⟩ : ∃ b, w.heap.size = b := ⟨_, rfl⟩
  obtain ⟨bp, hbp⟩ : ∃ b, w.heap.size + 1 = b := ⟨_, rfl⟩
  obtain ⟨be, hbe⟩ : ∃ b, bp + 1 = b := ⟨_, rfl⟩
  rw [hbp, show w.heap.size + 2 = be by omega, hb1] at HF0
  simp only [hbp]
  simp only [hbe]
  simp only [hb1]
  have n1 : b1 < bp := by omega
  have n2 : bp < be := by omega
  have n3 : be < w0.heap.size := by omega
  have n0 : 10 < b1 := by omega
  have hwb : w.heap.size ≤ b1 := by omega
  have hbw : b1 ≤ w.heap.size := by omega
  clear hbp hbe hb1 hz3 hbig
  have c1 : w0.cell? ⟨b1, 0, none⟩ = some (.slice A us.length c) := Lib.cell_of_heap HF0.out.un 0
  go_wp2_with fail
  refine WC.out.mono ?_
  rintro e w1 ⟨rfl, hb⟩
  have HF1 := Lib.hid (HF0.out.later hb)
  have hz1 := hb.size
  clear c1 hb WC HF0 hB3
  by_cases hz0 : unitF us = 0
  case neg =>
    obtain ⟨z, hz⟩ : ∃ z, unitF us = z := ⟨_, rfl⟩
    rw [hz] at hz0 ⊢
    have e1 : (z != 0) = true := by simpa using hz0
    have HZN : Hid (unitT us = (0, z)) := Lib.hid (by rw [unitT_0 (by rw [hz]; exact hz0), hz])
    clear hz0 hz
    have cp : w1.cell? ⟨bp, 0, none⟩ = some (.int .i64 0) := Lib.cell_of_heap HF1.out.pp 0
    have fp : w1.frozen? ⟨bp, 0, none⟩ = false := Lib.frozen_of_heap HF1.out.pp 0
    have ce : w1.cell? ⟨be, 0, none⟩ = some (.int .i64 0) := Lib.cell_of_heap HF1.out.ee 0
    have fe : w1.frozen? ⟨be, 0, none⟩ = false := Lib.frozen_of_heap HF1.out.ee 0
    have m2 : bp ≠ be := by omega
    go_wp2_with fail
    obtain ⟨hb, g2, g3⟩ := tset2 HF1.out.bel (by omega) n2 HF1.out.pp HF1.out.ee 0 z
    exact tdoor rfl rfl g2 g3 hb HZN.out
  case pos =>
  rw [hz0]
  have HUF := Lib.hid hz0
  have hul := (unitF_parts hz0).1
  have HPT := Lib.hid (unitF_parts hz0).2
  clear hz0
  have c1 : w1.cell? ⟨b1, 0, none⟩ = some (.slice A us.length c) := Lib.cell_of_heap HF1.out.un 0
  go_wp2_with fail
  clear c1
  go_loopw [5, 22] (fun u i wr => ∃ j : Nat, j ≤ us.length ∧ i = .int .i64 j ∧ u = .bool ((us.take j).any isMain) ∧ Hid (NoDup us j) ∧ Hid (FrK w wr b1 bp be A us.length c) ∧ w0.heap.size ≤ wr.heap.size) (fun _ i _ => us.length - (intOf i).toNat)
  case atStart => exact ⟨0, Nat.zero_le _, rfl, rfl, Lib.hid (fun m f h => absurd h (Nat.not_lt_zero m)), HF1, hz1⟩
  case round =>
    clear HF1
    obtain ⟨j, hj, rfl, rfl, HN, HF, hzr⟩ := hrel
    by_cases hlt : j < us.length
    · obtain ⟨f, hf⟩ : ∃ f, us[j]? = some f := ⟨_, List.getElem?_eq_getElem hlt⟩
      obtain ⟨g, off, An, cn, At, ct, Ab, cbb, rfl, hg, hkn, hkt, hkb, hc⟩ := HU.out.at j f hf
      have q0 := (HF.out.bel.cell (p := ⟨g, off + j * 6, none⟩) hg).trans (hc 0 _ rfl)
      have q1 := (HF.out.bel.cell (p := ⟨g, off + j * 6 + 1, none⟩) hg).trans (hc 1 _ rfl)
      have q2 := (HF.out.bel.cell (p := ⟨g, off + j * 6 + 2, none⟩) hg).trans (hc 2 _ rfl)
      have q3 := (HF.out.bel.cell (p := ⟨g, off + j * 6 + 3, none⟩) hg).trans (hc 3 _ rfl)
      have q4 := (HF.out.bel.cell (p := ⟨g, off + j * 6 + 4, none⟩) hg).trans (hc 4 _ rfl)
      have q5 := (HF.out.bel.cell (p := ⟨g, off + j * 6 + 5, none⟩) hg).trans (hc 5 _ rfl)
      have HS := Lib.hid hf
      have hnl := (HZ.out f (List.mem_of_getElem? hf)).nlen
      have hb := (Below.refl wr.heap.size wr).alloc (Nat.le_refl _) (.cells #[.string f.name, .slice An f.names.length cn, .slice At f.types.length ct, .int .i64 f.out, .slice Ab f.body.length cbb, .int .i64 f.pos] 32)
      have HFa := Lib.hid (HF.out.later hb)
      have HX := Lib.hid (heap_alloc_new wr (.cells #[.string f.name, .slice An f.names.length cn, .slice At f.types.length ct, .int .i64 f.out, .slice Ab f.body.length cbb, .int .i64 f.pos] 32))
      have hx0 := lt_of_some HX.out
      have hza : w0.heap.size ≤ (wr.alloc (.cells #[.string f.name, .slice An f.names.length cn, .slice At f.types.length ct, .int .i64 f.out, .slice Ab f.body.length cbb, .int .i64 f.pos] 32)).heap.size := Nat.le_trans hzr hb.size
      have htl : (us.take j).length = j := by simp; omega
      have hUt := (HU.out.take j (by omega)).keep (F' := F) (w' := wr.alloc (.cells #[.string f.name, .slice An f.names.length cn, .slice At f.types.length ct, .int .i64 f.out, .slice Ab f.body.length cbb, .int .i64 f.pos] 32)) (fun q h1 h2 => ⟨h1, Nat.lt_of_lt_of_le h2 HFa.out.bel.size, HFa.out.bel.block q h2⟩)
      have hxc : (wr.alloc (.cells #[.string f.name, .slice An f.names.length cn, .slice At f.types.length ct, .int .i64 f.out, .slice Ab f.body.length cbb, .int .i64 f.pos] 32)).cell? ⟨wr.heap.size, 0, none⟩ = some (.string f.name) := Lib.cell_of_heap HX.out 0
      have hD := has_dup ⟨wr.heap.size, 0, none⟩ f.name (some ⟨g, off, none⟩) c F (us.take j) _ hUt (clo_dup wr.heap.size f.name _ hx0 hxc) (by omega)
      rw [htl] at hD
      obtain ⟨d, hd⟩ : ∃ d, (findF (us.take j) f.name).isSome = d := ⟨_, rfl⟩
      rw [hd] at hD
      have HD := Lib.hid hD; have HDD := Lib.hid hd
      have k0 : (0 : Int) ≤ (j : Int) := by omega
      have k1 : (j : Int) < (us.length : Int) := by omega
      have k2 : (j : Int) ≤ (c : Int) := by omega
      clear hf hkn hkt hkb hc hb hUt hD hd hxc htl hg
      go_upto_region 9 with (fail)
      clear q0 q1 q2 q3 q4 q5
      generalize wr.alloc _ = wa at HFa HX HD hx0 hza ⊢
      generalize wr.heap.size = bf at HX HD hx0 ⊢
      have c1 : wa.cell? ⟨b1, 0, none⟩ = some (.slice (some ⟨g, off, none⟩) us.length c) := Lib.cell_of_heap HFa.out.un 0
      go_wp2_with fail
      refine HD.out.mono ?_
      rintro e w2 ⟨rfl, hb2⟩
      have HF2 := Lib.hid (HFa.out.later hb2)
      have HX2 := Lib.hid ((hb2.block _ hx0).trans HX.out)
      have hz2 : w0.heap.size ≤ w2.heap.size := by have := hb2.size; omega
      clear hb2 c1 HD HX HFa hx0
      obtain ⟨⟨q0, q1, q2, q3, q4, q5⟩, -⟩ := facts6 HX2.out
      cases d with
      | true =>
        have HUT := Lib.hid (unitT_1 HUF.out (dupF_hit HS.out HN.out HDD.out))
        go_wp2_with fail
        refine leaves_cons (f := 61) (args := #[.pointer (some ⟨bp, 0, none⟩), .pointer (some ⟨be, 0, none⟩)]) (by simp) (by simp [go_sem]) ?_
        refine (tcatch_bad bp be 0 0 _ _ [] w2 HF2.out.pp HF2.out.ee n2).mono ?_
        rintro e u' w' ⟨rfl, rfl, hb, g2, g3⟩
        simp only [settle, List.dropWhile_nil]
        exact tdoor rfl rfl g2 g3 ((HF2.out.bel).trans (hb.mono (by omega))) (HUT.out)
      | false =>
        have HND := Lib.hid (HN.out.next HS.out HDD.out)
        have HAN := Lib.hid (any_next HS.out)
        obtain ⟨mb, hmb⟩ : ∃ b, (us.take j).any isMain = b := ⟨_, rfl⟩
        rw [hmb] at HAN ⊢
        clear hmb
        have hnm : (f.name.toList == [109, 97, 105, 110]) = decide (f.name = mainT) := by
          rw [tl_is]
          refine decide_eq_decide.2 ⟨fun h => ?_, fun h => by rw [h]; rfl⟩
          rw [← bs_mk' f.name, h]; rfl
        have HMN := Lib.hid (isMain_eq f)
        cases mb with
        | true =>
          clear hnm
          go_wp2_with fail
          go_roundw
          case rel => exact ⟨j + 1, by omega, by go_num, by rw [HAN.out]; rfl, HND, HF2, hz2⟩
          case measure => simp [intOf]; omega
        | false =>
          obtain ⟨d1, h1⟩ : ∃ d, decide (f.name = mainT) = d := ⟨_, rfl⟩
          obtain ⟨d2, h2⟩ : ∃ d, decide (f.names.length = 0) = d := ⟨_, rfl⟩
          obtain ⟨d3, h3⟩ : ∃ d, decide (f.out = 1) = d := ⟨_, rfl⟩
          have e2 : ((f.names.length : Int) == 0) = d2 := by rw [← h2]; by_cases h : f.names.length = 0 <;> simp [h]
          have e3 : (f.out == 1) = d3 := by rw [← h3]; by_cases h : f.out = 1 <;> simp [h]
          rw [h1] at hnm
          have HM2 : Hid (isMain f = (d1 && d2 && d3)) := Lib.hid (by rw [HMN.out, h1, h2, h3])
          clear h1 h2 h3 HMN
          cases d1 with
          | false =>
            go_wp2_with fail
            go_roundw
            case rel => exact ⟨j + 1, by omega, by go_num, by rw [HAN.out, HM2.out]; rfl, HND, HF2, hz2⟩
            case measure => simp [intOf]; omega
          | true =>
            cases d2 with
            | false =>
              go_wp2_with fail
              go_roundw
              case rel => exact ⟨j + 1, by omega, by go_num, by rw [HAN.out, HM2.out]; rfl, HND, HF2, hz2⟩
              case measure => simp [intOf]; omega
            | true =>
              cases d3 with
              | false =>
                go_wp2_with fail
                go_roundw
                case rel => exact ⟨j + 1, by omega, by go_num, by rw [HAN.out, HM2.out]; rfl, HND, HF2, hz2⟩
                case measure => simp [intOf]; omega
              | true =>
                go_wp2_with fail
                go_roundw
                case rel => exact ⟨j + 1, by omega, by go_num, by rw [HAN.out, HM2.out]; rfl, HND, HF2, hz2⟩
                case measure => simp [intOf]; omega
    · obtain rfl : j = us.length := by omega
      rw [List.take_length]
      have HDN := Lib.hid (dupF_end HN.out)
      have hzr' := hzr
      clear HN
      obtain ⟨mb, hmb⟩ : ∃ b, us.any isMain = b := ⟨_, rfl⟩
      have HMB := Lib.hid hmb
      rw [hmb]
      clear hmb
      cases mb with
      | false =>
        have HUT := Lib.hid (unitT_2 HUF.out HDN.out HMB.out)
        have cp : wr.cell? ⟨bp, 0, none⟩ = some (.int .i64 0) := Lib.cell_of_heap HF.out.pp 0
        have fp : wr.frozen? ⟨bp, 0, none⟩ = false := Lib.frozen_of_heap HF.out.pp 0
        have ce : wr.cell? ⟨be, 0, none⟩ = some (.int .i64 0) := Lib.cell_of_heap HF.out.ee 0
        have fe : wr.frozen? ⟨be, 0, none⟩ = false := Lib.frozen_of_heap HF.out.ee 0
        have m2 : bp ≠ be := by omega
        go_wp2_with fail
        refine leaves_cons (f := 61) (args := #[.pointer (some ⟨bp, 0, none⟩), .pointer (some ⟨be, 0, none⟩)]) (by simp) (by simp [go_sem]) ?_
        refine (tcatch_idle _ _ _).mono ?_
        rintro e u' w' ⟨rfl, rfl, rfl⟩
        simp only [settle]
        obtain ⟨hb, g2, g3⟩ := tset2 HF.out.bel (by omega) n2 HF.out.pp HF.out.ee 0 16
        exact tdoor rfl rfl g2 g3 hb HUT.out
      | true =>
        have c1 : wr.cell? ⟨b1, 0, none⟩ = some (.slice A us.length c) := Lib.cell_of_heap HF.out.un 0
        go_wp2_with fail
        clear c1
        have HFi := HF
        clear HF
        obtain ⟨wx, rfl⟩ : ∃ wo : World, wo = wr := ⟨_, rfl⟩
        go_loopw [60] (fun i wr => ∃ j : Nat, j ≤ us.length ∧ i = .int .i64 j ∧ Hid (fnsT us (us.take j) = .ok ()) ∧ Hid (FrK w wr b1 bp be A us.length c) ∧ w0.heap.size ≤ wr.heap.size) (fun i _ => us.length - (intOf i).toNat)
        case atStart => exact ⟨0, Nat.zero_le _, rfl, Lib.hid rfl, HFi, hzr⟩
        case round =>
          clear HFi
          obtain ⟨j, hj, rfl, HT, HF, hzr⟩ := hrel
          by_cases hlt : j < us.length
          · obtain ⟨f, hf⟩ : ∃ f, us[j]? = some f := ⟨_, List.getElem?_eq_getElem hlt⟩
            obtain ⟨g, off, An, cn, At, ct, Ab, cbb, rfl, hg, hkn, hkt, hkb, hc⟩ := HU.out.at j f hf
            have q0 := (HF.out.bel.cell (p := ⟨g, off + j * 6, none⟩) hg).trans (hc 0 _ rfl)
            have q1 := (HF.out.bel.cell (p := ⟨g, off + j * 6 + 1, none⟩) hg).trans (hc 1 _ rfl)
            have q2 := (HF.out.bel.cell (p := ⟨g, off + j * 6 + 2, none⟩) hg).trans (hc 2 _ rfl)
            have q3 := (HF.out.bel.cell (p := ⟨g, off + j * 6 + 3, none⟩) hg).trans (hc 3 _ rfl)
            have q4 := (HF.out.bel.cell (p := ⟨g, off + j * 6 + 4, none⟩) hg).trans (hc 4 _ rfl)
            have q5 := (HF.out.bel.cell (p := ⟨g, off + j * 6 + 5, none⟩) hg).trans (hc 5 _ rfl)
            have HS := Lib.hid hf; have HKN := Lib.hid hkn; have HKT := Lib.hid hkt; have HKB := Lib.hid hkb
            have hin := List.mem_of_getElem? hf
            have HFZ := Lib.hid (HZ.out f hin)
            obtain ⟨pl, p6, pou, pty, pbo⟩ := HPT.out f hin
            have HPTY := Lib.hid pty; have HPBO := Lib.hid pbo; have HPL := Lib.hid pl
            clear pl
            have hb := (Below.refl wr.heap.size wr).alloc (Nat.le_refl _) (.cells #[.string f.name, .slice An f.names.length cn, .slice At f.types.length ct, .int .i64 f.out, .slice Ab f.body.length cbb, .int .i64 f.pos] 32)
            have HFa := Lib.hid (HF.out.later hb)
            have HX := Lib.hid (heap_alloc_new wr (.cells #[.string f.name, .slice An f.names.length cn, .slice At f.types.length ct, .int .i64 f.out, .slice Ab f.body.length cbb, .int .i64 f.pos] 32))
            have hx0 := lt_of_some HX.out
            have hza := Nat.le_trans hzr hb.size
            have k0 : (0 : Int) ≤ (j : Int) := by omega
            have k1 : (j : Int) < (us.length : Int) := by omega
            clear hf hkn hkt hkb hc hb hg pty pbo hin
            go_upto_region 18 with (fail)
            clear q0 q1 q2 q3 q4 q5
            generalize wr.alloc _ = wa at HFa HX hx0 hza ⊢
            generalize wr.heap.size = bf at HX hx0 ⊢
            obtain ⟨⟨q0, q1, q2, q3, q4, q5⟩, -⟩ := facts6 HX.out
            have c1 : wa.cell? ⟨b1, 0, none⟩ = some (.slice (some ⟨g, off, none⟩) us.length c) := Lib.cell_of_heap HFa.out.un 0
            have hbk := (Below.refl wa.heap.size wa).alloc (Nat.le_refl _) (.cells #[.slice (some ⟨g, off, none⟩) us.length c, .string f.name, .slice An f.names.length cn, .slice At f.types.length ct, .int .i64 f.out, .slice Ab f.body.length cbb, .int .i64 f.pos, .slice none 0 0, .int .i64 0] 130)
            have hbw2 := HFa.out.bel.trans (hbk.mono HFa.out.bel.size)
            have HC0 : Hid (FrC (wa.alloc (.cells #[.slice (some ⟨g, off, none⟩) us.length c, .string f.name, .slice An f.names.length cn, .slice At f.types.length ct, .int .i64 f.out, .slice Ab f.body.length cbb, .int .i64 f.pos, .slice none 0 0, .int .i64 0] 130)) (wa.alloc (.cells #[.slice (some ⟨g, off, none⟩) us.length c, .string f.name, .slice An f.names.length cn, .slice At f.types.length ct, .int .i64 f.out, .slice Ab f.body.length cbb, .int .i64 f.pos, .slice none 0 0, .int .i64 0] 130)) wa.heap.size wa.heap.size (Hd.mk (.slice (some ⟨g, off, none⟩) us.length c) f.name (.slice An f.names.length cn) (.slice At f.types.length ct) f.out (.slice Ab f.body.length cbb) f.pos) none 0 [] 0 us F) := Lib.hid ⟨⟨heap_alloc_new wa _, World.ownsRow_nil _ _ _ _, Nat.le_refl _, by simp [Value.ownBlock]⟩, HU.out.keep (fun q h1 h2 => ⟨h1, Nat.lt_of_lt_of_le h2 hbw2.size, hbw2.block q h2⟩), Below.refl _ _, HFa.out.gl.to hbk, fun q hq => by have := HFW.out q hq; have := HFa.out.bel.size; omega, by omega, by simp⟩
            obtain ⟨K, hK⟩ : ∃ K : Hd, (Hd.mk (.slice (some ⟨g, off, none⟩) us.length c) f.name (.slice An f.names.length cn) (.slice At f.types.length ct) f.out (.slice Ab f.body.length cbb) f.pos) = K := ⟨_, rfl⟩
            rw [hK] at HC0
            have HKO : Hid (K.out = f.out) := Lib.hid (by rw [← hK])
            clear hK
            have HFb := Lib.hid (HFa.out.later hbk)
            have HXb := Lib.hid ((hbk.block _ hx0).trans HX.out)
            have HKb := Lib.hid hbk
            have HGR := Lib.hid hbw2
            clear hbk hbw2
            go_upto_region 19 with (fail)
            clear q0 q1 q2 q3 q4 q5 c1
            generalize wa.alloc _ = wb at HC0 HFb HXb HKb HGR ⊢
            obtain ⟨cb, hcb⟩ : ∃ n, wa.heap.size = n := ⟨_, rfl⟩
            rw [hcb] at HC0 HKb hx0 hza ⊢
            clear hcb
            have hbb : w.heap.size ≤ cb := by omega
            obtain ⟨⟨q0, q1, q2, q3, q4, q5⟩, -⟩ := facts6 HXb.out
            go_wp2_with fail
            clear q0 q1 q2 q3 q4 q5
            have HC0' := HC0
            clear HC0
            go_loopw [71] (fun i wr => ∃ (k : Nat) (env : Env) (m : Nat) (A' : Option Addr) (c' : Nat), k ≤ f.names.length ∧ i = .int .i64 k ∧ Hid (parT f.pos (f.names.take k) (f.types.take k) [] 0 = .ok (env, m)) ∧ Hid (FrC wb wr cb cb K A' c' env m us F)) (fun i _ => f.names.length - (intOf i).toNat)
            case atStart => exact ⟨0, [], 0, none, 0, Nat.zero_le _, rfl, Lib.hid rfl, HC0'⟩
            case round =>
              clear HC0'
              obtain ⟨k, env, m, A', c', hk, rfl, HP, HC⟩ := hrel
              have hpe := parT_env _ _ _ _ _ _ (fun t ht => HPTY.out t (List.mem_of_mem_take ht)) EnvOK.nil rfl (by decide) HP.out
              have HEV := Lib.hid hpe.1
              have hel : env.length = m := hpe.2.1
              have hm64 : m ≤ 64 := hpe.2.2
              clear hpe
              have HXr := Lib.hid ((HC.out.bel.block bf hx0).trans HXb.out)
              have HFr := Lib.hid (HFb.out.below HC.out.bel hbb (by omega) (by omega) (by omega) (by omega))
              by_cases hlk : k < f.names.length
              · obtain ⟨n, hn⟩ : ∃ n, f.names[k]? = some n := ⟨_, List.getElem?_eq_getElem hlk⟩
                obtain ⟨t, ht⟩ : ∃ t, f.types[k]? = some t := ⟨_, List.getElem?_eq_getElem (by have := HPL.out; omega)⟩
                obtain ⟨gn, on, rfl, hgn, hcn⟩ := HKN.out.at k n hn
                obtain ⟨gt, ot, rfl, hgt, hct⟩ := HKT.out.at k t ht
                have HBR := Lib.hid (HGR.out.trans (HC.out.bel.mono (show w.heap.size ≤ cb by omega)))
                have kn := (HBR.out.cell (p := ⟨gn, on + k, none⟩) hgn).trans hcn
                have kt := (HBR.out.cell (p := ⟨gt, ot + k, none⟩) hgt).trans hct
                have HN := Lib.hid hn; have HTt := Lib.hid ht
                have i0 : (0 : Int) ≤ (k : Int) := by omega
                have i1 : (k : Int) < (f.names.length : Int) := by omega
                have i2 : (k : Int) < (f.types.length : Int) := by have := HPL.out; omega
                have HCd := Lib.hid (HC.out.below (bel_drew wr))
                obtain ⟨rl, hrl⟩ : ∃ r, letT env m f.pos n t = r := ⟨_, rfl⟩
                have HRL := Lib.hid hrl
                have HAD : Hid (Calls Tryz.prog 64 #[.pointer (some ⟨cb, 0, none⟩), .int .i64 f.pos, .string n, .int .i64 t] wr.drew (AddR wr.drew cb cb K us F A' rl)) := Lib.hid (by rw [← hrl]; exact add_x f.pos n t F wr.drew cb cb _ A' c' env m us HEV.out (by omega) (by omega) HCd.out.reb)
                clear hn ht hcn hct hrl
                obtain ⟨⟨q0, q1, q2, q3, q4, q5⟩, -⟩ := facts6 HXr.out
                go_upto_region 22 with (fail)
                generalize hT9 : ([(0, 76, .pointer (some ⟨cb, 0, none⟩)), (1, 77, .pointer (some ⟨bf, 5, none⟩)), (2, 78, .int .i64 f.pos), (3, 79, .string n), (4, 80, .pointer (some ⟨bf, 2, none⟩)), (5, 81, .slice (some ⟨gt, ot, none⟩) f.types.length ct), (6, 82, .int .i64 k), (7, 83, .pointer (some ⟨gt, ot + k, none⟩)), (8, 84, .int .i64 t)] : Tab9) = T
                generalize ha0 : Act.mk _ _ = a0
                have e9 : a0.tmps[9]? = some (.pointer (some ⟨bf, 0, none⟩)) := by rw [← ha0]; rfl
                have e10 : a0.tmps[10]? = some (.pointer (some ⟨cb, 0, none⟩)) := by rw [← ha0]; rfl
                have e11 : a0.tmps[11]? = some (.int .i64 k) := by rw [← ha0]; rfl
                have e12 : a0.tmps[12]? = some (.string n) := by rw [← ha0]; rfl
                have ez : a0.tmps.size = 97 := by rw [← ha0]; rfl
                have hmem : ∀ (e : Nat × Nat × Value), e ∈ ([(0, 76, .pointer (some ⟨cb, 0, none⟩)), (1, 77, .pointer (some ⟨bf, 5, none⟩)), (2, 78, .int .i64 f.pos), (3, 79, .string n), (4, 80, .pointer (some ⟨bf, 2, none⟩)), (5, 81, .slice (some ⟨gt, ot, none⟩) f.types.length ct), (6, 82, .int .i64 k), (7, 83, .pointer (some ⟨gt, ot + k, none⟩)), (8, 84, .int .i64 t)] : Tab9) → e ∈ T := fun e he => by rw [← hT9]; exact he
                have hn1 : (T.map (·.1)).Nodup := by rw [← hT9]; show ([0, 1, 2, 3, 4, 5, 6, 7, 8] : List Nat).Nodup; decide
                have hn2 : (T.map (·.2.1)).Nodup := by rw [← hT9]; show ([76, 77, 78, 79, 80, 81, 82, 83, 84] : List Nat).Nodup; decide
                have hsl : ∀ e ∈ T, 76 ≤ e.2.1 ∧ e.2.1 ≤ 84 := by
                  intro e he
                  rw [← hT9] at he
                  simp only [List.mem_cons, List.mem_nil_iff, or_false] at he
                  rcases he with rfl | rfl | rfl | rfl | rfl | rfl | rfl | rfl | rfl <;> simp
                have hsz : ∀ e ∈ T, e.2.1 < a0.tmps.size := fun e he => by have := hsl e he; omega
                have HA0 := Lib.hid ha0
                clear ha0
                refine region_tab (by kernel_rfl) 9 rfl T ?_ ?_ ?_
                · rintro L a i hLz ⟨hS, hCl⟩ hi hi9
                  have f9 := (hS.un 9 fun e he => by have := hsl e he; omega).trans e9
                  have f10 := (hS.un 10 fun e he => by have := hsl e he; omega).trans e10
                  have f11 := (hS.un 11 fun e he => by have := hsl e he; omega).trans e11
                  have f12 := (hS.un 12 fun e he => by have := hsl e he; omega).trans e12
                  have hcs : i = 0 ∨ i = 1 ∨ i = 2 ∨ i = 3 ∨ i = 4 ∨ i = 5 ∨ i = 6 ∨ i = 7 ∨ i = 8 := by omega
                  rcases hcs with rfl | rfl | rfl | rfl | rfl | rfl | rfl | rfl | rfl
                  · have hd := ready_dep hi rfl
                    refine wpOp_value 76 (w' := wr.drew) (v := _) rfl rfl rfl (by simp [execOp, go_sem, f10]; rfl) ?_
                    exact ⟨⟨hS.put hn1 hn2 hsz _ (hmem _ (List.mem_cons_self ..)), hCl.next hi⟩, rfl⟩
                  · have hd := ready_dep hi rfl
                    refine wpOp_value 77 (w' := wr.drew) (v := _) rfl rfl rfl (by simp [execOp, go_sem, f9]; rfl) ?_
                    exact ⟨⟨hS.put hn1 hn2 hsz _ (hmem _ (List.mem_cons_of_mem _ (List.mem_cons_self ..))), hCl.next hi⟩, rfl⟩
                  · have hd := ready_dep hi rfl
                    have g1 : L.getD 1 false = true := hd ⟨1, .data⟩ (by simp) (by decide)
                    have v1 := hS.tb _ (hmem _ (List.mem_cons_of_mem _ (List.mem_cons_self ..))) g1
                    simp only at v1
                    refine wpOp_value 78 (w' := wr.drew) (v := _) rfl rfl rfl (by simp [execOp, go_sem, v1, q5]; rfl) ?_
                    exact ⟨⟨hS.put hn1 hn2 hsz _ (hmem _ (List.mem_cons_of_mem _ (List.mem_cons_of_mem _ (List.mem_cons_self ..)))), hCl.next hi⟩, rfl⟩
                  · have hd := ready_dep hi rfl
                    refine wpOp_value 79 (w' := wr.drew) (v := _) rfl rfl rfl (by simp [execOp, go_sem, f12]; rfl) ?_
                    exact ⟨⟨hS.put hn1 hn2 hsz _ (hmem _ (List.mem_cons_of_mem _ (List.mem_cons_of_mem _ (List.mem_cons_of_mem _ (List.mem_cons_self ..))))), hCl.next hi⟩, rfl⟩
                  · have hd := ready_dep hi rfl
                    refine wpOp_value 80 (w' := wr.drew) (v := _) rfl rfl rfl (by simp [execOp, go_sem, f9]; rfl) ?_
                    exact ⟨⟨hS.put hn1 hn2 hsz _ (hmem _ (List.mem_cons_of_mem _ (List.mem_cons_of_mem _ (List.mem_cons_of_mem _ (List.mem_cons_of_mem _ (List.mem_cons_self ..)))))), hCl.next hi⟩, rfl⟩
                  · have hd := ready_dep hi rfl
                    have g4 : L.getD 4 false = true := hd ⟨4, .data⟩ (by simp) (by decide)
                    have v4 := hS.tb _ (hmem _ (List.mem_cons_of_mem _ (List.mem_cons_of_mem _ (List.mem_cons_of_mem _ (List.mem_cons_of_mem _ (List.mem_cons_self ..)))))) g4
                    simp only at v4
                    refine wpOp_value 81 (w' := wr.drew) (v := _) rfl rfl rfl (by simp [execOp, go_sem, v4, q2]; rfl) ?_
                    exact ⟨⟨hS.put hn1 hn2 hsz _ (hmem _ (List.mem_cons_of_mem _ (List.mem_cons_of_mem _ (List.mem_cons_of_mem _ (List.mem_cons_of_mem _ (List.mem_cons_of_mem _ (List.mem_cons_self ..))))))), hCl.next hi⟩, rfl⟩
                  · have hd := ready_dep hi rfl
                    refine wpOp_value 82 (w' := wr.drew) (v := _) rfl rfl rfl (by simp [execOp, go_sem, f11]; rfl) ?_
                    exact ⟨⟨hS.put hn1 hn2 hsz _ (hmem _ (List.mem_cons_of_mem _ (List.mem_cons_of_mem _ (List.mem_cons_of_mem _ (List.mem_cons_of_mem _ (List.mem_cons_of_mem _ (List.mem_cons_of_mem _ (List.mem_cons_self ..)))))))), hCl.next hi⟩, rfl⟩
                  · have hd := ready_dep hi rfl
                    have g5 : L.getD 5 false = true := hd ⟨5, .data⟩ (by simp) (by decide)
                    have v5 := hS.tb _ (hmem _ (List.mem_cons_of_mem _ (List.mem_cons_of_mem _ (List.mem_cons_of_mem _ (List.mem_cons_of_mem _ (List.mem_cons_of_mem _ (List.mem_cons_self ..))))))) g5
                    simp only at v5
                    have g6 : L.getD 6 false = true := hd ⟨6, .data⟩ (by simp) (by decide)
                    have v6 := hS.tb _ (hmem _ (List.mem_cons_of_mem _ (List.mem_cons_of_mem _ (List.mem_cons_of_mem _ (List.mem_cons_of_mem _ (List.mem_cons_of_mem _ (List.mem_cons_of_mem _ (List.mem_cons_self ..)))))))) g6
                    simp only at v6
                    refine wpOp_value 83 (w' := wr.drew) (v := _) rfl rfl rfl (by simp [execOp, go_sem, v5, v6, i0, i2]; rfl) ?_
                    exact ⟨⟨hS.put hn1 hn2 hsz _ (hmem _ (List.mem_cons_of_mem _ (List.mem_cons_of_mem _ (List.mem_cons_of_mem _ (List.mem_cons_of_mem _ (List.mem_cons_of_mem _ (List.mem_cons_of_mem _ (List.mem_cons_of_mem _ (List.mem_cons_self ..))))))))), hCl.next hi⟩, rfl⟩
                  · have hd := ready_dep hi rfl
                    have g7 : L.getD 7 false = true := hd ⟨7, .data⟩ (by simp) (by decide)
                    have v7 := hS.tb _ (hmem _ (List.mem_cons_of_mem _ (List.mem_cons_of_mem _ (List.mem_cons_of_mem _ (List.mem_cons_of_mem _ (List.mem_cons_of_mem _ (List.mem_cons_of_mem _ (List.mem_cons_of_mem _ (List.mem_cons_self ..))))))))) g7
                    simp only at v7
                    refine wpOp_value 84 (w' := wr.drew) (v := _) rfl rfl rfl (by simp [execOp, go_sem, v7, kt]; rfl) ?_
                    exact ⟨⟨hS.put hn1 hn2 hsz _ (hmem _ (List.mem_cons_of_mem _ (List.mem_cons_of_mem _ (List.mem_cons_of_mem _ (List.mem_cons_of_mem _ (List.mem_cons_of_mem _ (List.mem_cons_of_mem _ (List.mem_cons_of_mem _ (List.mem_cons_of_mem _ (List.mem_cons_self ..)))))))))), hCl.next hi⟩, rfl⟩
                · rintro L a hLz ⟨hS, hCl⟩ hi
                  have hd := ready_dep hi rfl
                  have g0 : L.getD 0 false = true := hd ⟨0, .data⟩ (by simp) (by decide)
                  have g2 : L.getD 2 false = true := hd ⟨2, .data⟩ (by simp) (by decide)
                  have g3 : L.getD 3 false = true := hd ⟨3, .data⟩ (by simp) (by decide)
                  have g8 : L.getD 8 false = true := hd ⟨8, .data⟩ (by simp) (by decide)
                  have g7 : L.getD 7 false = true := hCl 8 _ rfl g8 ⟨7, .data⟩ (by simp) (by decide)
                  have g5 : L.getD 5 false = true := hCl 7 _ rfl g7 ⟨5, .data⟩ (by simp) (by decide)
                  have g6 : L.getD 6 false = true := hCl 7 _ rfl g7 ⟨6, .data⟩ (by simp) (by decide)
                  have g4 : L.getD 4 false = true := hCl 5 _ rfl g5 ⟨4, .data⟩ (by simp) (by decide)
                  have g1 : L.getD 1 false = true := hCl 2 _ rfl g2 ⟨1, .data⟩ (by simp) (by decide)
                  refine ⟨fun i hi9 => by
                    have hcs : i = 0 ∨ i = 1 ∨ i = 2 ∨ i = 3 ∨ i = 4 ∨ i = 5 ∨ i = 6 ∨ i = 7 ∨ i = 8 := by omega
                    rcases hcs with rfl | rfl | rfl | rfl | rfl | rfl | rfl | rfl | rfl <;> assumption, ?_⟩
                  have v0 := hS.tb _ (hmem _ (List.mem_cons_self ..)) g0
                  have v2 := hS.tb _ (hmem _ (List.mem_cons_of_mem _ (List.mem_cons_of_mem _ (List.mem_cons_self ..)))) g2
                  have v3 := hS.tb _ (hmem _ (List.mem_cons_of_mem _ (List.mem_cons_of_mem _ (List.mem_cons_of_mem _ (List.mem_cons_self ..))))) g3
                  have v8 := hS.tb _ (hmem _ (List.mem_cons_of_mem _ (List.mem_cons_of_mem _ (List.mem_cons_of_mem _ (List.mem_cons_of_mem _ (List.mem_cons_of_mem _ (List.mem_cons_of_mem _ (List.mem_cons_of_mem _ (List.mem_cons_of_mem _ (List.mem_cons_self ..)))))))))) g8
                  simp only at v0 v2 v3 v8
                  have hact := act_run (lo := 76) (hi := 84) hS.df hS.az (fun k hk => hS.un k fun e he => by have := hsl e he; omega)
                  clear hd g0 g1 g2 g3 g4 g5 g6 g7 g8 hCl hi
                  have hdf := hS.df
                  refine wpOp_call (w' := wr.drew) 64 #[.pointer (some ⟨cb, 0, none⟩), .int .i64 f.pos, .string n, .int .i64 t] rfl rfl (by simp [execOp, go_sem, v0, v2, v3, v8]) ?_
                  refine HAD.out.mono ?_
                  rintro e w3 ⟨hb3, he⟩
                  have hbd := (bel_drew wr).mono (show cb ≤ wr.heap.size by have := HC.out.bs; omega)
                  have HF3 := Lib.hid (HFr.out.below (hbd.trans hb3) hbb (by omega) (by omega) (by omega) (by omega))
                  obtain ⟨y, hy⟩ : ∃ y : Nat → Value, a = ⟨(List.range' 76 9).foldl (fun t k => t.setIfInBounds k (y k)) a0.tmps, a0.defers⟩ := ⟨_, hact⟩
                  clear hact hdf v0 v2 v3 v8 hS hsz hn1 hn2 hsl hmem e9 e10 e11 e12 ez hT9 hLz
                  subst hy
                  have ha0 := HA0.out
                  clear HA0
                  subst ha0
                  cases rl with
                  | bad q er =>
                    have HFT := Lib.hid (fnT_bad (us := us) (parT_hit HN.out HTt.out HP.out HRL.out))
                    have HUT := Lib.hid (unitT_3 HUF.out HDN.out HMB.out (fnsT_hit HS.out HT.out HFT.out))
                    have he' : e = faultE q er := he
                    subst he'
                    clear he hb3 q0 q1 q2 q3 q4 q5 kn kt
                    unfold faultE
                    simp only [List.range', List.foldl]
                    go_simp

                    go_wp2_with fail
                    refine leaves_cons (f := 61) (args := #[.pointer (some ⟨bp, 0, none⟩), .pointer (some ⟨be, 0, none⟩)]) (by simp) (by simp [go_sem]) ?_
                    refine (tcatch_bad bp be 0 0 _ _ [] w3 HF3.out.pp HF3.out.ee n2).mono ?_
                    rintro e u' w' ⟨rfl, rfl, hb, g2, g3⟩
                    simp only [settle, List.dropWhile_nil]
                    exact tdoor rfl rfl g2 g3 ((HF3.out.bel).trans (hb.mono (by omega))) (HUT.out)
                  | ok z =>
                    obtain ⟨e2, m2⟩ := z
                    obtain ⟨he', A3, c3, hC3, -⟩ := he
                    subst he'
                    have HC3 := Lib.hid (hC3.since HCd.out.bel)
                    clear hb3 hC3 q0 q1 q2 q3 q4 q5 kn kt
                    simp only [List.range', List.foldl]
                    go_simp
                    go_wp2_with fail
                    go_roundw
                    case rel => exact ⟨k + 1, e2, m2, A3, c3, by omega, by go_num, Lib.hid (by rw [parT_next HN.out HTt.out HP.out]; exact HRL.out), HC3⟩
                    case measure => simp [intOf]; omega
                · rintro L a hLz ⟨hS, hCl⟩ hnil
                  have r0 : L.getD 0 false = true := ready_nil hnil rfl (by omega) (by simp)
                  have r1 : L.getD 1 false = true := ready_nil hnil rfl (by omega) (by simp)
                  have r3 : L.getD 3 false = true := ready_nil hnil rfl (by omega) (by simp)
                  have r4 : L.getD 4 false = true := ready_nil hnil rfl (by omega) (by simp)
                  have r6 : L.getD 6 false = true := ready_nil hnil rfl (by omega) (by simp)
                  have r2 : L.getD 2 false = true := ready_nil hnil rfl (by omega) (by intro e he; simp at he; rcases he with rfl; assumption)
                  have r5 : L.getD 5 false = true := ready_nil hnil rfl (by omega) (by intro e he; simp at he; rcases he with rfl; assumption)
                  have r7 : L.getD 7 false = true := ready_nil hnil rfl (by omega) (by intro e he; simp at he; rcases he with rfl | rfl <;> assumption)
                  have r8 : L.getD 8 false = true := ready_nil hnil rfl (by omega) (by intro e he; simp at he; rcases he with rfl; assumption)
                  exact ready_nil hnil rfl (by omega) (by intro e he; simp at he; rcases he with rfl | rfl | rfl | rfl <;> assumption)
              · obtain rfl : k = f.names.length := by omega
                have HPW : Hid (parT f.pos f.names f.types [] 0 = .ok (env, m)) := Lib.hid (by have := HP.out; rwa [List.take_length, HPL.out, List.take_length] at this)
                have HFB := Lib.hid (fnT_body (us := us) HPW.out)
                have HBR := Lib.hid (HGR.out.trans (HC.out.bel.mono (show w.heap.size ≤ cb by omega)))
                obtain ⟨rb, hrb⟩ : ∃ r, blT us f.out f.body env m = r := ⟨_, rfl⟩
                have HRB := Lib.hid hrb
                have HBC : Hid (Calls Tryz.prog 65 #[.pointer (some ⟨cb, 0, none⟩), .slice Ab f.body.length cbb] wr (BlockR wr cb cb K us F A' env rb)) := Lib.hid (by
                  rw [← hrb, ← HKO.out]
                  exact blk_x 40 f.body Ab cbb F wr cb cb _ A' c' env m us HPBO.out HFZ.out.body HFZ.out.blen ⟨HZ.out, hlen, fun f hf => (HPT.out f hf).2.2.1, HEV.out, by omega, hm64⟩ HC.out.reb (HKB.out.keep (fun q h1 h2 => ⟨h1, Nat.lt_of_lt_of_le h2 HBR.out.size, HBR.out.block q h2⟩)))
                clear hrb
                obtain ⟨⟨q0, q1, q2, q3, q4, q5⟩, -⟩ := facts6 HXr.out
                go_wp2_with fail
                refine HBC.out.mono ?_
                rintro e w3 ⟨hb3, he⟩
                have HF3 := Lib.hid (HFr.out.below hb3 hbb (by omega) (by omega) (by omega) (by omega))
                have HX3 := Lib.hid ((hb3.block bf hx0).trans HXr.out)
                have hz3 : w0.heap.size ≤ w3.heap.size := by have := hb3.size; have := HC.out.bs; omega
                clear q0 q1 q2 q3 q4 q5 hb3
                cases rb with
                | bad q er =>
                  have HUT := Lib.hid (unitT_3 HUF.out HDN.out HMB.out (fnsT_hit HS.out HT.out (by rw [HFB.out, HRB.out])))
                  have he' : e = faultE q er := he
                  subst he'
                  clear he
                  unfold faultE
                  go_wp2_with fail
                  refine leaves_cons (f := 61) (args := #[.pointer (some ⟨bp, 0, none⟩), .pointer (some ⟨be, 0, none⟩)]) (by simp) (by simp [go_sem]) ?_
                  refine (tcatch_bad bp be 0 0 _ _ [] w3 HF3.out.pp HF3.out.ee n2).mono ?_
                  rintro e u' w' ⟨rfl, rfl, hb, g2, g3⟩
                  simp only [settle, List.dropWhile_nil]
                  exact tdoor rfl rfl g2 g3 ((HF3.out.bel).trans (hb.mono (by omega))) (HUT.out)
                | ok z =>
                  obtain ⟨m1, rr⟩ := z
                  obtain ⟨he', -⟩ := he
                  subst he'
                  obtain ⟨⟨q0, q1, q2, q3, q4, q5⟩, -⟩ := facts6 HX3.out
                  cases rr with
                  | false =>
                    have HUT := Lib.hid (unitT_3 HUF.out HDN.out HMB.out (fnsT_hit HS.out HT.out (show fnT us f = .bad f.pos 3 by rw [HFB.out, HRB.out]; rfl)))
                    go_wp2_with fail
                    refine leaves_cons (f := 61) (args := #[.pointer (some ⟨bp, 0, none⟩), .pointer (some ⟨be, 0, none⟩)]) (by simp) (by simp [go_sem]) ?_
                    refine (tcatch_bad bp be 0 0 _ _ [] w3 HF3.out.pp HF3.out.ee n2).mono ?_
                    rintro e u' w' ⟨rfl, rfl, hb, g2, g3⟩
                    simp only [settle, List.dropWhile_nil]
                    exact tdoor rfl rfl g2 g3 ((HF3.out.bel).trans (hb.mono (by omega))) (HUT.out)
                  | true =>
                    have HTN := Lib.hid (fnsT_next HS.out HT.out (show fnT us f = .ok () by rw [HFB.out, HRB.out]; rfl))
                    clear q0 q1 q2 q3 q4 q5
                    go_wp2_with fail
                    go_roundw
                    case rel => exact ⟨j + 1, by omega, by go_num, HTN, HF3, hz3⟩
                    case measure => simp [intOf]; omega
          · obtain rfl : j = us.length := by omega
            have HUT := Lib.hid (unitT_4 HUF.out HDN.out HMB.out (by have := HT.out; rwa [List.take_length] at this))
            have cp : wr.cell? ⟨bp, 0, none⟩ = some (.int .i64 0) := Lib.cell_of_heap HF.out.pp 0
            have fp : wr.frozen? ⟨bp, 0, none⟩ = false := Lib.frozen_of_heap HF.out.pp 0
            have ce : wr.cell? ⟨be, 0, none⟩ = some (.int .i64 0) := Lib.cell_of_heap HF.out.ee 0
            have fe : wr.frozen? ⟨be, 0, none⟩ = false := Lib.frozen_of_heap HF.out.ee 0
            have m2 : bp ≠ be := by omega
            go_wp2_with fail
            refine leaves_cons (f := 61) (args := #[.pointer (some ⟨bp, 0, none⟩), .pointer (some ⟨be, 0, none⟩)]) (by simp) (by simp [go_sem]) ?_
            refine (tcatch_idle _ _ _).mono ?_
            rintro e u' w' ⟨rfl, rfl, rfl⟩
            simp only [settle]
            obtain ⟨hb, g2, g3⟩ := tset2 HF.out.bel (by omega) n2 HF.out.pp HF.out.ee 0 0
            exact tdoor rfl rfl g2 g3 hb HUT.out
end Go.Proofs.YtmngofgminlloaaGreatDoor

namespace Go.Proofs.YtmngofgminlloaaGreatDoor
open Go.RowKit Tw

theorem Right.sres {s : ByteArray} {ws : List Wd} (h : Right s ws) : ∃ m, SRes s m 0 0 ∧ m ≠ [] ∧ unitT m = (0, 0) := by
  obtain ⟨hw, m, hd, hm, hu, ht⟩ := h
  exact ⟨m, ⟨0, 0, ws, hw, .inr ⟨rfl, .inr ⟨m, hd, rfl, hu.symm, by rw [if_pos hu]⟩⟩⟩, hm, ht⟩
/-- What lies of a unit in memory for the checker. -/
def UAt (w : World) (b : Nat) (A : Option Addr) (c : Nat) (l : List Fn) : Prop := w.heap[b]? = some (.cells #[.slice A l.length c] 24 (0, 0)) ∧ FnsIn w (fun _ => True) (.slice A l.length c) l ∧ l.length ≤ c
theorem UAt.below {w w' : World} {b c : Nat} {A : Option Addr} {l : List Fn} (h : UAt w b A c l) (hb : Below w.heap.size w w') : UAt w' b A c l :=
  ⟨(hb.block b (lt_of_some h.1)).trans h.1, h.2.1.keep (fun g _ h2 => ⟨trivial, Nat.lt_of_lt_of_le h2 hb.size, hb.block g h2⟩), h.2.2⟩
theorem UAt.new {w : World} {F : Nat → Prop} {c : Nat} {A : Option Addr} {l : List Fn} (h : FnsIn w F (.slice A l.length c) l) (hc : l.length ≤ c) : UAt (w.alloc (.cells #[.slice A l.length c] 24)) w.heap.size A c l :=
  ⟨heap_alloc_new w _, h.keep (fun g _ h2 => ⟨trivial, by simp; omega, heap_alloc_old w _ h2⟩), hc⟩
/-- The checker at a script that was read. -/
theorem check_u {w : World} {b c : Nat} {A : Option Addr} {s : ByteArray} {p er : Int} {l : List Fn} (p8 e8 : Int) (h : UAt w b A c l) (hs : SRes s l p er) (ht : unitT l = (p8, e8)) (hG : Glob w) :
    Calls Tryz.prog 17 #[.agg #[.slice A l.length c]] w fun e w' => e = .returned (.tuple #[.int .i64 p8, .int .i64 e8]) ∧ Below w.heap.size w w' := by
  have hz := sres_small hs
  refine (tcheck_c l A c (fun _ => True) w h.2.1 hz.1 hz.2 h.2.2 hG).mono ?_
  rintro e w' ⟨rfl, hb⟩
  rw [ht]
  exact ⟨rfl, hb⟩
/-- The parser at a right script, and at a text that is too long. -/
theorem Right.parse {s : ByteArray} {ws : List Wd} {w : World} (h : Right s ws) (hs : s.size ≤ maxLen) (hG : Glob w) : Calls Tryz.prog 22 #[.string s] w fun e w' => PResC w s e w' := by
  obtain ⟨hw, m, hd, -⟩ := h
  exact parse_cc s w hs hG 0 0 ws hw _ hd
theorem long_parse {s : ByteArray} {w : World} (h : 4000 < s.size) (hs : s.size ≤ maxLen) (hG : Glob w) : Calls Tryz.prog 22 #[.string s] w fun e w' => PResC w s e w' :=
  parse_cc s w hs hG 0 2 [] (.inl ⟨h, rfl, rfl, rfl⟩) (.fns []) (.done (Nat.zero_le _))
set_option maxRecDepth 100000 in
set_option maxHeartbeats 8000000 in
theorem typesNames_any (A : Option Addr) (n c : Nat) (w : World) (hG : Glob w) (hnc : n ≤ c) (h : ∀ j, j < n → ∃ g off v, A = some ⟨g, off, none⟩ ∧ g < w.heap.size ∧ w.cell? ⟨g, off + j, none⟩ = some (.int .i64 v)) :
    Calls Tryz.prog 8 #[.slice A n c] w fun e w' => e = .returned (.bool true) ∧ Below w.heap.size w w' := by
  have HG := Lib.hid hG
  have HC := Lib.hid (script2_c A n c w hG hnc h)
  clear hG hnc h
  go_enter Tryz.func8, Tryz.ntmps8
  go_wp2_with fail
  refine HC.out.mono ?_
  rintro e w1 ⟨t, N, rfl, htz, HT, hB⟩
  have HB := Lib.hid hB
  have hsh := HT.out.short
  obtain ⟨ws, hR, hZ⟩ := HT.out.names
  have HR := Lib.hid hR; have HZ := Lib.hid hZ
  obtain ⟨m, hm, hm0, hmt⟩ := hR.sres
  have HM := Lib.hid hm; have HM0 := Lib.hid hm0; have HMT := Lib.hid hmt
  clear hB HC hR hZ hm hm0 hmt
  have HGb := Lib.hid (HG.out.to HB.out)
  go_wp2_with fail
  have HPA := Lib.hid (HR.out.parse (by unfold maxLen; omega) HGb.out)
  refine HPA.out.mono ?_
  rintro e w2 ⟨l, Au, cu, p, er, rfl, hF, hb, hS, hcp⟩
  obtain ⟨rfl, rfl, rfl⟩ := sres_det hS HM.out
  have HU := Lib.hid (UAt.new hF hcp)
  have hl0 : l.length ≠ 0 := by intro e; exact HM0.out (List.length_eq_zero_iff.1 e)
  have HB2 := Lib.hid (HB.out.trans (hb.mono HB.out.size))
  have HB3 : Hid (Below w.heap.size w (w2.alloc (.cells #[.slice Au l.length cu] 24))) := Lib.hid (HB2.out.alloc HB2.out.size _)
  clear hF hS hcp hb HPA HB HGb
  have hzb := HB2.out.size
  have HG3 := Lib.hid (HG.out.to HB3.out)
  go_upto_region 3 with (fail)
  generalize w2.alloc _ = w3 at HU HB3 HG3 ⊢
  obtain ⟨bu, hbu⟩ : ∃ b, w2.heap.size = b := ⟨_, rfl⟩
  rw [hbu] at HU hzb ⊢
  clear hbu HB2
  have cu0 := Lib.cell_of_heap HU.out.1 0
  simp at cu0
  go_upto_region 5 with (fail)
  clear cu0
  go_wp2_with fail
  refine (words_c t w3 0 0 ws (by unfold maxLen; omega) HG3.out HR.out.1).mono ?_
  rintro e w4 ⟨⟨v, rfl, hv⟩, hb4⟩
  have HU4 := Lib.hid (HU.out.below hb4)
  have HB4 := Lib.hid (HB3.out.trans (hb4.mono HB3.out.size))
  have HV := Lib.hid hv
  obtain ⟨Av, cv, rfl, hform⟩ := hv.form
  have HFO := Lib.hid hform
  have HSM := Lib.hid HR.out.1.small
  have hwl : ws.length ≤ 4000 := HSM.out.1
  clear hv hb4 hform HU HB3
  go_upto_block 0 with (fail)
  have HW4 := Lib.hid (Below.refl w4.heap.size w4)
  go_wp2_with fail
  go_loopw [45, 10] (fun i x wr => ∃ (k : Nat) (X : ByteArray), k ≤ ws.length ∧ i = .int .i64 k ∧ x = .string X ∧ Hid (TxK ws k X) ∧ Hid (Below w4.heap.size w4 wr)) (fun i x _ => ws.length - (intOf i).toNat)
  case atStart => exact ⟨0, ⟨#[]⟩, Nat.zero_le _, rfl, rfl, Lib.hid (TxK.zero ws), HW4⟩
  case round =>
    obtain ⟨k, X, hk, rfl, rfl, HX, HBr⟩ := hrel
    by_cases hlk : k < ws.length
    · obtain ⟨x, hx⟩ : ∃ x, ws[k]? = some x := ⟨_, List.getElem?_eq_getElem hlk⟩
      have HXX := Lib.hid hx
      obtain ⟨g, rfl, hg, hc0, hc1, hc2⟩ := HFO.out k x hx
      have c0 := (HBr.out.cell (p := ⟨g, k * 3, none⟩) hg).trans hc0
      have c1 := (HBr.out.cell (p := ⟨g, k * 3 + 1, none⟩) hg).trans hc1
      have c2 := (HBr.out.cell (p := ⟨g, k * 3 + 2, none⟩) hg).trans hc2
      have i0 : (0 : Int) ≤ (k : Int) := by omega
      have i1 : (k : Int) < (ws.length : Int) := by omega
      clear hx hc0 hc1 hc2
      go_upto_region 10 with (fail)
      clear c0 c1 c2
      have HBx : Hid (Below w4.heap.size w4 (wr.alloc (.cells #[.int .i64 x.kind, .string x.text, .int .i64 x.pos] 46))) := Lib.hid (HBr.out.alloc HBr.out.size _)
      have HX0 := Lib.hid (heap_alloc_new wr (.cells #[.int .i64 x.kind, .string x.text, .int .i64 x.pos] 46))
      have hzr := HBr.out.size
      generalize wr.alloc _ = wx at HBx HX0 ⊢
      obtain ⟨bx, hbx⟩ : ∃ b, wr.heap.size = b := ⟨_, rfl⟩
      rw [hbx] at HX0 hzr ⊢
      clear hbx HBr
      have HCW : Hid (∃ b, callW ws k = b) := Lib.hid ⟨_, rfl⟩
      go_cut [13] (fun u W => u = .bool (callW ws k) ∧ W = wx)
      case first =>
        have hp : k = 0 ∨ ∃ y, ws[k - 1]? = some y ∧ 0 < k := by
          rcases Nat.eq_zero_or_pos k with h | h
          · exact .inl h
          · exact .inr ⟨_, List.getElem?_eq_getElem (by omega), h⟩
        rcases hp with rfl | ⟨yp, hyp, hk0⟩
        · by_cases hn : 0 + 1 < ws.length
          · obtain ⟨y, hy⟩ : ∃ y, ws[0 + 1]? = some y := ⟨_, List.getElem?_eq_getElem hn⟩
            have HCV := Lib.hid (callW_0y hy)
            obtain ⟨g', hg', hg2, -, hd1, -⟩ := HFO.out (0 + 1) y hy
            obtain rfl : g = g' := by simpa using hg'
            have d1 := (HBx.out.cell (p := ⟨g, (0 + 1) * 3 + 1, none⟩) hg2).trans hd1
            have i2 : ((0 : Nat) : Int) + 1 < (ws.length : Int) := by omega
            clear hd1 hg' hy
            go_wp2_with fail
            all_goals go_meet
            all_goals
              case rel =>
                refine ⟨congrArg Value.bool ?_, rfl⟩
                first | (rw [HCV.out]; done) | (rw [HCV.out]; simp [*])
          · have i2 : (ws.length : Int) ≤ ((0 : Nat) : Int) + 1 := by omega
            have HCV := Lib.hid (callW_0n hn)
            go_wp2_with fail
            all_goals go_meet
            all_goals
              case rel =>
                refine ⟨congrArg Value.bool ?_, rfl⟩
                first | (rw [HCV.out]; done) | (rw [HCV.out]; simp [*])
        · obtain ⟨g2, hg2', hgp, -, hp1, -⟩ := HFO.out (k - 1) yp hyp
          obtain rfl : g = g2 := by simpa using hg2'
          have p1 := (HBx.out.cell (p := ⟨g, (k - 1) * 3 + 1, none⟩) hgp).trans hp1
          clear hp1 hg2'
          by_cases hn : k + 1 < ws.length
          · obtain ⟨y, hy⟩ : ∃ y, ws[k + 1]? = some y := ⟨_, List.getElem?_eq_getElem hn⟩
            have HCV := Lib.hid (callW_ky hk0 hyp hy)
            obtain ⟨g', hg', hg2, -, hd1, -⟩ := HFO.out (k + 1) y hy
            obtain rfl : g = g' := by simpa using hg'
            have d1 := (HBx.out.cell (p := ⟨g, (k + 1) * 3 + 1, none⟩) hg2).trans hd1
            have i2 : (k : Int) + 1 < (ws.length : Int) := by omega
            clear hd1 hg' hy hyp
            go_wp2_with fail
            all_goals go_meet
            all_goals
              case rel =>
                refine ⟨congrArg Value.bool ?_, rfl⟩
                first | (rw [HCV.out]; done) | (rw [HCV.out]; simp [*])
          · have i2 : (ws.length : Int) ≤ (k : Int) + 1 := by omega
            have HCV := Lib.hid (callW_kn hk0 hyp hn)
            clear hyp
            go_wp2_with fail
            all_goals go_meet
            all_goals
              case rel =>
                refine ⟨congrArg Value.bool ?_, rfl⟩
                first | (rw [HCV.out]; done) | (rw [HCV.out]; simp [*])
      case rest =>
        obtain ⟨rfl, hwc⟩ := hcut
        subst hwc
        clear HCW
        have HXn := Lib.hid (fun y hy => HX.out.next HXX.out (HSM.out.2 x (List.mem_of_getElem? HXX.out)) y hy)
        have hxs : x.text.size ≤ 4000 := HSM.out.2 x (List.mem_of_getElem? HXX.out)
        have hXs : X.size ≤ 4003 * 4000 := by have := HX.out.2; omega
        obtain ⟨b, hb⟩ : ∃ b, callW ws k = b := ⟨_, rfl⟩
        rw [hb] at HXn ⊢
        clear hb
        have e0 := Lib.cell_of_heap HX0.out 0; have e1 := Lib.cell_of_heap HX0.out 1; have f1 := Lib.frozen_of_heap HX0.out 1
        simp at e0 e1
        have hxb := lt_of_some HX0.out
        by_cases hk2 : x.kind = 2
        · rw [hk2] at e0 HXn HX0
          cases b with
          | false =>
            have HB9 := Lib.hid (HBx.out.setCell (p := ⟨bx, 1, none⟩) hzr (.string (zT ++ x.text)))
            go_wp2_with fail
            go_roundw
            case rel => exact ⟨k + 1, _, by omega, by go_num, rfl, Lib.hid (HXn.out _ rfl), HB9⟩
            case measure => simp [intOf]; omega
          | true =>
            go_wp2_with fail
            go_roundw
            case rel => exact ⟨k + 1, _, by omega, by go_num, rfl, Lib.hid (HXn.out _ rfl), HBx⟩
            case measure => simp [intOf]; omega
        · have HK2 : Hid (∀ b : Bool, (if x.kind = 2 ∧ b = false then zT ++ x.text else x.text) = x.text) := Lib.hid (fun b => if_neg (fun h => hk2 h.1))
          have k2 : ((x.kind : Int) == 2) = false := by simp; omega
          go_wp2_with fail
          go_roundw
          case rel => exact ⟨k + 1, _, by omega, by go_num, rfl, Lib.hid (HXn.out _ (HK2.out _).symm), HBx⟩
          case measure => simp [intOf]; omega
    · obtain rfl : k = ws.length := by omega
      have HXW := Lib.hid HX.out.whole
      have hXs := HX.out.2
      have HG5 := Lib.hid (HG.out.to (HB4.out.trans (HBr.out.mono HB4.out.size)))
      have HU5 := Lib.hid (HU4.out.below HBr.out)
      have hXl : X.size ≤ maxLen := by unfold maxLen; omega
      have HPX : Hid (Calls Tryz.prog 22 #[.string X] wr fun e w' => PResC wr X e w') := Lib.hid (by
        by_cases hsz : X.size ≤ 4000
        · obtain ⟨ws', hr'⟩ := HZ.out X hsz HXW.out
          exact hr'.parse hXl HG5.out
        · exact long_parse (by omega) hXl HG5.out)
      clear hXl
      go_upto_region 15 with (fail)
      go_wp2_with fail
      refine HPX.out.mono ?_
      rintro e w5 ⟨l5, A5, c5, p5, er5, rfl, hF5, hb5, hS5, hcp5⟩
      have HS5 := Lib.hid hS5
      have HF5 := Lib.hid (UAt.new hF5 hcp5)
      have HB5 := Lib.hid ((HB4.out.trans (HBr.out.mono HB4.out.size)).trans (hb5.mono (HB4.out.trans (HBr.out.mono HB4.out.size)).size))
      have HB6 : Hid (Below w.heap.size w (w5.alloc (.cells #[.slice A5 l5.length c5] 24))) := Lib.hid (HB5.out.alloc HB5.out.size _)
      have HU6 : Hid (UAt (w5.alloc (.cells #[.slice A5 l5.length c5] 24)) bu Au cu l) := Lib.hid ((HU5.out.below hb5).below ((Below.refl _ _).alloc (Nat.le_refl _) _))
      have hfin : (er5 = 0 ∧ unitT l5 = (0, 0)) ∨ 4000 < X.size := by
        by_cases hsz : X.size ≤ 4000
        · obtain ⟨ws', hr'⟩ := HZ.out X hsz HXW.out
          obtain ⟨m', hm', -, ht'⟩ := hr'.sres
          obtain ⟨rfl, rfl, rfl⟩ := sres_det hS5 hm'
          exact .inl ⟨rfl, ht'⟩
        · exact .inr (by omega)
      have HFIN := Lib.hid hfin
      clear hS5 hF5 hcp5 hb5 hfin HU5 HG5 HPX
      go_upto_region 16 with (fail)
      generalize w5.alloc _ = w6 at HF5 HB6 HU6 ⊢
      generalize w5.heap.size = bv at HF5 ⊢
      have HG6 := Lib.hid (HG.out.to HB6.out)
      have cu1 := Lib.cell_of_heap HU6.out.1 0
      simp at cu1
      go_wp2_with fail
      clear cu1
      refine (check_u 0 0 HU6.out HM.out HMT.out HG6.out).mono ?_
      rintro e w7 ⟨rfl, hb7⟩
      have HF7 := Lib.hid (HF5.out.below hb7)
      have HB7 := Lib.hid (HB6.out.trans (hb7.mono HB6.out.size))
      have HG7 := Lib.hid (HG.out.to HB7.out)
      have cu1 := Lib.cell_of_heap HF7.out.1 0
      simp at cu1
      clear hb7
      go_wp2_with fail
      clear cu1
      obtain ⟨p8, e8, h8⟩ : ∃ p8 e8, unitT l5 = (p8, e8) := ⟨_, _, rfl⟩
      have H8 := Lib.hid h8
      refine (check_u p8 e8 HF7.out HS5.out h8 HG7.out).mono ?_
      rintro e w8 ⟨rfl, hb8⟩
      have HB8 := Lib.hid (HB7.out.trans (hb8.mono HB7.out.size))
      clear hb8 h8
      rcases HFIN.out with ⟨rfl, h9⟩ | h9
      · have h10 : p8 = 0 ∧ e8 = 0 := by have := H8.out; rw [h9] at this; simp at this; exact ⟨this.1.symm, this.2.symm⟩
        obtain ⟨rfl, rfl⟩ := h10
        clear h9
        go_wp2_with fail
        go_ret
        exact ⟨rfl, HB8.out⟩
      · have h10 : (4000 : Int) < (X.size : Int) := by omega
        by_cases he5 : er5 = 0
        · subst he5
          by_cases he8 : e8 = 0
          · subst he8
            go_wp2_with fail
            all_goals go_ret
            all_goals exact ⟨by simp [*], HB8.out⟩
          · have h11 : (e8 == 0) = false := by simpa using he8
            go_wp2_with fail
            all_goals go_ret
            all_goals exact ⟨by simp [*], HB8.out⟩
        · have h11 : (er5 == 0) = false := by simpa using he5
          go_wp2_with fail
          all_goals go_ret
          all_goals exact ⟨by simp [*], HB8.out⟩
end Go.Proofs.YtmngofgminlloaaGreatDoor
