/-
  The program's types.Check, at every script.
  The program's unary() and atom(), of whatever their callees answer by contract.
  The program's atom(), of whatever its callees answer by contract.
  The program's args(), of whatever its callee answers by contract.
  The program's expr(least), of whatever its callees answer by contract.
  The program's reader's methods for expressions, all of them at once, by how many words are left.
  The frame of the program's stmt(): blocks of ten cells, and what its methods for statements answer.
  The program's block(), of whatever its callee answers by contract.
-/
import Derived.Test.YtmngofgminlloaaGreatDoorTT24
import Derived.Test.YtmngofgminlloaaGreatDoorTT17
import Derived.Deep.RegionLaw
import Derived.Test.YtmngofgminlloaaGreatDoorTT23
import Derived.Outline
import Derived.Test.YtmngofgminlloaaGreatDoorTT07
import Derived.Deep.DeepCutAuto
import Derived.Test.YtmngofgminlloaaGreatDoorTT08
import Derived.Test.YtmngofgminlloaaGreatDoorTT09
import Derived.Test.YtmngofgminlloaaGreatDoorTT10
set_option linter.all false
namespace Go.Proofs.YtmngofgminlloaaGreatDoor
open Go.RowKit Tw

/-- The frame of Check: the unit's box, the two results. -/
structure FrK (w W : World) (b1 bp be : Nat) (A : Option Addr) (n c : Nat) : Prop where
  un : W.heap[b1]? = some (.cells #[.slice A n c] 24 (0, 0))
  pp : W.heap[bp]? = some (.cells #[.int .i64 0] 3 (0, 0))
  ee : W.heap[be]? = some (.cells #[.int .i64 0] 25 (0, 0))
  bel : Below w.heap.size w W
  gl : Glob W
section
variable {w W W' : World} {b1 bp be : Nat} {A : Option Addr} {n c : Nat}
theorem FrK.below {B : Nat} (h : FrK w W b1 bp be A n c) (hb : Below B W W') (hB : w.heap.size ≤ B) (h1 : b1 < B) (h2 : bp < B) (h3 : be < B) (h10 : 10 < B) : FrK w W' b1 bp be A n c :=
  ⟨(hb.block b1 h1).trans h.un, (hb.block bp h2).trans h.pp, (hb.block be h3).trans h.ee, h.bel.trans (hb.mono hB), h.gl.same hb.size (fun g hg => hb.block g (by omega)), ⟩
theorem FrK.later (h : FrK w W b1 bp be A n c) (hb : Below W.heap.size W W') : FrK w W' b1 bp be A n c :=
  ⟨(hb.block b1 (lt_of_some h.un)).trans h.un, (hb.block bp (lt_of_some h.pp)).trans h.pp, (hb.block be (lt_of_some h.ee)).trans h.ee, h.bel.trans (hb.mono h.bel.size), h.gl.to hb⟩
end
set_option maxRecDepth 100000 in
set_option maxHeartbeats 16000000 in
theorem tcheck_c (us : List Fn) (A : Option Addr) (c : Nat) (F0 : Nat → Prop) (w : World) (hU : FnsIn w F0 (.slice A us.length c) us) (hZ : ∀ f ∈ us, FnZ f) (hlen : us.length ≤ 281474976710656) (hcap : us.length ≤ c) (hG : Glob w) :
    Calls Tryz.prog 17 #[.agg #[.slice A us.length c]] w fun e w' => CkR w us e w' := by
  have hbig := hG.big
  obtain ⟨F, hFd⟩ : ∃ F : Nat → Prop, F = fun g => F0 g ∧ g < w.heap.size := ⟨_, rfl⟩
  have hU1 : FnsIn w F (.slice A us.length c) us := hU.keep (fun g h1 h2 => ⟨by rw [hFd]; exact ⟨h1, h2⟩, h2, rfl⟩)
  have hFw : ∀ g, F g → g < w.heap.size := fun g hg => by rw [hFd] at hg; exact hg.2
  have HU := Lib.hid hU1; have HFW := Lib.hid hFw; have HZ := Lib.hid hZ; have HG := Lib.hid hG
  have hB3 : Below w.heap.size w (((w.alloc (.cells #[.slice A us.length c] 24)).alloc (.cells #[.int .i64 0] 3)).alloc (.cells #[.int .i64 0] 25)) := (((Below.refl _ _).alloc (Nat.le_refl _) _).alloc (by simp) _).alloc (by simp; omega) _
  have WC := Lib.hid (check_c us A c F (((w.alloc (.cells #[.slice A us.length c] 24)).alloc (.cells #[.int .i64 0] 3)).alloc (.cells #[.int .i64 0] 25)) (hU1.keep (fun g h1 h2 => ⟨h1, Nat.lt_of_lt_of_le h2 hB3.size, hB3.block g h2⟩)) hZ hlen)
  have hu0 : (((w.alloc (.cells #[.slice A us.length c] 24)).alloc (.cells #[.int .i64 0] 3)).alloc (.cells #[.int .i64 0] 25)).heap[w.heap.size]? = some (.cells #[.slice A us.length c] 24 (0, 0)) := (heap_alloc_old _ _ (by simp; omega)).trans ((heap_alloc_old _ _ (by simp)).trans (heap_alloc_new w _))
  have hp0 : (((w.alloc (.cells #[.slice A us.length c] 24)).alloc (.cells #[.int .i64 0] 3)).alloc (.cells #[.int .i64 0] 25)).heap[w.heap.size + 1]? = some (.cells #[.int .i64 0] 3 (0, 0)) := (heap_alloc_old _ _ (by simp)).trans (by simpa using heap_alloc_new (w.alloc (.cells #[.slice A us.length c] 24)) (.cells #[.int .i64 0] 3))
  have he0 : (((w.alloc (.cells #[.slice A us.length c] 24)).alloc (.cells #[.int .i64 0] 3)).alloc (.cells #[.int .i64 0] 25)).heap[w.heap.size + 2]? = some (.cells #[.int .i64 0] 25 (0, 0)) := by simpa using heap_alloc_new ((w.alloc (.cells #[.slice A us.length c] 24)).alloc (.cells #[.int .i64 0] 3)) (.cells #[.int .i64 0] 25)
  have hmf : ∀ (fn : Go.Fn) (first cap : Array Value) (w : World), (Instr.makeFunc fn first cap).run Tryz.prog w = .ok (.func fn first cap) w := fun _ _ _ _ => rfl
  have HF0 := Lib.hid (FrK.mk hu0 hp0 he0 hB3 (hG.to hB3) : FrK w (((w.alloc (.cells #[.slice A us.length c] 24)).alloc (.cells #[.int .i64 0] 3)).alloc (.cells #[.int .i64 0] 25)) w.heap.size (w.heap.size + 1) (w.heap.size + 2) A us.length c)
  have hz3 : (((w.alloc (.cells #[.slice A us.length c] 24)).alloc (.cells #[.int .i64 0] 3)).alloc (.cells #[.int .i64 0] 25)).heap.size = w.heap.size + 3 := by simp
  clear hU hU1 hFw hZ hG hFd hu0 hp0 he0
  go_enter_defers Tryz.func17, Tryz.ntmps17
  go_upto_region 1 with (fail)
  generalize ((w.alloc _).alloc _).alloc _ = w0 at WC HF0 hz3 hB3 ⊢
  obtain ⟨b1, hb1⟩ : ∃ b, w.heap.size = b := ⟨_, rfl⟩
  obtain ⟨bp, hbp⟩ : ∃ b, w.heap.size + 1 = b := ⟨_, rfl⟩
  obtain ⟨be, hbe⟩ : ∃ b, bp + 1 = b := ⟨_, rfl⟩
  rw [hbp, show w.heap.size + 2 = be by omega, hb1] at HF0
  simp only [hbp]
  simp only [hbe]
  simp only [hb1]
  have n1 : b1 < bp := by omega
  have n2 : bp < be := by omega
  have n3 : be < w0.heap.size := by omega
  have n0 : 10 < b1 := by omega
  have hwb : w.heap.size ≤ b1 := by omega
  have hbw : b1 ≤ w.heap.size := by omega
  clear hbp hbe hb1 hz3 hbig
  have c1 : w0.cell? ⟨b1, 0, none⟩ = some (.slice A us.length c) := Lib.cell_of_heap HF0.out.un 0
  go_wp2_with fail
  refine WC.out.mono ?_
  rintro e w1 ⟨rfl, hb⟩
  have HF1 := Lib.hid (HF0.out.later hb)
  have hz1 := hb.size
  clear c1 hb WC HF0 hB3
  by_cases hz0 : unitF us = 0
  case neg =>
    obtain ⟨z, hz⟩ : ∃ z, unitF us = z := ⟨_, rfl⟩
    rw [hz] at hz0 ⊢
    have e1 : (z != 0) = true := by simpa using hz0
    have HZN : Hid (unitT us = (0, z)) := Lib.hid (by rw [unitT_0 (by rw [hz]; exact hz0), hz])
    clear hz0 hz
    have cp : w1.cell? ⟨bp, 0, none⟩ = some (.int .i64 0) := Lib.cell_of_heap HF1.out.pp 0
    have fp : w1.frozen? ⟨bp, 0, none⟩ = false := Lib.frozen_of_heap HF1.out.pp 0
    have ce : w1.cell? ⟨be, 0, none⟩ = some (.int .i64 0) := Lib.cell_of_heap HF1.out.ee 0
    have fe : w1.frozen? ⟨be, 0, none⟩ = false := Lib.frozen_of_heap HF1.out.ee 0
    have m2 : bp ≠ be := by omega
    go_wp2_with fail
    obtain ⟨hb, g2, g3⟩ := tset2 HF1.out.bel (by omega) n2 HF1.out.pp HF1.out.ee 0 z
    exact tdoor rfl rfl g2 g3 hb HZN.out
  case pos =>
  rw [hz0]
  have HUF := Lib.hid hz0
  have hul := (unitF_parts hz0).1
  have HPT := Lib.hid (unitF_parts hz0).2
  clear hz0
  have c1 : w1.cell? ⟨b1, 0, none⟩ = some (.slice A us.length c) := Lib.cell_of_heap HF1.out.un 0
  go_wp2_with fail
  clear c1
  go_loopw [5, 22] (fun u i wr => ∃ j : Nat, j ≤ us.length ∧ i = .int .i64 j ∧ u = .bool ((us.take j).any isMain) ∧ Hid (NoDup us j) ∧ Hid (FrK w wr b1 bp be A us.length c) ∧ w0.heap.size ≤ wr.heap.size) (fun _ i _ => us.length - (intOf i).toNat)
  case atStart => exact ⟨0, Nat.zero_le _, rfl, rfl, Lib.hid (fun m f h => absurd h (Nat.not_lt_zero m)), HF1, hz1⟩
  case round =>
    clear HF1
    obtain ⟨j, hj, rfl, rfl, HN, HF, hzr⟩ := hrel
    by_cases hlt : j < us.length
    · obtain ⟨f, hf⟩ : ∃ f, us[j]? = some f := ⟨_, List.getElem?_eq_getElem hlt⟩
      obtain ⟨g, off, An, cn, At, ct, Ab, cbb, rfl, hg, hkn, hkt, hkb, hc⟩ := HU.out.at j f hf
      have q0 := (HF.out.bel.cell (p := ⟨g, off + j * 6, none⟩) hg).trans (hc 0 _ rfl)
      have q1 := (HF.out.bel.cell (p := ⟨g, off + j * 6 + 1, none⟩) hg).trans (hc 1 _ rfl)
      have q2 := (HF.out.bel.cell (p := ⟨g, off + j * 6 + 2, none⟩) hg).trans (hc 2 _ rfl)
      have q3 := (HF.out.bel.cell (p := ⟨g, off + j * 6 + 3, none⟩) hg).trans (hc 3 _ rfl)
      have q4 := (HF.out.bel.cell (p := ⟨g, off + j * 6 + 4, none⟩) hg).trans (hc 4 _ rfl)
      have q5 := (HF.out.bel.cell (p := ⟨g, off + j * 6 + 5, none⟩) hg).trans (hc 5 _ rfl)
      have HS := Lib.hid hf
      have hnl := (HZ.out f (List.mem_of_getElem? hf)).nlen
      have hb := (Below.refl wr.heap.size wr).alloc (Nat.le_refl _) (.cells #[.string f.name, .slice An f.names.length cn, .slice At f.types.length ct, .int .i64 f.out, .slice Ab f.body.length cbb, .int .i64 f.pos] 32)
      have HFa := Lib.hid (HF.out.later hb)
      have HX := Lib.hid (heap_alloc_new wr (.cells #[.string f.name, .slice An f.names.length cn, .slice At f.types.length ct, .int .i64 f.out, .slice Ab f.body.length cbb, .int .i64 f.pos] 32))
      have hx0 := lt_of_some HX.out
      have hza : w0.heap.size ≤ (wr.alloc (.cells #[.string f.name, .slice An f.names.length cn, .slice At f.types.length ct, .int .i64 f.out, .slice Ab f.body.length cbb, .int .i64 f.pos] 32)).heap.size := Nat.le_trans hzr hb.size
      have htl : (us.take j).length = j := by simp; omega
      have hUt := (HU.out.take j (by omega)).keep (F' := F) (w' := wr.alloc (.cells #[.string f.name, .slice An f.names.length cn, .slice At f.types.length ct, .int .i64 f.out, .slice Ab f.body.length cbb, .int .i64 f.pos] 32)) (fun q h1 h2 => ⟨h1, Nat.lt_of_lt_of_le h2 HFa.out.bel.size, HFa.out.bel.block q h2⟩)
      have hxc : (wr.alloc (.cells #[.string f.name, .slice An f.names.length cn, .slice At f.types.length ct, .int .i64 f.out, .slice Ab f.body.length cbb, .int .i64 f.pos] 32)).cell? ⟨wr.heap.size, 0, none⟩ = some (.string f.name) := Lib.cell_of_heap HX.out 0
      have hD := has_dup ⟨wr.heap.size, 0, none⟩ f.name (some ⟨g, off, none⟩) c F (us.take j) _ hUt (clo_dup wr.heap.size f.name _ hx0 hxc) (by omega)
      rw [htl] at hD
      obtain ⟨d, hd⟩ : ∃ d, (findF (us.take j) f.name).isSome = d := ⟨_, rfl⟩
      rw [hd] at hD
      have HD := Lib.hid hD; have HDD := Lib.hid hd
      have k0 : (0 : Int) ≤ (j : Int) := by omega
      have k1 : (j : Int) < (us.length : Int) := by omega
      have k2 : (j : Int) ≤ (c : Int) := by omega
      clear hf hkn hkt hkb hc hb hUt hD hd hxc htl hg
      go_upto_region 9 with (fail)
      clear q0 q1 q2 q3 q4 q5
      generalize wr.alloc _ = wa at HFa HX HD hx0 hza ⊢
      generalize wr.heap.size = bf at HX HD hx0 ⊢
      have c1 : wa.cell? ⟨b1, 0, none⟩ = some (.slice (some ⟨g, off, none⟩) us.length c) := Lib.cell_of_heap HFa.out.un 0
      go_wp2_with fail
      refine HD.out.mono ?_
      rintro e w2 ⟨rfl, hb2⟩
      have HF2 := Lib.hid (HFa.out.later hb2)
      have HX2 := Lib.hid ((hb2.block _ hx0).trans HX.out)
      have hz2 : w0.heap.size ≤ w2.heap.size := by have := hb2.size; omega
      clear hb2 c1 HD HX HFa hx0
      obtain ⟨⟨q0, q1, q2, q3, q4, q5⟩, -⟩ := facts6 HX2.out
      cases d with
      | true =>
        have HUT := Lib.hid (unitT_1 HUF.out (dupF_hit HS.out HN.out HDD.out))
        go_wp2_with fail
        refine leaves_cons (f := 61) (args := #[.pointer (some ⟨bp, 0, none⟩), .pointer (some ⟨be, 0, none⟩)]) (by simp) (by simp [go_sem]) ?_
        refine (tcatch_bad bp be 0 0 _ _ [] w2 HF2.out.pp HF2.out.ee n2).mono ?_
        rintro e u' w' ⟨rfl, rfl, hb, g2, g3⟩
        simp only [settle, List.dropWhile_nil]
        exact tdoor rfl rfl g2 g3 ((HF2.out.bel).trans (hb.mono (by omega))) (HUT.out)
      | false =>
        have HND := Lib.hid (HN.out.next HS.out HDD.out)
        have HAN := Lib.hid (any_next HS.out)
        obtain ⟨mb, hmb⟩ : ∃ b, (us.take j).any isMain = b := ⟨_, rfl⟩
        rw [hmb] at HAN ⊢
        clear hmb
        have hnm : (f.name.toList == [109, 97, 105, 110]) = decide (f.name = mainT) := by
          rw [tl_is]
          refine decide_eq_decide.2 ⟨fun h => ?_, fun h => by rw [h]; rfl⟩
          rw [← bs_mk' f.name, h]; rfl
        have HMN := Lib.hid (isMain_eq f)
        cases mb with
        | true =>
          clear hnm
          go_wp2_with fail
          go_roundw
          case rel => exact ⟨j + 1, by omega, by go_num, by rw [HAN.out]; rfl, HND, HF2, hz2⟩
          case measure => simp [intOf]; omega
        | false =>
          obtain ⟨d1, h1⟩ : ∃ d, decide (f.name = mainT) = d := ⟨_, rfl⟩
          obtain ⟨d2, h2⟩ : ∃ d, decide (f.names.length = 0) = d := ⟨_, rfl⟩
          obtain ⟨d3, h3⟩ : ∃ d, decide (f.out = 1) = d := ⟨_, rfl⟩
          have e2 : ((f.names.length : Int) == 0) = d2 := by rw [← h2]; by_cases h : f.names.length = 0 <;> simp [h]
          have e3 : (f.out == 1) = d3 := by rw [← h3]; by_cases h : f.out = 1 <;> simp [h]
          rw [h1] at hnm
          have HM2 : Hid (isMain f = (d1 && d2 && d3)) := Lib.hid (by rw [HMN.out, h1, h2, h3])
          clear h1 h2 h3 HMN
          cases d1 with
          | false =>
            go_wp2_with fail
            go_roundw
            case rel => exact ⟨j + 1, by omega, by go_num, by rw [HAN.out, HM2.out]; rfl, HND, HF2, hz2⟩
            case measure => simp [intOf]; omega
          | true =>
            cases d2 with
            | false =>
              go_wp2_with fail
              go_roundw
              case rel => exact ⟨j + 1, by omega, by go_num, by rw [HAN.out, HM2.out]; rfl, HND, HF2, hz2⟩
              case measure => simp [intOf]; omega
            | true =>
              cases d3 with
              | false =>
                go_wp2_with fail
                go_roundw
                case rel => exact ⟨j + 1, by omega, by go_num, by rw [HAN.out, HM2.out]; rfl, HND, HF2, hz2⟩
                case measure => simp [intOf]; omega
              | true =>
                go_wp2_with fail
                go_roundw
                case rel => exact ⟨j + 1, by omega, by go_num, by rw [HAN.out, HM2.out]; rfl, HND, HF2, hz2⟩
                case measure => simp [intOf]; omega
    · obtain rfl : j = us.length := by omega
      rw [List.take_length]
      have HDN := Lib.hid (dupF_end HN.out)
      have hzr' := hzr
      clear HN
      obtain ⟨mb, hmb⟩ : ∃ b, us.any isMain = b := ⟨_, rfl⟩
      have HMB := Lib.hid hmb
      rw [hmb]
      clear hmb
      cases mb with
      | false =>
        have HUT := Lib.hid (unitT_2 HUF.out HDN.out HMB.out)
        have cp : wr.cell? ⟨bp, 0, none⟩ = some (.int .i64 0) := Lib.cell_of_heap HF.out.pp 0
        have fp : wr.frozen? ⟨bp, 0, none⟩ = false := Lib.frozen_of_heap HF.out.pp 0
        have ce : wr.cell? ⟨be, 0, none⟩ = some (.int .i64 0) := Lib.cell_of_heap HF.out.ee 0
        have fe : wr.frozen? ⟨be, 0, none⟩ = false := Lib.frozen_of_heap HF.out.ee 0
        have m2 : bp ≠ be := by omega
        go_wp2_with fail
        refine leaves_cons (f := 61) (args := #[.pointer (some ⟨bp, 0, none⟩), .pointer (some ⟨be, 0, none⟩)]) (by simp) (by simp [go_sem]) ?_
        refine (tcatch_idle _ _ _).mono ?_
        rintro e u' w' ⟨rfl, rfl, rfl⟩
        simp only [settle]
        obtain ⟨hb, g2, g3⟩ := tset2 HF.out.bel (by omega) n2 HF.out.pp HF.out.ee 0 16
        exact tdoor rfl rfl g2 g3 hb HUT.out
      | true =>
        have c1 : wr.cell? ⟨b1, 0, none⟩ = some (.slice A us.length c) := Lib.cell_of_heap HF.out.un 0
        go_wp2_with fail
        clear c1
        have HFi := HF
        clear HF
        obtain ⟨wx, rfl⟩ : ∃ wo : World, wo = wr := ⟨_, rfl⟩
        go_loopw [60] (fun i wr => ∃ j : Nat, j ≤ us.length ∧ i = .int .i64 j ∧ Hid (fnsT us (us.take j) = .ok ()) ∧ Hid (FrK w wr b1 bp be A us.length c) ∧ w0.heap.size ≤ wr.heap.size) (fun i _ => us.length - (intOf i).toNat)
        case atStart => exact ⟨0, Nat.zero_le _, rfl, Lib.hid rfl, HFi, hzr⟩
        case round =>
          clear HFi
          obtain ⟨j, hj, rfl, HT, HF, hzr⟩ := hrel
          by_cases hlt : j < us.length
          · obtain ⟨f, hf⟩ : ∃ f, us[j]? = some f := ⟨_, List.getElem?_eq_getElem hlt⟩
            obtain ⟨g, off, An, cn, At, ct, Ab, cbb, rfl, hg, hkn, hkt, hkb, hc⟩ := HU.out.at j f hf
            have q0 := (HF.out.bel.cell (p := ⟨g, off + j * 6, none⟩) hg).trans (hc 0 _ rfl)
            have q1 := (HF.out.bel.cell (p := ⟨g, off + j * 6 + 1, none⟩) hg).trans (hc 1 _ rfl)
            have q2 := (HF.out.bel.cell (p := ⟨g, off + j * 6 + 2, none⟩) hg).trans (hc 2 _ rfl)
            have q3 := (HF.out.bel.cell (p := ⟨g, off + j * 6 + 3, none⟩) hg).trans (hc 3 _ rfl)
            have q4 := (HF.out.bel.cell (p := ⟨g, off + j * 6 + 4, none⟩) hg).trans (hc 4 _ rfl)
            have q5 := (HF.out.bel.cell (p := ⟨g, off + j * 6 + 5, none⟩) hg).trans (hc 5 _ rfl)
            have HS := Lib.hid hf; have HKN := Lib.hid hkn; have HKT := Lib.hid hkt; have HKB := Lib.hid hkb
            have hin := List.mem_of_getElem? hf
            have HFZ := Lib.hid (HZ.out f hin)
            obtain ⟨pl, p6, pou, pty, pbo⟩ := HPT.out f hin
            have HPTY := Lib.hid pty; have HPBO := Lib.hid pbo; have HPL := Lib.hid pl
            clear pl
            have hb := (Below.refl wr.heap.size wr).alloc (Nat.le_refl _) (.cells #[.string f.name, .slice An f.names.length cn, .slice At f.types.length ct, .int .i64 f.out, .slice Ab f.body.length cbb, .int .i64 f.pos] 32)
            have HFa := Lib.hid (HF.out.later hb)
            have HX := Lib.hid (heap_alloc_new wr (.cells #[.string f.name, .slice An f.names.length cn, .slice At f.types.length ct, .int .i64 f.out, .slice Ab f.body.length cbb, .int .i64 f.pos] 32))
            have hx0 := lt_of_some HX.out
            have hza := Nat.le_trans hzr hb.size
            have k0 : (0 : Int) ≤ (j : Int) := by omega
            have k1 : (j : Int) < (us.length : Int) := by omega
            clear hf hkn hkt hkb hc hb hg pty pbo hin
            go_upto_region 18 with (fail)
            clear q0 q1 q2 q3 q4 q5
            generalize wr.alloc _ = wa at HFa HX hx0 hza ⊢
            generalize wr.heap.size = bf at HX hx0 ⊢
            obtain ⟨⟨q0, q1, q2, q3, q4, q5⟩, -⟩ := facts6 HX.out
            have c1 : wa.cell? ⟨b1, 0, none⟩ = some (.slice (some ⟨g, off, none⟩) us.length c) := Lib.cell_of_heap HFa.out.un 0
            have hbk := (Below.refl wa.heap.size wa).alloc (Nat.le_refl _) (.cells #[.slice (some ⟨g, off, none⟩) us.length c, .string f.name, .slice An f.names.length cn, .slice At f.types.length ct, .int .i64 f.out, .slice Ab f.body.length cbb, .int .i64 f.pos, .slice none 0 0, .int .i64 0] 130)
            have hbw2 := HFa.out.bel.trans (hbk.mono HFa.out.bel.size)
            have HC0 : Hid (FrC (wa.alloc (.cells #[.slice (some ⟨g, off, none⟩) us.length c, .string f.name, .slice An f.names.length cn, .slice At f.types.length ct, .int .i64 f.out, .slice Ab f.body.length cbb, .int .i64 f.pos, .slice none 0 0, .int .i64 0] 130)) (wa.alloc (.cells #[.slice (some ⟨g, off, none⟩) us.length c, .string f.name, .slice An f.names.length cn, .slice At f.types.length ct, .int .i64 f.out, .slice Ab f.body.length cbb, .int .i64 f.pos, .slice none 0 0, .int .i64 0] 130)) wa.heap.size wa.heap.size (Hd.mk (.slice (some ⟨g, off, none⟩) us.length c) f.name (.slice An f.names.length cn) (.slice At f.types.length ct) f.out (.slice Ab f.body.length cbb) f.pos) none 0 [] 0 us F) := Lib.hid ⟨⟨heap_alloc_new wa _, World.ownsRow_nil _ _ _ _, Nat.le_refl _, by simp [Value.ownBlock]⟩, HU.out.keep (fun q h1 h2 => ⟨h1, Nat.lt_of_lt_of_le h2 hbw2.size, hbw2.block q h2⟩), Below.refl _ _, HFa.out.gl.to hbk, fun q hq => by have := HFW.out q hq; have := HFa.out.bel.size; omega, by omega, by simp⟩
            obtain ⟨K, hK⟩ : ∃ K : Hd, (Hd.mk (.slice (some ⟨g, off, none⟩) us.length c) f.name (.slice An f.names.length cn) (.slice At f.types.length ct) f.out (.slice Ab f.body.length cbb) f.pos) = K := ⟨_, rfl⟩
            rw [hK] at HC0
            have HKO : Hid (K.out = f.out) := Lib.hid (by rw [← hK])
            clear hK
            have HFb := Lib.hid (HFa.out.later hbk)
            have HXb := Lib.hid ((hbk.block _ hx0).trans HX.out)
            have HKb := Lib.hid hbk
            have HGR := Lib.hid hbw2
            clear hbk hbw2
            go_upto_region 19 with (fail)
            clear q0 q1 q2 q3 q4 q5 c1
            generalize wa.alloc _ = wb at HC0 HFb HXb HKb HGR ⊢
            obtain ⟨cb, hcb⟩ : ∃ n, wa.heap.size = n := ⟨_, rfl⟩
            rw [hcb] at HC0 HKb hx0 hza ⊢
            clear hcb
            have hbb : w.heap.size ≤ cb := by omega
            obtain ⟨⟨q0, q1, q2, q3, q4, q5⟩, -⟩ := facts6 HXb.out
            go_wp2_with fail
            clear q0 q1 q2 q3 q4 q5
            have HC0' := HC0
            clear HC0
            go_loopw [71] (fun i wr => ∃ (k : Nat) (env : Env) (m : Nat) (A' : Option Addr) (c' : Nat), k ≤ f.names.length ∧ i = .int .i64 k ∧ Hid (parT f.pos (f.names.take k) (f.types.take k) [] 0 = .ok (env, m)) ∧ Hid (FrC wb wr cb cb K A' c' env m us F)) (fun i _ => f.names.length - (intOf i).toNat)
            case atStart => exact ⟨0, [], 0, none, 0, Nat.zero_le _, rfl, Lib.hid rfl, HC0'⟩
            case round =>
              clear HC0'
              obtain ⟨k, env, m, A', c', hk, rfl, HP, HC⟩ := hrel
              have hpe := parT_env _ _ _ _ _ _ (fun t ht => HPTY.out t (List.mem_of_mem_take ht)) EnvOK.nil rfl (by decide) HP.out
              have HEV := Lib.hid hpe.1
              have hel : env.length = m := hpe.2.1
              have hm64 : m ≤ 64 := hpe.2.2
              clear hpe
              have HXr := Lib.hid ((HC.out.bel.block bf hx0).trans HXb.out)
              have HFr := Lib.hid (HFb.out.below HC.out.bel hbb (by omega) (by omega) (by omega) (by omega))
              by_cases hlk : k < f.names.length
              · obtain ⟨n, hn⟩ : ∃ n, f.names[k]? = some n := ⟨_, List.getElem?_eq_getElem hlk⟩
                obtain ⟨t, ht⟩ : ∃ t, f.types[k]? = some t := ⟨_, List.getElem?_eq_getElem (by have := HPL.out; omega)⟩
                obtain ⟨gn, on, rfl, hgn, hcn⟩ := HKN.out.at k n hn
                obtain ⟨gt, ot, rfl, hgt, hct⟩ := HKT.out.at k t ht
                have HBR := Lib.hid (HGR.out.trans (HC.out.bel.mono (show w.heap.size ≤ cb by omega)))
                have kn := (HBR.out.cell (p := ⟨gn, on + k, none⟩) hgn).trans hcn
                have kt := (HBR.out.cell (p := ⟨gt, ot + k, none⟩) hgt).trans hct
                have HN := Lib.hid hn; have HTt := Lib.hid ht
                have i0 : (0 : Int) ≤ (k : Int) := by omega
                have i1 : (k : Int) < (f.names.length : Int) := by omega
                have i2 : (k : Int) < (f.types.length : Int) := by have := HPL.out; omega
                have HCd := Lib.hid (HC.out.below (bel_drew wr))
                obtain ⟨rl, hrl⟩ : ∃ r, letT env m f.pos n t = r := ⟨_, rfl⟩
                have HRL := Lib.hid hrl
                have HAD : Hid (Calls Tryz.prog 64 #[.pointer (some ⟨cb, 0, none⟩), .int .i64 f.pos, .string n, .int .i64 t] wr.drew (AddR wr.drew cb cb K us F A' rl)) := Lib.hid (by rw [← hrl]; exact add_x f.pos n t F wr.drew cb cb _ A' c' env m us HEV.out (by omega) (by omega) HCd.out.reb)
                clear hn ht hcn hct hrl
                obtain ⟨⟨q0, q1, q2, q3, q4, q5⟩, -⟩ := facts6 HXr.out
                go_upto_region 22 with (fail)
                generalize hT9 : ([(0, 76, .pointer (some ⟨cb, 0, none⟩)), (1, 77, .pointer (some ⟨bf, 5, none⟩)), (2, 78, .int .i64 f.pos), (3, 79, .string n), (4, 80, .pointer (some ⟨bf, 2, none⟩)), (5, 81, .slice (some ⟨gt, ot, none⟩) f.types.length ct), (6, 82, .int .i64 k), (7, 83, .pointer (some ⟨gt, ot + k, none⟩)), (8, 84, .int .i64 t)] : Tab9) = T
                generalize ha0 : Act.mk _ _ = a0
                have e9 : a0.tmps[9]? = some (.pointer (some ⟨bf, 0, none⟩)) := by rw [← ha0]; rfl
                have e10 : a0.tmps[10]? = some (.pointer (some ⟨cb, 0, none⟩)) := by rw [← ha0]; rfl
                have e11 : a0.tmps[11]? = some (.int .i64 k) := by rw [← ha0]; rfl
                have e12 : a0.tmps[12]? = some (.string n) := by rw [← ha0]; rfl
                have ez : a0.tmps.size = 97 := by rw [← ha0]; rfl
                have hmem : ∀ (e : Nat × Nat × Value), e ∈ ([(0, 76, .pointer (some ⟨cb, 0, none⟩)), (1, 77, .pointer (some ⟨bf, 5, none⟩)), (2, 78, .int .i64 f.pos), (3, 79, .string n), (4, 80, .pointer (some ⟨bf, 2, none⟩)), (5, 81, .slice (some ⟨gt, ot, none⟩) f.types.length ct), (6, 82, .int .i64 k), (7, 83, .pointer (some ⟨gt, ot + k, none⟩)), (8, 84, .int .i64 t)] : Tab9) → e ∈ T := fun e he => by rw [← hT9]; exact he
                have hn1 : (T.map (·.1)).Nodup := by rw [← hT9]; show ([0, 1, 2, 3, 4, 5, 6, 7, 8] : List Nat).Nodup; decide
                have hn2 : (T.map (·.2.1)).Nodup := by rw [← hT9]; show ([76, 77, 78, 79, 80, 81, 82, 83, 84] : List Nat).Nodup; decide
                have hsl : ∀ e ∈ T, 76 ≤ e.2.1 ∧ e.2.1 ≤ 84 := by
                  intro e he
                  rw [← hT9] at he
                  simp only [List.mem_cons, List.mem_nil_iff, or_false] at he
                  rcases he with rfl | rfl | rfl | rfl | rfl | rfl | rfl | rfl | rfl <;> simp
                have hsz : ∀ e ∈ T, e.2.1 < a0.tmps.size := fun e he => by have := hsl e he; omega
                have HA0 := Lib.hid ha0
                clear ha0
                refine region_tab (by kernel_rfl) 9 rfl T ?_ ?_ ?_
                · rintro L a i hLz ⟨hS, hCl⟩ hi hi9
                  have f9 := (hS.un 9 fun e he => by have := hsl e he; omega).trans e9
                  have f10 := (hS.un 10 fun e he => by have := hsl e he; omega).trans e10
                  have f11 := (hS.un 11 fun e he => by have := hsl e he; omega).trans e11
                  have f12 := (hS.un 12 fun e he => by have := hsl e he; omega).trans e12
                  have hcs : i = 0 ∨ i = 1 ∨ i = 2 ∨ i = 3 ∨ i = 4 ∨ i = 5 ∨ i = 6 ∨ i = 7 ∨ i = 8 := by omega
                  rcases hcs with rfl | rfl | rfl | rfl | rfl | rfl | rfl | rfl | rfl
                  · have hd := ready_dep hi rfl
                    refine wpOp_value 76 (w' := wr.drew) (v := _) rfl rfl rfl (by simp [execOp, go_sem, f10]; rfl) ?_
                    exact ⟨⟨hS.put hn1 hn2 hsz _ (hmem _ (List.mem_cons_self ..)), hCl.next hi⟩, rfl⟩
                  · have hd := ready_dep hi rfl
                    refine wpOp_value 77 (w' := wr.drew) (v := _) rfl rfl rfl (by simp [execOp, go_sem, f9]; rfl) ?_
                    exact ⟨⟨hS.put hn1 hn2 hsz _ (hmem _ (List.mem_cons_of_mem _ (List.mem_cons_self ..))), hCl.next hi⟩, rfl⟩
                  · have hd := ready_dep hi rfl
                    have g1 : L.getD 1 false = true := hd ⟨1, .data⟩ (by simp) (by decide)
                    have v1 := hS.tb _ (hmem _ (List.mem_cons_of_mem _ (List.mem_cons_self ..))) g1
                    simp only at v1
                    refine wpOp_value 78 (w' := wr.drew) (v := _) rfl rfl rfl (by simp [execOp, go_sem, v1, q5]; rfl) ?_
                    exact ⟨⟨hS.put hn1 hn2 hsz _ (hmem _ (List.mem_cons_of_mem _ (List.mem_cons_of_mem _ (List.mem_cons_self ..)))), hCl.next hi⟩, rfl⟩
                  · have hd := ready_dep hi rfl
                    refine wpOp_value 79 (w' := wr.drew) (v := _) rfl rfl rfl (by simp [execOp, go_sem, f12]; rfl) ?_
                    exact ⟨⟨hS.put hn1 hn2 hsz _ (hmem _ (List.mem_cons_of_mem _ (List.mem_cons_of_mem _ (List.mem_cons_of_mem _ (List.mem_cons_self ..))))), hCl.next hi⟩, rfl⟩
                  · have hd := ready_dep hi rfl
                    refine wpOp_value 80 (w' := wr.drew) (v := _) rfl rfl rfl (by simp [execOp, go_sem, f9]; rfl) ?_
                    exact ⟨⟨hS.put hn1 hn2 hsz _ (hmem _ (List.mem_cons_of_mem _ (List.mem_cons_of_mem _ (List.mem_cons_of_mem _ (List.mem_cons_of_mem _ (List.mem_cons_self ..)))))), hCl.next hi⟩, rfl⟩
                  · have hd := ready_dep hi rfl
                    have g4 : L.getD 4 false = true := hd ⟨4, .data⟩ (by simp) (by decide)
                    have v4 := hS.tb _ (hmem _ (List.mem_cons_of_mem _ (List.mem_cons_of_mem _ (List.mem_cons_of_mem _ (List.mem_cons_of_mem _ (List.mem_cons_self ..)))))) g4
                    simp only at v4
                    refine wpOp_value 81 (w' := wr.drew) (v := _) rfl rfl rfl (by simp [execOp, go_sem, v4, q2]; rfl) ?_
                    exact ⟨⟨hS.put hn1 hn2 hsz _ (hmem _ (List.mem_cons_of_mem _ (List.mem_cons_of_mem _ (List.mem_cons_of_mem _ (List.mem_cons_of_mem _ (List.mem_cons_of_mem _ (List.mem_cons_self ..))))))), hCl.next hi⟩, rfl⟩
                  · have hd := ready_dep hi rfl
                    refine wpOp_value 82 (w' := wr.drew) (v := _) rfl rfl rfl (by simp [execOp, go_sem, f11]; rfl) ?_
                    exact ⟨⟨hS.put hn1 hn2 hsz _ (hmem _ (List.mem_cons_of_mem _ (List.mem_cons_of_mem _ (List.mem_cons_of_mem _ (List.mem_cons_of_mem _ (List.mem_cons_of_mem _ (List.mem_cons_of_mem _ (List.mem_cons_self ..)))))))), hCl.next hi⟩, rfl⟩
                  · have hd := ready_dep hi rfl
                    have g5 : L.getD 5 false = true := hd ⟨5, .data⟩ (by simp) (by decide)
                    have v5 := hS.tb _ (hmem _ (List.mem_cons_of_mem _ (List.mem_cons_of_mem _ (List.mem_cons_of_mem _ (List.mem_cons_of_mem _ (List.mem_cons_of_mem _ (List.mem_cons_self ..))))))) g5
                    simp only at v5
                    have g6 : L.getD 6 false = true := hd ⟨6, .data⟩ (by simp) (by decide)
                    have v6 := hS.tb _ (hmem _ (List.mem_cons_of_mem _ (List.mem_cons_of_mem _ (List.mem_cons_of_mem _ (List.mem_cons_of_mem _ (List.mem_cons_of_mem _ (List.mem_cons_of_mem _ (List.mem_cons_self ..)))))))) g6
                    simp only at v6
                    refine wpOp_value 83 (w' := wr.drew) (v := _) rfl rfl rfl (by simp [execOp, go_sem, v5, v6, i0, i2]; rfl) ?_
                    exact ⟨⟨hS.put hn1 hn2 hsz _ (hmem _ (List.mem_cons_of_mem _ (List.mem_cons_of_mem _ (List.mem_cons_of_mem _ (List.mem_cons_of_mem _ (List.mem_cons_of_mem _ (List.mem_cons_of_mem _ (List.mem_cons_of_mem _ (List.mem_cons_self ..))))))))), hCl.next hi⟩, rfl⟩
                  · have hd := ready_dep hi rfl
                    have g7 : L.getD 7 false = true := hd ⟨7, .data⟩ (by simp) (by decide)
                    have v7 := hS.tb _ (hmem _ (List.mem_cons_of_mem _ (List.mem_cons_of_mem _ (List.mem_cons_of_mem _ (List.mem_cons_of_mem _ (List.mem_cons_of_mem _ (List.mem_cons_of_mem _ (List.mem_cons_of_mem _ (List.mem_cons_self ..))))))))) g7
                    simp only at v7
                    refine wpOp_value 84 (w' := wr.drew) (v := _) rfl rfl rfl (by simp [execOp, go_sem, v7, kt]; rfl) ?_
                    exact ⟨⟨hS.put hn1 hn2 hsz _ (hmem _ (List.mem_cons_of_mem _ (List.mem_cons_of_mem _ (List.mem_cons_of_mem _ (List.mem_cons_of_mem _ (List.mem_cons_of_mem _ (List.mem_cons_of_mem _ (List.mem_cons_of_mem _ (List.mem_cons_of_mem _ (List.mem_cons_self ..)))))))))), hCl.next hi⟩, rfl⟩
                · rintro L a hLz ⟨hS, hCl⟩ hi
                  have hd := ready_dep hi rfl
                  have g0 : L.getD 0 false = true := hd ⟨0, .data⟩ (by simp) (by decide)
                  have g2 : L.getD 2 false = true := hd ⟨2, .data⟩ (by simp) (by decide)
                  have g3 : L.getD 3 false = true := hd ⟨3, .data⟩ (by simp) (by decide)
                  have g8 : L.getD 8 false = true := hd ⟨8, .data⟩ (by simp) (by decide)
                  have g7 : L.getD 7 false = true := hCl 8 _ rfl g8 ⟨7, .data⟩ (by simp) (by decide)
                  have g5 : L.getD 5 false = true := hCl 7 _ rfl g7 ⟨5, .data⟩ (by simp) (by decide)
                  have g6 : L.getD 6 false = true := hCl 7 _ rfl g7 ⟨6, .data⟩ (by simp) (by decide)
                  have g4 : L.getD 4 false = true := hCl 5 _ rfl g5 ⟨4, .data⟩ (by simp) (by decide)
                  have g1 : L.getD 1 false = true := hCl 2 _ rfl g2 ⟨1, .data⟩ (by simp) (by decide)
                  refine ⟨fun i hi9 => by
                    have hcs : i = 0 ∨ i = 1 ∨ i = 2 ∨ i = 3 ∨ i = 4 ∨ i = 5 ∨ i = 6 ∨ i = 7 ∨ i = 8 := by omega
                    rcases hcs with rfl | rfl | rfl | rfl | rfl | rfl | rfl | rfl | rfl <;> assumption, ?_⟩
                  have v0 := hS.tb _ (hmem _ (List.mem_cons_self ..)) g0
                  have v2 := hS.tb _ (hmem _ (List.mem_cons_of_mem _ (List.mem_cons_of_mem _ (List.mem_cons_self ..)))) g2
                  have v3 := hS.tb _ (hmem _ (List.mem_cons_of_mem _ (List.mem_cons_of_mem _ (List.mem_cons_of_mem _ (List.mem_cons_self ..))))) g3
                  have v8 := hS.tb _ (hmem _ (List.mem_cons_of_mem _ (List.mem_cons_of_mem _ (List.mem_cons_of_mem _ (List.mem_cons_of_mem _ (List.mem_cons_of_mem _ (List.mem_cons_of_mem _ (List.mem_cons_of_mem _ (List.mem_cons_of_mem _ (List.mem_cons_self ..)))))))))) g8
                  simp only at v0 v2 v3 v8
                  have hact := act_run (lo := 76) (hi := 84) hS.df hS.az (fun k hk => hS.un k fun e he => by have := hsl e he; omega)
                  clear hd g0 g1 g2 g3 g4 g5 g6 g7 g8 hCl hi
                  have hdf := hS.df
                  refine wpOp_call (w' := wr.drew) 64 #[.pointer (some ⟨cb, 0, none⟩), .int .i64 f.pos, .string n, .int .i64 t] rfl rfl (by simp [execOp, go_sem, v0, v2, v3, v8]) ?_
                  refine HAD.out.mono ?_
                  rintro e w3 ⟨hb3, he⟩
                  have hbd := (bel_drew wr).mono (show cb ≤ wr.heap.size by have := HC.out.bs; omega)
                  have HF3 := Lib.hid (HFr.out.below (hbd.trans hb3) hbb (by omega) (by omega) (by omega) (by omega))
                  obtain ⟨y, hy⟩ : ∃ y : Nat → Value, a = ⟨(List.range' 76 9).foldl (fun t k => t.setIfInBounds k (y k)) a0.tmps, a0.defers⟩ := ⟨_, hact⟩
                  clear hact hdf v0 v2 v3 v8 hS hsz hn1 hn2 hsl hmem e9 e10 e11 e12 ez hT9 hLz
                  subst hy
                  have ha0 := HA0.out
                  clear HA0
                  subst ha0
                  cases rl with
                  | bad q er =>
                    have HFT := Lib.hid (fnT_bad (us := us) (parT_hit HN.out HTt.out HP.out HRL.out))
                    have HUT := Lib.hid (unitT_3 HUF.out HDN.out HMB.out (fnsT_hit HS.out HT.out HFT.out))
                    have he' : e = faultE q er := he
                    subst he'
                    clear he hb3 q0 q1 q2 q3 q4 q5 kn kt
                    unfold faultE
                    simp only [List.range', List.foldl]
                    go_simp

                    go_wp2_with fail
                    refine leaves_cons (f := 61) (args := #[.pointer (some ⟨bp, 0, none⟩), .pointer (some ⟨be, 0, none⟩)]) (by simp) (by simp [go_sem]) ?_
                    refine (tcatch_bad bp be 0 0 _ _ [] w3 HF3.out.pp HF3.out.ee n2).mono ?_
                    rintro e u' w' ⟨rfl, rfl, hb, g2, g3⟩
                    simp only [settle, List.dropWhile_nil]
                    exact tdoor rfl rfl g2 g3 ((HF3.out.bel).trans (hb.mono (by omega))) (HUT.out)
                  | ok z =>
                    obtain ⟨e2, m2⟩ := z
                    obtain ⟨he', A3, c3, hC3, -⟩ := he
                    subst he'
                    have HC3 := Lib.hid (hC3.since HCd.out.bel)
                    clear hb3 hC3 q0 q1 q2 q3 q4 q5 kn kt
                    simp only [List.range', List.foldl]
                    go_simp
                    go_wp2_with fail
                    go_roundw
                    case rel => exact ⟨k + 1, e2, m2, A3, c3, by omega, by go_num, Lib.hid (by rw [parT_next HN.out HTt.out HP.out]; exact HRL.out), HC3⟩
                    case measure => simp [intOf]; omega
                · rintro L a hLz ⟨hS, hCl⟩ hnil
                  have r0 : L.getD 0 false = true := ready_nil hnil rfl (by omega) (by simp)
                  have r1 : L.getD 1 false = true := ready_nil hnil rfl (by omega) (by simp)
                  have r3 : L.getD 3 false = true := ready_nil hnil rfl (by omega) (by simp)
                  have r4 : L.getD 4 false = true := ready_nil hnil rfl (by omega) (by simp)
                  have r6 : L.getD 6 false = true := ready_nil hnil rfl (by omega) (by simp)
                  have r2 : L.getD 2 false = true := ready_nil hnil rfl (by omega) (by intro e he; simp at he; rcases he with rfl; assumption)
                  have r5 : L.getD 5 false = true := ready_nil hnil rfl (by omega) (by intro e he; simp at he; rcases he with rfl; assumption)
                  have r7 : L.getD 7 false = true := ready_nil hnil rfl (by omega) (by intro e he; simp at he; rcases he with rfl | rfl <;> assumption)
                  have r8 : L.getD 8 false = true := ready_nil hnil rfl (by omega) (by intro e he; simp at he; rcases he with rfl; assumption)
                  exact ready_nil hnil rfl (by omega) (by intro e he; simp at he; rcases he with rfl | rfl | rfl | rfl <;> assumption)
              · obtain rfl : k = f.names.length := by omega
                have HPW : Hid (parT f.pos f.names f.types [] 0 = .ok (env, m)) := Lib.hid (by have := HP.out; rwa [List.take_length, HPL.out, List.take_length] at this)
                have HFB := Lib.hid (fnT_body (us := us) HPW.out)
                have HBR := Lib.hid (HGR.out.trans (HC.out.bel.mono (show w.heap.size ≤ cb by omega)))
                obtain ⟨rb, hrb⟩ : ∃ r, blT us f.out f.body env m = r := ⟨_, rfl⟩
                have HRB := Lib.hid hrb
                have HBC : Hid (Calls Tryz.prog 65 #[.pointer (some ⟨cb, 0, none⟩), .slice Ab f.body.length cbb] wr (BlockR wr cb cb K us F A' env rb)) := Lib.hid (by
                  rw [← hrb, ← HKO.out]
                  exact blk_x 40 f.body Ab cbb F wr cb cb _ A' c' env m us HPBO.out HFZ.out.body HFZ.out.blen ⟨HZ.out, hlen, fun f hf => (HPT.out f hf).2.2.1, HEV.out, by omega, hm64⟩ HC.out.reb (HKB.out.keep (fun q h1 h2 => ⟨h1, Nat.lt_of_lt_of_le h2 HBR.out.size, HBR.out.block q h2⟩)))
                clear hrb
                obtain ⟨⟨q0, q1, q2, q3, q4, q5⟩, -⟩ := facts6 HXr.out
                go_wp2_with fail
                refine HBC.out.mono ?_
                rintro e w3 ⟨hb3, he⟩
                have HF3 := Lib.hid (HFr.out.below hb3 hbb (by omega) (by omega) (by omega) (by omega))
                have HX3 := Lib.hid ((hb3.block bf hx0).trans HXr.out)
                have hz3 : w0.heap.size ≤ w3.heap.size := by have := hb3.size; have := HC.out.bs; omega
                clear q0 q1 q2 q3 q4 q5 hb3
                cases rb with
                | bad q er =>
                  have HUT := Lib.hid (unitT_3 HUF.out HDN.out HMB.out (fnsT_hit HS.out HT.out (by rw [HFB.out, HRB.out])))
                  have he' : e = faultE q er := he
                  subst he'
                  clear he
                  unfold faultE
                  go_wp2_with fail
                  refine leaves_cons (f := 61) (args := #[.pointer (some ⟨bp, 0, none⟩), .pointer (some ⟨be, 0, none⟩)]) (by simp) (by simp [go_sem]) ?_
                  refine (tcatch_bad bp be 0 0 _ _ [] w3 HF3.out.pp HF3.out.ee n2).mono ?_
                  rintro e u' w' ⟨rfl, rfl, hb, g2, g3⟩
                  simp only [settle, List.dropWhile_nil]
                  exact tdoor rfl rfl g2 g3 ((HF3.out.bel).trans (hb.mono (by omega))) (HUT.out)
                | ok z =>
                  obtain ⟨m1, rr⟩ := z
                  obtain ⟨he', -⟩ := he
                  subst he'
                  obtain ⟨⟨q0, q1, q2, q3, q4, q5⟩, -⟩ := facts6 HX3.out
                  cases rr with
                  | false =>
                    have HUT := Lib.hid (unitT_3 HUF.out HDN.out HMB.out (fnsT_hit HS.out HT.out (show fnT us f = .bad f.pos 3 by rw [HFB.out, HRB.out]; rfl)))
                    go_wp2_with fail
                    refine leaves_cons (f := 61) (args := #[.pointer (some ⟨bp, 0, none⟩), .pointer (some ⟨be, 0, none⟩)]) (by simp) (by simp [go_sem]) ?_
                    refine (tcatch_bad bp be 0 0 _ _ [] w3 HF3.out.pp HF3.out.ee n2).mono ?_
                    rintro e u' w' ⟨rfl, rfl, hb, g2, g3⟩
                    simp only [settle, List.dropWhile_nil]
                    exact tdoor rfl rfl g2 g3 ((HF3.out.bel).trans (hb.mono (by omega))) (HUT.out)
                  | true =>
                    have HTN := Lib.hid (fnsT_next HS.out HT.out (show fnT us f = .ok () by rw [HFB.out, HRB.out]; rfl))
                    clear q0 q1 q2 q3 q4 q5
                    go_wp2_with fail
                    go_roundw
                    case rel => exact ⟨j + 1, by omega, by go_num, HTN, HF3, hz3⟩
                    case measure => simp [intOf]; omega
          · obtain rfl : j = us.length := by omega
            have HUT := Lib.hid (unitT_4 HUF.out HDN.out HMB.out (by have := HT.out; rwa [List.take_length] at this))
            have cp : wr.cell? ⟨bp, 0, none⟩ = some (.int .i64 0) := Lib.cell_of_heap HF.out.pp 0
            have fp : wr.frozen? ⟨bp, 0, none⟩ = false := Lib.frozen_of_heap HF.out.pp 0
            have ce : wr.cell? ⟨be, 0, none⟩ = some (.int .i64 0) := Lib.cell_of_heap HF.out.ee 0
            have fe : wr.frozen? ⟨be, 0, none⟩ = false := Lib.frozen_of_heap HF.out.ee 0
            have m2 : bp ≠ be := by omega
            go_wp2_with fail
            refine leaves_cons (f := 61) (args := #[.pointer (some ⟨bp, 0, none⟩), .pointer (some ⟨be, 0, none⟩)]) (by simp) (by simp [go_sem]) ?_
            refine (tcatch_idle _ _ _).mono ?_
            rintro e u' w' ⟨rfl, rfl, rfl⟩
            simp only [settle]
            obtain ⟨hb, g2, g3⟩ := tset2 HF.out.bel (by omega) n2 HF.out.pp HF.out.ee 0 0
            exact tdoor rfl rfl g2 g3 hb HUT.out
end Go.Proofs.YtmngofgminlloaaGreatDoor

namespace Go.Proofs.YtmngofgminlloaaGreatDoor
open Go.RowKit Tw

section
variable {ws : List Wd} {i : Nat}
end
end Go.Proofs.YtmngofgminlloaaGreatDoor

namespace Go.Proofs.YtmngofgminlloaaGreatDoor
open Go.RowKit Tw

end Go.Proofs.YtmngofgminlloaaGreatDoor

namespace Go.Proofs.YtmngofgminlloaaGreatDoor
open Go.RowKit Tw

def dcOn : Qe → Re → Prop
  | .lvl _ i, .ex _ j => i < j
  | .one i, .ex _ j => i < j
  | .rest _ _ i, .ex _ j => i ≤ j
  | .args _ i, .exs _ j => i < j
  | _, _ => True
theorem Dc.on {ws : List Wd} {en : Nat} {q : Qe} {r : Re} (h : Dc ws en q r) : dcOn q r := by
  induction h
  case ex m i j a r _ _ ih1 ih2 => cases r <;> simp only [dcOn] at * <;> omega
  case go m j j' a b r _ _ _ _ ih1 ih2 => cases r <;> simp only [dcOn] at * <;> omega
  all_goals (simp only [dcOn] at *; try omega)

theorem Rq.place {w : World} {rb : Nat} {v : Value} {ws : List Wd} {i en : Nat} (h : Rq w rb v ws i en) : placeOf w rb = i := by
  unfold placeOf; rw [h.c1]; simp [intOf]
theorem rq_app {w w' : World} {rb : Nat} {v : Value} {ws : List Wd} {i en : Nat} {row : Option Nat} (h : Rq w rb v ws i en) (hg : w.grownBy w' row) (hk : ∀ k, row = some k → rb < k) : Rq w' rb v ws i en :=
  ⟨(hg.block rb h.lt (fun e => by have := hk rb e.symm; omega)).trans h.blk, h.row.same fun j hj => hg.block j (Nat.lt_trans hj h.lt) (fun e => by have := hk j e.symm; omega), h.len, h.pos⟩

end Go.Proofs.YtmngofgminlloaaGreatDoor

namespace Go.Proofs.YtmngofgminlloaaGreatDoor
open Go.RowKit Tw

end Go.Proofs.YtmngofgminlloaaGreatDoor

namespace Go.Proofs.YtmngofgminlloaaGreatDoor
open Go.RowKit Tw

end Go.Proofs.YtmngofgminlloaaGreatDoor

namespace Go.Proofs.YtmngofgminlloaaGreatDoor
open Go.RowKit Tw

/-- The frame of stmt(): the reader; the cells of its result (b0), of its statement (b1); what has turned since w0. -/
structure FrQ (w0 w : World) (rb b0 b1 : Nat) (v : Value) (ws : List Wd) (i en : Nat) (u0 u1 u2 u3 u4 u5 u6 u7 u8 u9 : Value) : Prop where
  rd : Rq w rb v ws i en
  res : w.heap[b0]? = some (.cells #[.int .i64 0, .string ⟨#[]⟩, .int .i64 0, .int .i64 0, .string ⟨#[]⟩, .slice none 0 0, .int .i64 0, .slice none 0 0, .slice none 0 0, .int .i64 0] 188 (0, 0))
  ex : w.heap[b1]? = some (.cells #[u0, u1, u2, u3, u4, u5, u6, u7, u8, u9] 188 (0, 0))
  gr : w0.grownBy w (some rb)
  gl : Glob w
  r0 : 10 < rb
  z0 : rb < w0.heap.size
  z1 : w0.heap.size ≤ b0
  z2 : b0 ≠ b1
  z3 : b1 < w.heap.size
  z4 : w0.heap.size ≤ b1
  z5 : b0 < w.heap.size
section
variable {w0 w w' : World} {rb b0 b1 : Nat} {v : Value} {ws : List Wd} {i en : Nat} {u0 u1 u2 u3 u4 u5 u6 u7 u8 u9 : Value}
theorem FrQ.step {i' : Nat} (h : FrQ w0 w rb b0 b1 v ws i en u0 u1 u2 u3 u4 u5 u6 u7 u8 u9) (hr : Rq w' rb v ws i' en) (hg : w.grownBy w' (some rb)) : FrQ w0 w' rb b0 b1 v ws i' en u0 u1 u2 u3 u4 u5 u6 u7 u8 u9 := by
  have h0 := h.z0; have h1 := h.z1; have h2 := h.z2; have h3 := h.z3; have h4 := h.z4; have h5 := h.z5
  exact ⟨hr, (hg.block b0 (by omega) (by simp; omega)).trans h.res, (hg.block b1 h3 (by simp; omega)).trans h.ex, grown_trans h.gr hg, h.gl.of hg h.r0, h.r0, h0, h1, h2, Nat.lt_of_lt_of_le h3 hg.size, h4, Nat.lt_of_lt_of_le h5 hg.size⟩
theorem FrQ.below (h : FrQ w0 w rb b0 b1 v ws i en u0 u1 u2 u3 u4 u5 u6 u7 u8 u9) (hb : Below w.heap.size w w') : FrQ w0 w' rb b0 b1 v ws i en u0 u1 u2 u3 u4 u5 u6 u7 u8 u9 :=
  h.step (h.rd.keep hb) (grown_of_below hb _)
theorem FrQ.set {v0 v1 v2 v3 v4 v5 v6 v7 v8 v9 : Value} (h : FrQ w0 w rb b0 b1 v ws i en u0 u1 u2 u3 u4 u5 u6 u7 u8 u9) (hg : w.grownBy w' (some b1)) (he : w'.heap[b1]? = some (.cells #[v0, v1, v2, v3, v4, v5, v6, v7, v8, v9] 188 (0, 0))) : FrQ w0 w' rb b0 b1 v ws i en v0 v1 v2 v3 v4 v5 v6 v7 v8 v9 := by
  have h0 := h.z0; have h1 := h.z1; have h2 := h.z2; have h3 := h.z3; have h4 := h.z4; have h5 := h.z5; have hz := h.gr.size
  exact ⟨h.rd.grown hg (by omega), (hg.block b0 (by omega) (by simp; omega)).trans h.res, he, grown_new h.gr hg (by omega), h.gl.same hg.size (fun g hg' => hg.block g (by have := h.r0; omega) (by simp; have := h.r0; omega)), h.r0, h0, h1, h2, Nat.lt_of_lt_of_le h3 hg.size, h4, Nat.lt_of_lt_of_le h5 hg.size⟩
theorem FrQ.s0 (h : FrQ w0 w rb b0 b1 v ws i en u0 u1 u2 u3 u4 u5 u6 u7 u8 u9) (x : Value) : FrQ w0 (w.setCell ⟨b1, 0, none⟩ x) rb b0 b1 v ws i en x u1 u2 u3 u4 u5 u6 u7 u8 u9 := h.set (grown_set _ _ _ _) (by simpa using heap_setCell_same w b1 0 _ _ x h.ex)
theorem FrQ.s1 (h : FrQ w0 w rb b0 b1 v ws i en u0 u1 u2 u3 u4 u5 u6 u7 u8 u9) (x : Value) : FrQ w0 (w.setCell ⟨b1, 1, none⟩ x) rb b0 b1 v ws i en u0 x u2 u3 u4 u5 u6 u7 u8 u9 := h.set (grown_set _ _ _ _) (by simpa using heap_setCell_same w b1 1 _ _ x h.ex)
theorem FrQ.s2 (h : FrQ w0 w rb b0 b1 v ws i en u0 u1 u2 u3 u4 u5 u6 u7 u8 u9) (x : Value) : FrQ w0 (w.setCell ⟨b1, 2, none⟩ x) rb b0 b1 v ws i en u0 u1 x u3 u4 u5 u6 u7 u8 u9 := h.set (grown_set _ _ _ _) (by simpa using heap_setCell_same w b1 2 _ _ x h.ex)
theorem FrQ.s3 (h : FrQ w0 w rb b0 b1 v ws i en u0 u1 u2 u3 u4 u5 u6 u7 u8 u9) (x : Value) : FrQ w0 (w.setCell ⟨b1, 3, none⟩ x) rb b0 b1 v ws i en u0 u1 u2 x u4 u5 u6 u7 u8 u9 := h.set (grown_set _ _ _ _) (by simpa using heap_setCell_same w b1 3 _ _ x h.ex)
theorem FrQ.s4 (h : FrQ w0 w rb b0 b1 v ws i en u0 u1 u2 u3 u4 u5 u6 u7 u8 u9) (x : Value) : FrQ w0 (w.setCell ⟨b1, 4, none⟩ x) rb b0 b1 v ws i en u0 u1 u2 u3 x u5 u6 u7 u8 u9 := h.set (grown_set _ _ _ _) (by simpa using heap_setCell_same w b1 4 _ _ x h.ex)
theorem FrQ.s5 (h : FrQ w0 w rb b0 b1 v ws i en u0 u1 u2 u3 u4 u5 u6 u7 u8 u9) (x : Value) : FrQ w0 (w.setCell ⟨b1, 5, none⟩ x) rb b0 b1 v ws i en u0 u1 u2 u3 u4 x u6 u7 u8 u9 := h.set (grown_set _ _ _ _) (by simpa using heap_setCell_same w b1 5 _ _ x h.ex)
theorem FrQ.s6 (h : FrQ w0 w rb b0 b1 v ws i en u0 u1 u2 u3 u4 u5 u6 u7 u8 u9) (x : Value) : FrQ w0 (w.setCell ⟨b1, 6, none⟩ x) rb b0 b1 v ws i en u0 u1 u2 u3 u4 u5 x u7 u8 u9 := h.set (grown_set _ _ _ _) (by simpa using heap_setCell_same w b1 6 _ _ x h.ex)
theorem FrQ.s7 (h : FrQ w0 w rb b0 b1 v ws i en u0 u1 u2 u3 u4 u5 u6 u7 u8 u9) (x : Value) : FrQ w0 (w.setCell ⟨b1, 7, none⟩ x) rb b0 b1 v ws i en u0 u1 u2 u3 u4 u5 u6 x u8 u9 := h.set (grown_set _ _ _ _) (by simpa using heap_setCell_same w b1 7 _ _ x h.ex)
theorem FrQ.s8 (h : FrQ w0 w rb b0 b1 v ws i en u0 u1 u2 u3 u4 u5 u6 u7 u8 u9) (x : Value) : FrQ w0 (w.setCell ⟨b1, 8, none⟩ x) rb b0 b1 v ws i en u0 u1 u2 u3 u4 u5 u6 u7 x u9 := h.set (grown_set _ _ _ _) (by simpa using heap_setCell_same w b1 8 _ _ x h.ex)
theorem FrQ.start (hR : Rq w rb v ws i en) (hG : Glob w) (hr : 10 < rb) (hg : w0.grownBy w (some rb)) (h0 : rb < w0.heap.size) (h1 : w0.heap.size ≤ b0) (h2 : b0 < w.heap.size)
    (hz : w.heap[b0]? = some (.cells #[.int .i64 0, .string ⟨#[]⟩, .int .i64 0, .int .i64 0, .string ⟨#[]⟩, .slice none 0 0, .int .i64 0, .slice none 0 0, .slice none 0 0, .int .i64 0] 188 (0, 0))) (u0 u1 u2 u3 u4 u5 u6 u7 u8 u9 : Value) :
    FrQ w0 (w.alloc (.cells #[u0, u1, u2, u3, u4, u5, u6, u7, u8, u9] 188)) rb b0 w.heap.size v ws i en u0 u1 u2 u3 u4 u5 u6 u7 u8 u9 :=
  ⟨hR.keep ((Below.refl _ _).alloc (Nat.le_refl _) _), (heap_alloc_old w _ h2).trans hz, heap_alloc_new w _, grown_trans hg (grown_of_below ((Below.refl _ _).alloc (Nat.le_refl _) _) _), hG.to ((Below.refl _ _).alloc (Nat.le_refl _) _), hr, h0, h1, Nat.ne_of_lt h2, by simp, hg.size, by simp; omega⟩
end

end Go.Proofs.YtmngofgminlloaaGreatDoor

namespace Go.Proofs.YtmngofgminlloaaGreatDoor
open Go.RowKit Tw

theorem De.on {ws : List Wd} {en : Nat} {q : Qe} {r : Re} (h : De ws en q r) : dcOn q r := by
  induction h
  case lvl r _ _ _ ih1 ih2 => cases r <;> simp only [dcOn] at * <;> omega
  case lvl6 r _ ih => cases r <;> simp only [dcOn] at * <;> omega
  case go r _ _ _ _ ih1 ih2 => cases r <;> simp only [dcOn] at * <;> omega
  all_goals (simp only [dcOn] at *; try omega)
def dsOn : Qs → Rs → Prop
  | .stmt i, .st _ j => i < j
  | .block i, .sts _ j => i < j
  | .stmts i, .sts _ j => i < j
  | _, _ => True
theorem Ds.on {ws : List Wd} {en : Nat} {q : Qs} {r : Rs} (h : Ds ws en q r) : dsOn q r := by
  induction h
  case simp h _ => have h' : exprS ws _ < _ := De.on h; simp only [dsOn]; unfold exprS at h'; (repeat' split at h') <;> omega
  case block r _ _ ih => cases r <;> simp only [dsOn] at * <;> omega
  case whil h _ ih => have h' : _ < _ := De.on h; simp only [dsOn] at *; omega
  case if0 h _ _ ih => have h' : _ < _ := De.on h; simp only [dsOn] at *; omega
  case ifE h _ _ _ _ ih1 ih2 => have h' : _ < _ := De.on h; simp only [dsOn] at *; omega
  case ifI h _ _ _ _ ih1 ih2 => have h' : _ < _ := De.on h; simp only [dsOn] at *; omega
  all_goals (simp only [dsOn] at *; try omega)

end Go.Proofs.YtmngofgminlloaaGreatDoor
