/-
  parse.Print: what is wrong of a script, else its text, if that is not too long.
  The program's unary() and atom(), of whatever their callees answer by contract.
  The program's atom(), of whatever its callees answer by contract.
  The program's args(), of whatever its callee answers by contract.
  The program's expr(least), of whatever its callees answer by contract.
  The program's reader's methods for expressions, all of them at once, by how many words are left.
  The frame of the program's stmt(): blocks of ten cells, and what its methods for statements answer.
  The program's block(), of whatever its callee answers by contract.
  The frame of the program's fun(): its result (b0), what is written of the function (bf), its rows; and what fun() answers.
  What stands there when the program's fun() goes its ways, in plain Lean.
  What stands there when the program's stmt() and cond() go their ways, in plain Lean; the answer of the frame.
  The program's stmt(), of whatever its callees answer by contract.
  The program's cond(), of whatever its callees answer by contract; statements and blocks of the program's reader, all of them at once.
  The program's fun(), led by what stands there.
  What stands there when the program's Parse() reads functions, in plain Lean.
  The function that Parse defers: at a panic with a place it lays the results; at none it does nothing.
  The frame of the program's Parse(); what it reads from its result variables.
  The program's Parse answers of a text what the reference's Script answers.
-/
import Derived.Test.YtmngofgminlloaaGreatDoorPP06
import Derived.Test.YtmngofgminlloaaGreatDoorPP01
import Derived.Test.YtmngofgminlloaaGreatDoorPP03
import Derived.Test.YtmngofgminlloaaGreatDoorPP04
import Derived.Outline
import Derived.Test.YtmngofgminlloaaGreatDoorTT07
import Derived.Deep.DeepCutAuto
import Derived.Test.YtmngofgminlloaaGreatDoorTT08
import Derived.Test.YtmngofgminlloaaGreatDoorTT09
import Derived.Test.YtmngofgminlloaaGreatDoorTT10
import Derived.Test.YtmngofgminlloaaGreatDoorTT15
import Derived.Test.YtmngofgminlloaaGreatDoorTT19
import Derived.RegionDies
import Derived.Defers
import Derived.Recover
import Derived.Deep.RegionLaw
set_option linter.all false
namespace Go.Proofs.YtmngofgminlloaaGreatDoor
open Go.RowKit Tw

def tyS (t : Int) : ByteArray := if t = 1 then ⟨#[58, 32, 105, 110, 116]⟩ else ⟨#[58, 32, 98, 111, 111, 108]⟩
theorem tyS_l (t : Int) : (tyS t).data.toList = tyT t := by unfold tyS tyT tyP; split <;> rfl
theorem tyS_len (t : Int) : (tyS t).size ≤ 6 := by unfold tyS; split <;> decide
set_option maxRecDepth 100000 in
theorem typed_c (t : Int) (s : ByteArray) (hs : tyS t = s) (w : World) : Calls Tryz.prog 42 #[.int .i64 t] w fun e w' => e = .returned (.string s) ∧ w' = w := by
  subst hs
  go_enter Tryz.func42, Tryz.ntmps42
  cases h : (t == 1) with
  | true =>
    go_wp2_with fail
    go_ret
    exact ⟨by unfold tyS; rw [if_pos (beq_iff_eq.1 h)]; rfl, rfl⟩
  | false =>
    go_wp2_with fail
    go_ret
    exact ⟨by unfold tyS; rw [if_neg (beq_eq_false_iff_ne.1 h)]; rfl, rfl⟩
/-- What Print answers. -/
def prE (us : List Fn) : Int := if unitF us ≠ 0 then unitF us else if 4000 < (pcsT (unPc us)).length then 2 else 0
def prS (us : List Fn) : ByteArray := if unitF us ≠ 0 then ⟨#[]⟩ else if 4000 < (pcsT (unPc us)).length then ⟨#[]⟩ else ⟨(pcsT (unPc us)).toArray⟩
theorem FnsIn.below {w w' : World} {F : Nat → Prop} {v : Value} {l : List Fn} {b : Nat} (h : FnsIn w F v l) (hb : Below w.heap.size w w') (hz : w.heap.size ≤ b) : FnsIn w' (fun g => g < b) v l :=
  h.keep fun g _ h2 => ⟨by omega, Nat.lt_of_lt_of_le h2 hb.size, hb.block g h2⟩
/-- The loop of Print: the first j functions are written. -/
def PrR (w1 wr : World) (b : Nat) (us : List Fn) (j : Nat) : Prop := WrF w1 wr b (pcsT (unPc (us.take j))) ∧ (j = 0 → wr.heap[b]? = some (.cells #[.pointer none, .slice none 0 0] 102 (0, 0)))

set_option maxRecDepth 100000 in
set_option maxHeartbeats 32000000 in
theorem print_c (us : List Fn) (A : Option Addr) (c : Nat) (F0 : Nat → Prop) (w : World) (hA : FnsIn w F0 (.slice A us.length c) us) (hZ : ∀ f ∈ us, FnZ f) (hlen : us.length ≤ 281474976710656) (hG : Glob w) (hbulk : unitF us = 0 → (pcsT (unPc us)).length ≤ 140737488355328) :
    Calls Tryz.prog 12 #[.agg #[.slice A us.length c]] w fun e w' => e = .returned (.tuple #[.string (prS us), .int .i64 (prE us)]) ∧ Below w.heap.size w w' := by
  have hB1 := (Below.refl w.heap.size w).alloc (Nat.le_refl _) (.cells #[.slice A us.length c] 24)
  have HA1 : Hid (FnsIn (w.alloc (.cells #[.slice A us.length c] 24)) (fun g => g < w.heap.size) (.slice A us.length c) us) := Lib.hid (hA.below hB1 (Nat.le_refl _))
  have HQ := Lib.hid (heap_alloc_new w (.cells #[.slice A us.length c] 24))
  have HB1 := Lib.hid hB1; have HZ := Lib.hid hZ; have HG := Lib.hid (hG.to hB1)
  have CK := Lib.hid (check_c us A c _ _ HA1.out hZ hlen)
  have HK := Lib.hid hbulk
  clear hA hZ hG hB1 hbulk
  go_enter Tryz.func12, Tryz.ntmps12
  go_upto_region 1 with (fail)
  generalize w.alloc _ = wa at HA1 HQ HB1 HG CK ⊢
  have c0 : wa.cell? ⟨w.heap.size, 0, none⟩ = some (.slice A us.length c) := Lib.cell_of_heap HQ.out 0
  go_wp2_with fail
  refine CK.out.mono ?_
  rintro e w1 ⟨rfl, hb⟩
  by_cases h0 : unitF us = 0
  case neg =>
    have e1 : (unitF us != 0) = true := by simpa using h0
    have HB2 := Lib.hid (HB1.out.trans (hb.mono HB1.out.size))
    have es : prS us = ⟨#[]⟩ := by unfold prS; rw [if_pos h0]
    have ee : prE us = unitF us := by unfold prE; rw [if_pos h0]
    have ES := Lib.hid es; have EE := Lib.hid ee
    clear h0 hb c0 es ee
    go_wp2_with fail
    go_ret2
    exact ⟨by rw [ES.out, EE.out]; rfl, HB2.out⟩
  have HV := Lib.hid (unitF_each h0).2
  have HL := Lib.hid (HK.out h0)
  have HE := Lib.hid h0
  rw [h0]
  clear h0
  have HQ1 := Lib.hid ((hb.block _ (lt_of_some HQ.out)).trans HQ.out)
  have HB2 := Lib.hid (HB1.out.trans (hb.mono HB1.out.size))
  have HG1 := Lib.hid (HG.out.to hb)
  have hwz : w.heap.size < w1.heap.size := Nat.lt_of_lt_of_le (lt_of_some HQ.out) hb.size
  have HA2 : Hid (FnsIn w1 (fun g => g < w1.heap.size) (.slice A us.length c) us) := Lib.hid (HA1.out.keep fun g h1 h2 => ⟨by omega, Nat.lt_of_lt_of_le h2 hb.size, hb.block g h2⟩)
  clear hb c0 HQ HB1 HG CK HA1 HK
  have HR0 : Hid (PrR w1 (w1.alloc (.cells #[.pointer none, .slice none 0 0] 102)) w1.heap.size us 0) := Lib.hid ⟨(WrF.start HG1.out).eq (by simp [unPc, pcsT_nil]), fun _ => heap_alloc_new w1 _⟩
  have c0 : (w1.alloc (.cells #[.pointer none, .slice none 0 0] 102)).cell? ⟨w.heap.size, 0, none⟩ = some (.slice A us.length c) := by
    have := Lib.cell_of_heap ((heap_alloc_old w1 (.cells #[.pointer none, .slice none 0 0] 102) hwz).trans HQ1.out) 0
    exact this
  go_upto_region 5 with (fail)
  generalize w1.alloc _ = wb at HR0 c0 ⊢
  go_wp2_with fail
  clear c0
  go_loopw [20] (fun i wr => ∃ j : Nat, j ≤ us.length ∧ i = .int .i64 j ∧ Hid (PrR w1 wr w1.heap.size us j)) (fun i _ => us.length - (intOf i).toNat)
  case atStart => exact ⟨0, Nat.zero_le _, rfl, HR0⟩
  case round =>
    obtain ⟨j, hj, rfl, HR⟩ := hrel
    by_cases hlt : j < us.length
    · obtain ⟨f, hf⟩ : ∃ f, us[j]? = some f := ⟨_, List.getElem?_eq_getElem hlt⟩
      obtain ⟨g, off, An, cn, At, ct, Ab, cb, rfl, hg, hkn, hkt, hkb, hc⟩ := HA2.out.at j f hf
      have b0 := (HR.out.1.bel.cell (p := ⟨g, off + j * 6, none⟩) hg).trans (hc 0 _ rfl)
      have b1 := (HR.out.1.bel.cell (p := ⟨g, off + j * 6 + 1, none⟩) hg).trans (hc 1 _ rfl)
      have b2 := (HR.out.1.bel.cell (p := ⟨g, off + j * 6 + 2, none⟩) hg).trans (hc 2 _ rfl)
      have b3 := (HR.out.1.bel.cell (p := ⟨g, off + j * 6 + 3, none⟩) hg).trans (hc 3 _ rfl)
      have b4 := (HR.out.1.bel.cell (p := ⟨g, off + j * 6 + 4, none⟩) hg).trans (hc 4 _ rfl)
      have b5 := (HR.out.1.bel.cell (p := ⟨g, off + j * 6 + 5, none⟩) hg).trans (hc 5 _ rfl)
      have HVf := Lib.hid (HV.out f (List.mem_of_getElem? hf))
      have HKN := Lib.hid hkn; have HKT := Lib.hid hkt; have HKB := Lib.hid hkb
      have HT := Lib.hid (tx_un us j f hf); have HT2 := Lib.hid (tx_un_le us (j + 1))
      have HTF := Lib.hid (tx_fn f)
      clear hf hkn hkt hkb hc hg
      have k0 : (0 : Int) ≤ (j : Int) := by omega
      have k1 : (j : Int) < (us.length : Int) := by omega
      go_upto_region 8 with (fail)
      clear b0 b1 b2 b3 b4 b5
      have HQf := Lib.hid (heap_alloc_new wr (.cells #[.string f.name, .slice An f.names.length cn, .slice At f.types.length ct, .int .i64 f.out, .slice Ab f.body.length cb, .int .i64 f.pos] 32))
      have HW := Lib.hid (HR.out.1.al (.cells #[.string f.name, .slice An f.names.length cn, .slice At f.types.length ct, .int .i64 f.out, .slice Ab f.body.length cb, .int .i64 f.pos] 32))
      clear HR
      generalize wr.alloc _ = wa at HQf HW ⊢
      generalize wr.heap.size = nb at HQf ⊢
      obtain ⟨l0, hl0⟩ : ∃ l0, pcsT (unPc (us.take j)) = l0 := ⟨_, rfl⟩
      rw [hl0] at HW HT
      clear hl0
      have HB : Hid (l0.length + (pcsT (fnPc f)).length ≤ 140737488355328) := Lib.hid (by have h1 := HT.out; have h2 := HT2.out; have h3 := HL.out; rw [h1, List.length_append] at h2; omega)
      have hn6 := HVf.out.six
      have hnz : f.name.size ≤ 16 := by have := name_le HVf.out.name; rwa [Array.length_toList] at this
      have hs1 : ¬ 9223372036854775807 < 4 + f.name.size := by omega
      have hs2 : ¬ 9223372036854775807 < 4 + f.name.size + 1 := by omega
      obtain ⟨⟨c0, c1, c2, c3, c4, c5⟩, -⟩ := facts6 HQf.out
      have HWd := Lib.hid HW.out.dr
      go_region_law (first | (go_simp; go_at_call 41; refine (wr_c _ _ _ _ _ HWd.out.reb (by have := HB.out; have hta : f.name.data.toList.length = f.name.size := Array.length_toList; rw [HTF.out] at this; simp only [app_toL, brT_len, ByteArray.size_append, sz_mk, List.size_toArray, List.length_append, List.length_cons, List.length_nil] at this ⊢; omega)).mono ?_; rintro e w2 ⟨rfl, hw⟩))
      all_goals
        have HQ2 := Lib.hid (hw.blk HQf.out (by decide) (by decide))
        obtain ⟨l1, hl1⟩ : ∃ l1 : Bs, l0 ++ ([102, 117, 110, 32] ++ f.name.data.toList ++ [40]) = l1 := ⟨_, rfl⟩
        have HL1 := Lib.hid hl1
        have HW2 : Hid (WrF w1 w2 w1.heap.size (l1 ++ pcsT (paPc (f.names.take 0) (f.types.take 0)))) := Lib.hid ((HWd.out.tr hw).eq (by rw [← hl1]; simp [paPc, pcsT_nil]))
        clear hw c0 c1 c2 c3 c4 c5 hl1 hs1 hs2 HW HWd
        obtain ⟨⟨c0, c1, c2, c3, c4, c5⟩, -⟩ := facts6 HQ2.out
        go_wp2_with fail
        clear c0 c1 c2 c3 c4 c5
        have hcut : True := trivial
        go_loopw [35] (fun i wq => ∃ q : Nat, q ≤ f.names.length ∧ i = .int .i64 q ∧ Hid (WrF w1 wq w1.heap.size (l1 ++ pcsT (paPc (f.names.take q) (f.types.take q)))) ∧ Hid (wq.heap[nb]? = some (.cells #[.string f.name, .slice An f.names.length cn, .slice At f.types.length ct, .int .i64 f.out, .slice Ab f.body.length cb, .int .i64 f.pos] 32 (0, 0)))) (fun i _ => f.names.length - (intOf i).toNat)
        case atStart => exact ⟨0, Nat.zero_le _, rfl, HW2, HQ2⟩
        case round =>
          clear HW2 HQ2
          obtain ⟨q, hq, rfl, HWq, HQq⟩ := hrel
          by_cases hlt2 : q < f.names.length
          · obtain ⟨n, hn⟩ : ∃ n, f.names[q]? = some n := ⟨_, List.getElem?_eq_getElem hlt2⟩
            obtain ⟨t, ht⟩ : ∃ t, f.types[q]? = some t := ⟨_, List.getElem?_eq_getElem (by have := HVf.out.len; omega)⟩
            obtain ⟨gn, on, rfl, hgn, hcn⟩ := HKN.out.at q n hn
            obtain ⟨gt, ot, rfl, hgt, hct⟩ := HKT.out.at q t ht
            have HX := Lib.hid (tx_pa f.names f.types q n t hn ht); have HX2 := Lib.hid (tx_pa_le f.names f.types HVf.out.len (q + 1))
            have kn := (HWq.out.bel.cell (p := ⟨gn, on + q, none⟩) hgn).trans hcn
            have HCT := Lib.hid hct; have HGT := Lib.hid hgt
            have hnz2 : n.size ≤ 16 := by have := name_le (HVf.out.names n (List.mem_of_getElem? hn)); rwa [Array.length_toList] at this
            have q0 : (0 : Int) ≤ (q : Int) := by omega
            have q1 : (q : Int) < (f.names.length : Int) := by omega
            have q2 : (q : Int) < (f.types.length : Int) := by have := HVf.out.len; omega
            have HBq : Hid (l1.length + (pcsT (paPc (f.names.take (q + 1)) (f.types.take (q + 1)))).length ≤ 140737488355328) := Lib.hid (by have := HB.out; have h1 := HX2.out; rw [HTF.out] at this; rw [← HL1.out]; simp only [app_toL, brT_len, List.length_append, List.length_cons, List.length_nil] at this ⊢; omega)
            clear hcn hn ht hct hgn hgt
            go_upto_region 12 with (fail)
            clear kn
            by_cases hq0 : 0 < q
            · have hq0' : (0 : Int) < (q : Int) := by omega
              rw [if_pos hq0] at HX
              clear hq0
              go_wp2_with fail
              refine (wr_c _ _ _ _ _ HWq.out.reb (by have h1 := HX.out; have h2 := HBq.out; rw [h1] at h2; simp only [List.length_append, List.length_cons, List.length_nil] at h2 ⊢; show _ + 2 ≤ _; omega)).mono ?_
              rintro e w3 ⟨rfl, hw⟩
              have HQ3 := Lib.hid (hw.blk HQq.out (by decide) (by decide))
              have HW3 := Lib.hid (HWq.out.tr hw)
              clear hw
              have kt := (HW3.out.bel.cell (p := ⟨gt, ot + q, none⟩) HGT.out).trans HCT.out
              obtain ⟨⟨c0, c1, c2, c3, c4, c5⟩, -⟩ := facts6 HQ3.out
              obtain ⟨s, hs⟩ : ∃ s, tyS t = s := ⟨_, rfl⟩
              have hsz : s.size ≤ 6 := hs ▸ tyS_len t
              have hsl := Lib.hid (hs ▸ tyS_l t)
              have hs1 : ¬ 9223372036854775807 < n.size + s.size := by omega
              have HS := Lib.hid hs
              have HWd := Lib.hid HW3.out.dr
              clear hs
              go_upto_region 14 with (fail)
              go_region_law (first | (go_simp; first
                | (go_at_call 42; refine (typed_c t s HS.out _).mono ?_; rintro e w8 ⟨rfl, rfl⟩)
                | (go_at_call 41; refine (wr_c _ _ _ _ _ HWd.out.reb (by have h1 := HX.out; have h2 := HBq.out; rw [h1, ← hsl.out] at h2; have hta : n.data.toList.length = n.size := Array.length_toList; have htb : s.data.toList.length = s.size := Array.length_toList; simp only [app_toL, brT_len, ByteArray.size_append, sz_mk, List.size_toArray, List.length_append, List.length_cons, List.length_nil] at h2 ⊢; omega)).mono ?_; rintro e w4 ⟨rfl, hw⟩)))
              all_goals
                have HQ4 := Lib.hid (hw.blk HQ3.out (by decide) (by decide))
                have HW4 := Lib.hid ((HWd.out.tr hw).eq (l' := l1 ++ pcsT (paPc (f.names.take (q + 1)) (f.types.take (q + 1)))) (by rw [HX.out, ← hsl.out]; simp [List.append_assoc]))
                clear hw c0 c1 c2 c3 c4 c5 kt
                go_wp2_with fail
                go_roundw
                case rel => exact ⟨q + 1, by omega, by go_num, HW4, HQ4⟩
                case measure => simp [intOf]; omega
            · obtain rfl : q = 0 := by omega
              rw [if_neg hq0] at HX
              clear hq0
              have kt := (HWq.out.bel.cell (p := ⟨gt, ot, none⟩) HGT.out).trans (by simpa using HCT.out)
              have q2' : 0 < f.types.length := by omega
              obtain ⟨⟨c0, c1, c2, c3, c4, c5⟩, -⟩ := facts6 HQq.out
              obtain ⟨s, hs⟩ : ∃ s, tyS t = s := ⟨_, rfl⟩
              have hsz : s.size ≤ 6 := hs ▸ tyS_len t
              have hsl := Lib.hid (hs ▸ tyS_l t)
              have hs1 : ¬ 9223372036854775807 < n.size + s.size := by omega
              have HS := Lib.hid hs
              have HWd := Lib.hid HWq.out.dr
              clear hs
              go_upto_region 14 with (fail)
              go_region_law (first | (go_simp; first
                | (go_at_call 42; refine (typed_c t s HS.out _).mono ?_; rintro e w8 ⟨rfl, rfl⟩)
                | (go_at_call 41; refine (wr_c _ _ _ _ _ HWd.out.reb (by have h1 := HX.out; have h2 := HBq.out; rw [h1, ← hsl.out] at h2; have hta : n.data.toList.length = n.size := Array.length_toList; have htb : s.data.toList.length = s.size := Array.length_toList; simp only [app_toL, brT_len, ByteArray.size_append, sz_mk, List.size_toArray, List.length_append, List.length_cons, List.length_nil] at h2 ⊢; omega)).mono ?_; rintro e w4 ⟨rfl, hw⟩)))
              all_goals
                have HQ4 := Lib.hid (hw.blk HQq.out (by decide) (by decide))
                have HW4 := Lib.hid ((HWd.out.tr hw).eq (l' := l1 ++ pcsT (paPc (f.names.take (0 + 1)) (f.types.take (0 + 1)))) (by rw [HX.out, ← hsl.out]; simp [List.append_assoc]))
                clear hw c0 c1 c2 c3 c4 c5 kt
                go_wp2_with fail
                go_roundw
                case rel => exact ⟨0 + 1, by omega, by go_num, HW4, HQ4⟩
                case measure => simp [intOf]; omega
          · have hqe : q = f.names.length := by omega
            have HW5 := Lib.hid (show WrF w1 wr w1.heap.size (l1 ++ pcsT (paPc f.names f.types)) by have := HWq.out; rwa [hqe, List.take_length, HVf.out.len, List.take_length] at this)
            clear hqe HWq
            obtain ⟨⟨c0, c1, c2, c3, c4, c5⟩, -⟩ := facts6 HQq.out
            obtain ⟨s, hs⟩ : ∃ s, tyS f.out = s := ⟨_, rfl⟩
            have hsz : s.size ≤ 6 := hs ▸ tyS_len f.out
            have hsl := Lib.hid (hs ▸ tyS_l f.out)
            have hs1 : ¬ 9223372036854775807 < 1 + s.size := by omega
            have hs2 : ¬ 9223372036854775807 < 1 + s.size + 1 := by omega
            have HS := Lib.hid hs
            have HWd := Lib.hid HW5.out.dr
            have HBe : Hid (l1.length + (pcsT (paPc f.names f.types)).length + 8 + (brT (pcsT (stPc f.body))).length + 1 ≤ 140737488355328 + 8) := Lib.hid (by have := HB.out; rw [HTF.out] at this; rw [← HL1.out]; simp only [app_toL, List.length_append, List.length_cons, List.length_nil] at this ⊢; omega)
            have HBs : Hid (l1.length + (pcsT (paPc f.names f.types)).length + (1 + s.data.toList.length + 1) + (brT (pcsT (stPc f.body))).length + 1 ≤ 140737488355328) := Lib.hid (by have := HB.out; rw [HTF.out, ← hsl.out] at this; rw [← HL1.out]; simp only [app_toL, List.length_append, List.length_cons, List.length_nil] at this ⊢; omega)
            clear hs
            go_upto_region 16 with (fail)
            go_region_law (first | (go_simp; first
              | (go_at_call 42; refine (typed_c f.out s HS.out _).mono ?_; rintro e w8 ⟨rfl, rfl⟩)
              | (go_at_call 41; refine (wr_c _ _ _ _ _ HWd.out.reb (by have h2 := HBs.out; have htb : s.data.toList.length = s.size := Array.length_toList; simp only [app_toL, brT_len, ByteArray.size_append, sz_mk, List.size_toArray, List.length_append, List.length_cons, List.length_nil] at h2 ⊢; omega)).mono ?_; rintro e w6 ⟨rfl, hw⟩)))
            all_goals
              have HQ6 := Lib.hid (hw.blk HQq.out (by decide) (by decide))
              have HW6 := Lib.hid ((HWd.out.tr hw).eq (l' := l1 ++ pcsT (paPc f.names f.types) ++ ([41] ++ s.data.toList ++ [32])) (by simp [List.append_assoc]))
              clear hw c0 c1 c2 c3 c4 c5
              obtain ⟨⟨c0, c1, c2, c3, c4, c5⟩, -⟩ := facts6 HQ6.out
              go_wp2_with fail
              refine (prb_r 40 f.body Ab cb (fun g => g < w1.heap.size) _ _ _ HVf.out.body (PrF_stms HW6.out (fun _ h => h) HKB.out) (fun _ h => h) HW6.out.reb (by have h2 := HBs.out; simp only [List.length_append, List.length_cons, List.length_nil] at h2 ⊢; omega)).mono ?_
              rintro e w7 ⟨rfl, hw⟩
              have HW7 := Lib.hid (HW6.out.tr hw)
              clear hw c0 c1 c2 c3 c4 c5
              go_wp2_with fail
              refine (wr_c _ _ _ _ _ HW7.out.reb (by have h2 := HBs.out; simp only [List.length_append, List.length_cons, List.length_nil] at h2 ⊢; show _ + 1 ≤ _; omega)).mono ?_
              rintro e w9 ⟨rfl, hw⟩
              have HR9 : Hid (PrR w1 w9 w1.heap.size us (j + 1)) := Lib.hid ⟨(HW7.out.tr hw).eq (by rw [HT.out, HTF.out, ← HL1.out, ← hsl.out]; simp [List.append_assoc]), fun h => by omega⟩
              clear hw
              go_wp2_with fail
              go_roundw
              case rel => exact ⟨j + 1, by omega, by go_num, HR9⟩
              case measure => simp [intOf]; omega
    · have hje : j = us.length := by omega
      have HWe := Lib.hid (show WrF w1 wr w1.heap.size (pcsT (unPc us)) by have := HR.out.1; rwa [hje, List.take_length] at this)
      have HN : Hid (pcsT (unPc us) = [] → ∃ p, wr.heap[w1.heap.size]? = some (.cells #[p, .slice none 0 0] 102 (0, 0))) := Lib.hid (fun h => by
        cases us with
        | nil => exact ⟨_, HR.out.2 (by simpa using hje)⟩
        | cons f l => rw [unPc, pcsT_app, tx_fn] at h; simp at h)
      have HB3 := Lib.hid (HB2.out.trans (HWe.out.bel.mono HB2.out.size))
      clear hje HR
      by_cases h4 : 4000 < (pcsT (unPc us)).length
      · have es : prS us = ⟨#[]⟩ := by unfold prS; rw [if_neg (by rw [HE.out]; decide), if_pos h4]
        have ee : prE us = 2 := by unfold prE; rw [if_neg (by rw [HE.out]; decide), if_pos h4]
        have ES := Lib.hid es; have EE := Lib.hid ee
        have h4' : (4000 : Int) < ((pcsT (unPc us)).length : Int) := by omega
        clear h4 es ee
        have hlen := wLen_any w1.heap.size w1.heap.size _ wr HWe.out.bl
        rw [Lib.byteCells_length] at hlen
        go_wp2_with fail
        refine hlen.mono ?_
        rintro e w2 ⟨rfl, rfl⟩
        go_wp2_with fail
        go_ret2
        exact ⟨by rw [ES.out, EE.out]; rfl, HB3.out⟩
      · have es : prS us = ⟨(pcsT (unPc us)).toArray⟩ := by unfold prS; rw [if_neg (by rw [HE.out]; decide), if_neg h4]
        have ee : prE us = 0 := by unfold prE; rw [if_neg (by rw [HE.out]; decide), if_neg h4]
        have ES := Lib.hid es; have EE := Lib.hid ee
        have h4' : ((pcsT (unPc us)).length : Int) ≤ 4000 := by omega
        clear h4 es ee
        have hlen := wLen_any w1.heap.size w1.heap.size _ wr HWe.out.bl
        rw [Lib.byteCells_length] at hlen
        go_wp2_with fail
        refine hlen.mono ?_
        rintro e w2 ⟨rfl, rfl⟩
        go_wp2_with fail
        refine (wText_c _ _ _ _ HWe.out HN.out).mono ?_
        rintro e w2 ⟨rfl, hb⟩
        go_wp2_with fail
        go_ret2
        exact ⟨by rw [ES.out, EE.out]; rfl, HB3.out.trans (hb.mono (by have := HB2.out.size; omega))⟩
end Go.Proofs.YtmngofgminlloaaGreatDoor

namespace Go.Proofs.YtmngofgminlloaaGreatDoor
open Go.RowKit Tw

section
variable {ws : List Wd} {i : Nat}
end
end Go.Proofs.YtmngofgminlloaaGreatDoor

namespace Go.Proofs.YtmngofgminlloaaGreatDoor
open Go.RowKit Tw

end Go.Proofs.YtmngofgminlloaaGreatDoor

namespace Go.Proofs.YtmngofgminlloaaGreatDoor
open Go.RowKit Tw

theorem Rq.place {w : World} {rb : Nat} {v : Value} {ws : List Wd} {i en : Nat} (h : Rq w rb v ws i en) : placeOf w rb = i := by
  unfold placeOf; rw [h.c1]; simp [intOf]
theorem rq_app {w w' : World} {rb : Nat} {v : Value} {ws : List Wd} {i en : Nat} {row : Option Nat} (h : Rq w rb v ws i en) (hg : w.grownBy w' row) (hk : ∀ k, row = some k → rb < k) : Rq w' rb v ws i en :=
  ⟨(hg.block rb h.lt (fun e => by have := hk rb e.symm; omega)).trans h.blk, h.row.same fun j hj => hg.block j (Nat.lt_trans hj h.lt) (fun e => by have := hk j e.symm; omega), h.len, h.pos⟩

end Go.Proofs.YtmngofgminlloaaGreatDoor

namespace Go.Proofs.YtmngofgminlloaaGreatDoor
open Go.RowKit Tw

end Go.Proofs.YtmngofgminlloaaGreatDoor

namespace Go.Proofs.YtmngofgminlloaaGreatDoor
open Go.RowKit Tw

end Go.Proofs.YtmngofgminlloaaGreatDoor

namespace Go.Proofs.YtmngofgminlloaaGreatDoor
open Go.RowKit Tw

/-- The frame of stmt(): the reader; the cells of its result (b0), of its statement (b1); what has turned since w0. -/
structure FrQ (w0 w : World) (rb b0 b1 : Nat) (v : Value) (ws : List Wd) (i en : Nat) (u0 u1 u2 u3 u4 u5 u6 u7 u8 u9 : Value) : Prop where
  rd : Rq w rb v ws i en
  res : w.heap[b0]? = some (.cells #[.int .i64 0, .string ⟨#[]⟩, .int .i64 0, .int .i64 0, .string ⟨#[]⟩, .slice none 0 0, .int .i64 0, .slice none 0 0, .slice none 0 0, .int .i64 0] 188 (0, 0))
  ex : w.heap[b1]? = some (.cells #[u0, u1, u2, u3, u4, u5, u6, u7, u8, u9] 188 (0, 0))
  gr : w0.grownBy w (some rb)
  gl : Glob w
  r0 : 10 < rb
  z0 : rb < w0.heap.size
  z1 : w0.heap.size ≤ b0
  z2 : b0 ≠ b1
  z3 : b1 < w.heap.size
  z4 : w0.heap.size ≤ b1
  z5 : b0 < w.heap.size
section
variable {w0 w w' : World} {rb b0 b1 : Nat} {v : Value} {ws : List Wd} {i en : Nat} {u0 u1 u2 u3 u4 u5 u6 u7 u8 u9 : Value}
theorem FrQ.step {i' : Nat} (h : FrQ w0 w rb b0 b1 v ws i en u0 u1 u2 u3 u4 u5 u6 u7 u8 u9) (hr : Rq w' rb v ws i' en) (hg : w.grownBy w' (some rb)) : FrQ w0 w' rb b0 b1 v ws i' en u0 u1 u2 u3 u4 u5 u6 u7 u8 u9 := by
  have h0 := h.z0; have h1 := h.z1; have h2 := h.z2; have h3 := h.z3; have h4 := h.z4; have h5 := h.z5
  exact ⟨hr, (hg.block b0 (by omega) (by simp; omega)).trans h.res, (hg.block b1 h3 (by simp; omega)).trans h.ex, grown_trans h.gr hg, h.gl.of hg h.r0, h.r0, h0, h1, h2, Nat.lt_of_lt_of_le h3 hg.size, h4, Nat.lt_of_lt_of_le h5 hg.size⟩
theorem FrQ.below (h : FrQ w0 w rb b0 b1 v ws i en u0 u1 u2 u3 u4 u5 u6 u7 u8 u9) (hb : Below w.heap.size w w') : FrQ w0 w' rb b0 b1 v ws i en u0 u1 u2 u3 u4 u5 u6 u7 u8 u9 :=
  h.step (h.rd.keep hb) (grown_of_below hb _)
theorem FrQ.set {v0 v1 v2 v3 v4 v5 v6 v7 v8 v9 : Value} (h : FrQ w0 w rb b0 b1 v ws i en u0 u1 u2 u3 u4 u5 u6 u7 u8 u9) (hg : w.grownBy w' (some b1)) (he : w'.heap[b1]? = some (.cells #[v0, v1, v2, v3, v4, v5, v6, v7, v8, v9] 188 (0, 0))) : FrQ w0 w' rb b0 b1 v ws i en v0 v1 v2 v3 v4 v5 v6 v7 v8 v9 := by
  have h0 := h.z0; have h1 := h.z1; have h2 := h.z2; have h3 := h.z3; have h4 := h.z4; have h5 := h.z5; have hz := h.gr.size
  exact ⟨h.rd.grown hg (by omega), (hg.block b0 (by omega) (by simp; omega)).trans h.res, he, grown_new h.gr hg (by omega), h.gl.same hg.size (fun g hg' => hg.block g (by have := h.r0; omega) (by simp; have := h.r0; omega)), h.r0, h0, h1, h2, Nat.lt_of_lt_of_le h3 hg.size, h4, Nat.lt_of_lt_of_le h5 hg.size⟩
theorem FrQ.s0 (h : FrQ w0 w rb b0 b1 v ws i en u0 u1 u2 u3 u4 u5 u6 u7 u8 u9) (x : Value) : FrQ w0 (w.setCell ⟨b1, 0, none⟩ x) rb b0 b1 v ws i en x u1 u2 u3 u4 u5 u6 u7 u8 u9 := h.set (grown_set _ _ _ _) (by simpa using heap_setCell_same w b1 0 _ _ x h.ex)
theorem FrQ.s1 (h : FrQ w0 w rb b0 b1 v ws i en u0 u1 u2 u3 u4 u5 u6 u7 u8 u9) (x : Value) : FrQ w0 (w.setCell ⟨b1, 1, none⟩ x) rb b0 b1 v ws i en u0 x u2 u3 u4 u5 u6 u7 u8 u9 := h.set (grown_set _ _ _ _) (by simpa using heap_setCell_same w b1 1 _ _ x h.ex)
theorem FrQ.s2 (h : FrQ w0 w rb b0 b1 v ws i en u0 u1 u2 u3 u4 u5 u6 u7 u8 u9) (x : Value) : FrQ w0 (w.setCell ⟨b1, 2, none⟩ x) rb b0 b1 v ws i en u0 u1 x u3 u4 u5 u6 u7 u8 u9 := h.set (grown_set _ _ _ _) (by simpa using heap_setCell_same w b1 2 _ _ x h.ex)
theorem FrQ.s3 (h : FrQ w0 w rb b0 b1 v ws i en u0 u1 u2 u3 u4 u5 u6 u7 u8 u9) (x : Value) : FrQ w0 (w.setCell ⟨b1, 3, none⟩ x) rb b0 b1 v ws i en u0 u1 u2 x u4 u5 u6 u7 u8 u9 := h.set (grown_set _ _ _ _) (by simpa using heap_setCell_same w b1 3 _ _ x h.ex)
theorem FrQ.s4 (h : FrQ w0 w rb b0 b1 v ws i en u0 u1 u2 u3 u4 u5 u6 u7 u8 u9) (x : Value) : FrQ w0 (w.setCell ⟨b1, 4, none⟩ x) rb b0 b1 v ws i en u0 u1 u2 u3 x u5 u6 u7 u8 u9 := h.set (grown_set _ _ _ _) (by simpa using heap_setCell_same w b1 4 _ _ x h.ex)
theorem FrQ.s5 (h : FrQ w0 w rb b0 b1 v ws i en u0 u1 u2 u3 u4 u5 u6 u7 u8 u9) (x : Value) : FrQ w0 (w.setCell ⟨b1, 5, none⟩ x) rb b0 b1 v ws i en u0 u1 u2 u3 u4 x u6 u7 u8 u9 := h.set (grown_set _ _ _ _) (by simpa using heap_setCell_same w b1 5 _ _ x h.ex)
theorem FrQ.s6 (h : FrQ w0 w rb b0 b1 v ws i en u0 u1 u2 u3 u4 u5 u6 u7 u8 u9) (x : Value) : FrQ w0 (w.setCell ⟨b1, 6, none⟩ x) rb b0 b1 v ws i en u0 u1 u2 u3 u4 u5 x u7 u8 u9 := h.set (grown_set _ _ _ _) (by simpa using heap_setCell_same w b1 6 _ _ x h.ex)
theorem FrQ.s7 (h : FrQ w0 w rb b0 b1 v ws i en u0 u1 u2 u3 u4 u5 u6 u7 u8 u9) (x : Value) : FrQ w0 (w.setCell ⟨b1, 7, none⟩ x) rb b0 b1 v ws i en u0 u1 u2 u3 u4 u5 u6 x u8 u9 := h.set (grown_set _ _ _ _) (by simpa using heap_setCell_same w b1 7 _ _ x h.ex)
theorem FrQ.s8 (h : FrQ w0 w rb b0 b1 v ws i en u0 u1 u2 u3 u4 u5 u6 u7 u8 u9) (x : Value) : FrQ w0 (w.setCell ⟨b1, 8, none⟩ x) rb b0 b1 v ws i en u0 u1 u2 u3 u4 u5 u6 u7 x u9 := h.set (grown_set _ _ _ _) (by simpa using heap_setCell_same w b1 8 _ _ x h.ex)
theorem FrQ.start (hR : Rq w rb v ws i en) (hG : Glob w) (hr : 10 < rb) (hg : w0.grownBy w (some rb)) (h0 : rb < w0.heap.size) (h1 : w0.heap.size ≤ b0) (h2 : b0 < w.heap.size)
    (hz : w.heap[b0]? = some (.cells #[.int .i64 0, .string ⟨#[]⟩, .int .i64 0, .int .i64 0, .string ⟨#[]⟩, .slice none 0 0, .int .i64 0, .slice none 0 0, .slice none 0 0, .int .i64 0] 188 (0, 0))) (u0 u1 u2 u3 u4 u5 u6 u7 u8 u9 : Value) :
    FrQ w0 (w.alloc (.cells #[u0, u1, u2, u3, u4, u5, u6, u7, u8, u9] 188)) rb b0 w.heap.size v ws i en u0 u1 u2 u3 u4 u5 u6 u7 u8 u9 :=
  ⟨hR.keep ((Below.refl _ _).alloc (Nat.le_refl _) _), (heap_alloc_old w _ h2).trans hz, heap_alloc_new w _, grown_trans hg (grown_of_below ((Below.refl _ _).alloc (Nat.le_refl _) _) _), hG.to ((Below.refl _ _).alloc (Nat.le_refl _) _), hr, h0, h1, Nat.ne_of_lt h2, by simp, hg.size, by simp; omega⟩
end

end Go.Proofs.YtmngofgminlloaaGreatDoor

namespace Go.Proofs.YtmngofgminlloaaGreatDoor
open Go.RowKit Tw

end Go.Proofs.YtmngofgminlloaaGreatDoor

namespace Go.Proofs.YtmngofgminlloaaGreatDoor
open Go.RowKit Tw

/-- The frame of one function: what is written of it lies in bf; its rows lie in new blocks. -/
structure FrG (wr W : World) (rb b0 bf base : Nat) (v : Value) (ws : List Wd) (i en : Nat) (nm : ByteArray) (An : Option Addr) (cn : Nat) (ns : List ByteArray) (At : Option Addr) (ct : Nat) (ts : List Int) (out : Int) (vb : Value) (pos : Int) : Prop where
  rd : Rq W rb v ws i en
  fb : W.heap[bf]? = some (.cells #[.string nm, .slice An ns.length cn, .slice At ts.length ct, .int .i64 out, vb, .int .i64 pos] 32 (0, 0))
  res : W.heap[b0]? = some (.cells #[.string ⟨#[]⟩, .slice none 0 0, .slice none 0 0, .int .i64 0, .slice none 0 0, .int .i64 0] 32 (0, 0))
  gr : wr.grownBy W (some rb)
  gl : Glob W
  rn : GRow strElem W base 9 1 (.slice An ns.length cn) ns
  rt : GRow intElem W base 3 1 (.slice At ts.length ct) ts
  ne : ∀ g, (Value.slice An ns.length cn).ownBlock = some g → (Value.slice At ts.length ct).ownBlock ≠ some g
  r0 : 10 < rb
  z0 : rb < wr.heap.size
  z1 : wr.heap.size ≤ bf
  zb : wr.heap.size ≤ b0 ∧ b0 < bf
  z2 : bf < base
  z3 : base ≤ W.heap.size
section
variable {wr W W' : World} {rb b0 bf base : Nat} {v : Value} {ws : List Wd} {i en : Nat} {nm : ByteArray} {An : Option Addr} {cn : Nat} {ns : List ByteArray} {At : Option Addr} {ct : Nat} {ts : List Int} {out : Int} {vb : Value} {pos : Int}
theorem FrG.step {i' : Nat} (h : FrG wr W rb b0 bf base v ws i en nm An cn ns At ct ts out vb pos) (hr : Rq W' rb v ws i' en) (hg : W.grownBy W' (some rb)) : FrG wr W' rb b0 bf base v ws i' en nm An cn ns At ct ts out vb pos := by
  have h0 := h.z0; have h1 := h.z1; have h2 := h.z2; have h3 := h.z3; have hb := h.zb
  exact ⟨hr, (hg.block bf (by omega) (by simp; omega)).trans h.fb, (hg.block b0 (by omega) (by simp; omega)).trans h.res, grown_trans h.gr hg, h.gl.of hg h.r0, h.rn.kept hg (fun k e => .inl (by cases e; omega)), h.rt.kept hg (fun k e => .inl (by cases e; omega)), h.ne, h.r0, h0, h1, h.zb, h2, Nat.le_trans h3 hg.size⟩
theorem FrG.below (h : FrG wr W rb b0 bf base v ws i en nm An cn ns At ct ts out vb pos) (hb : Below W.heap.size W W') : FrG wr W' rb b0 bf base v ws i en nm An cn ns At ct ts out vb pos := h.step (h.rd.keep hb) (grown_of_below hb _)
/-- A write of a cell of the function's. -/
theorem FrG.cell {x : Value} (h : FrG wr W rb b0 bf base v ws i en nm An cn ns At ct ts out vb pos) (j : Nat) : W.grownBy (W.setCell ⟨bf, j, none⟩ x) (some bf) ∧ Rq (W.setCell ⟨bf, j, none⟩ x) rb v ws i en ∧ wr.grownBy (W.setCell ⟨bf, j, none⟩ x) (some rb) ∧ Glob (W.setCell ⟨bf, j, none⟩ x) ∧ GRow strElem (W.setCell ⟨bf, j, none⟩ x) base 9 1 (.slice An ns.length cn) ns ∧ GRow intElem (W.setCell ⟨bf, j, none⟩ x) base 3 1 (.slice At ts.length ct) ts ∧ (W.setCell ⟨bf, j, none⟩ x).heap[b0]? = some (.cells #[.string ⟨#[]⟩, .slice none 0 0, .slice none 0 0, .int .i64 0, .slice none 0 0, .int .i64 0] 32 (0, 0)) := by
  have h0 := h.z0; have h1 := h.z1; have h2 := h.z2; have h3 := h.z3; have hb := h.zb
  have hg := grown_set W bf j x
  exact ⟨hg, h.rd.grown hg (by omega), grown_new h.gr hg (by omega), h.gl.same hg.size (fun g hg' => hg.block g (by have := h.r0; omega) (by simp; have := h.r0; omega)), h.rn.kept hg (fun k e => .inl (by cases e; omega)), h.rt.kept hg (fun k e => .inl (by cases e; omega)), (hg.block b0 (by omega) (by simp; omega)).trans h.res⟩
theorem FrG.s0 (h : FrG wr W rb b0 bf base v ws i en nm An cn ns At ct ts out vb pos) (x : ByteArray) : FrG wr (W.setCell ⟨bf, 0, none⟩ (.string x)) rb b0 bf base v ws i en x An cn ns At ct ts out vb pos := by
  obtain ⟨h1, h2, h3, h4, h5, h6, h7⟩ := h.cell (x := (.string x)) 0
  exact ⟨h2, by simpa using heap_setCell_same W bf 0 _ _ (.string x) h.fb, h7, h3, h4, h5, h6, h.ne, h.r0, h.z0, h.z1, h.zb, h.z2, Nat.le_trans h.z3 h1.size⟩
theorem FrG.s3 (h : FrG wr W rb b0 bf base v ws i en nm An cn ns At ct ts out vb pos) (x : Int) : FrG wr (W.setCell ⟨bf, 3, none⟩ (.int .i64 x)) rb b0 bf base v ws i en nm An cn ns At ct ts x vb pos := by
  obtain ⟨h1, h2, h3, h4, h5, h6, h7⟩ := h.cell (x := (.int .i64 x)) 3
  exact ⟨h2, by simpa using heap_setCell_same W bf 3 _ _ (.int .i64 x) h.fb, h7, h3, h4, h5, h6, h.ne, h.r0, h.z0, h.z1, h.zb, h.z2, Nat.le_trans h.z3 h1.size⟩
theorem FrG.s4 (h : FrG wr W rb b0 bf base v ws i en nm An cn ns At ct ts out vb pos) (x : Value) : FrG wr (W.setCell ⟨bf, 4, none⟩ x) rb b0 bf base v ws i en nm An cn ns At ct ts out x pos := by
  obtain ⟨h1, h2, h3, h4, h5, h6, h7⟩ := h.cell (x := x) 4
  exact ⟨h2, by simpa using heap_setCell_same W bf 4 _ _ x h.fb, h7, h3, h4, h5, h6, h.ne, h.r0, h.z0, h.z1, h.zb, h.z2, Nat.le_trans h.z3 h1.size⟩
/-- One name more. -/
theorem FrG.name {s : ByteArray} {g cap k : Nat} (h : FrG wr W rb b0 bf base v ws i en nm An cn ns At ct ts out vb pos) (ho : W'.ownsRow base 9 1 (.slice (some ⟨g, 0, none⟩) (ns.length + 1) cap) (ns.length + 1) (ns.flatMap strElem.cells ++ strElem.cells s)) (hg : W.grownBy W' (Value.slice An ns.length cn).ownBlock) (hat : (Value.slice An ns.length cn).ownBlock = some g ∨ g = W.heap.size) (hk : k = ns.length + 1) :
    FrG wr (W'.setCell ⟨bf, 1, none⟩ (.slice (some ⟨g, 0, none⟩) k cap)) rb b0 bf base v ws i en nm (some ⟨g, 0, none⟩) cap (ns ++ [s]) At ct ts out vb pos := by
  subst hk
  have h0 := h.z0; have h1 := h.z1; have h2 := h.z2; have h3 := h.z3; have hb := h.zb
  have hlt := h.rn.1.lt
  have hrow : ∀ k, (Value.slice An ns.length cn).ownBlock = some k → base ≤ k := fun k e => (hlt k e).1
  have hrn : GRow strElem W' base 9 1 (.slice (some ⟨g, 0, none⟩) (ns.length + 1) cap) (ns ++ [s]) := GRow.app (F := fun _ => False) h.rn trivial (fun _ h => h.elim) ho hg hat
  have hrt : GRow intElem W' base 3 1 (.slice At ts.length ct) ts := h.rt.beside (fun _ _ _ => trivial) hg (by
    cases hv : (Value.slice At ts.length ct).ownBlock with
    | none => exact .inl rfl
    | some k => right; intro e; exact h.ne k e.symm hv)
  have hgl : Glob W' := h.gl.same hg.size (fun q hq => hg.block q (by have := h.r0; omega) (fun e => by have := hrow q e.symm; have := h.r0; omega))
  have hset := grown_set W' bf 1 (.slice (some ⟨g, 0, none⟩) (ns.length + 1) cap)
  have hfb : W'.heap[bf]? = some (.cells #[.string nm, .slice An ns.length cn, .slice At ts.length ct, .int .i64 out, vb, .int .i64 pos] 32 (0, 0)) := (hg.block bf (by omega) (fun e => by have := hrow bf e.symm; omega)).trans h.fb
  have hgr : wr.grownBy W' (some rb) := ⟨hg.os.trans h.gr.os, hg.tape.trans h.gr.tape, hg.output.trans h.gr.output, Nat.le_trans h.gr.size hg.size, fun q hq hr => (hg.block q (Nat.lt_of_lt_of_le hq h.gr.size) (fun e => by have := hrow q e.symm; omega)).trans (h.gr.block q hq hr)⟩
  have hrd : Rq W' rb v ws i en := ⟨(hg.block rb h.rd.lt (fun e => by have := hrow rb e.symm; omega)).trans h.rd.blk, h.rd.row.same fun q hq => hg.block q (Nat.lt_trans hq h.rd.lt) (fun e => by have := hrow q e.symm; omega), h.rd.len, h.rd.pos⟩
  have e1 : (ns ++ [s]).length = ns.length + 1 := by simp
  refine ⟨hrd.grown hset (by omega), by rw [e1]; simpa using heap_setCell_same W' bf 1 _ _ (.slice (some ⟨g, 0, none⟩) (ns.length + 1) cap) hfb, (hset.block b0 (by have := hg.size; omega) (by simp; omega)).trans ((hg.block b0 (by omega) (fun e => by have := hrow b0 e.symm; omega)).trans h.res), grown_new hgr hset (by omega), hgl.same hset.size (fun q hq => hset.block q (by have := h.r0; have := hg.size; omega) (by simp; have := h.r0; omega)),
    by rw [e1]; exact hrn.kept hset (fun k e => .inl (by cases e; omega)), hrt.kept hset (fun k e => .inl (by cases e; omega)), ?_, h.r0, h0, h1, h.zb, h2, Nat.le_trans h3 (Nat.le_trans hg.size hset.size)⟩
  intro q hq e
  simp [Value.ownBlock] at hq
  subst hq
  rcases hat with hat | hat
  · exact h.ne g hat e
  · have := (h.rt.1.lt g e).2; omega
/-- One type more. -/
theorem FrG.typ {s : Int} {g cap k : Nat} (h : FrG wr W rb b0 bf base v ws i en nm An cn ns At ct ts out vb pos) (ho : W'.ownsRow base 3 1 (.slice (some ⟨g, 0, none⟩) (ts.length + 1) cap) (ts.length + 1) (ts.flatMap intElem.cells ++ intElem.cells s)) (hg : W.grownBy W' (Value.slice At ts.length ct).ownBlock) (hat : (Value.slice At ts.length ct).ownBlock = some g ∨ g = W.heap.size) (hk : k = ts.length + 1) :
    FrG wr (W'.setCell ⟨bf, 2, none⟩ (.slice (some ⟨g, 0, none⟩) k cap)) rb b0 bf base v ws i en nm An cn ns (some ⟨g, 0, none⟩) cap (ts ++ [s]) out vb pos := by
  subst hk
  have h0 := h.z0; have h1 := h.z1; have h2 := h.z2; have h3 := h.z3; have hb := h.zb
  have hlt := h.rt.1.lt
  have hrow : ∀ k, (Value.slice At ts.length ct).ownBlock = some k → base ≤ k := fun k e => (hlt k e).1
  have hrt : GRow intElem W' base 3 1 (.slice (some ⟨g, 0, none⟩) (ts.length + 1) cap) (ts ++ [s]) := GRow.app (F := fun _ => False) h.rt trivial (fun _ h => h.elim) ho hg hat
  have hrn : GRow strElem W' base 9 1 (.slice An ns.length cn) ns := h.rn.beside (fun _ _ _ => trivial) hg (by
    cases hv : (Value.slice An ns.length cn).ownBlock with
    | none => exact .inl rfl
    | some k => right; intro e; exact h.ne k hv e.symm)
  have hgl : Glob W' := h.gl.same hg.size (fun q hq => hg.block q (by have := h.r0; omega) (fun e => by have := hrow q e.symm; have := h.r0; omega))
  have hset := grown_set W' bf 2 (.slice (some ⟨g, 0, none⟩) (ts.length + 1) cap)
  have hfb : W'.heap[bf]? = some (.cells #[.string nm, .slice An ns.length cn, .slice At ts.length ct, .int .i64 out, vb, .int .i64 pos] 32 (0, 0)) := (hg.block bf (by omega) (fun e => by have := hrow bf e.symm; omega)).trans h.fb
  have hgr : wr.grownBy W' (some rb) := ⟨hg.os.trans h.gr.os, hg.tape.trans h.gr.tape, hg.output.trans h.gr.output, Nat.le_trans h.gr.size hg.size, fun q hq hr => (hg.block q (Nat.lt_of_lt_of_le hq h.gr.size) (fun e => by have := hrow q e.symm; omega)).trans (h.gr.block q hq hr)⟩
  have hrd : Rq W' rb v ws i en := ⟨(hg.block rb h.rd.lt (fun e => by have := hrow rb e.symm; omega)).trans h.rd.blk, h.rd.row.same fun q hq => hg.block q (Nat.lt_trans hq h.rd.lt) (fun e => by have := hrow q e.symm; omega), h.rd.len, h.rd.pos⟩
  have e1 : (ts ++ [s]).length = ts.length + 1 := by simp
  refine ⟨hrd.grown hset (by omega), by rw [e1]; simpa using heap_setCell_same W' bf 2 _ _ (.slice (some ⟨g, 0, none⟩) (ts.length + 1) cap) hfb, (hset.block b0 (by have := hg.size; omega) (by simp; omega)).trans ((hg.block b0 (by omega) (fun e => by have := hrow b0 e.symm; omega)).trans h.res), grown_new hgr hset (by omega), hgl.same hset.size (fun q hq => hset.block q (by have := h.r0; have := hg.size; omega) (by simp; have := h.r0; omega)),
    hrn.kept hset (fun k e => .inl (by cases e; omega)), by rw [e1]; exact hrt.kept hset (fun k e => .inl (by cases e; omega)), ?_, h.r0, h0, h1, h.zb, h2, Nat.le_trans h3 (Nat.le_trans hg.size hset.size)⟩
  intro q hq e
  simp [Value.ownBlock] at e
  subst e
  rcases hat with hat | hat
  · exact h.ne g hq hat
  · have := (h.rn.1.lt g hq).2; omega
end
theorem grown6 (w : World) (b : Nat) (v0 v1 v2 v3 v4 v5 : Value) : w.grownBy ((((((w.setCell ⟨b, 0, none⟩ v0).setCell ⟨b, 1, none⟩ v1).setCell ⟨b, 2, none⟩ v2).setCell ⟨b, 3, none⟩ v3).setCell ⟨b, 4, none⟩ v4).setCell ⟨b, 5, none⟩ v5) (some b) :=
  grown_trans (grown_trans (grown_trans (grown_trans (grown_trans (grown_set _ _ _ _) (grown_set _ _ _ _)) (grown_set _ _ _ _)) (grown_set _ _ _ _)) (grown_set _ _ _ _)) (grown_set _ _ _ _)
theorem StrsIn.later {w w' : World} {F F' : Nat → Prop} {v : Value} {l : List ByteArray} (h : StrsIn w F v l) (row : Option Nat) (hg : w.grownBy w' row) (hk : ∀ g, F g → row ≠ some g) (hF : ∀ g, F g → F' g) : StrsIn w' F' v l :=
  h.keep fun g h1 h2 => ⟨hF g h1, Nat.lt_of_lt_of_le h2 hg.size, hg.block g h2 (fun e => hk g h1 e.symm)⟩
theorem IntsIn.later {w w' : World} {F F' : Nat → Prop} {v : Value} {l : List Int} (h : IntsIn w F v l) (row : Option Nat) (hg : w.grownBy w' row) (hk : ∀ g, F g → row ≠ some g) (hF : ∀ g, F g → F' g) : IntsIn w' F' v l :=
  h.keep fun g h1 h2 => ⟨hF g h1, Nat.lt_of_lt_of_le h2 hg.size, hg.block g h2 (fun e => hk g h1 e.symm)⟩
/-- What fun() answers, by what stands there. -/
def FnR (w : World) (rb : Nat) (v : Value) (ws : List Wd) (en : Nat) (r : Rf) (e : Ending) (w' : World) : Prop :=
  match r with
  | .fn f j => ∃ An cn At ct Ab cb, e = .returned (.agg #[.string f.name, .slice An f.names.length cn, .slice At f.types.length ct, .int .i64 f.out, .slice Ab f.body.length cb, .int .i64 f.pos]) ∧ StrsIn w' (fun g => w.heap.size ≤ g) (.slice An f.names.length cn) f.names ∧ IntsIn w' (fun g => w.heap.size ≤ g) (.slice At f.types.length ct) f.types ∧ StmtsIn w' (fun g => w.heap.size ≤ g) (.slice Ab f.body.length cb) f.body ∧ Rq w' rb v ws j en ∧ w.grownBy w' (some rb)
  | .bad j => e = badP ws en j ∧ w.grownBy w' (some rb)
theorem FrG.ret {wr W : World} {rb b0 bf base : Nat} {v : Value} {ws : List Wd} {i en : Nat} {nm : ByteArray} {An : Option Addr} {cn : Nat} {ns : List ByteArray} {At : Option Addr} {ct : Nat} {ts : List Int} {out : Int} {Ab : Option Addr} {cb : Nat} {lb : List Sm} {pos : Int}
    (h : FrG wr W rb b0 bf base v ws i en nm An cn ns At ct ts out (.slice Ab lb.length cb) pos) (hB : StmtsIn W (fun g => base ≤ g) (.slice Ab lb.length cb) lb) :
    FnR wr rb v ws en (.fn ⟨nm, ns, ts, out, lb, pos⟩ i) (.returned (.agg #[.string nm, .slice An ns.length cn, .slice At ts.length ct, .int .i64 out, .slice Ab lb.length cb, .int .i64 pos]))
      ((((((W.setCell ⟨b0, 0, none⟩ (.string nm)).setCell ⟨b0, 1, none⟩ (.slice An ns.length cn)).setCell ⟨b0, 2, none⟩ (.slice At ts.length ct)).setCell ⟨b0, 3, none⟩ (.int .i64 out)).setCell ⟨b0, 4, none⟩ (.slice Ab lb.length cb)).setCell ⟨b0, 5, none⟩ (.int .i64 pos)) := by
  have hg := grown6 W b0 (.string nm) (.slice An ns.length cn) (.slice At ts.length ct) (.int .i64 out) (.slice Ab lb.length cb) (.int .i64 pos)
  have h0 := h.z0; have h1 := h.z1; have h2 := h.z2; have hb := h.zb
  exact ⟨An, cn, At, ct, Ab, cb, rfl, h.rn.strs.later _ hg (fun g (q : base ≤ g) => by simp; omega) (fun g q => by omega), h.rt.ints.later _ hg (fun g (q : base ≤ g) => by simp; omega) (fun g q => by omega), hB.later _ hg (fun g (q : base ≤ g) => by simp; omega) (fun g q => by omega), h.rd.grown hg (by omega), grown_new h.gr hg hb.1⟩
end Go.Proofs.YtmngofgminlloaaGreatDoor

namespace Go.Proofs.YtmngofgminlloaaGreatDoor
open Go.RowKit Tw

section
variable {ws : List Wd} {en i k : Nat} {r : Rf} {q : Rp}
end
end Go.Proofs.YtmngofgminlloaaGreatDoor

namespace Go.Proofs.YtmngofgminlloaaGreatDoor
open Go.RowKit Tw

section
variable {ws : List Wd} {en i : Nat} {r : Rs}
theorem hs1 (h : isAt ws i sLet = true) : headS ws i = 1 := by unfold headS; rw [if_pos h]
theorem hs6 (h1 : isAt ws i sLet = false) (h3 : isAt ws i sIf = false) (h4 : isAt ws i sWhile = false) (h5 : isAt ws i sReturn = false) (h : isAt ws i sYield = true) : headS ws i = 6 := by unfold headS; simp [h1, h3, h4, h5, h]
theorem hs2 (h1 : isAt ws i sLet = false) (h3 : isAt ws i sIf = false) (h4 : isAt ws i sWhile = false) (h5 : isAt ws i sReturn = false) (h6 : isAt ws i sYield = false) (h : kindAt ws i = 2 ∧ isAt ws (i + 1) sEq = true) : headS ws i = 2 := by unfold headS; simp [h1, h3, h4, h5, h6, h]
theorem hs7 (h1 : isAt ws i sLet = false) (h3 : isAt ws i sIf = false) (h4 : isAt ws i sWhile = false) (h5 : isAt ws i sReturn = false) (h6 : isAt ws i sYield = false) (h : ¬ (kindAt ws i = 2 ∧ isAt ws (i + 1) sEq = true)) : headS ws i = 7 := by
  unfold headS; simp only [h1, h3, h4, h5, h6, Bool.false_eq_true, if_false]; rw [if_neg h]
end
end Go.Proofs.YtmngofgminlloaaGreatDoor

namespace Go.Proofs.YtmngofgminlloaaGreatDoor
open Go.RowKit Tw

end Go.Proofs.YtmngofgminlloaaGreatDoor

namespace Go.Proofs.YtmngofgminlloaaGreatDoor
open Go.RowKit Tw

end Go.Proofs.YtmngofgminlloaaGreatDoor

namespace Go.Proofs.YtmngofgminlloaaGreatDoor
open Go.RowKit Tw

section
variable {wr W W' : World} {rb b0 bf base : Nat} {v : Value} {ws : List Wd} {i en : Nat} {nm : ByteArray} {An : Option Addr} {cn : Nat} {ns : List ByteArray} {At : Option Addr} {ct : Nat} {ts : List Int} {out : Int} {vb : Value} {pos : Int}
theorem FrG.fbN (h : FrG wr W rb b0 bf base v ws i en nm An cn ns At ct ts out vb pos) (hg : W.grownBy W' (Value.slice An ns.length cn).ownBlock) : W'.heap[bf]? = some (.cells #[.string nm, .slice An ns.length cn, .slice At ts.length ct, .int .i64 out, vb, .int .i64 pos] 32 (0, 0)) := by
  have h2 := h.z2; have h3 := h.z3
  exact (hg.block bf (by omega) (fun e => by have := (h.rn.1.lt bf e.symm).1; omega)).trans h.fb
theorem FrG.fbT (h : FrG wr W rb b0 bf base v ws i en nm An cn ns At ct ts out vb pos) (hg : W.grownBy W' (Value.slice At ts.length ct).ownBlock) : W'.heap[bf]? = some (.cells #[.string nm, .slice An ns.length cn, .slice At ts.length ct, .int .i64 out, vb, .int .i64 pos] 32 (0, 0)) := by
  have h2 := h.z2; have h3 := h.z3
  exact (hg.block bf (by omega) (fun e => by have := (h.rt.1.lt bf e.symm).1; omega)).trans h.fb
end

end Go.Proofs.YtmngofgminlloaaGreatDoor

namespace Go.Proofs.YtmngofgminlloaaGreatDoor
open Go.RowKit Tw

section
variable {ws : List Wd} {en i k : Nat} {q : Ru}
end
end Go.Proofs.YtmngofgminlloaaGreatDoor

namespace Go.Proofs.YtmngofgminlloaaGreatDoor
open Go.RowKit Tw

end Go.Proofs.YtmngofgminlloaaGreatDoor

namespace Go.Proofs.YtmngofgminlloaaGreatDoor
open Go.RowKit Tw

theorem wrow_beside {W W2 : World} {B bu : Nat} {v : Value} {ws : List Wd} {A : Option Addr} {n c T : Nat} (h : WRow W B v ws) (hu : W.heap[bu]? = some (.cells #[.slice A n c] T (0, 0))) (hg : W.grownBy W2 (some bu)) : WRow W2 B v ws := by
  rcases h with ⟨rfl, rfl⟩ | ⟨g, cap, rfl, hgB, hc⟩
  · exact .inl ⟨rfl, rfl⟩
  · refine .inr ⟨g, cap, rfl, hgB, fun j u hj => ?_⟩
    have hju := hc j u hj
    have hlt : g < W.heap.size := by
      rcases Nat.lt_or_ge g W.heap.size with h | h
      · exact h
      · unfold World.cell? at hju; rw [Array.getElem?_eq_none h] at hju; cases hju
    have hne : g ≠ bu := by
      rintro rfl
      cases ws with
      | nil => simp [wcells] at hj
      | cons x ws =>
        have h0 := hc 0 (.int .i64 x.kind) (by simp [wcells, Wd.cells])
        have h1 := Lib.cell_of_heap hu 0
        rw [h0] at h1
        simp at h1
    exact (World.cell?_of_block (a := ⟨g, j, none⟩) (hg.block g hlt (by simp; exact hne))).trans hju

structure FrW (w W : World) (rb bu bp be base : Nat) (v : Value) (ws : List Wd) (i en : Nat) (A : Option Addr) (c : Nat) (l : List (Fn × Value × Value × Value)) (p e : Int) : Prop where
  rd : Rq W rb v ws i en
  un : W.heap[bu]? = some (.cells #[.slice A l.length c] 24 (0, 0))
  pp : W.heap[bp]? = some (.cells #[.int .i64 p] 3 (0, 0))
  ee : W.heap[be]? = some (.cells #[.int .i64 e] 25 (0, 0))
  row : GRow fnElem W base 32 6 (.slice A l.length c) l
  bel : Below w.heap.size w W
  gl : Glob W
  r0 : 10 < rb
  gb : 10 < bu
  z0 : w.heap.size ≤ bu
  z1 : bu < bp
  z2 : bp < be
  z3 : be < rb
  z4 : rb < base
  z5 : base ≤ W.heap.size
section
variable {w W W' : World} {rb bu bp be base : Nat} {v : Value} {ws : List Wd} {i en : Nat} {A : Option Addr} {c : Nat} {l : List (Fn × Value × Value × Value)} {p e : Int}
theorem FrW.step {i' : Nat} (h : FrW w W rb bu bp be base v ws i en A c l p e) (hr : Rq W' rb v ws i' en) (hg : W.grownBy W' (some rb)) : FrW w W' rb bu bp be base v ws i' en A c l p e := by
  have h0 := h.z0; have h1 := h.z1; have h2 := h.z2; have h3 := h.z3; have h4 := h.z4; have h5 := h.z5
  exact ⟨hr, (hg.block bu (by omega) (by simp; omega)).trans h.un, (hg.block bp (by omega) (by simp; omega)).trans h.pp, (hg.block be (by omega) (by simp; omega)).trans h.ee, h.row.kept hg (fun k e => .inl (by cases e; omega)), below_grown h.bel hg (by omega) (by have := h.bel.size; omega), h.gl.of hg h.r0, h.r0, h.gb, h0, h1, h2, h3, h4, Nat.le_trans h5 hg.size⟩
theorem FrW.below (h : FrW w W rb bu bp be base v ws i en A c l p e) (hb : Below W.heap.size W W') : FrW w W' rb bu bp be base v ws i en A c l p e := h.step (h.rd.keep hb) (grown_of_below hb _)
theorem FrW.app_un {o : Obj} (h : FrW w W rb bu bp be base v ws i en A c l p e) (hg : (W.alloc o).grownBy W' (Value.slice A l.length c).ownBlock) : W'.heap[bu]? = some (.cells #[.slice A l.length c] 24 (0, 0)) := by
  have h1 := h.z1; have h2 := h.z2; have h3 := h.z3; have h4 := h.z4; have h5 := h.z5
  exact (hg.block bu (by simp; omega) (fun e => by have := (h.row.1.lt bu e.symm).1; omega)).trans ((heap_alloc_old W o (by omega)).trans h.un)
/-- One function more. -/
theorem FrW.app {a : Fn × Value × Value × Value} {F0 : Nat → Prop} {o : Obj} {g cap k0 : Nat}
    (h : FrW w W rb bu bp be base v ws i en A c l p e) (ha : fnElem.kid W F0 a) (hF0 : ∀ g, F0 g → base ≤ g ∧ (Value.slice A l.length c).ownBlock ≠ some g)
    (ho : W'.ownsRow base 32 6 (.slice (some ⟨g, 0, none⟩) (l.length + 1) cap) (l.length + 1) (l.flatMap fnElem.cells ++ fnElem.cells a)) (hg : (W.alloc o).grownBy W' (Value.slice A l.length c).ownBlock) (hat : (Value.slice A l.length c).ownBlock = some g ∨ g = (W.alloc o).heap.size) (hk0 : k0 = l.length + 1) :
    FrW w (W'.setCell ⟨bu, 0, none⟩ (.slice (some ⟨g, 0, none⟩) k0 cap)) rb bu bp be base v ws i en (some ⟨g, 0, none⟩) cap (l ++ [a]) p e := by
  subst hk0
  have h0 := h.z0; have h1 := h.z1; have h2 := h.z2; have h3 := h.z3; have h4 := h.z4; have h5 := h.z5; have hs0 := h.bel.size
  have hb : Below W.heap.size W (W.alloc o) := (Below.refl _ _).alloc (Nat.le_refl _) _
  have hA := h.step (h.rd.keep hb) (grown_of_below hb _)
  have hlt := h.row.1.lt
  have hrow : ∀ k, (Value.slice A l.length c).ownBlock = some k → base ≤ k := fun k e => (hlt k e).1
  have hk : fnElem.kid (W.alloc o) F0 a := fnElem.keep (fun q q1 q2 => ⟨q1, by simp; omega, heap_alloc_old W o q2⟩) ha
  have hr : GRow fnElem W' base 32 6 (.slice (some ⟨g, 0, none⟩) (l.length + 1) cap) (l ++ [a]) := GRow.app hA.row hk hF0 ho hg hat
  have hset := grown_set W' bu 0 (.slice (some ⟨g, 0, none⟩) (l.length + 1) cap)
  have e1 : (l ++ [a]).length = l.length + 1 := by simp
  have hz := hb.size
  have hz2 := hg.size
  have hz3 : (W.alloc o).heap.size = W.heap.size + 1 := by simp
  have hrd : Rq W' rb v ws i en := rq_app hA.rd hg (fun k e => by have := hrow k e; omega)
  have hbe : Below w.heap.size w W' := ⟨hg.os.trans hA.bel.os, hg.tape.trans hA.bel.tape, hg.output.trans hA.bel.output, Nat.le_trans hA.bel.size hg.size, fun k hk => (hg.block k (by omega) (fun e => by have := hrow k e.symm; omega)).trans (hA.bel.block k hk)⟩
  have keep : ∀ k, k < base → k ≠ bu → (W'.setCell ⟨bu, 0, none⟩ (.slice (some ⟨g, 0, none⟩) (l.length + 1) cap)).heap[k]? = (W.alloc o).heap[k]? := fun k q1 q2 =>
    (hset.block k (by omega) (by simp; omega)).trans (hg.block k (by omega) (fun e => by have := hrow k e.symm; omega))
  refine ⟨⟨(hset.block rb hrd.lt (by simp; omega)).trans hrd.blk, ?_, hrd.len, hrd.pos⟩, by rw [e1]; simpa using heap_setCell_same W' bu 0 _ _ (.slice (some ⟨g, 0, none⟩) (l.length + 1) cap) (h.app_un hg),
    (keep bp (by omega) (by omega)).trans hA.pp, (keep be (by omega) (by omega)).trans hA.ee,
    by rw [e1]; exact hr.kept hset (fun k e => .inl (by cases e; omega)), below_set hbe (by omega) _ _,
    (hA.gl.same hg.size (fun q hq => hg.block q (by have := h.r0; omega) (fun e => by have := hrow q e.symm; have := h.r0; omega))).same hset.size (fun q hq => ?_),
    h.r0, h.gb, h0, h1, h2, h3, h4, Nat.le_trans h5 (Nat.le_trans hz (Nat.le_trans hg.size hset.size))⟩
  · exact wrow_beside hrd.row (h.app_un hg) hset
  · exact hset.block q (by have := h.r0; omega) (by simp; have hbig := h.z0; have := h.gb; omega)
end
end Go.Proofs.YtmngofgminlloaaGreatDoor

namespace Go.Proofs.YtmngofgminlloaaGreatDoor
open Go.RowKit Tw

end Go.Proofs.YtmngofgminlloaaGreatDoor
