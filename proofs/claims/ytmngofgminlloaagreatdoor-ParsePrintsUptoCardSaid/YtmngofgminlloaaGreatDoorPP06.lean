/-
  The printer writes statements and blocks: their text is that of their pieces.
  The program's Check answers unitF.
-/
import Derived.Test.YtmngofgminlloaaGreatDoorPP05
import Derived.Test.YtmngofgminlloaaGreatDoorPP01
import Derived.Test.YtmngofgminlloaaGreatDoorPP03
import Derived.Test.YtmngofgminlloaaGreatDoorTT14
set_option linter.all false
namespace Go.Proofs.YtmngofgminlloaaGreatDoor
open Go.RowKit Tw

def PrS (left : Nat) : Prop :=
  ∀ (s : Sm) (Aa : Option Addr) (ca : Nat) (Ab : Option Addr) (cb : Nat) (Ae : Option Addr) (ce : Nat) (F : Nat → Prop) (b : Nat) (l : Bs) (w : World), smF s left = 0 → ArgsIn w F (.slice Aa s.a.args.length ca) s.a.args → StmtsIn w F (.slice Ab s.body.length cb) s.body → StmtsIn w F (.slice Ae s.els.length ce) s.els → (∀ g, F g → g < b) → WrF w w b l → l.length + (pcsT (smPc s)).length ≤ 140737488355328 →
    Calls Tryz.prog 101 #[.pointer (some ⟨b, 0, none⟩), .agg #[.int .i64 s.kind, .string s.name, .int .i64 s.a.kind, .int .i64 s.a.n, .string s.a.text, .slice Aa s.a.args.length ca, .int .i64 s.a.pos, .slice Ab s.body.length cb, .slice Ae s.els.length ce, .int .i64 s.pos]] w fun e w' => e = .returned (.tuple #[]) ∧ WrF w w' b (l ++ pcsT (smPc s))
def PrB (left : Nat) : Prop :=
  ∀ (xs : List Sm) (A : Option Addr) (c : Nat) (F : Nat → Prop) (b : Nat) (l : Bs) (w : World), smsF xs left = 0 → StmtsIn w F (.slice A xs.length c) xs → (∀ g, F g → g < b) → WrF w w b l → l.length + (brT (pcsT (stPc xs))).length ≤ 140737488355328 →
    Calls Tryz.prog 43 #[.pointer (some ⟨b, 0, none⟩), .slice A xs.length c] w fun e w' => e = .returned (.tuple #[]) ∧ WrF w w' b (l ++ brT (pcsT (stPc xs)))
theorem PrF_stms {w0 w : World} {b : Nat} {l : Bs} {F : Nat → Prop} {v : Value} {xs : List Sm} (h : WrF w0 w b l) (hF : ∀ g, F g → g < b) (hA : StmtsIn w0 F v xs) : StmtsIn w F v xs :=
  hA.keep fun g h1 h2 => ⟨h1, Nat.lt_of_lt_of_le h2 h.bel.size, h.bel.block g (hF g h1)⟩

theorem st_ge : ∀ xs : List Sm, xs.length ≤ (pcsT (stPc xs)).length
  | [] => Nat.zero_le _
  | s :: l => by
    have := st_ge l
    rw [stPc, pcsT_sp, pcsT_app]
    simp only [List.length_append, List.length_cons]; omega
set_option maxRecDepth 100000 in
set_option maxHeartbeats 8000000 in
theorem prb_step (left : Nat) (ih : PrS left) : PrB left := by
  intro xs A c F b l w ha hA hF hW hlen
  have HH := Lib.hid (smsF_each ha); have HA := Lib.hid hA; have HF := Lib.hid hF; have HW := Lib.hid hW; have IH := Lib.hid ih
  rw [brT_len] at hlen
  have HL := Lib.hid hlen
  have hxl : xs.length ≤ 281474976710656 := by have := st_ge xs; omega
  clear ha hA hF hW ih hlen
  go_enter Tryz.func43, Tryz.ntmps43
  go_wp2_with fail
  refine (wr_c _ _ b l _ HW.out (by have := HL.out; show l.length + 1 ≤ _; omega)).mono ?_
  rintro e w1 ⟨rfl, hw⟩
  have HW1 := Lib.hid (show WrF w w1 b (l ++ [123] ++ pcsT (stPc (xs.take 0))) from hw.eq (by simp [stPc, pcsT_nil]))
  clear hw
  go_wp2_with fail
  go_loopw [12] (fun i wr => ∃ j : Nat, j ≤ xs.length ∧ i = .int .i64 j ∧ Hid (WrF w wr b (l ++ [123] ++ pcsT (stPc (xs.take j))))) (fun i _ => xs.length - (intOf i).toNat)
  case atStart => exact ⟨0, Nat.zero_le _, rfl, HW1⟩
  case round =>
    obtain ⟨j, hj, rfl, HWj⟩ := hrel
    by_cases hlt : j < xs.length
    · obtain ⟨s, hs⟩ : ∃ s, xs[j]? = some s := ⟨_, List.getElem?_eq_getElem hlt⟩
      obtain ⟨g, off, Aa, ca, Ab, cb, Ae, ce, rfl, hFg, hg, hka, hkb, hke, hc⟩ := HA.out.at j s hs
      have hgb := HF.out g hFg
      have b0 := (HWj.out.bel.cell (p := ⟨g, off + j * 10, none⟩) hgb).trans (hc 0 _ rfl)
      have b1 := (HWj.out.bel.cell (p := ⟨g, off + j * 10 + 1, none⟩) hgb).trans (hc 1 _ rfl)
      have b2 := (HWj.out.bel.cell (p := ⟨g, off + j * 10 + 2, none⟩) hgb).trans (hc 2 _ rfl)
      have b3 := (HWj.out.bel.cell (p := ⟨g, off + j * 10 + 3, none⟩) hgb).trans (hc 3 _ rfl)
      have b4 := (HWj.out.bel.cell (p := ⟨g, off + j * 10 + 4, none⟩) hgb).trans (hc 4 _ rfl)
      have b5 := (HWj.out.bel.cell (p := ⟨g, off + j * 10 + 5, none⟩) hgb).trans (hc 5 _ rfl)
      have b6 := (HWj.out.bel.cell (p := ⟨g, off + j * 10 + 6, none⟩) hgb).trans (hc 6 _ rfl)
      have b7 := (HWj.out.bel.cell (p := ⟨g, off + j * 10 + 7, none⟩) hgb).trans (hc 7 _ rfl)
      have b8 := (HWj.out.bel.cell (p := ⟨g, off + j * 10 + 8, none⟩) hgb).trans (hc 8 _ rfl)
      have b9 := (HWj.out.bel.cell (p := ⟨g, off + j * 10 + 9, none⟩) hgb).trans (hc 9 _ rfl)
      have HS := Lib.hid hs; have HKA := Lib.hid hka; have HKB := Lib.hid hkb; have HKE := Lib.hid hke
      have HE := Lib.hid (HH.out s (List.mem_of_getElem? hs))
      have HT := Lib.hid (tx_st xs j s hs); have HT2 := Lib.hid (tx_st_le xs (j + 1))
      clear hs hka hkb hke hc hFg hgb
      have k0 : (0 : Int) ≤ (j : Int) := by omega
      have k1 : (j : Int) < (xs.length : Int) := by omega
      go_upto_region 4 with (fail)
      clear b0 b1 b2 b3 b4 b5 b6 b7 b8 b9
      have HQ := Lib.hid (heap_alloc_new wr (.cells #[.int .i64 s.kind, .string s.name, .int .i64 s.a.kind, .int .i64 s.a.n, .string s.a.text, .slice Aa s.a.args.length ca, .int .i64 s.a.pos, .slice Ab s.body.length cb, .slice Ae s.els.length ce, .int .i64 s.pos] 188))
      have HWa := Lib.hid (HWj.out.al (.cells #[.int .i64 s.kind, .string s.name, .int .i64 s.a.kind, .int .i64 s.a.n, .string s.a.text, .slice Aa s.a.args.length ca, .int .i64 s.a.pos, .slice Ab s.body.length cb, .slice Ae s.els.length ce, .int .i64 s.pos] 188))
      clear HWj
      generalize wr.alloc _ = wa at HQ HWa ⊢
      generalize wr.heap.size = nb at HQ ⊢
      go_wp2_with fail
      refine (wr_c _ _ b _ _ HWa.out.reb (by have h1 := HT.out; have h2 := HT2.out; have h3 := HL.out; rw [h1] at h2; simp only [List.length_append, List.length_cons, List.length_nil] at h2 ⊢; show _ + 1 ≤ _; omega)).mono ?_
      rintro e w2 ⟨rfl, hw⟩
      have HQ2 := Lib.hid (hw.blk HQ.out (by decide) (by decide))
      have HW2 := Lib.hid (HWa.out.tr hw)
      clear hw HWa HQ
      obtain ⟨⟨c0, c1, c2, c3, c4, c5, c6, c7, c8, c9⟩, -⟩ := facts10 HQ2.out
      go_wp2_with fail
      refine (IH.out s Aa ca Ab cb Ae ce F b _ _ HE.out (PrF_args HW2.out HF.out HKA.out) (PrF_stms HW2.out HF.out HKB.out) (PrF_stms HW2.out HF.out HKE.out) HF.out HW2.out.reb (by have h1 := HT.out; have h2 := HT2.out; have h3 := HL.out; rw [h1] at h2; simp only [List.length_append, List.length_cons, List.length_nil] at h2 ⊢; show _ + _ + _ + 1 + _ ≤ _; omega)).mono ?_
      rintro e w3 ⟨rfl, hw⟩
      have HW3 := Lib.hid (show WrF w w3 b (l ++ [123] ++ pcsT (stPc (xs.take (j + 1)))) from (HW2.out.tr hw).eq (by rw [HT.out]; simp [List.append_assoc]))
      clear hw c0 c1 c2 c3 c4 c5 c6 c7 c8 c9
      go_wp2_with fail
      go_roundw
      case rel => exact ⟨j + 1, by omega, by go_num, HW3⟩
      case measure => simp [intOf]; omega
    · have hje : j = xs.length := by omega
      have HWe := Lib.hid (show WrF w wr b (l ++ [123] ++ pcsT (stPc xs)) by have := HWj.out; rwa [hje, List.take_length] at this)
      clear hje HWj
      go_wp2_with fail
      refine (wr_c _ _ b _ _ HWe.out (by have h3 := HL.out; simp only [List.length_append, List.length_cons, List.length_nil]; show _ + 2 ≤ _; omega)).mono ?_
      rintro e w2 ⟨rfl, hw⟩
      go_wp2_with fail
      go_end0
      exact ⟨rfl, hw.eq (by simp [brT, List.append_assoc])⟩

set_option maxRecDepth 100000 in
set_option maxHeartbeats 16000000 in
theorem prs_step (left : Nat) (ih : PrB left) : PrS (left + 1) := by
  intro s Aa ca Ab cb Ae ce F b l w hx hA hB hC hF hW hlen
  obtain ⟨l', h0, hv⟩ := smV hx
  obtain rfl : left = l' := by omega
  have IH := Lib.hid ih; have HF := Lib.hid hF; have IHX := Lib.hid (prx_r left)
  clear ih hF h0 hx
  cases hv with
  | whil ha hb =>
    rename_i nm a body els p
    have HE := Lib.hid ha; have HB1 := Lib.hid hb
    clear ha hb
    have HA := Lib.hid hA; have HB := Lib.hid hB; have HC := Lib.hid hC
    simp only [Sm.kind, Sm.name, Sm.a, Sm.body, Sm.els, Sm.pos] at HA HB HC ⊢
    rw [tx_while] at hlen ⊢
    have HL := Lib.hid hlen
    have HTA : Hid (nm.data.toList.length = nm.size) := Lib.hid Array.length_toList
    have HQ := Lib.hid (heap_alloc_new w (.cells #[.int .i64 4, .string nm, .int .i64 a.kind, .int .i64 a.n, .string a.text, .slice Aa a.args.length ca, .int .i64 a.pos, .slice Ab body.length cb, .slice Ae els.length ce, .int .i64 p] 188))
    have HW := Lib.hid (hW.al (.cells #[.int .i64 4, .string nm, .int .i64 a.kind, .int .i64 a.n, .string a.text, .slice Aa a.args.length ca, .int .i64 a.pos, .slice Ab body.length cb, .slice Ae els.length ce, .int .i64 p] 188))
    clear hlen hA hB hC hW
    go_enter Tryz.func101, Tryz.ntmps101
    go_upto_region 1 with (fail)
    generalize w.alloc _ = wa at HQ HW ⊢
    generalize w.heap.size = nb at HQ ⊢
    obtain ⟨⟨c0, c1, c2, c3, c4, c5, c6, c7, c8, c9⟩, -⟩ := facts10 HQ.out
    go_wp2_with fail
    refine (wr_c _ _ b _ _ HW.out.reb (by have := HL.out; have hta := HTA.out; simp only [app_toL, brT_len, ByteArray.size_append, sz_mk, List.size_toArray, List.length_append, List.length_cons, List.length_nil] at this ⊢; omega)).mono ?_
    rintro e w2 ⟨rfl, hw⟩
    have HQ2 := Lib.hid (hw.blk HQ.out (by decide) (by decide))
    have HW2 := Lib.hid (HW.out.tr hw)
    clear hw c0 c1 c2 c3 c4 c5 c6 c7 c8 c9
    obtain ⟨⟨c0, c1, c2, c3, c4, c5, c6, c7, c8, c9⟩, -⟩ := facts10 HQ2.out
    go_wp2_with fail
    refine (IHX.out 0 a Aa ca F 0 b _ _ rfl HE.out (PrF_args HW2.out HF.out HA.out) HF.out HW2.out.reb (by have := HL.out; have hta := HTA.out; simp only [app_toL, brT_len, ByteArray.size_append, sz_mk, List.size_toArray, List.length_append, List.length_cons, List.length_nil] at this ⊢; omega)).mono ?_
    rintro e w3 ⟨rfl, hw⟩
    have HQ3 := Lib.hid (hw.blk HQ2.out (by decide) (by decide))
    have HW3 := Lib.hid (HW2.out.tr hw)
    clear hw c0 c1 c2 c3 c4 c5 c6 c7 c8 c9
    obtain ⟨⟨c0, c1, c2, c3, c4, c5, c6, c7, c8, c9⟩, -⟩ := facts10 HQ3.out
    go_wp2_with fail
    refine (wr_c _ _ b _ _ HW3.out.reb (by have := HL.out; have hta := HTA.out; simp only [app_toL, brT_len, ByteArray.size_append, sz_mk, List.size_toArray, List.length_append, List.length_cons, List.length_nil] at this ⊢; omega)).mono ?_
    rintro e w4 ⟨rfl, hw⟩
    have HQ4 := Lib.hid (hw.blk HQ3.out (by decide) (by decide))
    have HW4 := Lib.hid (HW3.out.tr hw)
    clear hw c0 c1 c2 c3 c4 c5 c6 c7 c8 c9
    obtain ⟨⟨c0, c1, c2, c3, c4, c5, c6, c7, c8, c9⟩, -⟩ := facts10 HQ4.out
    go_wp2_with fail
    refine (IH.out body Ab cb F b _ _ HB1.out (PrF_stms HW4.out HF.out HB.out) HF.out HW4.out.reb (by have := HL.out; have hta := HTA.out; simp only [app_toL, brT_len, ByteArray.size_append, sz_mk, List.size_toArray, List.length_append, List.length_cons, List.length_nil] at this ⊢; omega)).mono ?_
    rintro e w5 ⟨rfl, hw⟩
    have HQ5 := Lib.hid (hw.blk HQ4.out (by decide) (by decide))
    have HW5 := Lib.hid (HW4.out.tr hw)
    clear hw c0 c1 c2 c3 c4 c5 c6 c7 c8 c9
    obtain ⟨⟨c0, c1, c2, c3, c4, c5, c6, c7, c8, c9⟩, -⟩ := facts10 HQ5.out
    go_wp2_with fail
    go_end0
    exact ⟨rfl, HW5.out.eq (by simp [preT, brT, List.append_assoc])⟩
  | ife ha hb he =>
    rename_i nm a body els p
    have HE := Lib.hid ha; have HB1 := Lib.hid hb; have HB2 := Lib.hid he
    clear ha hb he
    by_cases h0 : els = []
    · subst h0
      have HA := Lib.hid hA; have HB := Lib.hid hB; have HC := Lib.hid hC
      simp only [Sm.kind, Sm.name, Sm.a, Sm.body, Sm.els, Sm.pos] at HA HB HC ⊢
      simp only [List.length_nil] at HC ⊢
      rw [tx_if] at hlen ⊢
      have HL := Lib.hid hlen
      have HTA : Hid (nm.data.toList.length = nm.size) := Lib.hid Array.length_toList
      have HQ := Lib.hid (heap_alloc_new w (.cells #[.int .i64 3, .string nm, .int .i64 a.kind, .int .i64 a.n, .string a.text, .slice Aa a.args.length ca, .int .i64 a.pos, .slice Ab body.length cb, .slice Ae 0 ce, .int .i64 p] 188))
      have HW := Lib.hid (hW.al (.cells #[.int .i64 3, .string nm, .int .i64 a.kind, .int .i64 a.n, .string a.text, .slice Aa a.args.length ca, .int .i64 a.pos, .slice Ab body.length cb, .slice Ae 0 ce, .int .i64 p] 188))
      clear hlen hA hB hC hW
      go_enter Tryz.func101, Tryz.ntmps101
      go_upto_region 1 with (fail)
      generalize w.alloc _ = wa at HQ HW ⊢
      generalize w.heap.size = nb at HQ ⊢
      obtain ⟨⟨c0, c1, c2, c3, c4, c5, c6, c7, c8, c9⟩, -⟩ := facts10 HQ.out
      simp only [List.isEmpty_nil, if_true, List.append_nil] at HL ⊢
      go_wp2_with fail
      refine (wr_c _ _ b _ _ HW.out.reb (by have := HL.out; have hta := HTA.out; simp only [app_toL, brT_len, ByteArray.size_append, sz_mk, List.size_toArray, List.length_append, List.length_cons, List.length_nil] at this ⊢; omega)).mono ?_
      rintro e w2 ⟨rfl, hw⟩
      have HQ2 := Lib.hid (hw.blk HQ.out (by decide) (by decide))
      have HW2 := Lib.hid (HW.out.tr hw)
      clear hw c0 c1 c2 c3 c4 c5 c6 c7 c8 c9
      obtain ⟨⟨c0, c1, c2, c3, c4, c5, c6, c7, c8, c9⟩, -⟩ := facts10 HQ2.out
      go_wp2_with fail
      refine (IHX.out 0 a Aa ca F 0 b _ _ rfl HE.out (PrF_args HW2.out HF.out HA.out) HF.out HW2.out.reb (by have := HL.out; have hta := HTA.out; simp only [app_toL, brT_len, ByteArray.size_append, sz_mk, List.size_toArray, List.length_append, List.length_cons, List.length_nil] at this ⊢; omega)).mono ?_
      rintro e w3 ⟨rfl, hw⟩
      have HQ3 := Lib.hid (hw.blk HQ2.out (by decide) (by decide))
      have HW3 := Lib.hid (HW2.out.tr hw)
      clear hw c0 c1 c2 c3 c4 c5 c6 c7 c8 c9
      obtain ⟨⟨c0, c1, c2, c3, c4, c5, c6, c7, c8, c9⟩, -⟩ := facts10 HQ3.out
      go_wp2_with fail
      refine (wr_c _ _ b _ _ HW3.out.reb (by have := HL.out; have hta := HTA.out; simp only [app_toL, brT_len, ByteArray.size_append, sz_mk, List.size_toArray, List.length_append, List.length_cons, List.length_nil] at this ⊢; omega)).mono ?_
      rintro e w4 ⟨rfl, hw⟩
      have HQ4 := Lib.hid (hw.blk HQ3.out (by decide) (by decide))
      have HW4 := Lib.hid (HW3.out.tr hw)
      clear hw c0 c1 c2 c3 c4 c5 c6 c7 c8 c9
      obtain ⟨⟨c0, c1, c2, c3, c4, c5, c6, c7, c8, c9⟩, -⟩ := facts10 HQ4.out
      go_wp2_with fail
      refine (IH.out body Ab cb F b _ _ HB1.out (PrF_stms HW4.out HF.out HB.out) HF.out HW4.out.reb (by have := HL.out; have hta := HTA.out; simp only [app_toL, brT_len, ByteArray.size_append, sz_mk, List.size_toArray, List.length_append, List.length_cons, List.length_nil] at this ⊢; omega)).mono ?_
      rintro e w5 ⟨rfl, hw⟩
      have HQ5 := Lib.hid (hw.blk HQ4.out (by decide) (by decide))
      have HW5 := Lib.hid (HW4.out.tr hw)
      clear hw c0 c1 c2 c3 c4 c5 c6 c7 c8 c9
      obtain ⟨⟨c0, c1, c2, c3, c4, c5, c6, c7, c8, c9⟩, -⟩ := facts10 HQ5.out
      go_wp2_with fail
      go_end0
      exact ⟨rfl, HW5.out.eq (by simp [preT, brT, List.append_assoc])⟩
    · have hi : els.isEmpty = false := by cases els with | nil => exact absurd rfl h0 | cons _ _ => rfl
      have hpos : (0 : Int) < (els.length : Int) := by have := List.length_pos_iff.2 h0; omega
      clear h0
      have HA := Lib.hid hA; have HB := Lib.hid hB; have HC := Lib.hid hC
      simp only [Sm.kind, Sm.name, Sm.a, Sm.body, Sm.els, Sm.pos] at HA HB HC ⊢
      rw [tx_if, hi] at hlen ⊢
      have HL := Lib.hid hlen
      have HTA : Hid (nm.data.toList.length = nm.size) := Lib.hid Array.length_toList
      have HQ := Lib.hid (heap_alloc_new w (.cells #[.int .i64 3, .string nm, .int .i64 a.kind, .int .i64 a.n, .string a.text, .slice Aa a.args.length ca, .int .i64 a.pos, .slice Ab body.length cb, .slice Ae els.length ce, .int .i64 p] 188))
      have HW := Lib.hid (hW.al (.cells #[.int .i64 3, .string nm, .int .i64 a.kind, .int .i64 a.n, .string a.text, .slice Aa a.args.length ca, .int .i64 a.pos, .slice Ab body.length cb, .slice Ae els.length ce, .int .i64 p] 188))
      clear hlen hA hB hC hW
      go_enter Tryz.func101, Tryz.ntmps101
      go_upto_region 1 with (fail)
      generalize w.alloc _ = wa at HQ HW ⊢
      generalize w.heap.size = nb at HQ ⊢
      obtain ⟨⟨c0, c1, c2, c3, c4, c5, c6, c7, c8, c9⟩, -⟩ := facts10 HQ.out
      simp only [Bool.false_eq_true, if_false] at HL ⊢
      go_wp2_with fail
      refine (wr_c _ _ b _ _ HW.out.reb (by have := HL.out; have hta := HTA.out; simp only [app_toL, brT_len, ByteArray.size_append, sz_mk, List.size_toArray, List.length_append, List.length_cons, List.length_nil] at this ⊢; omega)).mono ?_
      rintro e w2 ⟨rfl, hw⟩
      have HQ2 := Lib.hid (hw.blk HQ.out (by decide) (by decide))
      have HW2 := Lib.hid (HW.out.tr hw)
      clear hw c0 c1 c2 c3 c4 c5 c6 c7 c8 c9
      obtain ⟨⟨c0, c1, c2, c3, c4, c5, c6, c7, c8, c9⟩, -⟩ := facts10 HQ2.out
      go_wp2_with fail
      refine (IHX.out 0 a Aa ca F 0 b _ _ rfl HE.out (PrF_args HW2.out HF.out HA.out) HF.out HW2.out.reb (by have := HL.out; have hta := HTA.out; simp only [app_toL, brT_len, ByteArray.size_append, sz_mk, List.size_toArray, List.length_append, List.length_cons, List.length_nil] at this ⊢; omega)).mono ?_
      rintro e w3 ⟨rfl, hw⟩
      have HQ3 := Lib.hid (hw.blk HQ2.out (by decide) (by decide))
      have HW3 := Lib.hid (HW2.out.tr hw)
      clear hw c0 c1 c2 c3 c4 c5 c6 c7 c8 c9
      obtain ⟨⟨c0, c1, c2, c3, c4, c5, c6, c7, c8, c9⟩, -⟩ := facts10 HQ3.out
      go_wp2_with fail
      refine (wr_c _ _ b _ _ HW3.out.reb (by have := HL.out; have hta := HTA.out; simp only [app_toL, brT_len, ByteArray.size_append, sz_mk, List.size_toArray, List.length_append, List.length_cons, List.length_nil] at this ⊢; omega)).mono ?_
      rintro e w4 ⟨rfl, hw⟩
      have HQ4 := Lib.hid (hw.blk HQ3.out (by decide) (by decide))
      have HW4 := Lib.hid (HW3.out.tr hw)
      clear hw c0 c1 c2 c3 c4 c5 c6 c7 c8 c9
      obtain ⟨⟨c0, c1, c2, c3, c4, c5, c6, c7, c8, c9⟩, -⟩ := facts10 HQ4.out
      go_wp2_with fail
      refine (IH.out body Ab cb F b _ _ HB1.out (PrF_stms HW4.out HF.out HB.out) HF.out HW4.out.reb (by have := HL.out; have hta := HTA.out; simp only [app_toL, brT_len, ByteArray.size_append, sz_mk, List.size_toArray, List.length_append, List.length_cons, List.length_nil] at this ⊢; omega)).mono ?_
      rintro e w5 ⟨rfl, hw⟩
      have HQ5 := Lib.hid (hw.blk HQ4.out (by decide) (by decide))
      have HW5 := Lib.hid (HW4.out.tr hw)
      clear hw c0 c1 c2 c3 c4 c5 c6 c7 c8 c9
      obtain ⟨⟨c0, c1, c2, c3, c4, c5, c6, c7, c8, c9⟩, -⟩ := facts10 HQ5.out
      go_wp2_with fail
      refine (wr_c _ _ b _ _ HW5.out.reb (by have := HL.out; have hta := HTA.out; simp only [app_toL, brT_len, ByteArray.size_append, sz_mk, List.size_toArray, List.length_append, List.length_cons, List.length_nil] at this ⊢; omega)).mono ?_
      rintro e w6 ⟨rfl, hw⟩
      have HQ6 := Lib.hid (hw.blk HQ5.out (by decide) (by decide))
      have HW6 := Lib.hid (HW5.out.tr hw)
      clear hw c0 c1 c2 c3 c4 c5 c6 c7 c8 c9
      obtain ⟨⟨c0, c1, c2, c3, c4, c5, c6, c7, c8, c9⟩, -⟩ := facts10 HQ6.out
      go_wp2_with fail
      refine (IH.out els Ae ce F b _ _ HB2.out (PrF_stms HW6.out HF.out HC.out) HF.out HW6.out.reb (by have := HL.out; have hta := HTA.out; simp only [app_toL, brT_len, ByteArray.size_append, sz_mk, List.size_toArray, List.length_append, List.length_cons, List.length_nil] at this ⊢; omega)).mono ?_
      rintro e w7 ⟨rfl, hw⟩
      have HQ7 := Lib.hid (hw.blk HQ6.out (by decide) (by decide))
      have HW7 := Lib.hid (HW6.out.tr hw)
      clear hw c0 c1 c2 c3 c4 c5 c6 c7 c8 c9
      obtain ⟨⟨c0, c1, c2, c3, c4, c5, c6, c7, c8, c9⟩, -⟩ := facts10 HQ7.out
      go_wp2_with fail
      go_end0
      exact ⟨rfl, HW7.out.eq (by simp [preT, brT, List.append_assoc])⟩
  | simp hk hn ha =>
    rename_i k nm a body els p
    have HE := Lib.hid ha
    clear ha
    obtain rfl | rfl | rfl | rfl | rfl := hk
    · have hnz := name_le (hn (by decide))
      have hz1 : nm.size ≤ 16 := by rwa [Array.length_toList] at hnz
      have hs1 : ¬ 9223372036854775807 < 4 + nm.size := by omega
      have hs2 : ¬ 9223372036854775807 < 4 + nm.size + 3 := by omega
      clear hn hnz
      have HA := Lib.hid hA; have HB := Lib.hid hB; have HC := Lib.hid hC
      simp only [Sm.kind, Sm.name, Sm.a, Sm.body, Sm.els, Sm.pos] at HA HB HC ⊢
      rw [tx_simp (by decide) (by decide), show preT 1 nm.data.toList = [108, 101, 116, 32] ++ nm.data.toList ++ [32, 61, 32] from by unfold preT; simp] at hlen ⊢
      have HL := Lib.hid hlen
      have HTA : Hid (nm.data.toList.length = nm.size) := Lib.hid Array.length_toList
      have HQ := Lib.hid (heap_alloc_new w (.cells #[.int .i64 1, .string nm, .int .i64 a.kind, .int .i64 a.n, .string a.text, .slice Aa a.args.length ca, .int .i64 a.pos, .slice Ab body.length cb, .slice Ae els.length ce, .int .i64 p] 188))
      have HW := Lib.hid (hW.al (.cells #[.int .i64 1, .string nm, .int .i64 a.kind, .int .i64 a.n, .string a.text, .slice Aa a.args.length ca, .int .i64 a.pos, .slice Ab body.length cb, .slice Ae els.length ce, .int .i64 p] 188))
      clear hlen hA hB hC hW
      go_enter Tryz.func101, Tryz.ntmps101
      go_upto_region 1 with (fail)
      generalize w.alloc _ = wa at HQ HW ⊢
      generalize w.heap.size = nb at HQ ⊢
      obtain ⟨⟨c0, c1, c2, c3, c4, c5, c6, c7, c8, c9⟩, -⟩ := facts10 HQ.out
      have HWd := Lib.hid HW.out.dr
      go_upto_region 7 with (fail)
      go_region_law (first | (go_simp; go_at_call 41; refine (wr_c _ _ b _ _ HWd.out.reb (by have := HL.out; have hta := HTA.out; simp only [app_toL, brT_len, ByteArray.size_append, sz_mk, List.size_toArray, List.length_append, List.length_cons, List.length_nil] at this ⊢; omega)).mono ?_; rintro e w2 ⟨rfl, hw⟩))
      all_goals
        have HQ2 := Lib.hid (hw.blk HQ.out (by decide) (by decide))
        have HW2 := Lib.hid (HWd.out.tr hw)
        clear hw c0 c1 c2 c3 c4 c5 c6 c7 c8 c9
        obtain ⟨⟨c0, c1, c2, c3, c4, c5, c6, c7, c8, c9⟩, -⟩ := facts10 HQ2.out
        go_wp2_with fail
        refine (IHX.out 0 a Aa ca F 0 b _ _ rfl HE.out (PrF_args HW2.out HF.out HA.out) HF.out HW2.out.reb (by have := HL.out; have hta := HTA.out; simp only [app_toL, brT_len, ByteArray.size_append, sz_mk, List.size_toArray, List.length_append, List.length_cons, List.length_nil] at this ⊢; omega)).mono ?_
        rintro e w3 ⟨rfl, hw⟩
        have HQ3 := Lib.hid (hw.blk HQ2.out (by decide) (by decide))
        have HW3 := Lib.hid (HW2.out.tr hw)
        clear hw c0 c1 c2 c3 c4 c5 c6 c7 c8 c9
        obtain ⟨⟨c0, c1, c2, c3, c4, c5, c6, c7, c8, c9⟩, -⟩ := facts10 HQ3.out
        go_wp2_with fail
        refine (wr_c _ _ b _ _ HW3.out.reb (by have := HL.out; have hta := HTA.out; simp only [app_toL, brT_len, ByteArray.size_append, sz_mk, List.size_toArray, List.length_append, List.length_cons, List.length_nil] at this ⊢; omega)).mono ?_
        rintro e w4 ⟨rfl, hw⟩
        have HQ4 := Lib.hid (hw.blk HQ3.out (by decide) (by decide))
        have HW4 := Lib.hid (HW3.out.tr hw)
        clear hw c0 c1 c2 c3 c4 c5 c6 c7 c8 c9
        obtain ⟨⟨c0, c1, c2, c3, c4, c5, c6, c7, c8, c9⟩, -⟩ := facts10 HQ4.out
        go_wp2_with fail
        (try simp only [Exit.inBlock, Exit.then]); refine bodyPost_ret (results_none rfl _ _ _) rfl ?_
        exact ⟨rfl, HW4.out.eq (by simp [preT, brT, List.append_assoc])⟩
    · have hnz := name_le (hn (by decide))
      have hz1 : nm.size ≤ 16 := by rwa [Array.length_toList] at hnz
      have hs1 : ¬ 9223372036854775807 < nm.size + 3 := by omega
      clear hn hnz
      have HA := Lib.hid hA; have HB := Lib.hid hB; have HC := Lib.hid hC
      simp only [Sm.kind, Sm.name, Sm.a, Sm.body, Sm.els, Sm.pos] at HA HB HC ⊢
      rw [tx_simp (by decide) (by decide), show preT 2 nm.data.toList = nm.data.toList ++ [32, 61, 32] from by unfold preT; simp] at hlen ⊢
      have HL := Lib.hid hlen
      have HTA : Hid (nm.data.toList.length = nm.size) := Lib.hid Array.length_toList
      have HQ := Lib.hid (heap_alloc_new w (.cells #[.int .i64 2, .string nm, .int .i64 a.kind, .int .i64 a.n, .string a.text, .slice Aa a.args.length ca, .int .i64 a.pos, .slice Ab body.length cb, .slice Ae els.length ce, .int .i64 p] 188))
      have HW := Lib.hid (hW.al (.cells #[.int .i64 2, .string nm, .int .i64 a.kind, .int .i64 a.n, .string a.text, .slice Aa a.args.length ca, .int .i64 a.pos, .slice Ab body.length cb, .slice Ae els.length ce, .int .i64 p] 188))
      clear hlen hA hB hC hW
      go_enter Tryz.func101, Tryz.ntmps101
      go_upto_region 1 with (fail)
      generalize w.alloc _ = wa at HQ HW ⊢
      generalize w.heap.size = nb at HQ ⊢
      obtain ⟨⟨c0, c1, c2, c3, c4, c5, c6, c7, c8, c9⟩, -⟩ := facts10 HQ.out
      have HWd := Lib.hid HW.out.dr
      go_upto_region 9 with (fail)
      go_region_law (first | (go_simp; go_at_call 41; refine (wr_c _ _ b _ _ HWd.out.reb (by have := HL.out; have hta := HTA.out; simp only [app_toL, brT_len, ByteArray.size_append, sz_mk, List.size_toArray, List.length_append, List.length_cons, List.length_nil] at this ⊢; omega)).mono ?_; rintro e w2 ⟨rfl, hw⟩))
      all_goals
        have HQ2 := Lib.hid (hw.blk HQ.out (by decide) (by decide))
        have HW2 := Lib.hid (HWd.out.tr hw)
        clear hw c0 c1 c2 c3 c4 c5 c6 c7 c8 c9
        obtain ⟨⟨c0, c1, c2, c3, c4, c5, c6, c7, c8, c9⟩, -⟩ := facts10 HQ2.out
        go_wp2_with fail
        refine (IHX.out 0 a Aa ca F 0 b _ _ rfl HE.out (PrF_args HW2.out HF.out HA.out) HF.out HW2.out.reb (by have := HL.out; have hta := HTA.out; simp only [app_toL, brT_len, ByteArray.size_append, sz_mk, List.size_toArray, List.length_append, List.length_cons, List.length_nil] at this ⊢; omega)).mono ?_
        rintro e w3 ⟨rfl, hw⟩
        have HQ3 := Lib.hid (hw.blk HQ2.out (by decide) (by decide))
        have HW3 := Lib.hid (HW2.out.tr hw)
        clear hw c0 c1 c2 c3 c4 c5 c6 c7 c8 c9
        obtain ⟨⟨c0, c1, c2, c3, c4, c5, c6, c7, c8, c9⟩, -⟩ := facts10 HQ3.out
        go_wp2_with fail
        refine (wr_c _ _ b _ _ HW3.out.reb (by have := HL.out; have hta := HTA.out; simp only [app_toL, brT_len, ByteArray.size_append, sz_mk, List.size_toArray, List.length_append, List.length_cons, List.length_nil] at this ⊢; omega)).mono ?_
        rintro e w4 ⟨rfl, hw⟩
        have HQ4 := Lib.hid (hw.blk HQ3.out (by decide) (by decide))
        have HW4 := Lib.hid (HW3.out.tr hw)
        clear hw c0 c1 c2 c3 c4 c5 c6 c7 c8 c9
        obtain ⟨⟨c0, c1, c2, c3, c4, c5, c6, c7, c8, c9⟩, -⟩ := facts10 HQ4.out
        go_wp2_with fail
        (try simp only [Exit.inBlock, Exit.then]); refine bodyPost_ret (results_none rfl _ _ _) rfl ?_
        exact ⟨rfl, HW4.out.eq (by simp [preT, brT, List.append_assoc])⟩
    · have HA := Lib.hid hA; have HB := Lib.hid hB; have HC := Lib.hid hC
      simp only [Sm.kind, Sm.name, Sm.a, Sm.body, Sm.els, Sm.pos] at HA HB HC ⊢
      rw [tx_simp (by decide) (by decide), show preT 5 nm.data.toList = [114, 101, 116, 117, 114, 110, 32] from by unfold preT; simp] at hlen ⊢
      have HL := Lib.hid hlen
      have HTA : Hid (nm.data.toList.length = nm.size) := Lib.hid Array.length_toList
      have HQ := Lib.hid (heap_alloc_new w (.cells #[.int .i64 5, .string nm, .int .i64 a.kind, .int .i64 a.n, .string a.text, .slice Aa a.args.length ca, .int .i64 a.pos, .slice Ab body.length cb, .slice Ae els.length ce, .int .i64 p] 188))
      have HW := Lib.hid (hW.al (.cells #[.int .i64 5, .string nm, .int .i64 a.kind, .int .i64 a.n, .string a.text, .slice Aa a.args.length ca, .int .i64 a.pos, .slice Ab body.length cb, .slice Ae els.length ce, .int .i64 p] 188))
      clear hlen hA hB hC hW
      go_enter Tryz.func101, Tryz.ntmps101
      go_upto_region 1 with (fail)
      generalize w.alloc _ = wa at HQ HW ⊢
      generalize w.heap.size = nb at HQ ⊢
      obtain ⟨⟨c0, c1, c2, c3, c4, c5, c6, c7, c8, c9⟩, -⟩ := facts10 HQ.out
      go_wp2_with fail
      refine (wr_c _ _ b _ _ HW.out.reb (by have := HL.out; have hta := HTA.out; simp only [app_toL, brT_len, ByteArray.size_append, sz_mk, List.size_toArray, List.length_append, List.length_cons, List.length_nil] at this ⊢; omega)).mono ?_
      rintro e w2 ⟨rfl, hw⟩
      have HQ2 := Lib.hid (hw.blk HQ.out (by decide) (by decide))
      have HW2 := Lib.hid (HW.out.tr hw)
      clear hw c0 c1 c2 c3 c4 c5 c6 c7 c8 c9
      obtain ⟨⟨c0, c1, c2, c3, c4, c5, c6, c7, c8, c9⟩, -⟩ := facts10 HQ2.out
      go_wp2_with fail
      refine (IHX.out 0 a Aa ca F 0 b _ _ rfl HE.out (PrF_args HW2.out HF.out HA.out) HF.out HW2.out.reb (by have := HL.out; have hta := HTA.out; simp only [app_toL, brT_len, ByteArray.size_append, sz_mk, List.size_toArray, List.length_append, List.length_cons, List.length_nil] at this ⊢; omega)).mono ?_
      rintro e w3 ⟨rfl, hw⟩
      have HQ3 := Lib.hid (hw.blk HQ2.out (by decide) (by decide))
      have HW3 := Lib.hid (HW2.out.tr hw)
      clear hw c0 c1 c2 c3 c4 c5 c6 c7 c8 c9
      obtain ⟨⟨c0, c1, c2, c3, c4, c5, c6, c7, c8, c9⟩, -⟩ := facts10 HQ3.out
      go_wp2_with fail
      refine (wr_c _ _ b _ _ HW3.out.reb (by have := HL.out; have hta := HTA.out; simp only [app_toL, brT_len, ByteArray.size_append, sz_mk, List.size_toArray, List.length_append, List.length_cons, List.length_nil] at this ⊢; omega)).mono ?_
      rintro e w4 ⟨rfl, hw⟩
      have HQ4 := Lib.hid (hw.blk HQ3.out (by decide) (by decide))
      have HW4 := Lib.hid (HW3.out.tr hw)
      clear hw c0 c1 c2 c3 c4 c5 c6 c7 c8 c9
      obtain ⟨⟨c0, c1, c2, c3, c4, c5, c6, c7, c8, c9⟩, -⟩ := facts10 HQ4.out
      go_wp2_with fail
      (try simp only [Exit.inBlock, Exit.then]); refine bodyPost_ret (results_none rfl _ _ _) rfl ?_
      exact ⟨rfl, HW4.out.eq (by simp [preT, brT, List.append_assoc])⟩
    · have HA := Lib.hid hA; have HB := Lib.hid hB; have HC := Lib.hid hC
      simp only [Sm.kind, Sm.name, Sm.a, Sm.body, Sm.els, Sm.pos] at HA HB HC ⊢
      rw [tx_simp (by decide) (by decide), show preT 6 nm.data.toList = [121, 105, 101, 108, 100, 32] from by unfold preT; simp] at hlen ⊢
      have HL := Lib.hid hlen
      have HTA : Hid (nm.data.toList.length = nm.size) := Lib.hid Array.length_toList
      have HQ := Lib.hid (heap_alloc_new w (.cells #[.int .i64 6, .string nm, .int .i64 a.kind, .int .i64 a.n, .string a.text, .slice Aa a.args.length ca, .int .i64 a.pos, .slice Ab body.length cb, .slice Ae els.length ce, .int .i64 p] 188))
      have HW := Lib.hid (hW.al (.cells #[.int .i64 6, .string nm, .int .i64 a.kind, .int .i64 a.n, .string a.text, .slice Aa a.args.length ca, .int .i64 a.pos, .slice Ab body.length cb, .slice Ae els.length ce, .int .i64 p] 188))
      clear hlen hA hB hC hW
      go_enter Tryz.func101, Tryz.ntmps101
      go_upto_region 1 with (fail)
      generalize w.alloc _ = wa at HQ HW ⊢
      generalize w.heap.size = nb at HQ ⊢
      obtain ⟨⟨c0, c1, c2, c3, c4, c5, c6, c7, c8, c9⟩, -⟩ := facts10 HQ.out
      go_wp2_with fail
      refine (wr_c _ _ b _ _ HW.out.reb (by have := HL.out; have hta := HTA.out; simp only [app_toL, brT_len, ByteArray.size_append, sz_mk, List.size_toArray, List.length_append, List.length_cons, List.length_nil] at this ⊢; omega)).mono ?_
      rintro e w2 ⟨rfl, hw⟩
      have HQ2 := Lib.hid (hw.blk HQ.out (by decide) (by decide))
      have HW2 := Lib.hid (HW.out.tr hw)
      clear hw c0 c1 c2 c3 c4 c5 c6 c7 c8 c9
      obtain ⟨⟨c0, c1, c2, c3, c4, c5, c6, c7, c8, c9⟩, -⟩ := facts10 HQ2.out
      go_wp2_with fail
      refine (IHX.out 0 a Aa ca F 0 b _ _ rfl HE.out (PrF_args HW2.out HF.out HA.out) HF.out HW2.out.reb (by have := HL.out; have hta := HTA.out; simp only [app_toL, brT_len, ByteArray.size_append, sz_mk, List.size_toArray, List.length_append, List.length_cons, List.length_nil] at this ⊢; omega)).mono ?_
      rintro e w3 ⟨rfl, hw⟩
      have HQ3 := Lib.hid (hw.blk HQ2.out (by decide) (by decide))
      have HW3 := Lib.hid (HW2.out.tr hw)
      clear hw c0 c1 c2 c3 c4 c5 c6 c7 c8 c9
      obtain ⟨⟨c0, c1, c2, c3, c4, c5, c6, c7, c8, c9⟩, -⟩ := facts10 HQ3.out
      go_wp2_with fail
      refine (wr_c _ _ b _ _ HW3.out.reb (by have := HL.out; have hta := HTA.out; simp only [app_toL, brT_len, ByteArray.size_append, sz_mk, List.size_toArray, List.length_append, List.length_cons, List.length_nil] at this ⊢; omega)).mono ?_
      rintro e w4 ⟨rfl, hw⟩
      have HQ4 := Lib.hid (hw.blk HQ3.out (by decide) (by decide))
      have HW4 := Lib.hid (HW3.out.tr hw)
      clear hw c0 c1 c2 c3 c4 c5 c6 c7 c8 c9
      obtain ⟨⟨c0, c1, c2, c3, c4, c5, c6, c7, c8, c9⟩, -⟩ := facts10 HQ4.out
      go_wp2_with fail
      (try simp only [Exit.inBlock, Exit.then]); refine bodyPost_ret (results_none rfl _ _ _) rfl ?_
      exact ⟨rfl, HW4.out.eq (by simp [preT, brT, List.append_assoc])⟩
    · have HA := Lib.hid hA; have HB := Lib.hid hB; have HC := Lib.hid hC
      simp only [Sm.kind, Sm.name, Sm.a, Sm.body, Sm.els, Sm.pos] at HA HB HC ⊢
      rw [tx_simp (by decide) (by decide), show preT 7 nm.data.toList = [] from by unfold preT; simp] at hlen ⊢
      have HL := Lib.hid hlen
      have HTA : Hid (nm.data.toList.length = nm.size) := Lib.hid Array.length_toList
      have HQ := Lib.hid (heap_alloc_new w (.cells #[.int .i64 7, .string nm, .int .i64 a.kind, .int .i64 a.n, .string a.text, .slice Aa a.args.length ca, .int .i64 a.pos, .slice Ab body.length cb, .slice Ae els.length ce, .int .i64 p] 188))
      have HW := Lib.hid (hW.al (.cells #[.int .i64 7, .string nm, .int .i64 a.kind, .int .i64 a.n, .string a.text, .slice Aa a.args.length ca, .int .i64 a.pos, .slice Ab body.length cb, .slice Ae els.length ce, .int .i64 p] 188))
      clear hlen hA hB hC hW
      go_enter Tryz.func101, Tryz.ntmps101
      go_upto_region 1 with (fail)
      generalize w.alloc _ = wa at HQ HW ⊢
      generalize w.heap.size = nb at HQ ⊢
      obtain ⟨⟨c0, c1, c2, c3, c4, c5, c6, c7, c8, c9⟩, -⟩ := facts10 HQ.out
      go_wp2_with fail
      refine (IHX.out 0 a Aa ca F 0 b _ _ rfl HE.out (PrF_args HW.out HF.out HA.out) HF.out HW.out.reb (by have := HL.out; have hta := HTA.out; simp only [app_toL, brT_len, ByteArray.size_append, sz_mk, List.size_toArray, List.length_append, List.length_cons, List.length_nil] at this ⊢; omega)).mono ?_
      rintro e w3 ⟨rfl, hw⟩
      have HQ3 := Lib.hid (hw.blk HQ.out (by decide) (by decide))
      have HW3 := Lib.hid (HW.out.tr hw)
      clear hw c0 c1 c2 c3 c4 c5 c6 c7 c8 c9
      obtain ⟨⟨c0, c1, c2, c3, c4, c5, c6, c7, c8, c9⟩, -⟩ := facts10 HQ3.out
      go_wp2_with fail
      refine (wr_c _ _ b _ _ HW3.out.reb (by have := HL.out; have hta := HTA.out; simp only [app_toL, brT_len, ByteArray.size_append, sz_mk, List.size_toArray, List.length_append, List.length_cons, List.length_nil] at this ⊢; omega)).mono ?_
      rintro e w4 ⟨rfl, hw⟩
      have HQ4 := Lib.hid (hw.blk HQ3.out (by decide) (by decide))
      have HW4 := Lib.hid (HW3.out.tr hw)
      clear hw c0 c1 c2 c3 c4 c5 c6 c7 c8 c9
      obtain ⟨⟨c0, c1, c2, c3, c4, c5, c6, c7, c8, c9⟩, -⟩ := facts10 HQ4.out
      go_wp2_with fail
      (try simp only [Exit.inBlock, Exit.then]); refine bodyPost_ret (results_none rfl _ _ _) rfl ?_
      exact ⟨rfl, HW4.out.eq (by simp [preT, brT, List.append_assoc])⟩
theorem prs_r : ∀ left, PrS left := by
  intro left
  induction left with
  | zero => intro s Aa ca Ab cb Ae ce F b l w hx; obtain ⟨l', h0, _⟩ := smV hx; omega
  | succ left ih => exact prs_step left (prb_step left ih)
theorem prb_r (left : Nat) : PrB left := prb_step left (prs_r left)
end Go.Proofs.YtmngofgminlloaaGreatDoor

namespace Go.Proofs.YtmngofgminlloaaGreatDoor
open Go.RowKit Tw

theorem okTo_later (f : Fn) (q m : Nat) (h : okTo f q = false) : okTo f (q + m) = false := by
  induction m with
  | zero => exact h
  | succ m ih => exact okTo_no f (q + m) ih
theorem fnF_bad {f : Fn} {q : Nat} (h6 : ¬ 6 < f.names.length) (hq : q ≤ f.names.length) (h : okTo f q = false) : fnF f = 3 := by
  unfold fnF
  rw [if_neg h6, if_pos]
  rw [← okTo_end]
  have := okTo_later f q (f.names.length - q) h
  rwa [show q + (f.names.length - q) = f.names.length by omega] at this
theorem fnF_ok {f : Fn} (h6 : ¬ 6 < f.names.length) (h : okTo f f.names.length = true) : fnF f = smsF f.body 40 := by
  unfold fnF; rw [if_neg h6, if_neg (by rw [← okTo_end, h]; decide)]
theorem okTo_typ (f : Fn) (q : Nat) (n : ByteArray) (t : Int) (hn : f.names[q]? = some n) (ht : f.types[q]? = some t) (h : typB t = false) : okTo f (q + 1) = false := by
  rw [okTo_succ f q n t hn ht, h, Bool.and_false]

set_option maxRecDepth 100000 in
set_option maxHeartbeats 16000000 in
theorem check_c (l : List Fn) (A : Option Addr) (c : Nat) (F : Nat → Prop) (w : World) (hA : FnsIn w F (.slice A l.length c) l) (hZ : ∀ f ∈ l, FnZ f) (hlen : l.length ≤ 281474976710656) :
    Calls Tryz.prog 14 #[.agg #[.slice A l.length c]] w fun e w' => e = .returned (.int .i64 (unitF l)) ∧ Below w.heap.size w w' := by
  have HA := Lib.hid hA; have HZ := Lib.hid hZ
  clear hA hZ
  by_cases h16 : 16 < l.length
  · have h16' : (16 : Int) < (l.length : Int) := by omega
    go_enter Tryz.func14, Tryz.ntmps14
    go_wp2_with fail
    go_ret
    exact ⟨by unfold unitF; rw [if_pos h16]; rfl, (Below.refl _ _).alloc (Nat.le_refl _) _⟩
  have h16' : (l.length : Int) ≤ 16 := by omega
  have hU : Hid (unitF l = fnsF l) := Lib.hid (by unfold unitF; rw [if_neg h16])
  clear h16
  go_enter Tryz.func14, Tryz.ntmps14
  go_wp2_with fail
  go_loopw [15] (fun i wr => ∃ j : Nat, j ≤ l.length ∧ i = .int .i64 j ∧ Hid (fnsF (l.take j) = 0) ∧ Hid (Below w.heap.size w wr)) (fun i _ => l.length - (intOf i).toNat)
  case atStart => exact ⟨0, Nat.zero_le _, rfl, Lib.hid (by rw [List.take_zero, fnsF]), Lib.hid ((Below.refl _ _).alloc (Nat.le_refl _) _)⟩
  case round =>
    obtain ⟨j, hj, rfl, HE, HB⟩ := hrel
    by_cases hlt : j < l.length
    · obtain ⟨f, hf⟩ : ∃ f, l[j]? = some f := ⟨_, List.getElem?_eq_getElem hlt⟩
      obtain ⟨g, off, An, cn, At, ct, Ab, cb, rfl, hg, hkn, hkt, hkb, hc⟩ := HA.out.at j f hf
      have b0 := (HB.out.cell (p := ⟨g, off + j * 6, none⟩) hg).trans (hc 0 _ rfl)
      have b1 := (HB.out.cell (p := ⟨g, off + j * 6 + 1, none⟩) hg).trans (hc 1 _ rfl)
      have b2 := (HB.out.cell (p := ⟨g, off + j * 6 + 2, none⟩) hg).trans (hc 2 _ rfl)
      have b3 := (HB.out.cell (p := ⟨g, off + j * 6 + 3, none⟩) hg).trans (hc 3 _ rfl)
      have b4 := (HB.out.cell (p := ⟨g, off + j * 6 + 4, none⟩) hg).trans (hc 4 _ rfl)
      have b5 := (HB.out.cell (p := ⟨g, off + j * 6 + 5, none⟩) hg).trans (hc 5 _ rfl)
      have hin : f ∈ l := List.mem_of_getElem? hf
      have HS := Lib.hid hf; have HKN := Lib.hid hkn; have HKT := Lib.hid hkt; have HKB := Lib.hid hkb; have HZS := Lib.hid (HZ.out f hin)
      clear hf hkn hkt hkb hc hin
      have k0 : (0 : Int) ≤ (j : Int) := by omega
      have k1 : (j : Int) < (l.length : Int) := by omega
      go_upto_region 6 with (fail)
      clear b0 b1 b2 b3 b4 b5
      have HBa := Lib.hid (HB.out.alloc HB.out.size (.cells #[.string f.name, .slice An f.names.length cn, .slice At f.types.length ct, .int .i64 f.out, .slice Ab f.body.length cb, .int .i64 f.pos] 32))
      have HQ := Lib.hid (heap_alloc_new wr (.cells #[.string f.name, .slice An f.names.length cn, .slice At f.types.length ct, .int .i64 f.out, .slice Ab f.body.length cb, .int .i64 f.pos] 32))
      generalize wr.alloc _ = wa at HBa HQ ⊢
      have hb6 := lt_of_some HQ.out
      generalize wr.heap.size = b6 at HQ hb6 ⊢
      have hnl := HZS.out.nlen; have htl := HZS.out.tlen; have hbl := HZS.out.blen
      obtain ⟨⟨c0, c1, c2, c3, c4, c5⟩, -⟩ := facts6 HQ.out
      by_cases h6 : 6 < f.names.length
      · have h6' : (6 : Int) < (f.names.length : Int) := by omega
        have e : fnF f = 2 := by unfold fnF; rw [if_pos h6]
        have HF := Lib.hid e; clear e h6
        go_wp2_with fail
        go_ret
        exact ⟨by rw [hU.out, fnsF_hit HS.out HE.out (by rw [HF.out]; decide), HF.out]; rfl, HBa.out⟩
      have h6' : (f.names.length : Int) ≤ 6 := by omega
      have H6 := Lib.hid h6; clear h6
      obtain ⟨bn, hbn⟩ : ∃ b, nameB f.name = b := ⟨_, rfl⟩
      have HN := Lib.hid hbn; have HZN := Lib.hid HZS.out.name
      clear hbn
      obtain ⟨ho, hho⟩ : ∃ b, okTo f 0 = b := ⟨_, rfl⟩
      have HO := Lib.hid hho; clear hho
      go_upto_region 8 with (fail)
      go_cut [45] (fun u W => u = .bool (!ho) ∧ W = wa)
      case first =>
        have HX : Hid (ho = (decide (f.names.length = f.types.length) && bn && typB f.out)) := Lib.hid (by rw [← HO.out, okTo_zero, ← HN.out]; rfl)
        by_cases hl : f.names.length = f.types.length
        · have e1 : ((f.names.length : Int) != (f.types.length : Int)) = false := by simp; omega
          have HL := Lib.hid hl; clear hl
          cases bn with
          | false =>
            go_wp2_with fail
            refine (isName_pb f.name false HN.out HZN.out _).mono ?_
            rintro e w7 ⟨rfl, rfl⟩
            go_wp2_with fail
            all_goals
              go_meet
              case rel => exact ⟨congrArg Value.bool (by rw [HX.out]; simp), rfl⟩
          | true =>
            cases et1 : (f.out != 1) with
            | false =>
              go_wp2_with fail
              refine (isName_pb f.name true HN.out HZN.out _).mono ?_
              rintro e w7 ⟨rfl, rfl⟩
              go_wp2_with fail
              all_goals
                go_meet
                case rel => exact ⟨congrArg Value.bool (by rw [HX.out]; have : f.out = 1 := by simpa using et1
                                                           simp [typB, this, HL.out]), rfl⟩
            | true =>
              cases et2 : (f.out != 2) with
              | false =>
                go_wp2_with fail
                refine (isName_pb f.name true HN.out HZN.out _).mono ?_
                rintro e w7 ⟨rfl, rfl⟩
                go_wp2_with fail
                all_goals
                  go_meet
                  case rel => exact ⟨congrArg Value.bool (by rw [HX.out]; have : f.out = 2 := by simpa using et2
                                                             simp [typB, this, HL.out]), rfl⟩
              | true =>
                go_wp2_with fail
                refine (isName_pb f.name true HN.out HZN.out _).mono ?_
                rintro e w7 ⟨rfl, rfl⟩
                go_wp2_with fail
                all_goals
                  go_meet
                  case rel => exact ⟨congrArg Value.bool (by rw [HX.out]; have h1 : ¬ f.out = 1 := by simpa using et1
                                                             have h2 : ¬ f.out = 2 := by simpa using et2
                                                             simp [typB, h1, h2]), rfl⟩
        · have e1 : ((f.names.length : Int) != (f.types.length : Int)) = true := by simp; omega
          have HL := Lib.hid hl; clear hl
          go_wp2_with fail
          all_goals
            go_meet
            case rel => exact ⟨congrArg Value.bool (by rw [HX.out]; simp [HL.out]), rfl⟩
      case rest =>
        obtain ⟨rfl, hw⟩ := hcut
        subst hw
        clear HN HZN
        cases ho with
        | false =>
          have HF := Lib.hid (fnF_bad H6.out (Nat.zero_le _) HO.out)
          go_wp2_with fail
          go_ret
          exact ⟨by rw [hU.out, fnsF_hit HS.out HE.out (by rw [HF.out]; decide), HF.out]; rfl, HBa.out⟩
        | true =>
          have HL : Hid (f.names.length = f.types.length) := Lib.hid (by
            have := HO.out
            rw [okTo_zero] at this
            unfold okHead at this
            simp only [Bool.and_eq_true, decide_eq_true_eq] at this
            exact this.1.1)
          have hltt : (f.types.length : Int) = (f.names.length : Int) := by have := HL.out; omega
          have HLT := Lib.hid hltt; clear hltt
          go_upto_block 2 with (fail)
          go_cut [] (fun W => Hid (okTo f f.names.length = true) ∧ W = wc)
          case first =>
            go_wp2_with fail
            go_loopw [49] (fun i wq => ∃ q : Nat, q ≤ f.names.length ∧ i = .int .i64 q ∧ Hid (okTo f q = true) ∧ wq = wc) (fun i _ => f.names.length - (intOf i).toNat)
            case atStart => exact ⟨0, Nat.zero_le _, rfl, HO, rfl⟩
            case round =>
              clear HO
              obtain ⟨q, hq, rfl, HO, hw⟩ := hrel
              subst hw
              by_cases hlt2 : q < f.names.length
              · obtain ⟨n, hn⟩ : ∃ n, f.names[q]? = some n := ⟨_, List.getElem?_eq_getElem hlt2⟩
                obtain ⟨t, ht⟩ : ∃ t, f.types[q]? = some t := ⟨_, List.getElem?_eq_getElem (by have := HL.out; omega)⟩
                obtain ⟨gn, on, rfl, hgn, hcn⟩ := HKN.out.at q n hn
                obtain ⟨gt, ot, rfl, hgt, hct⟩ := HKT.out.at q t ht
                have kn := (HBa.out.cell (p := ⟨gn, on + q, none⟩) hgn).trans hcn
                have kt := (HBa.out.cell (p := ⟨gt, ot + q, none⟩) hgt).trans hct
                have HNn := Lib.hid hn; have HTt := Lib.hid ht; have HNI := Lib.hid (HZS.out.names n (List.mem_of_getElem? hn))
                clear hcn hct hn ht hgn hgt
                have q0 : (0 : Int) ≤ (q : Int) := by omega
                have q1 : (q : Int) < (f.names.length : Int) := by omega
                have q2 : (q : Int) < (f.types.length : Int) := by have := HLT.out; omega
                obtain ⟨bn, hbn⟩ : ∃ b, nameB n = b := ⟨_, rfl⟩
                have HN := Lib.hid hbn; clear hbn
                cases bn with
                | false =>
                  have HF := Lib.hid (fnF_bad H6.out (q := q + 1) (by omega) (okTo_name f q n HNn.out HN.out))
                  go_wp2_with fail
                  refine (isName_pb n false HN.out HNI.out _).mono ?_
                  rintro e w7 ⟨rfl, rfl⟩
                  go_wp2_with fail
                  go_ret
                  exact ⟨by rw [hU.out, fnsF_hit HS.out HE.out (by rw [HF.out]; decide), HF.out]; rfl, HBa.out⟩
                | true =>
                  cases et1 : (t != 1) with
                  | false =>
                    have HQq : Hid (okTo f (q + 1) = true) := Lib.hid (by
                      have h1 : t = 1 := by simpa using et1
                      rw [okTo_succ f q n t HNn.out HTt.out, HO.out, HN.out]; simp [typB, h1])
                    go_wp2_with fail
                    refine (isName_pb n true HN.out HNI.out _).mono ?_
                    rintro e w7 ⟨rfl, rfl⟩
                    go_wp2_with fail
                    go_roundw
                    case rel => (repeat apply Exists.intro); exact ⟨⟨q + 1, by omega, by go_num, HQq, trivial⟩, rfl⟩
                    case measure => simp [intOf]; omega
                  | true =>
                    cases et2 : (t != 2) with
                    | false =>
                      have HQq : Hid (okTo f (q + 1) = true) := Lib.hid (by
                        have h1 : t = 2 := by simpa using et2
                        rw [okTo_succ f q n t HNn.out HTt.out, HO.out, HN.out]; simp [typB, h1])
                      go_wp2_with fail
                      refine (isName_pb n true HN.out HNI.out _).mono ?_
                      rintro e w7 ⟨rfl, rfl⟩
                      go_wp2_with fail
                      go_roundw
                      case rel => (repeat apply Exists.intro); exact ⟨⟨q + 1, by omega, by go_num, HQq, trivial⟩, rfl⟩
                      case measure => simp [intOf]; omega
                    | true =>
                      have HF := Lib.hid (fnF_bad H6.out (q := q + 1) (by omega) (okTo_typ f q n t HNn.out HTt.out (by
                        have h1 : ¬ t = 1 := by simpa using et1
                        have h2 : ¬ t = 2 := by simpa using et2
                        simp [typB, h1, h2])))
                      go_wp2_with fail
                      refine (isName_pb n true HN.out HNI.out _).mono ?_
                      rintro e w7 ⟨rfl, rfl⟩
                      go_wp2_with fail
                      go_ret
                      exact ⟨by rw [hU.out, fnsF_hit HS.out HE.out (by rw [HF.out]; decide), HF.out]; rfl, HBa.out⟩
              · have hqe : q = f.names.length := by omega
                subst hqe
                go_wp2_with fail
                go_meet
                case rel => exact ⟨HO, rfl⟩
          case rest =>
            clear HO
            obtain ⟨HO, hw⟩ := hcut
            subst hw
            have HF := Lib.hid (fnF_ok H6.out HO.out)
            have c4' : _ := (facts6 HQ.out).1.2.2.2.2.1
            clear c0 c1 c2 c3 c4 c5
            go_wp2_with fail
            clear c4'
            refine (psmsF_r 40 (by decide) 40 rfl f.body Ab cb F _ (HKB.out.keep (F' := F) (fun q h1 h2 => ⟨h1, Nat.lt_of_lt_of_le h2 HBa.out.size, HBa.out.block q h2⟩)) HZS.out.body HZS.out.blen).mono ?_
            rintro e w8 ⟨rfl, hb8⟩
            have HB8 := Lib.hid (HBa.out.trans (hb8.mono HBa.out.size))
            clear hb8
            obtain ⟨z, hz⟩ : ∃ z, smsF f.body 40 = z := ⟨_, rfl⟩
            rw [hz]
            have HZ2 := Lib.hid (HF.out.trans hz)
            clear hz
            by_cases hz0 : z = 0
            · subst hz0
              go_wp2_with fail
              go_roundw
              case rel => exact ⟨j + 1, by omega, by go_num, Lib.hid (fnsF_snoc HS.out HE.out HZ2.out), HB8⟩
              case measure => simp [intOf]; omega
            · have e0 : (z != 0) = true := by simpa using hz0
              have HZ0 := Lib.hid hz0; clear hz0
              go_wp2_with fail
              go_ret
              exact ⟨by rw [hU.out, fnsF_hit HS.out HE.out (by rw [HZ2.out]; exact HZ0.out), HZ2.out]; rfl, HB8.out⟩
    · have hje : j = l.length := by omega
      have HF : Hid (fnsF l = 0) := Lib.hid (by have := HE.out; rw [hje, List.take_length] at this; exact this)
      clear hje
      go_wp2_with fail
      go_ret
      exact ⟨by rw [hU.out, HF.out]; rfl, HB.out⟩
end Go.Proofs.YtmngofgminlloaaGreatDoor
