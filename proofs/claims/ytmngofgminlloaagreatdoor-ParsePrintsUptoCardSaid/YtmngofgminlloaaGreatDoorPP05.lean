/-
  The printer writes an expression: its text is that of its pieces.
  The program's check of statements: parse.stmts answers smsF.
-/
import Derived.Test.YtmngofgminlloaaGreatDoorPP01
import Derived.Test.YtmngofgminlloaaGreatDoorPP04
import Derived.Test.YtmngofgminlloaaGreatDoorPP03
import Derived.Test.YtmngofgminlloaaGreatDoorTT14
set_option linter.all false
namespace Go.Proofs.YtmngofgminlloaaGreatDoor
open Go.RowKit Tw

theorem app_toL (a b : ByteArray) : (a ++ b).data.toList = a.data.toList ++ b.data.toList := by simp
theorem WrF.dr {w0 w : World} {b : Nat} {l : Bs} (h : WrF w0 w b l) : WrF w0 w.drew b l := h.to (bel_drew _)
theorem WrF.al {w0 w : World} {b : Nat} {l : Bs} (h : WrF w0 w b l) (o : Obj) : WrF w0 (w.alloc o) b l := h.to ((Below.refl _ _).alloc (Nat.le_refl _) o)
theorem WrF.reb {w0 w : World} {b : Nat} {l : Bs} (h : WrF w0 w b l) : WrF w w b l := { h with bel := Below.refl _ _, kw := .refl _ }
theorem WrF.tr {w0 w w' : World} {b : Nat} {l l' : Bs} (h : WrF w0 w b l) (h' : WrF w w' b l') : WrF w0 w' b l' := { h' with bel := h.bel.trans h'.bel, kw := h.kw.trans h'.kw }
theorem WrF.eq {w0 w : World} {b : Nat} {l l' : Bs} (h : WrF w0 w b l) (e : l = l') : WrF w0 w b l' := e ▸ h
/-- A block of expressions stays. -/
theorem WrF.blk {w0 w : World} {b k : Nat} {l : Bs} {cs : Array Value} {t : Nat} (h : WrF w0 w b l) (hk : w0.heap[k]? = some (.cells cs t (0, 0))) (h1 : t ≠ 102) (h2 : t ≠ 5) : w.heap[k]? = some (.cells cs t (0, 0)) := (h.kw.blk k _ _ _ hk h1 h2).trans hk
def PrX (left : Nat) : Prop :=
  ∀ (li : Int) (x : Ex) (A : Option Addr) (c : Nat) (F : Nat → Prop) (least : Nat) (b : Nat) (l : Bs) (w : World), li = least → exF x left = 0 → ArgsIn w F (.slice A x.args.length c) x.args → (∀ g, F g → g < b) → WrF w w b l → l.length + (pcsT (exPc least x)).length ≤ 140737488355328 →
    Calls Tryz.prog 160 #[.pointer (some ⟨b, 0, none⟩), .agg #[.int .i64 x.kind, .int .i64 x.n, .string x.text, .slice A x.args.length c, .int .i64 x.pos], .int .i64 li] w fun e w' => e = .returned (.tuple #[]) ∧ WrF w w' b (l ++ pcsT (exPc least x))
def PrA (left : Nat) : Prop :=
  ∀ (xs : List Ex) (A : Option Addr) (c : Nat) (F : Nat → Prop) (b : Nat) (l : Bs) (w : World), (∀ a ∈ xs, exF a left = 0) → xs.length ≤ 6 → ArgsIn w F (.slice A xs.length c) xs → (∀ g, F g → g < b) → WrF w w b l → l.length + (pcsT (lsPc xs)).length + 2 ≤ 140737488355328 →
    Calls Tryz.prog 200 #[.pointer (some ⟨b, 0, none⟩), .slice A xs.length c] w fun e w' => e = .returned (.tuple #[]) ∧ WrF w w' b (l ++ ([40] ++ pcsT (lsPc xs) ++ [41]))
theorem PrF_args {w0 w : World} {b : Nat} {l : Bs} {F : Nat → Prop} {v : Value} {xs : List Ex} (h : WrF w0 w b l) (hF : ∀ g, F g → g < b) (hA : ArgsIn w0 F v xs) : ArgsIn w F v xs :=
  hA.keep fun g h1 h2 => ⟨h1, Nat.lt_of_lt_of_le h2 h.bel.size, h.bel.block g (hF g h1)⟩

/-- A numeral. -/
theorem itoa_w {w0 w : World} {b : Nat} {l : Bs} (n : Int) (s : ByteArray) (h0 : 0 ≤ n) (h1 : n ≤ 999999999999) (hs : (⟨(Lib.itoa n).toArray⟩ : ByteArray) = s) (h : WrF w0 w b l) :
    Calls Tryz.prog 70 #[.int .i64 n] w fun e w' => e = .returned (.string s) ∧ WrF w0 w' b l ∧ Below w.heap.size w w' := by
  subst hs
  refine (Tryz.strconv_Itoa n (by omega) (by omega) w h.gl.pow).mono ?_
  rintro e w' ⟨rfl, k, os, rfl⟩
  exact ⟨rfl, h.to (below_grow w k os), below_grow w k os⟩
set_option maxRecDepth 100000 in
set_option maxHeartbeats 8000000 in
theorem pra_step (left : Nat) (ih : PrX left) : PrA left := by
  intro xs A c F b l w ha hx6 hA hF hW hlen
  have HH := Lib.hid ha; have HA := Lib.hid hA; have HF := Lib.hid hF; have HW := Lib.hid hW; have IH := Lib.hid ih; have HL := Lib.hid hlen
  clear ha hA hF hW ih hlen
  go_enter Tryz.func200, Tryz.ntmps200
  go_wp2_with fail
  refine (wr_c _ _ b l _ HW.out (by have := HL.out; show l.length + 1 ≤ _; omega)).mono ?_
  rintro e w1 ⟨rfl, hw⟩
  have HW1 := Lib.hid (show WrF w w1 b (l ++ [40] ++ pcsT (lsPc (xs.take 0))) from hw.eq (by simp [lsPc, pcsT_nil]))
  clear hw
  go_wp2_with fail
  go_loopw [12] (fun i wr => ∃ j : Nat, j ≤ xs.length ∧ i = .int .i64 j ∧ Hid (WrF w wr b (l ++ [40] ++ pcsT (lsPc (xs.take j))))) (fun i _ => xs.length - (intOf i).toNat)
  case atStart => exact ⟨0, Nat.zero_le _, rfl, HW1⟩
  case round =>
    obtain ⟨j, hj, rfl, HWj⟩ := hrel
    by_cases hlt : j < xs.length
    · obtain ⟨y, hy⟩ : ∃ y, xs[j]? = some y := ⟨_, List.getElem?_eq_getElem hlt⟩
      obtain ⟨g, off, A', c', rfl, hFg, hg, hka, q0, q1, q2, q3, q4⟩ := HA.out.at j y hy
      have hgb := HF.out g hFg
      have b0 := (HWj.out.bel.cell (p := ⟨g, off + j * 5, none⟩) hgb).trans q0
      have b1 := (HWj.out.bel.cell (p := ⟨g, off + j * 5 + 1, none⟩) hgb).trans q1
      have b2 := (HWj.out.bel.cell (p := ⟨g, off + j * 5 + 2, none⟩) hgb).trans q2
      have b3 := (HWj.out.bel.cell (p := ⟨g, off + j * 5 + 3, none⟩) hgb).trans q3
      have b4 := (HWj.out.bel.cell (p := ⟨g, off + j * 5 + 4, none⟩) hgb).trans q4
      have HY := Lib.hid hy; have HKA := Lib.hid hka
      have HE := Lib.hid (HH.out y (List.mem_of_getElem? hy))
      have HT := Lib.hid (tx_ls xs j y hy); have HT2 := Lib.hid (tx_ls_le xs (j + 1))
      clear hy hka q0 q1 q2 q3 q4 hFg hgb
      have k0 : (0 : Int) ≤ (j : Int) := by omega
      have k1 : (j : Int) < (xs.length : Int) := by omega
      go_upto_region 4 with (fail)
      clear b0 b1 b2 b3 b4
      have HQ := Lib.hid (heap_alloc_new wr (.cells #[.int .i64 y.kind, .int .i64 y.n, .string y.text, .slice A' y.args.length c', .int .i64 y.pos] 186))
      have HWa := Lib.hid (HWj.out.al (.cells #[.int .i64 y.kind, .int .i64 y.n, .string y.text, .slice A' y.args.length c', .int .i64 y.pos] 186))
      clear HWj
      generalize wr.alloc _ = wa at HQ HWa ⊢
      generalize wr.heap.size = nb at HQ ⊢
      by_cases h0 : 0 < j
      · have h0' : (0 : Int) < (j : Int) := by omega
        rw [if_pos h0] at HT
        clear h0
        go_wp2_with fail
        refine (wr_c _ _ b _ _ HWa.out.reb (by have h1 := HT.out; have h2 := HT2.out; have h3 := HL.out; rw [h1] at h2; simp only [List.length_append, List.length_cons, List.length_nil] at h2 ⊢; show _ + 2 ≤ _; omega)).mono ?_
        rintro e w2 ⟨rfl, hw⟩
        have HQ2 := Lib.hid (hw.blk HQ.out (by decide) (by decide))
        have HW2 := Lib.hid (HWa.out.tr hw)
        clear hw HWa HQ
        obtain ⟨⟨c0, c1, c2, c3, c4⟩, -⟩ := facts5 HQ2.out
        go_wp2_with fail
        refine (IH.out 0 y A' c' F 0 b _ _ rfl HE.out (PrF_args HW2.out HF.out HKA.out) HF.out HW2.out.reb (by have h1 := HT.out; have h2 := HT2.out; have h3 := HL.out; rw [h1] at h2; simp only [List.length_append, List.length_cons, List.length_nil] at h2 ⊢; show _ + _ + _ + 2 + _ ≤ _; omega)).mono ?_
        rintro e w3 ⟨rfl, hw⟩
        have HW3 := Lib.hid (show WrF w w3 b (l ++ [40] ++ pcsT (lsPc (xs.take (j + 1)))) from (HW2.out.tr hw).eq (by rw [HT.out]; simp [List.append_assoc]))
        clear hw c0 c1 c2 c3 c4
        go_wp2_with fail
        go_roundw
        case rel => exact ⟨j + 1, by omega, by go_num, HW3⟩
        case measure => simp [intOf]; omega
      · obtain rfl : j = 0 := by omega
        rw [if_neg h0] at HT
        clear h0
        obtain ⟨⟨c0, c1, c2, c3, c4⟩, -⟩ := facts5 HQ.out
        go_wp2_with fail
        refine (IH.out 0 y A' c' F 0 b _ _ rfl HE.out (PrF_args HWa.out HF.out HKA.out) HF.out HWa.out.reb (by have h1 := HT.out; have h2 := HT2.out; have h3 := HL.out; rw [h1] at h2; simp only [List.length_append, List.length_cons, List.length_nil] at h2 ⊢; omega)).mono ?_
        rintro e w3 ⟨rfl, hw⟩
        have HW3 := Lib.hid (show WrF w w3 b (l ++ [40] ++ pcsT (lsPc (xs.take (0 + 1)))) from (HWa.out.tr hw).eq (by rw [HT.out]; simp [List.append_assoc]))
        clear hw c0 c1 c2 c3 c4
        go_wp2_with fail
        go_roundw
        case rel => exact ⟨0 + 1, by omega, by go_num, HW3⟩
        case measure => simp [intOf]; omega
    · have hje : j = xs.length := by omega
      have HWe := Lib.hid (show WrF w wr b (l ++ [40] ++ pcsT (lsPc xs)) by have := HWj.out; rwa [hje, List.take_length] at this)
      clear hje HWj
      go_wp2_with fail
      refine (wr_c _ _ b _ _ HWe.out (by have h3 := HL.out; simp only [List.length_append, List.length_cons, List.length_nil]; show _ + 1 ≤ _; omega)).mono ?_
      rintro e w2 ⟨rfl, hw⟩
      go_wp2_with fail
      go_end0
      exact ⟨rfl, hw.eq (by simp [List.append_assoc])⟩

set_option maxRecDepth 100000 in
set_option maxHeartbeats 16000000 in
theorem prx_step (left : Nat) (ih : PrX left) : PrX (left + 1) := by
  have iha := pra_step left ih
  intro li x A c F least b l w hli hx hA hF hW hlen
  subst hli
  obtain ⟨l', h0, hv⟩ := exV hx
  obtain rfl : left = l' := by omega
  have IH := Lib.hid ih; have IHA := Lib.hid iha; have HF := Lib.hid hF
  clear ih iha hF h0 hx
  cases hv with
  | num n0 n1 =>
    rename_i n t p
    have e0 : numL n.toNat = Lib.itoa n := by unfold numL; rw [Int.toNat_of_nonneg n0]
    obtain ⟨s, hs⟩ : ∃ s : ByteArray, (⟨(Lib.itoa n).toArray⟩ : ByteArray) = s := ⟨_, rfl⟩
    have hs2 : Lib.itoa n = s.data.toList := by rw [← hs]
    have HS := Lib.hid hs
    clear hs
    have HA := Lib.hid hA
    simp only [Ex.kind, Ex.n, Ex.text, Ex.args, Ex.pos, List.length_cons, List.length_nil, Nat.zero_add, Nat.reduceAdd] at HA ⊢
    rw [tx1, e0, hs2] at hlen ⊢
    have HL := Lib.hid hlen
    have HQ := Lib.hid (heap_alloc_new w (.cells #[.int .i64 1, .int .i64 n, .string t, .slice A 0 c, .int .i64 p] 186))
    have HW := Lib.hid (hW.al (.cells #[.int .i64 1, .int .i64 n, .string t, .slice A 0 c, .int .i64 p] 186))
    clear hlen hA hW e0 hs2
    go_enter Tryz.func160, Tryz.ntmps160
    go_upto_region 1 with (fail)
    generalize w.alloc _ = wa at HQ HW ⊢
    generalize w.heap.size = nb at HQ ⊢
    obtain ⟨⟨c0, c1, c2, c3, c4⟩, -⟩ := facts5 HQ.out
    have HWd := Lib.hid HW.out.dr
    go_upto_region 3 with (fail)
    go_region_law (first | (go_simp; first
      | (go_at_call 70; refine (itoa_w n s n0 n1 HS.out HWd.out).mono ?_; rintro e w8 ⟨rfl, hw8, -⟩; have HW8 := Lib.hid hw8)
      | (go_at_call 41; refine (wr_c _ _ b l _ HW8.out (by have := HL.out; simpa using this)).mono ?_; rintro e w9 ⟨rfl, hw9⟩)))
    all_goals
      go_wp2_with fail
      go_end0
      exact ⟨rfl, hw9⟩
  | flag hf =>
    rename_i n t p
    have htf : ∃ s : ByteArray, s.data.toList = tfP n ∧ s = (if n = 0 then ⟨#[102, 97, 108, 115, 101]⟩ else ⟨#[116, 114, 117, 101]⟩) := ⟨if n = 0 then ⟨#[102, 97, 108, 115, 101]⟩ else ⟨#[116, 114, 117, 101]⟩, by unfold tfP; split <;> rfl, rfl⟩
    obtain ⟨s, hs1, hs2⟩ := htf
    have HA := Lib.hid hA
    simp only [Ex.kind, Ex.n, Ex.text, Ex.args, Ex.pos, List.length_cons, List.length_nil, Nat.zero_add, Nat.reduceAdd] at HA ⊢
    rw [tx2, ← hs1] at hlen ⊢
    have HL := Lib.hid hlen
    have HQ := Lib.hid (heap_alloc_new w (.cells #[.int .i64 2, .int .i64 n, .string t, .slice A 0 c, .int .i64 p] 186))
    have HW := Lib.hid (hW.al (.cells #[.int .i64 2, .int .i64 n, .string t, .slice A 0 c, .int .i64 p] 186))
    clear hlen hA hW hs1
    go_enter Tryz.func160, Tryz.ntmps160
    go_upto_region 1 with (fail)
    generalize w.alloc _ = wa at HQ HW ⊢
    generalize w.heap.size = nb at HQ ⊢
    obtain ⟨⟨c0, c1, c2, c3, c4⟩, -⟩ := facts5 HQ.out
    have hnb := lt_of_some HQ.out
    have HWb := Lib.hid ((HW.out.al (.cells #[.string ⟨#[102, 97, 108, 115, 101]⟩, .string ⟨#[116, 114, 117, 101]⟩] 9)).dr)
    have HBk : Hid ((wa.alloc (.cells #[.string ⟨#[102, 97, 108, 115, 101]⟩, .string ⟨#[116, 114, 117, 101]⟩] 9)).drew.heap[nb]? = _) := Lib.hid ((heap_alloc_old wa (.cells #[.string ⟨#[102, 97, 108, 115, 101]⟩, .string ⟨#[116, 114, 117, 101]⟩] 9) hnb).trans HQ.out)
    have HBn : Hid ((wa.alloc (.cells #[.string ⟨#[102, 97, 108, 115, 101]⟩, .string ⟨#[116, 114, 117, 101]⟩] 9)).drew.heap[wa.heap.size]? = _) := Lib.hid (heap_alloc_new wa (.cells #[.string ⟨#[102, 97, 108, 115, 101]⟩, .string ⟨#[116, 114, 117, 101]⟩] 9))
    have d1 := Lib.cell_of_heap HBk.out 1
    have d2 := Lib.cell_of_heap HBn.out 0
    have d3 := Lib.cell_of_heap HBn.out 1
    go_upto_region 5 with (fail)
    rcases hf with rfl | rfl
    all_goals
      simp at hs2
      subst hs2
      go_region_law (first | (go_simp; go_at_call 41; refine (wr_c _ _ b l _ HWb.out (by have := HL.out; rw [Array.length_toList] at this; exact this)).mono ?_; rintro e w9 ⟨rfl, hw9⟩))
      all_goals
        go_wp2_with fail
        go_end0
        exact ⟨rfl, hw9⟩
  | var hn =>
    rename_i n t p
    have HA := Lib.hid hA
    simp only [Ex.kind, Ex.n, Ex.text, Ex.args, Ex.pos, List.length_cons, List.length_nil, Nat.zero_add, Nat.reduceAdd] at HA ⊢
    rw [tx3] at hlen ⊢
    have HL := Lib.hid hlen
    have HQ := Lib.hid (heap_alloc_new w (.cells #[.int .i64 3, .int .i64 n, .string t, .slice A 0 c, .int .i64 p] 186))
    have HW := Lib.hid (hW.al (.cells #[.int .i64 3, .int .i64 n, .string t, .slice A 0 c, .int .i64 p] 186))
    clear hlen hA hW
    go_enter Tryz.func160, Tryz.ntmps160
    go_upto_region 1 with (fail)
    generalize w.alloc _ = wa at HQ HW ⊢
    generalize w.heap.size = nb at HQ ⊢
    obtain ⟨⟨c0, c1, c2, c3, c4⟩, -⟩ := facts5 HQ.out
    have HWd := Lib.hid HW.out.dr
    go_upto_region 7 with (fail)
    go_region_law (first | (go_simp; go_at_call 41; refine (wr_c _ _ b l _ HWd.out (by have := HL.out; simpa using this)).mono ?_; rintro e w9 ⟨rfl, hw9⟩))
    all_goals
      go_wp2_with fail
      go_end0
      exact ⟨rfl, hw9⟩
  | neg ha =>
    rename_i n t p a
    have HE := Lib.hid ha
    clear ha
    have HA := Lib.hid hA
    simp only [Ex.kind, Ex.n, Ex.text, Ex.args, Ex.pos, List.length_cons, List.length_nil, Nat.zero_add, Nat.reduceAdd] at HA ⊢
    rw [tx4] at hlen ⊢
    have HL := Lib.hid hlen
    have HQ := Lib.hid (heap_alloc_new w (.cells #[.int .i64 4, .int .i64 n, .string t, .slice A 1 c, .int .i64 p] 186))
    have HW := Lib.hid (hW.al (.cells #[.int .i64 4, .int .i64 n, .string t, .slice A 1 c, .int .i64 p] 186))
    clear hlen hA hW
    go_enter Tryz.func160, Tryz.ntmps160
    go_upto_region 1 with (fail)
    generalize w.alloc _ = wa at HQ HW ⊢
    generalize w.heap.size = nb at HQ ⊢
    obtain ⟨⟨c0, c1, c2, c3, c4⟩, -⟩ := facts5 HQ.out
    obtain ⟨g, off, Aa, ca, rfl, hFg, -, hka, q0, q1, q2, q3, q4⟩ := ArgsIn.at (l := [a]) HA.out 0 a rfl
    simp only [Nat.zero_mul, Nat.one_mul, Nat.add_zero] at q0 q1 q2 q3 q4
    have HKa := Lib.hid hka; clear hka
    have hgb := HF.out g hFg
    clear hFg
    go_wp2_with fail
    refine (wr_c _ _ b _ _ HW.out.reb (by have := HL.out; simp only [List.length_append, List.length_cons, List.length_nil] at this ⊢; show l.length + 1 ≤ _; omega)).mono ?_
    rintro e w2 ⟨rfl, hw⟩
    have HQ2 := Lib.hid (hw.blk HQ.out (by decide) (by decide))
    have HW2 := Lib.hid (HW.out.tr hw)
    clear hw c0 c1 c2 c3 c4
    obtain ⟨⟨c0, c1, c2, c3, c4⟩, -⟩ := facts5 HQ2.out
    have b0 := (HW2.out.bel.cell (p := ⟨g, off, none⟩) hgb).trans q0
    have b1 := (HW2.out.bel.cell (p := ⟨g, off + 1, none⟩) hgb).trans q1
    have b2 := (HW2.out.bel.cell (p := ⟨g, off + 2, none⟩) hgb).trans q2
    have b3 := (HW2.out.bel.cell (p := ⟨g, off + 3, none⟩) hgb).trans q3
    have b4 := (HW2.out.bel.cell (p := ⟨g, off + 4, none⟩) hgb).trans q4
    go_wp2_with fail
    refine (IH.out 5 a Aa ca F (5) b _ _ (by omega) HE.out (PrF_args HW2.out HF.out HKa.out) HF.out HW2.out.reb (by have := HL.out; simp only [List.length_append, List.length_cons, List.length_nil] at this ⊢; show l.length + 1 + _ ≤ _; omega)).mono ?_
    rintro e w3 ⟨rfl, hw⟩
    go_wp2_with fail
    go_end0
    exact ⟨rfl, (HW2.out.tr hw).eq (by simp [List.append_assoc])⟩
  | not ha =>
    rename_i n t p a
    have HE := Lib.hid ha
    clear ha
    have HA := Lib.hid hA
    simp only [Ex.kind, Ex.n, Ex.text, Ex.args, Ex.pos, List.length_cons, List.length_nil, Nat.zero_add, Nat.reduceAdd] at HA ⊢
    rw [tx5] at hlen ⊢
    have HL := Lib.hid hlen
    have HQ := Lib.hid (heap_alloc_new w (.cells #[.int .i64 5, .int .i64 n, .string t, .slice A 1 c, .int .i64 p] 186))
    have HW := Lib.hid (hW.al (.cells #[.int .i64 5, .int .i64 n, .string t, .slice A 1 c, .int .i64 p] 186))
    clear hlen hA hW
    go_enter Tryz.func160, Tryz.ntmps160
    go_upto_region 1 with (fail)
    generalize w.alloc _ = wa at HQ HW ⊢
    generalize w.heap.size = nb at HQ ⊢
    obtain ⟨⟨c0, c1, c2, c3, c4⟩, -⟩ := facts5 HQ.out
    obtain ⟨g, off, Aa, ca, rfl, hFg, -, hka, q0, q1, q2, q3, q4⟩ := ArgsIn.at (l := [a]) HA.out 0 a rfl
    simp only [Nat.zero_mul, Nat.one_mul, Nat.add_zero] at q0 q1 q2 q3 q4
    have HKa := Lib.hid hka; clear hka
    have hgb := HF.out g hFg
    clear hFg
    go_wp2_with fail
    refine (wr_c _ _ b _ _ HW.out.reb (by have := HL.out; simp only [List.length_append, List.length_cons, List.length_nil] at this ⊢; show l.length + 1 ≤ _; omega)).mono ?_
    rintro e w2 ⟨rfl, hw⟩
    have HQ2 := Lib.hid (hw.blk HQ.out (by decide) (by decide))
    have HW2 := Lib.hid (HW.out.tr hw)
    clear hw c0 c1 c2 c3 c4
    obtain ⟨⟨c0, c1, c2, c3, c4⟩, -⟩ := facts5 HQ2.out
    have b0 := (HW2.out.bel.cell (p := ⟨g, off, none⟩) hgb).trans q0
    have b1 := (HW2.out.bel.cell (p := ⟨g, off + 1, none⟩) hgb).trans q1
    have b2 := (HW2.out.bel.cell (p := ⟨g, off + 2, none⟩) hgb).trans q2
    have b3 := (HW2.out.bel.cell (p := ⟨g, off + 3, none⟩) hgb).trans q3
    have b4 := (HW2.out.bel.cell (p := ⟨g, off + 4, none⟩) hgb).trans q4
    go_wp2_with fail
    refine (IH.out 5 a Aa ca F (5) b _ _ (by omega) HE.out (PrF_args HW2.out HF.out HKa.out) HF.out HW2.out.reb (by have := HL.out; simp only [List.length_append, List.length_cons, List.length_nil] at this ⊢; show l.length + 1 + _ ≤ _; omega)).mono ?_
    rintro e w3 ⟨rfl, hw⟩
    go_wp2_with fail
    go_end0
    exact ⟨rfl, (HW2.out.tr hw).eq (by simp [List.append_assoc])⟩
  | two hz ha hb =>
    rename_i n t p x1 x2
    have HE1 := Lib.hid ha; have HE2 := Lib.hid hb
    obtain ⟨m, hm⟩ : ∃ m, lv t.data.toList = m := ⟨_, rfl⟩
    have HM := Lib.hid hm
    have h5 : m ≤ 5 := hm ▸ lv_le5 _
    rw [hm] at hz
    have hop := Lib.hid (op_le (t := t.data.toList) (by rw [hm]; exact hz))
    have hts : t.size ≤ 2 := by have := hop.out; rwa [Array.length_toList] at this
    have hts1 : ¬ 9223372036854775807 < 1 + t.size := by omega
    have hts2 : ¬ 9223372036854775807 < 1 + t.size + 1 := by omega
    have i1 : (1 : Int) ≤ (m : Int) := by omega
    have i5 : (m : Int) ≤ 5 := by omega
    have HTA : Hid (t.data.toList.length = t.size) := Lib.hid Array.length_toList
    clear ha hb hop hts
    by_cases hp : m ≤ least
    · have hp' : (m : Int) ≤ (least : Int) := by omega
      by_cases h3 : m = 3
      · subst h3
        have hlf : leftP 3 = 3 := by unfold leftP; rw [if_pos rfl]
        have HA := Lib.hid hA
        simp only [Ex.kind, Ex.n, Ex.text, Ex.args, Ex.pos, List.length_cons, List.length_nil, Nat.zero_add, Nat.reduceAdd] at HA ⊢
        rw [tx6, hm, hlf, if_pos hp, if_pos hp] at hlen ⊢
        have HL := Lib.hid hlen
        have HQ := Lib.hid (heap_alloc_new w (.cells #[.int .i64 6, .int .i64 n, .string t, .slice A 2 c, .int .i64 p] 186))
        have HW := Lib.hid (hW.al (.cells #[.int .i64 6, .int .i64 n, .string t, .slice A 2 c, .int .i64 p] 186))
        clear hlen hA hW hm hlf hp
        go_enter Tryz.func160, Tryz.ntmps160
        go_upto_region 1 with (fail)
        generalize w.alloc _ = wa at HQ HW ⊢
        generalize w.heap.size = nb at HQ ⊢
        obtain ⟨⟨c0, c1, c2, c3, c4⟩, -⟩ := facts5 HQ.out
        obtain ⟨g, off, Aa, ca, rfl, hFg, -, hka, q0, q1, q2, q3, q4⟩ := ArgsIn.at (l := [x1, x2]) HA.out 0 x1 rfl
        simp only [Nat.zero_mul, Nat.one_mul, Nat.add_zero] at q0 q1 q2 q3 q4
        have HKa := Lib.hid hka; clear hka
        have hgb := HF.out g hFg
        clear hFg
        obtain ⟨g2, off2, Ab, cb, e2, hFg2, -, hkb, r0, r1, r2, r3, r4⟩ := ArgsIn.at (l := [x1, x2]) HA.out 1 x2 rfl
        obtain ⟨rfl, rfl⟩ : g = g2 ∧ off = off2 := by injection e2 with e2; injection e2 with e2 e3; exact ⟨e2, e3⟩
        clear e2 hFg2
        simp only [Nat.zero_mul, Nat.one_mul, Nat.add_zero] at r0 r1 r2 r3 r4
        have HKb := Lib.hid hkb; clear hkb
        go_wp2_with fail
        refine (level_pm t _ HM.out _).mono ?_
        rintro e w7 ⟨rfl, rfl⟩
        go_wp2_with fail
        refine (wr_c _ _ b _ _ HW.out.reb (by have := HL.out; simp only [List.length_append, List.length_cons, List.length_nil] at this ⊢; show l.length + 1 ≤ _; omega)).mono ?_
        rintro e w2 ⟨rfl, hw⟩
        have HQ2 := Lib.hid (hw.blk HQ.out (by decide) (by decide))
        have HW2 := Lib.hid (HW.out.tr hw)
        clear hw c0 c1 c2 c3 c4
        obtain ⟨⟨c0, c1, c2, c3, c4⟩, -⟩ := facts5 HQ2.out
        have b0 := (HW2.out.bel.cell (p := ⟨g, off, none⟩) hgb).trans q0
        have b1 := (HW2.out.bel.cell (p := ⟨g, off + 1, none⟩) hgb).trans q1
        have b2 := (HW2.out.bel.cell (p := ⟨g, off + 2, none⟩) hgb).trans q2
        have b3 := (HW2.out.bel.cell (p := ⟨g, off + 3, none⟩) hgb).trans q3
        have b4 := (HW2.out.bel.cell (p := ⟨g, off + 4, none⟩) hgb).trans q4
        go_wp2_with fail
        refine (IH.out 3 x1 Aa ca F (3) b _ _ (by omega) HE1.out (PrF_args HW2.out HF.out HKa.out) HF.out HW2.out.reb (by have := HL.out; simp only [List.length_append, List.length_cons, List.length_nil] at this ⊢; show l.length + 1 + _ ≤ _; omega)).mono ?_
        rintro e w3 ⟨rfl, hw⟩
        have HQ3 := Lib.hid (hw.blk HQ2.out (by decide) (by decide))
        have HW3 := Lib.hid (HW2.out.tr hw)
        clear hw c0 c1 c2 c3 c4 b0 b1 b2 b3 b4
        obtain ⟨⟨c0, c1, c2, c3, c4⟩, -⟩ := facts5 HQ3.out
        have HWd := Lib.hid HW3.out.dr
        go_upto_region 22 with (fail)
        go_region_law (first | (go_simp; go_at_call 41; refine (wr_c _ _ b _ _ HWd.out.reb (by have := HL.out; have hta := HTA.out; simp only [app_toL, List.length_append, List.length_cons, List.length_nil] at this ⊢; simp only [ByteArray.size_append] at this ⊢; show _ + (1 + t.size + 1) ≤ _; omega)).mono ?_; rintro e w4 ⟨rfl, hw⟩))
        all_goals
          have HQ4 := Lib.hid (hw.blk HQ3.out (by decide) (by decide))
          have HW4 := Lib.hid (HWd.out.tr hw)
          clear hw c0 c1 c2 c3 c4
          obtain ⟨⟨c0, c1, c2, c3, c4⟩, -⟩ := facts5 HQ4.out
          have b0 := (HW4.out.bel.cell (p := ⟨g, off + 5, none⟩) hgb).trans r0
          have b1 := (HW4.out.bel.cell (p := ⟨g, off + 5 + 1, none⟩) hgb).trans r1
          have b2 := (HW4.out.bel.cell (p := ⟨g, off + 5 + 2, none⟩) hgb).trans r2
          have b3 := (HW4.out.bel.cell (p := ⟨g, off + 5 + 3, none⟩) hgb).trans r3
          have b4 := (HW4.out.bel.cell (p := ⟨g, off + 5 + 4, none⟩) hgb).trans r4
          go_wp2_with fail
          refine (IH.out _ x2 Ab cb F (3) b _ _ rfl HE2.out (PrF_args HW4.out HF.out HKb.out) HF.out HW4.out.reb (by have := HL.out; have hta := HTA.out; simp only [app_toL, List.length_append, List.length_cons, List.length_nil] at this ⊢; simp at this ⊢; omega)).mono ?_
          rintro e w5 ⟨rfl, hw⟩
          have HW5 := Lib.hid (HW4.out.tr hw)
          clear hw c0 c1 c2 c3 c4 b0 b1 b2 b3 b4
          go_wp2_with fail
          refine (wr_c _ _ b _ _ HW5.out.reb (by have := HL.out; have k1 : (⟨#[41]⟩ : ByteArray).size = 1 := rfl; have hta := HTA.out; simp only [app_toL, List.length_append, List.length_cons, List.length_nil] at this ⊢; simp at this ⊢; omega)).mono ?_
          rintro e w6 ⟨rfl, hw⟩
          go_wp2_with fail
          go_end0
          exact ⟨rfl, (HW5.out.tr hw).eq (by simp [List.append_assoc])⟩
      · have h3' : ((m : Int) == 3) = false := beq_eq_false_iff_ne.2 (by omega)
        have hlf : leftP m = m - 1 := by unfold leftP; rw [if_neg h3]
        have HA := Lib.hid hA
        simp only [Ex.kind, Ex.n, Ex.text, Ex.args, Ex.pos, List.length_cons, List.length_nil, Nat.zero_add, Nat.reduceAdd] at HA ⊢
        rw [tx6, hm, hlf, if_pos hp, if_pos hp] at hlen ⊢
        have HL := Lib.hid hlen
        have HQ := Lib.hid (heap_alloc_new w (.cells #[.int .i64 6, .int .i64 n, .string t, .slice A 2 c, .int .i64 p] 186))
        have HW := Lib.hid (hW.al (.cells #[.int .i64 6, .int .i64 n, .string t, .slice A 2 c, .int .i64 p] 186))
        clear hlen hA hW hm hlf hp h3
        go_enter Tryz.func160, Tryz.ntmps160
        go_upto_region 1 with (fail)
        generalize w.alloc _ = wa at HQ HW ⊢
        generalize w.heap.size = nb at HQ ⊢
        obtain ⟨⟨c0, c1, c2, c3, c4⟩, -⟩ := facts5 HQ.out
        obtain ⟨g, off, Aa, ca, rfl, hFg, -, hka, q0, q1, q2, q3, q4⟩ := ArgsIn.at (l := [x1, x2]) HA.out 0 x1 rfl
        simp only [Nat.zero_mul, Nat.one_mul, Nat.add_zero] at q0 q1 q2 q3 q4
        have HKa := Lib.hid hka; clear hka
        have hgb := HF.out g hFg
        clear hFg
        obtain ⟨g2, off2, Ab, cb, e2, hFg2, -, hkb, r0, r1, r2, r3, r4⟩ := ArgsIn.at (l := [x1, x2]) HA.out 1 x2 rfl
        obtain ⟨rfl, rfl⟩ : g = g2 ∧ off = off2 := by injection e2 with e2; injection e2 with e2 e3; exact ⟨e2, e3⟩
        clear e2 hFg2
        simp only [Nat.zero_mul, Nat.one_mul, Nat.add_zero] at r0 r1 r2 r3 r4
        have HKb := Lib.hid hkb; clear hkb
        go_wp2_with fail
        refine (level_pm t _ HM.out _).mono ?_
        rintro e w7 ⟨rfl, rfl⟩
        go_wp2_with fail
        refine (wr_c _ _ b _ _ HW.out.reb (by have := HL.out; simp only [List.length_append, List.length_cons, List.length_nil] at this ⊢; show l.length + 1 ≤ _; omega)).mono ?_
        rintro e w2 ⟨rfl, hw⟩
        have HQ2 := Lib.hid (hw.blk HQ.out (by decide) (by decide))
        have HW2 := Lib.hid (HW.out.tr hw)
        clear hw c0 c1 c2 c3 c4
        obtain ⟨⟨c0, c1, c2, c3, c4⟩, -⟩ := facts5 HQ2.out
        have b0 := (HW2.out.bel.cell (p := ⟨g, off, none⟩) hgb).trans q0
        have b1 := (HW2.out.bel.cell (p := ⟨g, off + 1, none⟩) hgb).trans q1
        have b2 := (HW2.out.bel.cell (p := ⟨g, off + 2, none⟩) hgb).trans q2
        have b3 := (HW2.out.bel.cell (p := ⟨g, off + 3, none⟩) hgb).trans q3
        have b4 := (HW2.out.bel.cell (p := ⟨g, off + 4, none⟩) hgb).trans q4
        go_wp2_with fail
        refine (IH.out ((m : Int) - 1) x1 Aa ca F (m - 1) b _ _ (by omega) HE1.out (PrF_args HW2.out HF.out HKa.out) HF.out HW2.out.reb (by have := HL.out; simp only [List.length_append, List.length_cons, List.length_nil] at this ⊢; show l.length + 1 + _ ≤ _; omega)).mono ?_
        rintro e w3 ⟨rfl, hw⟩
        have HQ3 := Lib.hid (hw.blk HQ2.out (by decide) (by decide))
        have HW3 := Lib.hid (HW2.out.tr hw)
        clear hw c0 c1 c2 c3 c4 b0 b1 b2 b3 b4
        obtain ⟨⟨c0, c1, c2, c3, c4⟩, -⟩ := facts5 HQ3.out
        have HWd := Lib.hid HW3.out.dr
        go_upto_region 22 with (fail)
        go_region_law (first | (go_simp; go_at_call 41; refine (wr_c _ _ b _ _ HWd.out.reb (by have := HL.out; have hta := HTA.out; simp only [app_toL, List.length_append, List.length_cons, List.length_nil] at this ⊢; simp only [ByteArray.size_append] at this ⊢; show _ + (1 + t.size + 1) ≤ _; omega)).mono ?_; rintro e w4 ⟨rfl, hw⟩))
        all_goals
          have HQ4 := Lib.hid (hw.blk HQ3.out (by decide) (by decide))
          have HW4 := Lib.hid (HWd.out.tr hw)
          clear hw c0 c1 c2 c3 c4
          obtain ⟨⟨c0, c1, c2, c3, c4⟩, -⟩ := facts5 HQ4.out
          have b0 := (HW4.out.bel.cell (p := ⟨g, off + 5, none⟩) hgb).trans r0
          have b1 := (HW4.out.bel.cell (p := ⟨g, off + 5 + 1, none⟩) hgb).trans r1
          have b2 := (HW4.out.bel.cell (p := ⟨g, off + 5 + 2, none⟩) hgb).trans r2
          have b3 := (HW4.out.bel.cell (p := ⟨g, off + 5 + 3, none⟩) hgb).trans r3
          have b4 := (HW4.out.bel.cell (p := ⟨g, off + 5 + 4, none⟩) hgb).trans r4
          go_wp2_with fail
          refine (IH.out _ x2 Ab cb F (m) b _ _ rfl HE2.out (PrF_args HW4.out HF.out HKb.out) HF.out HW4.out.reb (by have := HL.out; have hta := HTA.out; simp only [app_toL, List.length_append, List.length_cons, List.length_nil] at this ⊢; simp at this ⊢; omega)).mono ?_
          rintro e w5 ⟨rfl, hw⟩
          have HW5 := Lib.hid (HW4.out.tr hw)
          clear hw c0 c1 c2 c3 c4 b0 b1 b2 b3 b4
          go_wp2_with fail
          refine (wr_c _ _ b _ _ HW5.out.reb (by have := HL.out; have k1 : (⟨#[41]⟩ : ByteArray).size = 1 := rfl; have hta := HTA.out; simp only [app_toL, List.length_append, List.length_cons, List.length_nil] at this ⊢; simp at this ⊢; omega)).mono ?_
          rintro e w6 ⟨rfl, hw⟩
          go_wp2_with fail
          go_end0
          exact ⟨rfl, (HW5.out.tr hw).eq (by simp [List.append_assoc])⟩
    · have hp' : (least : Int) < (m : Int) := by omega
      by_cases h3 : m = 3
      · subst h3
        have hlf : leftP 3 = 3 := by unfold leftP; rw [if_pos rfl]
        have HA := Lib.hid hA
        simp only [Ex.kind, Ex.n, Ex.text, Ex.args, Ex.pos, List.length_cons, List.length_nil, Nat.zero_add, Nat.reduceAdd] at HA ⊢
        rw [tx6, hm, hlf, if_neg hp, if_neg hp] at hlen ⊢
        have HL := Lib.hid hlen
        have HQ := Lib.hid (heap_alloc_new w (.cells #[.int .i64 6, .int .i64 n, .string t, .slice A 2 c, .int .i64 p] 186))
        have HW := Lib.hid (hW.al (.cells #[.int .i64 6, .int .i64 n, .string t, .slice A 2 c, .int .i64 p] 186))
        clear hlen hA hW hm hlf hp
        go_enter Tryz.func160, Tryz.ntmps160
        go_upto_region 1 with (fail)
        generalize w.alloc _ = wa at HQ HW ⊢
        generalize w.heap.size = nb at HQ ⊢
        obtain ⟨⟨c0, c1, c2, c3, c4⟩, -⟩ := facts5 HQ.out
        obtain ⟨g, off, Aa, ca, rfl, hFg, -, hka, q0, q1, q2, q3, q4⟩ := ArgsIn.at (l := [x1, x2]) HA.out 0 x1 rfl
        simp only [Nat.zero_mul, Nat.one_mul, Nat.add_zero] at q0 q1 q2 q3 q4
        have HKa := Lib.hid hka; clear hka
        have hgb := HF.out g hFg
        clear hFg
        obtain ⟨g2, off2, Ab, cb, e2, hFg2, -, hkb, r0, r1, r2, r3, r4⟩ := ArgsIn.at (l := [x1, x2]) HA.out 1 x2 rfl
        obtain ⟨rfl, rfl⟩ : g = g2 ∧ off = off2 := by injection e2 with e2; injection e2 with e2 e3; exact ⟨e2, e3⟩
        clear e2 hFg2
        simp only [Nat.zero_mul, Nat.one_mul, Nat.add_zero] at r0 r1 r2 r3 r4
        have HKb := Lib.hid hkb; clear hkb
        go_wp2_with fail
        refine (level_pm t _ HM.out _).mono ?_
        rintro e w7 ⟨rfl, rfl⟩
        have b0 := (HW.out.bel.cell (p := ⟨g, off, none⟩) hgb).trans q0
        have b1 := (HW.out.bel.cell (p := ⟨g, off + 1, none⟩) hgb).trans q1
        have b2 := (HW.out.bel.cell (p := ⟨g, off + 2, none⟩) hgb).trans q2
        have b3 := (HW.out.bel.cell (p := ⟨g, off + 3, none⟩) hgb).trans q3
        have b4 := (HW.out.bel.cell (p := ⟨g, off + 4, none⟩) hgb).trans q4
        go_wp2_with fail
        refine (IH.out 3 x1 Aa ca F (3) b _ _ (by omega) HE1.out (PrF_args HW.out HF.out HKa.out) HF.out HW.out.reb (by have := HL.out; simp only [List.length_append, List.length_cons, List.length_nil] at this ⊢; show l.length + _ ≤ _; omega)).mono ?_
        rintro e w3 ⟨rfl, hw⟩
        have HQ3 := Lib.hid (hw.blk HQ.out (by decide) (by decide))
        have HW3 := Lib.hid (HW.out.tr hw)
        clear hw c0 c1 c2 c3 c4 b0 b1 b2 b3 b4
        obtain ⟨⟨c0, c1, c2, c3, c4⟩, -⟩ := facts5 HQ3.out
        have HWd := Lib.hid HW3.out.dr
        go_upto_region 22 with (fail)
        go_region_law (first | (go_simp; go_at_call 41; refine (wr_c _ _ b _ _ HWd.out.reb (by have := HL.out; have hta := HTA.out; simp only [app_toL, List.length_append, List.length_cons, List.length_nil] at this ⊢; simp only [ByteArray.size_append] at this ⊢; show _ + (1 + t.size + 1) ≤ _; omega)).mono ?_; rintro e w4 ⟨rfl, hw⟩))
        all_goals
          have HQ4 := Lib.hid (hw.blk HQ3.out (by decide) (by decide))
          have HW4 := Lib.hid (HWd.out.tr hw)
          clear hw c0 c1 c2 c3 c4
          obtain ⟨⟨c0, c1, c2, c3, c4⟩, -⟩ := facts5 HQ4.out
          have b0 := (HW4.out.bel.cell (p := ⟨g, off + 5, none⟩) hgb).trans r0
          have b1 := (HW4.out.bel.cell (p := ⟨g, off + 5 + 1, none⟩) hgb).trans r1
          have b2 := (HW4.out.bel.cell (p := ⟨g, off + 5 + 2, none⟩) hgb).trans r2
          have b3 := (HW4.out.bel.cell (p := ⟨g, off + 5 + 3, none⟩) hgb).trans r3
          have b4 := (HW4.out.bel.cell (p := ⟨g, off + 5 + 4, none⟩) hgb).trans r4
          go_wp2_with fail
          refine (IH.out _ x2 Ab cb F (3) b _ _ rfl HE2.out (PrF_args HW4.out HF.out HKb.out) HF.out HW4.out.reb (by have := HL.out; have hta := HTA.out; simp only [app_toL, List.length_append, List.length_cons, List.length_nil] at this ⊢; simp at this ⊢; omega)).mono ?_
          rintro e w5 ⟨rfl, hw⟩
          have HW5 := Lib.hid (HW4.out.tr hw)
          clear hw c0 c1 c2 c3 c4 b0 b1 b2 b3 b4
          go_wp2_with fail
          go_end0
          exact ⟨rfl, HW5.out.eq (by simp [List.append_assoc])⟩
      · have h3' : ((m : Int) == 3) = false := beq_eq_false_iff_ne.2 (by omega)
        have hlf : leftP m = m - 1 := by unfold leftP; rw [if_neg h3]
        have HA := Lib.hid hA
        simp only [Ex.kind, Ex.n, Ex.text, Ex.args, Ex.pos, List.length_cons, List.length_nil, Nat.zero_add, Nat.reduceAdd] at HA ⊢
        rw [tx6, hm, hlf, if_neg hp, if_neg hp] at hlen ⊢
        have HL := Lib.hid hlen
        have HQ := Lib.hid (heap_alloc_new w (.cells #[.int .i64 6, .int .i64 n, .string t, .slice A 2 c, .int .i64 p] 186))
        have HW := Lib.hid (hW.al (.cells #[.int .i64 6, .int .i64 n, .string t, .slice A 2 c, .int .i64 p] 186))
        clear hlen hA hW hm hlf hp h3
        go_enter Tryz.func160, Tryz.ntmps160
        go_upto_region 1 with (fail)
        generalize w.alloc _ = wa at HQ HW ⊢
        generalize w.heap.size = nb at HQ ⊢
        obtain ⟨⟨c0, c1, c2, c3, c4⟩, -⟩ := facts5 HQ.out
        obtain ⟨g, off, Aa, ca, rfl, hFg, -, hka, q0, q1, q2, q3, q4⟩ := ArgsIn.at (l := [x1, x2]) HA.out 0 x1 rfl
        simp only [Nat.zero_mul, Nat.one_mul, Nat.add_zero] at q0 q1 q2 q3 q4
        have HKa := Lib.hid hka; clear hka
        have hgb := HF.out g hFg
        clear hFg
        obtain ⟨g2, off2, Ab, cb, e2, hFg2, -, hkb, r0, r1, r2, r3, r4⟩ := ArgsIn.at (l := [x1, x2]) HA.out 1 x2 rfl
        obtain ⟨rfl, rfl⟩ : g = g2 ∧ off = off2 := by injection e2 with e2; injection e2 with e2 e3; exact ⟨e2, e3⟩
        clear e2 hFg2
        simp only [Nat.zero_mul, Nat.one_mul, Nat.add_zero] at r0 r1 r2 r3 r4
        have HKb := Lib.hid hkb; clear hkb
        go_wp2_with fail
        refine (level_pm t _ HM.out _).mono ?_
        rintro e w7 ⟨rfl, rfl⟩
        have b0 := (HW.out.bel.cell (p := ⟨g, off, none⟩) hgb).trans q0
        have b1 := (HW.out.bel.cell (p := ⟨g, off + 1, none⟩) hgb).trans q1
        have b2 := (HW.out.bel.cell (p := ⟨g, off + 2, none⟩) hgb).trans q2
        have b3 := (HW.out.bel.cell (p := ⟨g, off + 3, none⟩) hgb).trans q3
        have b4 := (HW.out.bel.cell (p := ⟨g, off + 4, none⟩) hgb).trans q4
        go_wp2_with fail
        refine (IH.out ((m : Int) - 1) x1 Aa ca F (m - 1) b _ _ (by omega) HE1.out (PrF_args HW.out HF.out HKa.out) HF.out HW.out.reb (by have := HL.out; simp only [List.length_append, List.length_cons, List.length_nil] at this ⊢; show l.length + _ ≤ _; omega)).mono ?_
        rintro e w3 ⟨rfl, hw⟩
        have HQ3 := Lib.hid (hw.blk HQ.out (by decide) (by decide))
        have HW3 := Lib.hid (HW.out.tr hw)
        clear hw c0 c1 c2 c3 c4 b0 b1 b2 b3 b4
        obtain ⟨⟨c0, c1, c2, c3, c4⟩, -⟩ := facts5 HQ3.out
        have HWd := Lib.hid HW3.out.dr
        go_upto_region 22 with (fail)
        go_region_law (first | (go_simp; go_at_call 41; refine (wr_c _ _ b _ _ HWd.out.reb (by have := HL.out; have hta := HTA.out; simp only [app_toL, List.length_append, List.length_cons, List.length_nil] at this ⊢; simp only [ByteArray.size_append] at this ⊢; show _ + (1 + t.size + 1) ≤ _; omega)).mono ?_; rintro e w4 ⟨rfl, hw⟩))
        all_goals
          have HQ4 := Lib.hid (hw.blk HQ3.out (by decide) (by decide))
          have HW4 := Lib.hid (HWd.out.tr hw)
          clear hw c0 c1 c2 c3 c4
          obtain ⟨⟨c0, c1, c2, c3, c4⟩, -⟩ := facts5 HQ4.out
          have b0 := (HW4.out.bel.cell (p := ⟨g, off + 5, none⟩) hgb).trans r0
          have b1 := (HW4.out.bel.cell (p := ⟨g, off + 5 + 1, none⟩) hgb).trans r1
          have b2 := (HW4.out.bel.cell (p := ⟨g, off + 5 + 2, none⟩) hgb).trans r2
          have b3 := (HW4.out.bel.cell (p := ⟨g, off + 5 + 3, none⟩) hgb).trans r3
          have b4 := (HW4.out.bel.cell (p := ⟨g, off + 5 + 4, none⟩) hgb).trans r4
          go_wp2_with fail
          refine (IH.out _ x2 Ab cb F (m) b _ _ rfl HE2.out (PrF_args HW4.out HF.out HKb.out) HF.out HW4.out.reb (by have := HL.out; have hta := HTA.out; simp only [app_toL, List.length_append, List.length_cons, List.length_nil] at this ⊢; simp at this ⊢; omega)).mono ?_
          rintro e w5 ⟨rfl, hw⟩
          have HW5 := Lib.hid (HW4.out.tr hw)
          clear hw c0 c1 c2 c3 c4 b0 b1 b2 b3 b4
          go_wp2_with fail
          go_end0
          exact ⟨rfl, HW5.out.eq (by simp [List.append_assoc])⟩
  | call hn h6 ha =>
    rename_i n t p xs
    have HE := Lib.hid ha
    clear ha
    have HA := Lib.hid hA
    simp only [Ex.kind, Ex.n, Ex.text, Ex.args, Ex.pos, List.length_cons, List.length_nil, Nat.zero_add, Nat.reduceAdd] at HA ⊢
    rw [tx7] at hlen ⊢
    have HL := Lib.hid hlen
    have HQ := Lib.hid (heap_alloc_new w (.cells #[.int .i64 7, .int .i64 n, .string t, .slice A xs.length c, .int .i64 p] 186))
    have HW := Lib.hid (hW.al (.cells #[.int .i64 7, .int .i64 n, .string t, .slice A xs.length c, .int .i64 p] 186))
    clear hlen hA hW
    go_enter Tryz.func160, Tryz.ntmps160
    go_upto_region 1 with (fail)
    generalize w.alloc _ = wa at HQ HW ⊢
    generalize w.heap.size = nb at HQ ⊢
    obtain ⟨⟨c0, c1, c2, c3, c4⟩, -⟩ := facts5 HQ.out
    have HWd := Lib.hid HW.out.dr
    go_upto_region 27 with (fail)
    go_region_law (first | (go_simp; go_at_call 41; refine (wr_c _ _ b l _ HWd.out.reb (by have := HL.out; simp only [List.length_append, List.length_cons, List.length_nil] at this; simp at this ⊢; omega)).mono ?_; rintro e w2 ⟨rfl, hw⟩))
    all_goals
      have HQ2 := Lib.hid (hw.blk HQ.out (by decide) (by decide))
      have HW2 := Lib.hid (HWd.out.tr hw)
      clear hw c0 c1 c2 c3 c4
      obtain ⟨⟨c0, c1, c2, c3, c4⟩, -⟩ := facts5 HQ2.out
      go_wp2_with fail
      refine (IHA.out xs A c F b _ _ HE.out h6 (PrF_args HW2.out HF.out HA.out) HF.out HW2.out.reb (by have := HL.out; simp only [app_toL, List.length_append, List.length_cons, List.length_nil] at this ⊢; simp at this ⊢; omega)).mono ?_
      rintro e w3 ⟨rfl, hw⟩
      go_wp2_with fail
      go_end0
      exact ⟨rfl, (HW2.out.tr hw).eq (by simp [List.append_assoc])⟩
  | host n0 n1 h6 ha =>
    rename_i n t p xs
    have HE := Lib.hid ha
    clear ha
    have e0 : numL n.toNat = Lib.itoa n := by unfold numL; rw [Int.toNat_of_nonneg n0]
    have hz : (⟨(Lib.itoa n).toArray⟩ : ByteArray).size ≤ 12 := by rw [← e0]; show (numL n.toNat).toArray.size ≤ 12; rw [List.size_toArray]; exact num_le (by omega)
    have hz1 : ¬ 9223372036854775807 < 1 + (⟨(Lib.itoa n).toArray⟩ : ByteArray).size := by omega
    obtain ⟨s, hs⟩ : ∃ s : ByteArray, (⟨(Lib.itoa n).toArray⟩ : ByteArray) = s := ⟨_, rfl⟩
    rw [hs] at hz hz1
    have hs2 : Lib.itoa n = s.data.toList := by rw [← hs]
    have HS := Lib.hid hs
    have HZ := Lib.hid hz
    have HTA : Hid (s.data.toList.length = s.size) := Lib.hid Array.length_toList
    clear hz hs
    have HA := Lib.hid hA
    simp only [Ex.kind, Ex.n, Ex.text, Ex.args, Ex.pos, List.length_cons, List.length_nil, Nat.zero_add, Nat.reduceAdd] at HA ⊢
    rw [tx8, e0, hs2] at hlen ⊢
    have HL := Lib.hid hlen
    have HQ := Lib.hid (heap_alloc_new w (.cells #[.int .i64 8, .int .i64 n, .string t, .slice A xs.length c, .int .i64 p] 186))
    have HW := Lib.hid (hW.al (.cells #[.int .i64 8, .int .i64 n, .string t, .slice A xs.length c, .int .i64 p] 186))
    clear hlen hA hW e0 hs2
    go_enter Tryz.func160, Tryz.ntmps160
    go_upto_region 1 with (fail)
    generalize w.alloc _ = wa at HQ HW ⊢
    generalize w.heap.size = nb at HQ ⊢
    obtain ⟨⟨c0, c1, c2, c3, c4⟩, -⟩ := facts5 HQ.out
    have HWd := Lib.hid HW.out.dr
    have HQd := Lib.hid (show wa.drew.heap[nb]? = _ from HQ.out)
    go_upto_region 30 with (fail)
    go_region_law (first | (go_simp; first
      | (go_at_call 70; refine (itoa_w n s n0 (by omega) HS.out HWd.out).mono ?_; rintro e w8 ⟨rfl, hw8, hb8⟩; have HW8 := Lib.hid hw8; have HQ8 := Lib.hid ((hb8.block nb (lt_of_some HQd.out)).trans HQd.out); clear hw8 hb8)
      | (go_at_call 41; refine (wr_c _ _ b l _ HW8.out.reb (by have := HL.out; have hta := HTA.out; simp only [List.length_append, List.length_cons, List.length_nil] at this; simp only [ByteArray.size_append]; show _ + (1 + s.size) ≤ _; omega)).mono ?_; rintro e w2 ⟨rfl, hw⟩)))
    all_goals
      have HQ2 := Lib.hid (hw.blk HQ8.out (by decide) (by decide))
      have HW2 := Lib.hid (HW8.out.tr hw)
      clear hw c0 c1 c2 c3 c4
      obtain ⟨⟨c0, c1, c2, c3, c4⟩, -⟩ := facts5 HQ2.out
      go_wp2_with fail
      refine (IHA.out xs A c F b _ _ HE.out h6 (PrF_args HW2.out HF.out HA.out) HF.out HW2.out.reb (by have := HL.out; simp only [app_toL, List.length_append, List.length_cons, List.length_nil] at this ⊢; simp at this ⊢; omega)).mono ?_
      rintro e w3 ⟨rfl, hw⟩
      go_wp2_with fail
      go_end0
      exact ⟨rfl, (HW2.out.tr hw).eq (by simp [List.append_assoc])⟩
theorem prx_r : ∀ left, PrX left := by
  intro left
  induction left with
  | zero => intro li x A c F least b l w _ hx; obtain ⟨l', h0, _⟩ := exV hx; omega
  | succ left ih => exact prx_step left ih
end Go.Proofs.YtmngofgminlloaaGreatDoor

namespace Go.Proofs.YtmngofgminlloaaGreatDoor
open Go.RowKit Tw

def PSmsF (left : Nat) : Prop :=
  ∀ (li : Int), li = left → ∀ (l : List Sm) (A : Option Addr) (c : Nat) (F : Nat → Prop) (w : World), StmtsIn w F (.slice A l.length c) l → (∀ s ∈ l, SmZ s) → l.length ≤ 281474976710656 →
    Calls Tryz.prog 50 #[.slice A l.length c, .int .i64 li] w fun e w' => e = .returned (.int .i64 (smsF l left)) ∧ Below w.heap.size w w'

set_option maxRecDepth 100000 in
set_option maxHeartbeats 16000000 in
theorem psmsF_step (left : Nat) (h40 : left ≤ 40) (ih : 1 ≤ left → PSmsF (left - 1)) : PSmsF left := by
  intro li hli l A c F w hA hZ hlen
  subst hli
  have HA := Lib.hid hA; have HZ := Lib.hid hZ; have IH := Lib.hid ih
  clear hA hZ ih
  go_enter Tryz.func50, Tryz.ntmps50
  go_wp2_with fail
  go_loopw [12] (fun i wr => ∃ j : Nat, j ≤ l.length ∧ i = .int .i64 j ∧ Hid (smsF (l.take j) left = 0) ∧ Hid (Below w.heap.size w wr)) (fun i _ => l.length - (intOf i).toNat)
  case atStart => exact ⟨0, Nat.zero_le _, rfl, Lib.hid (by rw [List.take_zero, smsF]), Lib.hid (Below.refl _ _)⟩
  case round =>
    obtain ⟨j, hj, rfl, HE, HB⟩ := hrel
    by_cases hlt : j < l.length
    · obtain ⟨s, hs⟩ : ∃ s, l[j]? = some s := ⟨_, List.getElem?_eq_getElem hlt⟩
      obtain ⟨g, off, Aa, ca, Ab, cb, Ae, ce, rfl, -, hg, hka, hkb, hke, hc⟩ := HA.out.at j s hs
      have b0 := (HB.out.cell (p := ⟨g, off + j * 10, none⟩) hg).trans (hc 0 _ rfl)
      have b1 := (HB.out.cell (p := ⟨g, off + j * 10 + 1, none⟩) hg).trans (hc 1 _ rfl)
      have b2 := (HB.out.cell (p := ⟨g, off + j * 10 + 2, none⟩) hg).trans (hc 2 _ rfl)
      have b3 := (HB.out.cell (p := ⟨g, off + j * 10 + 3, none⟩) hg).trans (hc 3 _ rfl)
      have b4 := (HB.out.cell (p := ⟨g, off + j * 10 + 4, none⟩) hg).trans (hc 4 _ rfl)
      have b5 := (HB.out.cell (p := ⟨g, off + j * 10 + 5, none⟩) hg).trans (hc 5 _ rfl)
      have b6 := (HB.out.cell (p := ⟨g, off + j * 10 + 6, none⟩) hg).trans (hc 6 _ rfl)
      have b7 := (HB.out.cell (p := ⟨g, off + j * 10 + 7, none⟩) hg).trans (hc 7 _ rfl)
      have b8 := (HB.out.cell (p := ⟨g, off + j * 10 + 8, none⟩) hg).trans (hc 8 _ rfl)
      have b9 := (HB.out.cell (p := ⟨g, off + j * 10 + 9, none⟩) hg).trans (hc 9 _ rfl)
      have hin : s ∈ l := List.mem_of_getElem? hs
      have HS := Lib.hid hs; have HKA := Lib.hid hka; have HKB := Lib.hid hkb; have HKE := Lib.hid hke; have HZS := Lib.hid (HZ.out s hin)
      clear hs hka hkb hke hc hin
      have k0 : (0 : Int) ≤ (j : Int) := by omega
      have k1 : (j : Int) < (l.length : Int) := by omega
      by_cases hl0 : left = 0
      · subst hl0
        go_wp2_with fail
        go_ret
        have e : smF s 0 = 2 := by cases s with | mk => rw [smF]; rfl
        exact ⟨by rw [smsF_hit HS.out HE.out (by rw [e]; decide), e]; rfl, HB.out.alloc HB.out.size _⟩
      · have hl1 : 1 ≤ left := by omega
        have hl2 : (1 : Int) ≤ (left : Int) := by omega
        go_upto_region 6 with (fail)
        clear b0 b1 b2 b3 b4 b5 b6 b7 b8 b9
        have HBa := Lib.hid (HB.out.alloc HB.out.size (.cells #[.int .i64 s.kind, .string s.name, .int .i64 s.a.kind, .int .i64 s.a.n, .string s.a.text, .slice Aa s.a.args.length ca, .int .i64 s.a.pos, .slice Ab s.body.length cb, .slice Ae s.els.length ce, .int .i64 s.pos] 188))
        have HQ := Lib.hid (heap_alloc_new wr (.cells #[.int .i64 s.kind, .string s.name, .int .i64 s.a.kind, .int .i64 s.a.n, .string s.a.text, .slice Aa s.a.args.length ca, .int .i64 s.a.pos, .slice Ab s.body.length cb, .slice Ae s.els.length ce, .int .i64 s.pos] 188))
        generalize wr.alloc _ = wa at HBa HQ ⊢
        have hb6 := lt_of_some HQ.out
        generalize wr.heap.size = b6 at HQ hb6 ⊢
        obtain ⟨bn, hbn⟩ : ∃ b, nameB s.name = b := ⟨_, rfl⟩
        have HN := Lib.hid hbn
        have HZN := Lib.hid HZS.out.parts.1
        obtain ⟨kd, hkd⟩ : ∃ k, s.kind = k := ⟨_, rfl⟩
        rw [hkd] at HQ
        have HKD := Lib.hid hkd
        clear hbn hkd
        obtain ⟨bad, hbd⟩ : ∃ b, (decide (kd < 1) || (decide (7 < kd) || (decide (kd ≤ 2) && !bn))) = b := ⟨_, rfl⟩
        have HBD := Lib.hid hbd; clear hbd
        go_cut [41] (fun u W => u = .bool bad ∧ W = wa)
        case first =>
          obtain ⟨⟨c0, c1, -⟩, -⟩ := facts10 HQ.out
          by_cases q1 : kd < 1
          · have HV : Hid (bad = true) := Lib.hid (by rw [← HBD.out]; simp [q1])
            go_wp2_with fail
            go_meet
            case rel => exact ⟨by rw [HV.out], rfl⟩
          by_cases q7 : 7 < kd
          · have HV : Hid (bad = true) := Lib.hid (by rw [← HBD.out]; simp [q7])
            have q1' : 1 ≤ kd := by omega
            clear q1
            go_wp2_with fail
            go_meet
            case rel => exact ⟨by rw [HV.out], rfl⟩
          have q1' : 1 ≤ kd := by omega
          have q7' : kd ≤ 7 := by omega
          by_cases q2 : kd ≤ 2
          · have HV : Hid (bad = !bn) := Lib.hid (by rw [← HBD.out]; simp [q1, q7, q2])
            clear q1 q7
            cases e1 : (kd == 1) with
            | true =>
              go_wp2_with fail
              refine (isName_pb s.name bn HN.out HZN.out _).mono ?_
              rintro e w7 ⟨rfl, rfl⟩
              go_wp2_with fail
              all_goals
                go_meet
                case rel => exact ⟨congrArg Value.bool (by rw [HV.out]; simp [show ¬ kd < 1 by omega, show ¬ 7 < kd by omega]), rfl⟩
            | false =>
              have e2 : (kd == 2) = true := beq_iff_eq.2 (by have := beq_eq_false_iff_ne.1 e1; omega)
              go_wp2_with fail
              refine (isName_pb s.name bn HN.out HZN.out _).mono ?_
              rintro e w7 ⟨rfl, rfl⟩
              go_wp2_with fail
              all_goals
                go_meet
                case rel => exact ⟨congrArg Value.bool (by rw [HV.out]; simp [show ¬ kd < 1 by omega, show ¬ 7 < kd by omega]), rfl⟩
          · have HV : Hid (bad = false) := Lib.hid (by rw [← HBD.out]; simp [q1, q7, q2])
            have e1 : (kd == 1) = false := beq_eq_false_iff_ne.2 (by omega)
            have e2 : (kd == 2) = false := beq_eq_false_iff_ne.2 (by omega)
            clear q1 q7 q2
            go_wp2_with fail
            all_goals
              go_meet
              case rel => exact ⟨congrArg Value.bool (by rw [HV.out]; simp [show ¬ kd < 1 by omega, show ¬ 7 < kd by omega]), rfl⟩
        case rest =>
          obtain ⟨rfl, hw⟩ := hcut
          subst hw
          have HP : Hid (bad = true ↔ (s.kind < 1 ∨ 7 < s.kind ∨ (s.kind ≤ 2 ∧ nameB s.name = false))) := Lib.hid (by
            rw [← HBD.out, HKD.out, HN.out]; cases bn <;> simp)
          cases bad with
          | true =>
            have H3 := Lib.hid (smF_3 (s := s) (left := left) hl1 (HP.out.1 rfl))
            go_wp2_with fail
            go_ret
            exact ⟨by rw [smsF_hit HS.out HE.out (by rw [H3.out]; decide), H3.out]; rfl, HBa.out⟩
          | false =>
            have HOK : Hid (¬ (s.kind < 1 ∨ 7 < s.kind ∨ (s.kind ≤ 2 ∧ nameB s.name = false))) := Lib.hid (fun e => absurd (HP.out.2 e) (by decide))
            clear HP HBD HN HZN
            obtain ⟨⟨c0, c1, c2, c3, c4', c5, c6, c7, c8, c9⟩, -⟩ := facts10 HQ.out
            go_wp2_with fail
            clear c0 c1 c2 c3 c4' c5 c6 c7 c8 c9
            refine (pexF_r (left - 1) (by omega) _ (by omega) s.a Aa ca F _ (HKA.out.keep (F' := F) (fun q h1 h2 => ⟨h1, Nat.lt_of_lt_of_le h2 HBa.out.size, HBa.out.block q h2⟩)) HZS.out.parts.2.1).mono ?_
            rintro e w8 ⟨rfl, hb8⟩
            replace HQ := Lib.hid ((hb8.block b6 hb6).trans HQ.out)
            have HB8 := Lib.hid (HBa.out.trans (hb8.mono HBa.out.size))
            clear hb8 HBa
            obtain ⟨z, hz⟩ : ∃ z, exF s.a (left - 1) = z := ⟨_, rfl⟩
            rw [hz]
            have HZ2 := Lib.hid hz
            clear hz
            by_cases hz0 : z = 0
            · subst hz0
              have HR := Lib.hid (smF_b hl1 HOK.out HZ2.out)
              have hb8 := lt_of_some HQ.out
              by_cases hk34 : kd = 3 ∨ kd = 4
              · obtain ⟨zb, hzb⟩ : ∃ z, smsF s.body (left - 1) = z := ⟨_, rfl⟩
                have HZB := Lib.hid hzb; clear hzb
                go_upto_region 11 with (fail)
                go_cut [57] (fun u W => u = .bool true ∧ W = w8)
                case first =>
                  have c0 := (facts10 HQ.out).1.1
                  rcases hk34 with hk | hk
                  all_goals
                    subst hk
                    go_wp2_with fail
                    go_meet
                    case rel => exact ⟨rfl, rfl⟩
                case rest =>
                  obtain ⟨rfl, hw⟩ := hcut
                  subst hw
                  have c7 := (facts10 HQ.out).1.2.2.2.2.2.2.2.1
                  go_wp2_with fail
                  clear c7
                  refine (IH.out hl1 _ (by omega) s.body Ab cb F _ (HKB.out.keep (F' := F) (fun q h1 h2 => ⟨h1, Nat.lt_of_lt_of_le h2 HB8.out.size, HB8.out.block q h2⟩)) HZS.out.parts.2.2.2.2.1 HZS.out.parts.2.2.1).mono ?_
                  rintro e w9 ⟨rfl, hb9⟩
                  replace HQ := Lib.hid ((hb9.block b6 hb8).trans HQ.out)
                  have HB9 := Lib.hid (HB8.out.trans (hb9.mono HB8.out.size))
                  clear hb9 HB8
                  rw [HZB.out]
                  by_cases hzb0 : zb = 0
                  · subst hzb0
                    have HR2 : Hid (smF s left = if s.kind = 3 then smsF s.els (left - 1) else 0) := Lib.hid (by rw [HR.out, if_neg (fun e => e.2 HZB.out)])
                    have hb9 := lt_of_some HQ.out
                    have c0 := (facts10 HQ.out).1.1
                    by_cases hk3 : kd = 3
                    · have HR3 : Hid (smF s left = smsF s.els (left - 1)) := Lib.hid (by rw [HR2.out, if_pos (by rw [HKD.out, hk3])])
                      subst hk3
                      have c8 := (facts10 HQ.out).1.2.2.2.2.2.2.2.2.1
                      go_wp2_with fail
                      clear c0 c8
                      refine (IH.out hl1 _ (by omega) s.els Ae ce F _ (HKE.out.keep (F' := F) (fun q h1 h2 => ⟨h1, Nat.lt_of_lt_of_le h2 HB9.out.size, HB9.out.block q h2⟩)) HZS.out.parts.2.2.2.2.2 HZS.out.parts.2.2.2.1).mono ?_
                      rintro e w10 ⟨rfl, hb10⟩
                      have HB10 := Lib.hid (HB9.out.trans (hb10.mono HB9.out.size))
                      clear hb10
                      obtain ⟨ze, hze⟩ : ∃ z, smsF s.els (left - 1) = z := ⟨_, rfl⟩
                      rw [hze]
                      have HZE := Lib.hid (HR3.out.trans hze)
                      clear hze
                      by_cases hze0 : ze = 0
                      · subst hze0
                        go_wp2_with fail
                        go_roundw
                        case rel => exact ⟨j + 1, by omega, by go_num, Lib.hid (smsF_snoc HS.out HE.out HZE.out), HB10⟩
                        case measure => simp [intOf]; omega
                      · have e0 : (ze != 0) = true := by simpa using hze0
                        have HZ0 := Lib.hid hze0; clear hze0
                        go_wp2_with fail
                        go_ret
                        exact ⟨by rw [smsF_hit HS.out HE.out (by rw [HZE.out]; exact HZ0.out), HZE.out]; rfl, HB10.out⟩
                    · have HR3 : Hid (smF s left = 0) := Lib.hid (by rw [HR2.out, if_neg (by rw [HKD.out]; exact hk3)])
                      have e3 : (kd == 3) = false := beq_eq_false_iff_ne.2 hk3
                      clear hk3
                      go_wp2_with fail
                      go_roundw
                      case rel => exact ⟨j + 1, by omega, by go_num, Lib.hid (smsF_snoc HS.out HE.out HR3.out), HB9⟩
                      case measure => simp [intOf]; omega
                  · have HR2 : Hid (smF s left = zb) := Lib.hid (by rw [HR.out, if_pos ⟨by rw [HKD.out]; exact hk34, by rw [HZB.out]; exact hzb0⟩, HZB.out])
                    have e0 : (zb != 0) = true := by simpa using hzb0
                    have HZ0 := Lib.hid hzb0; clear hzb0 hk34
                    go_wp2_with fail
                    go_ret
                    exact ⟨by rw [smsF_hit HS.out HE.out (by rw [HR2.out]; exact HZ0.out), HR2.out]; rfl, HB9.out⟩
              · have HR2 : Hid (smF s left = 0) := Lib.hid (by rw [HR.out, if_neg (fun e => hk34 (by rw [← HKD.out]; exact e.1)), if_neg (fun e => hk34 (.inl (by rw [← HKD.out]; exact e)))])
                have e3 : (kd == 3) = false := beq_eq_false_iff_ne.2 (by omega)
                have e4 : (kd == 4) = false := beq_eq_false_iff_ne.2 (by omega)
                clear hk34
                have c0 := (facts10 HQ.out).1.1
                go_wp2_with fail
                go_roundw
                case rel => exact ⟨j + 1, by omega, by go_num, Lib.hid (smsF_snoc HS.out HE.out HR2.out), HB8⟩
                case measure => simp [intOf]; omega
            · have HR2 := Lib.hid (smF_a (s := s) hl1 HOK.out hz0 HZ2.out)
              have e0 : (z != 0) = true := by simpa using hz0
              have HZ0 := Lib.hid hz0; clear hz0
              go_wp2_with fail
              go_ret
              exact ⟨by rw [smsF_hit HS.out HE.out (by rw [HR2.out]; exact HZ0.out), HR2.out]; rfl, HB8.out⟩
    · have hje : j = l.length := by omega
      have HF : Hid (smsF l left = 0) := Lib.hid (by have := HE.out; rw [hje, List.take_length] at this; exact this)
      clear hje
      go_wp2_with fail
      go_ret
      exact ⟨by rw [HF.out]; rfl, HB.out⟩
theorem psmsF_r : ∀ left, left ≤ 40 → PSmsF left := by
  intro left
  induction left with
  | zero => exact fun h => psmsF_step 0 h (fun e => by omega)
  | succ left ih => exact fun h => psmsF_step (left + 1) h (fun _ => ih (by omega))
end Go.Proofs.YtmngofgminlloaaGreatDoor
