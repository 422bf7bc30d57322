/-
  The reference's SameUnit: true of scripts that are the same in what their kinds use.
  The text that the law ParseTells tries first is a script of one function, in plain Lean.
  Script's answer is one thing; there is an answer; the law's first text.
  The walk of the law ParseTells: for every text it returns true, and what was there is as it was. Condition: the library's variables are as the row lists them.
-/
import Derived.Test.YtmngofgminlloaaGreatDoorPT22
import Derived.Test.YtmngofgminlloaaGreatDoorPT17
import Derived.Test.YtmngofgminlloaaGreatDoorShelf
import Derived.Test.YtmngofgminlloaaGreatDoorPT14
import Derived.Test.YtmngofgminlloaaGreatDoorPT18
import Derived.Test.YtmngofgminlloaaGreatDoorPT07
namespace Go.Proofs.YtmngofgminlloaaGreatDoor
open Go.RowKit Tw

theorem drewN_below (w : World) (n : Nat) : Below w.heap.size w (w.drewN n) := below_drewN (Below.refl _ _) _
theorem strs_eq (l : List ByteArray) (A A' : Option Addr) (c c' : Nat) (F F' : Nat → Prop) (w : World) (h1 : StrsIn w F (.slice A l.length c) l) (h2 : StrsIn w F' (.slice A' l.length c') l) (hl : l.length ≤ 281474976710656) :
    Calls Tryz.prog 59 #[.slice A l.length c, .slice A' l.length c'] w fun e w' => e = .returned (.bool true) ∧ Below w.heap.size w w' := by
  by_cases h0 : l = []
  · subst h0
    refine (Tryz.slices_Equal_string_empty A A' c 0 c' w (by decide)).mono ?_
    rintro e w' ⟨rfl, rfl⟩
    exact ⟨rfl, Below.refl _ _⟩
  · have hp : 0 < l.length := List.length_pos_iff.2 h0
    obtain ⟨g, off, rfl, -, -⟩ := h1.at 0 _ (List.getElem?_eq_getElem hp)
    obtain ⟨g', off', rfl, -, -⟩ := h2.at 0 _ (List.getElem?_eq_getElem hp)
    have a1 : ∀ j, j < l.length → w.cell? ⟨g, off + j, none⟩ = some (.string (l.getD j ByteArray.empty)) := by
      intro j hj
      obtain ⟨q, o, e, -, hc⟩ := h1.at j _ (List.getElem?_eq_getElem hj)
      cases e
      rw [hc]; simp [List.getD_eq_getElem?_getD, List.getElem?_eq_getElem hj]
    have a2 : ∀ j, j < l.length → w.cell? ⟨g', off' + j, none⟩ = some (.string (l.getD j ByteArray.empty)) := by
      intro j hj
      obtain ⟨q, o, e, -, hc⟩ := h2.at j _ (List.getElem?_eq_getElem hj)
      cases e
      rw [hc]; simp [List.getD_eq_getElem?_getD, List.getElem?_eq_getElem hj]
    refine (Tryz.slices_Equal_string g off l.length c g' off' l.length c' l l w (Nat.le_refl _) (Nat.le_refl _) (by omega) (by omega) a1 a2).mono ?_
    rintro e w' ⟨rfl, n, rfl⟩
    exact ⟨by simp, drewN_below w n⟩
theorem ints_eq (l : List Int) (A A' : Option Addr) (c c' : Nat) (F F' : Nat → Prop) (w : World) (h1 : IntsIn w F (.slice A l.length c) l) (h2 : IntsIn w F' (.slice A' l.length c') l) (hl : l.length ≤ 281474976710656) :
    Calls Tryz.prog 30 #[.slice A l.length c, .slice A' l.length c'] w fun e w' => e = .returned (.bool true) ∧ Below w.heap.size w w' := by
  by_cases h0 : l = []
  · subst h0
    refine (Tryz.slices_Equal_int_empty A A' c 0 c' w (by decide)).mono ?_
    rintro e w' ⟨rfl, rfl⟩
    exact ⟨rfl, Below.refl _ _⟩
  · have hp : 0 < l.length := List.length_pos_iff.2 h0
    obtain ⟨g, off, rfl, -, -⟩ := h1.at 0 _ (List.getElem?_eq_getElem hp)
    obtain ⟨g', off', rfl, -, -⟩ := h2.at 0 _ (List.getElem?_eq_getElem hp)
    have a1 : ∀ j, j < l.length → w.cell? ⟨g, off + j, none⟩ = some (.int .i64 (l.getD j 0)) := by
      intro j hj
      obtain ⟨q, o, e, -, hc⟩ := h1.at j _ (List.getElem?_eq_getElem hj)
      cases e
      rw [hc]; simp [List.getD_eq_getElem?_getD, List.getElem?_eq_getElem hj]
    have a2 : ∀ j, j < l.length → w.cell? ⟨g', off' + j, none⟩ = some (.int .i64 (l.getD j 0)) := by
      intro j hj
      obtain ⟨q, o, e, -, hc⟩ := h2.at j _ (List.getElem?_eq_getElem hj)
      cases e
      rw [hc]; simp [List.getD_eq_getElem?_getD, List.getElem?_eq_getElem hj]
    refine (Tryz.slices_Equal_int g off l.length c g' off' l.length c' l l w (Nat.le_refl _) (Nat.le_refl _) (by omega) (by omega) a1 a2).mono ?_
    rintro e w' ⟨rfl, n, rfl⟩
    exact ⟨by simp, drewN_below w n⟩
set_option maxRecDepth 100000 in
set_option maxHeartbeats 8000000 in
theorem clo_f (q : Bool) (f g : Fn) (h : SameF q f g) (An At Ab An' At' Ab' : Option Addr) (cn ct cb cn' ct' cb' : Nat) (F F' : Nat → Prop) (p : Nat) (w : World) (h1 : StrsIn w F (.slice An f.names.length cn) f.names) (h2 : IntsIn w F (.slice At f.types.length ct) f.types) (h3 : StmtsIn w F (.slice Ab f.body.length cb) f.body)
    (h4 : StrsIn w F' (.slice An' g.names.length cn') g.names) (h5 : IntsIn w F' (.slice At' g.types.length ct') g.types) (h6 : StmtsIn w F' (.slice Ab' g.body.length cb') g.body) (hZ : FnZ f) (hc : w.cell? ⟨p, 0, none⟩ = some (.bool q)) (hp0 : p < w.heap.size) :
    Calls Tryz.prog 58 #[.agg #[.string f.name, .slice An f.names.length cn, .slice At f.types.length ct, .int .i64 f.out, .slice Ab f.body.length cb, .int .i64 f.pos], .agg #[.string g.name, .slice An' g.names.length cn', .slice At' g.types.length ct', .int .i64 g.out, .slice Ab' g.body.length cb', .int .i64 g.pos], .pointer (some ⟨p, 0, none⟩)] w fun e w' => e = .returned (.bool true) ∧ Below w.heap.size w w' := by
  obtain ⟨e1, e2, e3, e4, e5, hB⟩ := h
  cases f with | mk nm ns ts out body ps =>
  cases g with | mk nm' ns' ts' out' body' ps' =>
  simp only at *
  subst e1; subst e2; subst e3; subst e4
  have hnl : ns.length ≤ 281474976710656 := hZ.nlen
  have htl : ts.length ≤ 281474976710656 := hZ.tlen
  have H1 := Lib.hid h1; have H2 := Lib.hid h2; have H3 := Lib.hid h3; have H4 := Lib.hid h4; have H5 := Lib.hid h5; have H6 := Lib.hid h6; have HZ := Lib.hid hZ
  have HPQ := Lib.hid e5; have HBB := Lib.hid hB; have HC := Lib.hid hc
  clear h1 h2 h3 h4 h5 h6 hZ e5 hB hc
  have es : (nm.toList == nm.toList) = true := beq_self_eq_true _
  go_enter Tryz.func58, Tryz.ntmps58
  go_upto_region 1 with (fail)
  have HB : Hid (Below w.heap.size w ((w.alloc (.cells #[.string nm, .slice An ns.length cn, .slice At ts.length ct, .int .i64 out, .slice Ab body.length cb, .int .i64 ps] 32)).alloc (.cells #[.string nm, .slice An' ns.length cn', .slice At' ts.length ct', .int .i64 out, .slice Ab' body'.length cb', .int .i64 ps'] 32))) := Lib.hid (((Below.refl w.heap.size w).alloc (Nat.le_refl _) _).alloc (by simp) _)
  have HX : Hid (((w.alloc (.cells #[.string nm, .slice An ns.length cn, .slice At ts.length ct, .int .i64 out, .slice Ab body.length cb, .int .i64 ps] 32)).alloc (.cells #[.string nm, .slice An' ns.length cn', .slice At' ts.length ct', .int .i64 out, .slice Ab' body'.length cb', .int .i64 ps'] 32)).heap[w.heap.size]? = some (.cells #[.string nm, .slice An ns.length cn, .slice At ts.length ct, .int .i64 out, .slice Ab body.length cb, .int .i64 ps] 32 (0, 0))) := Lib.hid ((heap_alloc_old _ _ (by simp)).trans (heap_alloc_new w _))
  have HY : Hid (((w.alloc (.cells #[.string nm, .slice An ns.length cn, .slice At ts.length ct, .int .i64 out, .slice Ab body.length cb, .int .i64 ps] 32)).alloc (.cells #[.string nm, .slice An' ns.length cn', .slice At' ts.length ct', .int .i64 out, .slice Ab' body'.length cb', .int .i64 ps'] 32)).heap[w.heap.size + 1]? = some (.cells #[.string nm, .slice An' ns.length cn', .slice At' ts.length ct', .int .i64 out, .slice Ab' body'.length cb', .int .i64 ps'] 32 (0, 0))) := Lib.hid (by simpa using heap_alloc_new (w.alloc (.cells #[.string nm, .slice An ns.length cn, .slice At ts.length ct, .int .i64 out, .slice Ab body.length cb, .int .i64 ps] 32)) (.cells #[.string nm, .slice An' ns.length cn', .slice At' ts.length ct', .int .i64 out, .slice Ab' body'.length cb', .int .i64 ps'] 32))
  generalize (w.alloc _).alloc _ = wa at HB HX HY ⊢
  generalize hn2 : w.heap.size + 1 = n2 at HY ⊢
  have HN2 := Lib.hid hn2; clear hn2
  cases q with
  | true =>
    obtain rfl := HPQ.out rfl
    obtain ⟨⟨c0, c1, c2, c3, c4, c5⟩, -⟩ := facts6 HX.out
    obtain ⟨⟨d0, d1, d2, d3, d4, d5⟩, -⟩ := facts6 HY.out
    have hq : wa.cell? ⟨p, 0, none⟩ = some (.bool true) := (HB.out.cell (p := ⟨p, 0, none⟩) hp0).trans HC.out
    go_wp2_with fail
    refine (strs_eq ns An An' cn cn' F F' wa (H1.out.keep (F' := F) (fun g h1 h2 => ⟨h1, Nat.lt_of_lt_of_le h2 HB.out.size, HB.out.block g h2⟩)) (H4.out.keep (F' := F') (fun g h1 h2 => ⟨h1, Nat.lt_of_lt_of_le h2 HB.out.size, HB.out.block g h2⟩)) HZ.out.nlen).mono ?_
    rintro e w2 ⟨rfl, hb⟩
    clear c0 c1 c2 c3 c4 c5 d0 d1 d2 d3 d4 d5 hq
    replace HX := Lib.hid ((hb.block _ (lt_of_some HX.out)).trans HX.out)
    replace HY := Lib.hid ((hb.block _ (lt_of_some HY.out)).trans HY.out)
    replace HB := Lib.hid (HB.out.trans (hb.mono HB.out.size))
    clear hb
    obtain ⟨⟨c0, c1, c2, c3, c4, c5⟩, -⟩ := facts6 HX.out
    obtain ⟨⟨d0, d1, d2, d3, d4, d5⟩, -⟩ := facts6 HY.out
    have hq : w2.cell? ⟨p, 0, none⟩ = some (.bool true) := (HB.out.cell (p := ⟨p, 0, none⟩) hp0).trans HC.out
    go_wp2_with fail
    refine (ints_eq ts At At' ct ct' F F' w2 (H2.out.keep (F' := F) (fun g h1 h2 => ⟨h1, Nat.lt_of_lt_of_le h2 HB.out.size, HB.out.block g h2⟩)) (H5.out.keep (F' := F') (fun g h1 h2 => ⟨h1, Nat.lt_of_lt_of_le h2 HB.out.size, HB.out.block g h2⟩)) HZ.out.tlen).mono ?_
    rintro e w3 ⟨rfl, hb⟩
    clear c0 c1 c2 c3 c4 c5 d0 d1 d2 d3 d4 d5 hq
    replace HX := Lib.hid ((hb.block _ (lt_of_some HX.out)).trans HX.out)
    replace HY := Lib.hid ((hb.block _ (lt_of_some HY.out)).trans HY.out)
    replace HB := Lib.hid (HB.out.trans (hb.mono HB.out.size))
    clear hb
    obtain ⟨⟨c0, c1, c2, c3, c4, c5⟩, -⟩ := facts6 HX.out
    obtain ⟨⟨d0, d1, d2, d3, d4, d5⟩, -⟩ := facts6 HY.out
    have hq : w3.cell? ⟨p, 0, none⟩ = some (.bool true) := (HB.out.cell (p := ⟨p, 0, none⟩) hp0).trans HC.out
    go_wp2_with fail
    refine (same_l _ body body' HBB.out Ab Ab' cb cb' F F' w3 (H3.out.keep (F' := F) (fun g h1 h2 => ⟨h1, Nat.lt_of_lt_of_le h2 HB.out.size, HB.out.block g h2⟩)) (H6.out.keep (F' := F') (fun g h1 h2 => ⟨h1, Nat.lt_of_lt_of_le h2 HB.out.size, HB.out.block g h2⟩)) HZ.out.body HZ.out.blen).mono ?_
    rintro e w4 ⟨rfl, hb⟩
    replace HB := Lib.hid (HB.out.trans (hb.mono HB.out.size))
    clear hb
    go_wp2_with fail
    go_ret
    exact ⟨rfl, HB.out⟩
  | false =>
    obtain ⟨⟨c0, c1, c2, c3, c4, c5⟩, -⟩ := facts6 HX.out
    obtain ⟨⟨d0, d1, d2, d3, d4, d5⟩, -⟩ := facts6 HY.out
    have hq : wa.cell? ⟨p, 0, none⟩ = some (.bool false) := (HB.out.cell (p := ⟨p, 0, none⟩) hp0).trans HC.out
    go_wp2_with fail
    refine (strs_eq ns An An' cn cn' F F' wa (H1.out.keep (F' := F) (fun g h1 h2 => ⟨h1, Nat.lt_of_lt_of_le h2 HB.out.size, HB.out.block g h2⟩)) (H4.out.keep (F' := F') (fun g h1 h2 => ⟨h1, Nat.lt_of_lt_of_le h2 HB.out.size, HB.out.block g h2⟩)) HZ.out.nlen).mono ?_
    rintro e w2 ⟨rfl, hb⟩
    clear c0 c1 c2 c3 c4 c5 d0 d1 d2 d3 d4 d5 hq
    replace HX := Lib.hid ((hb.block _ (lt_of_some HX.out)).trans HX.out)
    replace HY := Lib.hid ((hb.block _ (lt_of_some HY.out)).trans HY.out)
    replace HB := Lib.hid (HB.out.trans (hb.mono HB.out.size))
    clear hb
    obtain ⟨⟨c0, c1, c2, c3, c4, c5⟩, -⟩ := facts6 HX.out
    obtain ⟨⟨d0, d1, d2, d3, d4, d5⟩, -⟩ := facts6 HY.out
    have hq : w2.cell? ⟨p, 0, none⟩ = some (.bool false) := (HB.out.cell (p := ⟨p, 0, none⟩) hp0).trans HC.out
    go_wp2_with fail
    refine (ints_eq ts At At' ct ct' F F' w2 (H2.out.keep (F' := F) (fun g h1 h2 => ⟨h1, Nat.lt_of_lt_of_le h2 HB.out.size, HB.out.block g h2⟩)) (H5.out.keep (F' := F') (fun g h1 h2 => ⟨h1, Nat.lt_of_lt_of_le h2 HB.out.size, HB.out.block g h2⟩)) HZ.out.tlen).mono ?_
    rintro e w3 ⟨rfl, hb⟩
    clear c0 c1 c2 c3 c4 c5 d0 d1 d2 d3 d4 d5 hq
    replace HX := Lib.hid ((hb.block _ (lt_of_some HX.out)).trans HX.out)
    replace HY := Lib.hid ((hb.block _ (lt_of_some HY.out)).trans HY.out)
    replace HB := Lib.hid (HB.out.trans (hb.mono HB.out.size))
    clear hb
    obtain ⟨⟨c0, c1, c2, c3, c4, c5⟩, -⟩ := facts6 HX.out
    obtain ⟨⟨d0, d1, d2, d3, d4, d5⟩, -⟩ := facts6 HY.out
    have hq : w3.cell? ⟨p, 0, none⟩ = some (.bool false) := (HB.out.cell (p := ⟨p, 0, none⟩) hp0).trans HC.out
    go_wp2_with fail
    refine (same_l _ body body' HBB.out Ab Ab' cb cb' F F' w3 (H3.out.keep (F' := F) (fun g h1 h2 => ⟨h1, Nat.lt_of_lt_of_le h2 HB.out.size, HB.out.block g h2⟩)) (H6.out.keep (F' := F') (fun g h1 h2 => ⟨h1, Nat.lt_of_lt_of_le h2 HB.out.size, HB.out.block g h2⟩)) HZ.out.body HZ.out.blen).mono ?_
    rintro e w4 ⟨rfl, hb⟩
    replace HB := Lib.hid (HB.out.trans (hb.mono HB.out.size))
    clear hb
    go_wp2_with fail
    go_ret
    exact ⟨rfl, HB.out⟩

set_option maxRecDepth 100000 in
set_option maxHeartbeats 8000000 in
theorem eqf_f (q : Bool) (l m : List Fn) (h : SameU q l m)
    (A A' : Option Addr) (c c' : Nat) (F F' : Nat → Prop) (p : Nat) (w : World) (hA : FnsIn w F (.slice A l.length c) l) (hB : FnsIn w F' (.slice A' m.length c') m) (hZ : ∀ s ∈ l, FnZ s) (hlen : l.length ≤ 281474976710656) (hp : w.cell? ⟨p, 0, none⟩ = some (.bool q)) (hp2 : p < w.heap.size) :
    Calls Tryz.prog 57 #[.slice A l.length c, .slice A' m.length c', .func (.func 58) #[] #[.pointer (some ⟨p, 0, none⟩)]] w fun e w' => e = .returned (.bool true) ∧ Below w.heap.size w w' := by
  have HA := Lib.hid hA; have HZ := Lib.hid hZ; have HC := Lib.hid h.2; have HP := Lib.hid hp; have HL := Lib.hid h.1
  have HB : Hid (FnsIn w F' (.slice A' m.length c') m) := Lib.hid hB
  rw [← h.1]
  clear hA hB hZ h hp
  go_enter Tryz.func57, Tryz.ntmps57
  go_wp2_with fail
  go_loopw [17] (fun i wr => ∃ j : Nat, j ≤ l.length ∧ i = .int .i64 j ∧ Hid (Below w.heap.size w wr)) (fun i _ => l.length - (intOf i).toNat)
  case atStart => exact ⟨0, Nat.zero_le _, rfl, Lib.hid (Below.refl _ _)⟩
  case round =>
    obtain ⟨j, hj, rfl, HB0⟩ := hrel
    by_cases hlt : j < l.length
    · obtain ⟨x, hx⟩ : ∃ y, l[j]? = some y := ⟨_, List.getElem?_eq_getElem hlt⟩
      obtain ⟨y, hy⟩ : ∃ y, m[j]? = some y := ⟨_, List.getElem?_eq_getElem (by have := HL.out; omega)⟩
      obtain ⟨g, off, An, cn, At, ct, Ab, cb, rfl, hg, hka, hkb, hke, hq⟩ := HA.out.at j x hx
      obtain ⟨g', off', An', cn', At', ct', Ab', cb', rfl, hg', hka', hkb', hke', hq'⟩ := HB.out.at j y hy
      have a0 := (HB0.out.cell (p := ⟨g, off + j * 6, none⟩) hg).trans (hq 0 _ rfl)
      have a1 := (HB0.out.cell (p := ⟨g, off + j * 6 + 1, none⟩) hg).trans (hq 1 _ rfl)
      have a2 := (HB0.out.cell (p := ⟨g, off + j * 6 + 2, none⟩) hg).trans (hq 2 _ rfl)
      have a3 := (HB0.out.cell (p := ⟨g, off + j * 6 + 3, none⟩) hg).trans (hq 3 _ rfl)
      have a4 := (HB0.out.cell (p := ⟨g, off + j * 6 + 4, none⟩) hg).trans (hq 4 _ rfl)
      have a5 := (HB0.out.cell (p := ⟨g, off + j * 6 + 5, none⟩) hg).trans (hq 5 _ rfl)
      have HX := Lib.hid hx; have HY := Lib.hid hy; have HKA := Lib.hid hka; have HKB := Lib.hid hkb; have HKE := Lib.hid hke; have HKA' := Lib.hid hka'; have HKB' := Lib.hid hkb'; have HKE' := Lib.hid hke'; have HQ' := Lib.hid hq'
      have HZX := Lib.hid (HZ.out x (List.mem_of_getElem? hx))
      clear hx hy hka hkb hke hka' hkb' hke' hq hq'
      have k0 : (0 : Int) ≤ (j : Int) := by omega
      have k1 : (j : Int) < (l.length : Int) := by omega
      go_upto_region 6 with (fail)
      clear a0 a1 a2 a3 a4 a5
      have HB1 := Lib.hid (HB0.out.alloc HB0.out.size (.cells #[.string x.name, .slice An x.names.length cn, .slice At x.types.length ct, .int .i64 x.out, .slice Ab x.body.length cb, .int .i64 x.pos] 32))
      have HN1 := Lib.hid (heap_alloc_new wr (.cells #[.string x.name, .slice An x.names.length cn, .slice At x.types.length ct, .int .i64 x.out, .slice Ab x.body.length cb, .int .i64 x.pos] 32))
      generalize wr.alloc _ = w1 at HB1 HN1 ⊢
      have hs1 := lt_of_some HN1.out
      generalize wr.heap.size = n1 at HN1 hs1 ⊢
      have b0 := (HB1.out.cell (p := ⟨g', off' + j * 6, none⟩) hg').trans (HQ'.out 0 _ rfl)
      have b1 := (HB1.out.cell (p := ⟨g', off' + j * 6 + 1, none⟩) hg').trans (HQ'.out 1 _ rfl)
      have b2 := (HB1.out.cell (p := ⟨g', off' + j * 6 + 2, none⟩) hg').trans (HQ'.out 2 _ rfl)
      have b3 := (HB1.out.cell (p := ⟨g', off' + j * 6 + 3, none⟩) hg').trans (HQ'.out 3 _ rfl)
      have b4 := (HB1.out.cell (p := ⟨g', off' + j * 6 + 4, none⟩) hg').trans (HQ'.out 4 _ rfl)
      have b5 := (HB1.out.cell (p := ⟨g', off' + j * 6 + 5, none⟩) hg').trans (HQ'.out 5 _ rfl)
      go_upto_region 7 with (fail)
      clear b0 b1 b2 b3 b4 b5
      have HB2 := Lib.hid (HB1.out.alloc HB1.out.size (.cells #[.string y.name, .slice An' y.names.length cn', .slice At' y.types.length ct', .int .i64 y.out, .slice Ab' y.body.length cb', .int .i64 y.pos] 32))
      have HN2 := Lib.hid (heap_alloc_new w1 (.cells #[.string y.name, .slice An' y.names.length cn', .slice At' y.types.length ct', .int .i64 y.out, .slice Ab' y.body.length cb', .int .i64 y.pos] 32))
      have HN1' := Lib.hid ((heap_alloc_old w1 (.cells #[.string y.name, .slice An' y.names.length cn', .slice At' y.types.length ct', .int .i64 y.out, .slice Ab' y.body.length cb', .int .i64 y.pos] 32) hs1).trans HN1.out)
      clear HN1 hs1
      generalize w1.alloc _ = w2 at HB2 HN1' HN2 ⊢
      generalize w1.heap.size = n2 at HN2 ⊢
      obtain ⟨⟨a0, a1, a2, a3, a4, a5⟩, -⟩ := facts6 HN1'.out
      obtain ⟨⟨b0, b1, b2, b3, b4, b5⟩, -⟩ := facts6 HN2.out
      go_wp2_with fail
      clear a0 a1 a2 a3 a4 a5 b0 b1 b2 b3 b4 b5
      have hk : Keeps F F w w2 := fun q h1 h2 => ⟨h1, Nat.lt_of_lt_of_le h2 HB2.out.size, HB2.out.block q h2⟩
      have hk' : Keeps F' F' w w2 := fun q h1 h2 => ⟨h1, Nat.lt_of_lt_of_le h2 HB2.out.size, HB2.out.block q h2⟩
      refine (clo_f q x y (HC.out j x y HX.out HY.out) An At Ab An' At' Ab' cn ct cb cn' ct' cb' F F' p w2 (HKA.out.keep hk) (HKB.out.keep hk) (HKE.out.keep hk) (HKA'.out.keep hk') (HKB'.out.keep hk') (HKE'.out.keep hk') HZX.out ((HB2.out.cell (p := ⟨p, 0, none⟩) hp2).trans HP.out) (Nat.lt_of_lt_of_le hp2 HB2.out.size)).mono ?_
      rintro e w8 ⟨rfl, hb8⟩
      have HB8 := Lib.hid (HB2.out.trans (hb8.mono HB2.out.size))
      clear hb8 hk hk'
      go_wp2_with fail
      go_roundw
      case rel => exact ⟨j + 1, by omega, by go_num, HB8⟩
      case measure => simp [intOf]; omega
    · go_wp2_with fail
      go_ret
      exact ⟨rfl, HB0.out⟩
set_option maxRecDepth 100000 in
set_option maxHeartbeats 4000000 in
theorem same_u (q : Bool) (l m : List Fn) (h : SameU q l m) (A A' : Option Addr) (c c' : Nat) (F F' : Nat → Prop) (w : World) (hA : FnsIn w F (.slice A l.length c) l) (hB : FnsIn w F' (.slice A' m.length c') m) (hZ : ∀ s ∈ l, FnZ s) (hlen : l.length ≤ 281474976710656) :
    Calls Tryz.prog 16 #[.agg #[.slice A l.length c], .agg #[.slice A' m.length c'], .bool q] w fun e w' => e = .returned (.bool true) ∧ Below w.heap.size w w' := by
  have HA := Lib.hid hA; have HB := Lib.hid hB; have HZ := Lib.hid hZ; have HC := Lib.hid h
  clear hA hB hZ h
  have hmf : ∀ (fn : Go.Fn) (first cap : Array Value) (w : World), (Instr.makeFunc fn first cap).run Tryz.prog w = .ok (.func fn first cap) w := fun _ _ _ _ => rfl
  have HB1 := Lib.hid ((((Below.refl w.heap.size w).alloc (Nat.le_refl _) (.cells #[.slice A l.length c] 24)).alloc (by simp) (.cells #[.slice A' m.length c'] 24)).alloc (by simp; omega) (.cells #[.bool q] 4))
  have HN1 := Lib.hid (heap_alloc_new ((w.alloc (.cells #[.slice A l.length c] 24)).alloc (.cells #[.slice A' m.length c'] 24)) (.cells #[.bool q] 4))
  go_enter Tryz.func16, Tryz.ntmps16
  go_wp2_with fail
  have hk : Keeps F F w (((w.alloc (.cells #[.slice A l.length c] 24)).alloc (.cells #[.slice A' m.length c'] 24)).alloc (.cells #[.bool q] 4)) := fun q h1 h2 => ⟨h1, Nat.lt_of_lt_of_le h2 HB1.out.size, HB1.out.block q h2⟩
  have hk' : Keeps F' F' w (((w.alloc (.cells #[.slice A l.length c] 24)).alloc (.cells #[.slice A' m.length c'] 24)).alloc (.cells #[.bool q] 4)) := fun q h1 h2 => ⟨h1, Nat.lt_of_lt_of_le h2 HB1.out.size, HB1.out.block q h2⟩
  refine (eqf_f q l m HC.out A A' c c' F F' (w.heap.size + 2) _ (HA.out.keep hk) (HB.out.keep hk') HZ.out hlen (by simpa using Lib.cell_of_heap HN1.out 0) (by simp)).mono ?_
  rintro e w8 ⟨rfl, hb8⟩
  have HB8 := Lib.hid (HB1.out.trans (hb8.mono HB1.out.size))
  clear hb8 hk hk'
  go_wp2_with fail
  go_ret
  exact ⟨rfl, HB8.out⟩
end Go.Proofs.YtmngofgminlloaaGreatDoor

namespace Go.Proofs.YtmngofgminlloaaGreatDoor
open Go.RowKit Tw

def cText : ByteArray := ⟨#[102, 117, 110, 32, 102, 40, 41, 58, 32, 105, 110, 116, 32, 123, 32, 114, 101, 116, 117, 114, 110, 32, 49, 32, 43, 32, 50, 32, 42, 32, 51, 59, 32, 125]⟩
def cWords : List Wd := [⟨3, cText.extract 0 3, 0⟩, ⟨2, cText.extract 4 5, 4⟩, ⟨4, cText.extract 5 6, 5⟩, ⟨4, cText.extract 6 7, 6⟩, ⟨4, cText.extract 7 8, 7⟩, ⟨3, cText.extract 9 12, 9⟩, ⟨4, cText.extract 13 14, 13⟩, ⟨3, cText.extract 15 21, 15⟩, ⟨1, cText.extract 22 23, 22⟩, ⟨4, cText.extract 24 25, 24⟩, ⟨1, cText.extract 26 27, 26⟩, ⟨4, cText.extract 28 29, 28⟩, ⟨1, cText.extract 30 31, 30⟩, ⟨4, cText.extract 31 32, 31⟩, ⟨4, cText.extract 33 34, 33⟩]
theorem lex_c : Lex cText 0 [] (none, cWords) := by
  refine .word (k := 3) (n := 3) (by decide) (by rfl) ?_
  refine .skip (n := 1) (by decide) (by rfl) ?_
  refine .word (k := 2) (n := 1) (by decide) (by rfl) ?_
  refine .word (k := 4) (n := 1) (by decide) (by rfl) ?_
  refine .word (k := 4) (n := 1) (by decide) (by rfl) ?_
  refine .word (k := 4) (n := 1) (by decide) (by rfl) ?_
  refine .skip (n := 1) (by decide) (by rfl) ?_
  refine .word (k := 3) (n := 3) (by decide) (by rfl) ?_
  refine .skip (n := 1) (by decide) (by rfl) ?_
  refine .word (k := 4) (n := 1) (by decide) (by rfl) ?_
  refine .skip (n := 1) (by decide) (by rfl) ?_
  refine .word (k := 3) (n := 6) (by decide) (by rfl) ?_
  refine .skip (n := 1) (by decide) (by rfl) ?_
  refine .word (k := 1) (n := 1) (by decide) (by rfl) ?_
  refine .skip (n := 1) (by decide) (by rfl) ?_
  refine .word (k := 4) (n := 1) (by decide) (by rfl) ?_
  refine .skip (n := 1) (by decide) (by rfl) ?_
  refine .word (k := 1) (n := 1) (by decide) (by rfl) ?_
  refine .skip (n := 1) (by decide) (by rfl) ?_
  refine .word (k := 4) (n := 1) (by decide) (by rfl) ?_
  refine .skip (n := 1) (by decide) (by rfl) ?_
  refine .word (k := 1) (n := 1) (by decide) (by rfl) ?_
  refine .word (k := 4) (n := 1) (by decide) (by rfl) ?_
  refine .skip (n := 1) (by decide) (by rfl) ?_
  refine .word (k := 4) (n := 1) (by decide) (by rfl) ?_
  exact .done (by decide)
theorem wres_c : WRes cText 0 0 cWords := .inr ⟨by decide, _, lex_c, rfl, rfl, rfl⟩
def cNum (i : Nat) : Ex := .mk 1 (numV (textAt cWords i)) sNone [] (posAt cWords i 34)
def cExpr : Ex := twoEx cWords 34 9 (cNum 8) (twoEx cWords 34 11 (cNum 10) (cNum 12))
def cFn : Fn := ⟨textAt cWords 1, [], [], 1, [.mk 5 sNone cExpr [] [] (posAt cWords 7 34)], posAt cWords 0 34⟩
theorem isAt_of {ws : List Wd} {i : Nat} {s : ByteArray} (b : Bool) (h : (match ws[i]? with | some x => decide (x.text.data.toList = s.data.toList) | none => false) = b) : isAt ws i s = b := by
  unfold isAt
  revert h
  cases ws[i]? with
  | none => exact fun h => h
  | some x =>
    simp only [ByteArray.toList_eq]
    intro h
    rw [← h, Bool.eq_iff_iff]; simp
theorem de_num (i : Nat) (h : headQ cWords i = 7) : De cWords 34 (.one i) (.ex (cNum i) (i + 1)) := .num h
theorem hq_num (i : Nat) (h : ∀ s, s ∈ [sMinus, sBang, sOpen, sTrue, sFalse, sHost] → isAt cWords i s = false) (hk : kindAt cWords i = 1) : headQ cWords i = 7 := by
  unfold headQ
  simp [h sMinus (by simp), h sBang (by simp), h sOpen (by simp), h sTrue (by simp), h sFalse (by simp), h sHost (by simp), hk]
theorem hq_8 : headQ cWords 8 = 7 := hq_num 8 (by intro s hs; simp only [List.mem_cons, List.mem_nil_iff, or_false] at hs; rcases hs with rfl | rfl | rfl | rfl | rfl | rfl <;> exact isAt_of false (by decide)) (by rfl)
theorem hq_10 : headQ cWords 10 = 7 := hq_num 10 (by intro s hs; simp only [List.mem_cons, List.mem_nil_iff, or_false] at hs; rcases hs with rfl | rfl | rfl | rfl | rfl | rfl <;> exact isAt_of false (by decide)) (by rfl)
theorem hq_12 : headQ cWords 12 = 7 := hq_num 12 (by intro s hs; simp only [List.mem_cons, List.mem_nil_iff, or_false] at hs; rcases hs with rfl | rfl | rfl | rfl | rfl | rfl <;> exact isAt_of false (by decide)) (by rfl)
theorem de_expr : De cWords 34 (.lvl 1 8) (.ex cExpr 13) := by
  have s5 : ∀ a : Ex, ∀ j r, De cWords 34 (.rest 5 a j) r → True := fun _ _ _ _ => trivial
  have one8 : De cWords 34 (.lvl 5 8) (.ex (cNum 8) 9) := .lvl (by decide) (.lvl6 (de_num 8 hq_8)) (.stop (by decide))
  have two : De cWords 34 (.lvl 5 10) (.ex (twoEx cWords 34 11 (cNum 10) (cNum 12)) 13) :=
    .lvl (by decide) (.lvl6 (de_num 10 hq_10)) (.go (by decide) (by decide) (.lvl6 (de_num 12 hq_12)) (.stop (by decide)))
  have l4 : De cWords 34 (.lvl 4 8) (.ex cExpr 13) := .lvl (by decide) one8 (.go (by decide) (by decide) two (.stop (by decide)))
  exact .lvl (by decide) (.lvl (by decide) (.lvl (by decide) l4 (.stop (by decide))) (.stop (by decide))) (.stop (by decide))
theorem hs_7 : headS cWords 7 = 5 := by
  unfold headS
  rw [if_neg (by rw [isAt_of (s := sLet) false (by decide)]; decide), if_neg (by rw [isAt_of (s := sIf) false (by decide)]; decide), if_neg (by rw [isAt_of (s := sWhile) false (by decide)]; decide), if_pos (isAt_of (s := sReturn) true (by decide))]
theorem ds_stmt : Ds cWords 34 (.stmt 7) (.st (.mk 5 sNone cExpr [] [] (posAt cWords 7 34)) 14) := by
  have h := hs_7
  have he : exprS cWords 7 = 8 := by unfold exprS; rw [if_neg (by omega), if_neg (by omega), if_neg (by omega)]
  have hn : nameS cWords 7 = sNone := by unfold nameS; rw [if_neg (by omega), if_neg (by omega)]
  have := Ds.simp (ws := cWords) (en := 34) (i := 7) (j := 13) (x := cExpr) (by omega) (by omega) (fun e => by omega) (by rw [he]; exact de_expr) (isAt_of true (by decide))
  rw [h, hn] at this
  exact this
theorem ds_blk : Ds cWords 34 (.block 6) (.sts [.mk 5 sNone cExpr [] [] (posAt cWords 7 34)] 15) :=
  .block (isAt_of true (by decide)) (.more (isAt_of false (by decide)) ds_stmt (.done (isAt_of true (by decide))))
theorem df_c : Df cWords 34 0 (.fn cFn 15) :=
  .fn (isAt_of true (by decide)) (by rfl) (isAt_of true (by decide)) (.close (isAt_of true (by decide))) (by unfold typF; rw [if_pos (isAt_of true (by decide)), if_pos (isAt_of true (by decide))]) ds_blk
theorem du_c : Du cWords 34 0 (.fns [cFn]) := .more (by decide) df_c (.done (by decide))
theorem exF_c : exF cExpr 39 = 0 := by
  have n8 : ∀ i, (i = 8 ∨ i = 10 ∨ i = 12) → ∀ l, l = 37 ∨ l = 38 → exF (cNum i) l = 0 := by
    intro i hi l hl
    unfold cNum
    rw [exF]
    have : headF 1 (numV (textAt cWords i)) sNone ([] : List Ex).length l = none := by
      rcases hi with rfl | rfl | rfl <;> rcases hl with rfl | rfl <;> decide
    rw [this]; rw [exsF]
  have h1 : ∀ j k, headF 6 0 (textAt cWords j) 2 k = none → True := fun _ _ _ => trivial
  unfold cExpr
  unfold twoEx
  rw [exF]
  have e9 : headF 6 0 (textAt cWords 9) [cNum 8, Ex.mk 6 0 (textAt cWords 11) [cNum 10, cNum 12] (posAt cWords 11 34)].length 39 = none := by decide
  rw [e9]
  simp only []
  rw [exsF, if_pos (n8 8 (by simp) 38 (by simp)), exsF]
  have e11 : headF 6 0 (textAt cWords 11) [cNum 10, cNum 12].length 38 = none := by decide
  have : exF (.mk 6 0 (textAt cWords 11) [cNum 10, cNum 12] (posAt cWords 11 34)) 38 = 0 := by
    rw [exF, e11]
    simp only []
    rw [exsF, if_pos (n8 10 (by simp) 37 (by simp)), exsF, if_pos (n8 12 (by simp) 37 (by simp)), exsF]
  rw [if_pos this, exsF]
theorem unitF_k : unitF [cFn] = 0 := by
  unfold unitF
  rw [if_neg (by decide), fnsF]
  have : fnF cFn = 0 := by
    unfold fnF
    rw [if_neg (by decide), if_neg (by decide)]
    show smsF [.mk 5 sNone cExpr [] [] (posAt cWords 7 34)] 40 = 0
    rw [smsF]
    have : smF (.mk 5 sNone cExpr [] [] (posAt cWords 7 34)) 40 = 0 := by
      rw [smF, if_neg (by decide), if_neg (by decide), if_neg (by rw [exF_c]; decide), if_neg (by simp), if_neg (by decide)]
    rw [if_pos this, smsF]
  rw [if_pos this, fnsF]
end Go.Proofs.YtmngofgminlloaaGreatDoor

namespace Go.Proofs.YtmngofgminlloaaGreatDoor
open Go.RowKit Tw

theorem lex_det {s : ByteArray} {k : Nat} {l : List Wd} {r : Option Nat × List Wd} (h : Lex s k l r) : ∀ r', Lex s k l r' → r = r' := by
  induction h with
  | done e => intro r' h'; exact (h'.go_done (by omega)).symm
  | bad e ht => intro r' h'; exact (h'.go_bad e ht).symm
  | skip e ht _ ih => intro r' h'; exact ih _ (h'.go_skip e ht)
  | word e ht _ ih => intro r' h'; exact ih _ (h'.go_word e ht)
theorem wres_det {s : ByteArray} {p e p' e' : Int} {ws ws' : List Wd} (h : WRes s p e ws) (h' : WRes s p' e' ws') : p = p' ∧ e = e' ∧ ws = ws' := by
  rcases h with ⟨h1, rfl, rfl, rfl⟩ | ⟨h1, r, hr, rfl, rfl, rfl⟩
  · rcases h' with ⟨g1, rfl, rfl, rfl⟩ | ⟨g1, _⟩
    · exact ⟨rfl, rfl, rfl⟩
    · omega
  · rcases h' with ⟨g1, _⟩ | ⟨g1, r', hr', rfl, rfl, rfl⟩
    · omega
    · obtain rfl := lex_det hr _ hr'
      exact ⟨rfl, rfl, rfl⟩
theorem sres_det {s : ByteArray} {l l' : List Fn} {p er p' er' : Int} (h : SRes s l p er) (h' : SRes s l' p' er') : l = l' ∧ p = p' ∧ er = er' := by
  obtain ⟨p0, e0, ws, hw, h⟩ := h
  obtain ⟨p1, e1, ws1, hw1, h'⟩ := h'
  obtain ⟨rfl, rfl, rfl⟩ := wres_det hw hw1
  rcases h with ⟨a, rfl, rfl, rfl⟩ | ⟨rfl, h⟩
  · rcases h' with ⟨_, rfl, rfl, rfl⟩ | ⟨b, _⟩
    · exact ⟨rfl, rfl, rfl⟩
    · exact absurd b a
  · rcases h' with ⟨b, _⟩ | ⟨_, h'⟩
    · exact absurd rfl b
    · rcases h with ⟨j, hd, rfl, rfl, rfl⟩ | ⟨m, hd, rfl, rfl, rfl⟩
      · rcases h' with ⟨j', hd', rfl, rfl, rfl⟩ | ⟨m', hd', _⟩
        · have e := hd.det _ hd'; injection e with e; subst e; exact ⟨rfl, rfl, rfl⟩
        · have e := hd.det _ hd'; cases e
      · rcases h' with ⟨j', hd', _⟩ | ⟨m', hd', rfl, rfl, rfl⟩
        · have e := hd.det _ hd'; cases e
        · have e := hd.det _ hd'; injection e with e; subst e; exact ⟨rfl, rfl, rfl⟩
/-- Something stands there. -/
theorem du_some {s : ByteArray} {p e : Int} {ws : List Wd} (hw : WRes s p e ws) (w : World) (hs : s.size ≤ maxLen) (hG : Glob w) : e = 0 → ∃ q, Du ws s.size 0 q := by
  intro he
  obtain ⟨x, w', -, h, -⟩ := script_c s w hs hG []
  obtain ⟨l, A, c, p', er, -, -, -, p1, e1, ws1, hw1, h⟩ := h
  obtain ⟨rfl, rfl, rfl⟩ := wres_det hw hw1
  rcases h with ⟨a, _⟩ | ⟨_, ⟨j, hd, _⟩ | ⟨m, hd, _⟩⟩
  · exact absurd he a
  · exact ⟨_, hd⟩
  · exact ⟨_, hd⟩
theorem du_any {s : ByteArray} {p e : Int} {ws : List Wd} (hw : WRes s p e ws) (w : World) (hs : s.size ≤ maxLen) (hG : Glob w) : ∃ q, Du ws s.size 0 q := by
  by_cases he : e = 0
  · exact du_some hw w hs hG he
  · rcases hw with ⟨_, _, _, rfl⟩ | ⟨_, r, hr, _, he', rfl⟩
    · exact ⟨_, .done (Nat.zero_le _)⟩
    · have hn : r.2 = [] := by
        rcases r with ⟨o, l⟩
        cases o with
        | none => exact absurd he' he
        | some k =>
          have : ∀ {k : Nat} {l : List Wd} {r : Option Nat × List Wd}, Lex s k l r → r.1 ≠ none → r.2 = [] := by
            intro k l r h
            induction h with
            | done _ => intro h; exact absurd rfl h
            | bad _ _ => intro _; rfl
            | skip _ _ _ ih => exact ih
            | word _ _ _ ih => exact ih
          exact this hr (by simp)
      rw [hn]
      exact ⟨_, .done (Nat.zero_le _)⟩
theorem parse_a (src : ByteArray) (w : World) (hs : src.size ≤ maxLen) (hG : Glob w) : Calls Tryz.prog 22 #[.string src] w fun e w' => PRes w src e w' := by
  obtain ⟨p, e, ws, hw⟩ := WRes.total src
  obtain ⟨q, hq⟩ := du_any hw w hs hG
  exact parse_c src w hs hG p e ws hw q hq
theorem sres_c {l : List Fn} {p er : Int} (h : SRes cText l p er) : l = [cFn] ∧ p = 0 ∧ er = 0 :=
  sres_det h ⟨0, 0, cWords, wres_c, .inr ⟨rfl, .inr ⟨[cFn], du_c, rfl, unitF_k.symm, by rw [if_pos unitF_k]⟩⟩⟩
/-- What Script has read is of sizes that memory has. -/
theorem sres_small {s : ByteArray} {l : List Fn} {p er : Int} (h : SRes s l p er) : (∀ f ∈ l, FnZ f) ∧ l.length ≤ 281474976710656 := by
  obtain ⟨p0, e0, ws, hw, h⟩ := h
  rcases h with ⟨_, rfl, _⟩ | ⟨_, ⟨j, _, rfl, _⟩ | ⟨m, hd, _, _, rfl⟩⟩
  · exact ⟨by simp, by simp⟩
  · exact ⟨by simp, by simp⟩
  · split
    · have := (hd.small hw.small) _ rfl
      exact ⟨this.2.2, by have h1 := this.1; have h2 := hw.small.1; omega⟩
    · exact ⟨by simp, by simp⟩
end Go.Proofs.YtmngofgminlloaaGreatDoor

namespace Go.Proofs.YtmngofgminlloaaGreatDoor
open Go.RowKit Tw

set_option maxRecDepth 100000 in
set_option maxHeartbeats 8000000 in
theorem parseTells_any (src : ByteArray) (w : World) (hs : src.size ≤ maxLen) (hG : Glob w) :
    Calls Tryz.prog 6 #[.string src] w fun e w' => e = .returned (.bool true) ∧ Below w.heap.size w w' := by
  have HG := Lib.hid hG; have HS := Lib.hid hs
  have hc : cText.size ≤ maxLen := by decide
  have PC := Lib.hid (parse_a cText w hc hG)
  clear hG hs hc
  unfold cText at PC
  go_enter Tryz.func6, Tryz.ntmps6
  go_wp2_with fail
  refine PC.out.mono ?_
  rintro e w1 ⟨l, A, c, p, er, rfl, hF, hb, hr⟩
  obtain ⟨rfl, rfl, rfl⟩ := sres_c hr
  have HB1 := Lib.hid (hb.alloc hb.size (.cells #[.slice A 1 c] 24))
  obtain ⟨g, off, An, cn, At, ct, Ab, cb, rfl, hg, -, -, -, hc⟩ := hF.at 0 cFn rfl
  have k4 : w1.cell? ⟨g, off + 4, none⟩ = some (.slice Ab cFn.body.length cb) := by simpa using hc 4 _ rfl
  have k4 : w1.cell? ⟨g, off + 4, none⟩ = some (.slice Ab 1 cb) := k4
  have hu := heap_alloc_new w1 (.cells #[.slice (some ⟨g, off, none⟩) 1 c] 24)
  have k4' : (w1.alloc (.cells #[.slice (some ⟨g, off, none⟩) 1 c] 24)).cell? ⟨g, off + 4, none⟩ = some (.slice Ab 1 cb) := (World.cell?_of_block (a := ⟨g, off + 4, none⟩) (heap_alloc_old w1 _ hg)).trans k4
  have cu := Lib.cell_of_heap hu 0
  simp at cu
  simp only [List.length_cons, List.length_nil, Nat.zero_add]
  clear hF hr hc k4 PC hb hu
  go_upto_region 4 with (fail)
  clear k4' cu hg
  generalize w1.alloc _ = w2 at HB1 ⊢
  go_wp2_with fail
  refine (parse_a src w2 HS.out (HG.out.to HB1.out)).mono ?_
  rintro e w3 ⟨l, A, c', p, er, rfl, hF, hb, hr⟩
  have HB3 := Lib.hid (HB1.out.trans ((hb.alloc hb.size (.cells #[.slice A l.length c'] 24)).mono HB1.out.size))
  have hu := heap_alloc_new w3 (.cells #[.slice A l.length c'] 24)
  have HF : Hid (FnsIn (w3.alloc (.cells #[.slice A l.length c'] 24)) (fun _ => True) (.slice A l.length c') l) := Lib.hid (hF.keep fun g h1 h2 => ⟨trivial, by simp; omega, heap_alloc_old w3 _ h2⟩)
  have HR := Lib.hid hr
  have hs4 := lt_of_some hu
  have HU := Lib.hid hu
  clear hF hb hr hu
  go_upto_region 5 with (fail)
  generalize w3.alloc _ = w4 at HB3 HF HU hs4 ⊢
  generalize w3.heap.size = n6 at HU hs4 ⊢
  go_wp2_with fail
  refine (script_c src w4 HS.out (HG.out.to HB3.out)).mono ?_
  rintro e w5 ⟨l', A', c2, p', er', rfl, hF', hb, hr'⟩
  obtain ⟨rfl, rfl, rfl⟩ := sres_det HR.out hr'
  have hbA := hb.alloc hb.size (.cells #[.slice A' l.length c2] 24)
  have HB5 := Lib.hid (HB3.out.trans (hbA.mono HB3.out.size))
  have HF2 : Hid (FnsIn (w5.alloc (.cells #[.slice A' l.length c2] 24)) (fun _ => True) (.slice A l.length c') l) := Lib.hid (HF.out.keep fun g h1 h2 => ⟨trivial, Nat.lt_of_lt_of_le h2 hbA.size, hbA.block g h2⟩)
  have HF3 : Hid (FnsIn (w5.alloc (.cells #[.slice A' l.length c2] 24)) (fun _ => True) (.slice A' l.length c2) l) := Lib.hid (hF'.keep fun g h1 h2 => ⟨trivial, by simp; omega, heap_alloc_old w5 _ h2⟩)
  have HU6 := Lib.hid ((hbA.block n6 hs4).trans HU.out)
  have HU9 := Lib.hid (heap_alloc_new w5 (.cells #[.slice A' l.length c2] 24))
  clear hF' hb hr' hbA HF HU hs4
  go_upto_region 6 with (fail)
  generalize w5.alloc _ = w6 at HB5 HF2 HF3 HU6 HU9 ⊢
  generalize w5.heap.size = n9 at HU9 ⊢
  have c6 : w6.cell? ⟨n6, 0, none⟩ = some (.slice A l.length c') := Lib.cell_of_heap HU6.out 0
  have c9 : w6.cell? ⟨n9, 0, none⟩ = some (.slice A' l.length c2) := Lib.cell_of_heap HU9.out 0
  have e1 : (er == er) = true := beq_self_eq_true _
  have e2 : (p == p) = true := beq_self_eq_true _
  go_wp2_with fail
  refine (same_u true l l (SameU.rfl' true l) A A' c' c2 _ _ w6 HF2.out HF3.out (sres_small HR.out).1 (sres_small HR.out).2).mono ?_
  rintro e w7 ⟨rfl, hb⟩
  have HB7 := Lib.hid (HB5.out.trans (hb.mono HB5.out.size))
  clear hb
  go_wp2_with fail
  go_ret
  exact ⟨rfl, HB7.out⟩
end Go.Proofs.YtmngofgminlloaaGreatDoor
