/-
  The reference's maker of scripts: expressions of type bool.
  Made statements and blocks: names, bounds, the texts that the maker puts together. No program in sight.
  The reference's maker of scripts: how its state turns; one statement.
  The reference's maker of scripts: blocks of statements.
-/
import Derived.Test.YtmngofgminlloaaGreatDoorTS01
import Derived.Outline
import Derived.Deep.RegionHeld3
set_option linter.all false
namespace Go.Proofs.YtmngofgminlloaaGreatDoor
open Go.RowKit Tw

/-- A text of flag. -/
def FlagA (N : Nat) (ns : List ByteArray) (low d i : Nat) (s : ByteArray) (i' : Nat) : Prop := ∃ g : GE, s = g.txt ∧ GFlag N ns low d i g i'
theorem FlagA.size {N : Nat} {ns : List ByteArray} {low d i : Nat} {s : ByteArray} {i' : Nat} (hd : d ≤ 2) (hns : NsOk ns) (hl : low ≤ 2) (h : FlagA N ns low d i s i') : s.size ≤ 4000 := by
  obtain ⟨g, rfl, hg⟩ := h
  have := hg.bound hns hl
  have h2 : 2 ^ d ≤ 2 ^ 2 := Nat.pow_le_pow_right (by decide) hd
  simp only [show 2 ^ 2 = 4 from rfl] at h2
  omega
section
variable {N : Nat} {ns : List ByteArray} {low d i i1 i2 i3 i4 : Nat} {s t u : ByteArray}
theorem FlagA.not {k : Nat} (h0 : Nx N 6 i k i1) (h : FlagA N ns low (d - 1) i1 s i2) (hd : 1 ≤ d) : FlagA N ns low d i (⟨#[33, 40]⟩ ++ s ++ ⟨#[41]⟩) i2 := by
  obtain ⟨d, rfl⟩ : ∃ e, d = e + 1 := ⟨d - 1, by omega⟩
  obtain ⟨g, rfl, hg⟩ := h
  exact ⟨_, rfl, .not h0 hg⟩
theorem FlagA.and {k : Nat} (h0 : Nx N 6 i k i1) (hk : 0 < k) (h : FlagA N ns low (d - 1) i1 s i2) (h' : FlagA N ns low (d - 1) i2 t i3) (hd : 1 ≤ d) : FlagA N ns low d i (⟨#[40]⟩ ++ s ++ ⟨#[32, 38, 38, 32]⟩ ++ t ++ ⟨#[41]⟩) i3 := by
  obtain ⟨hi, rfl⟩ := h0.got hk
  obtain ⟨d, rfl⟩ : ∃ e, d = e + 1 := ⟨d - 1, by omega⟩
  obtain ⟨g, rfl, hg⟩ := h
  obtain ⟨g', rfl, hg'⟩ := h'
  exact ⟨_, rfl, .and hi hg hg'⟩
theorem FlagA.or {k : Nat} (h0 : Nx N 6 i k i1) (hk : 0 < k) (h : FlagA N ns low (d - 1) i1 s i2) (h' : FlagA N ns low (d - 1) i2 t i3) (hd : 1 ≤ d) : FlagA N ns low d i (⟨#[40]⟩ ++ s ++ ⟨#[32, 124, 124, 32]⟩ ++ t ++ ⟨#[41]⟩) i3 := by
  obtain ⟨hi, rfl⟩ := h0.got hk
  obtain ⟨d, rfl⟩ : ∃ e, d = e + 1 := ⟨d - 1, by omega⟩
  obtain ⟨g, rfl, hg⟩ := h
  obtain ⟨g', rfl, hg'⟩ := h'
  exact ⟨_, rfl, .or hi hg hg'⟩
theorem FlagA.tf {k j : Nat} (h0 : Nx N 6 i k i1) (hk : 0 < k) (h : Nx N 2 i1 j i2) (hs : s = tfT j) : FlagA N ns low d i s i2 := by
  obtain ⟨hi, rfl⟩ := h0.got hk
  exact ⟨.tf j, hs, .tf hi h⟩
theorem FlagA.cmp {k o : Nat} (h0 : Nx N 6 i k i1) (h : NumA N ns low 1 i1 s i2) (ho : Nx N 6 i2 o i3) (hu : u = cmpT o) (h' : NumA N ns low 1 i3 t i4) : FlagA N ns low d i (s ++ u ++ t) i4 := by
  obtain ⟨g, rfl, hg⟩ := h
  obtain ⟨g', rfl, hg'⟩ := h'
  subst hu
  exact ⟨_, rfl, .cmp h0 hg ho hg'⟩
end
/-- What flag(d) answers. -/
def FlagR (w0 wv : World) (sb qb : Nat) (A0 : Option Addr) (n0 c0 : Nat) (An : Option Addr) (cn : Nat) (ns : List ByteArray) (made low d i : Nat) (e : Ending) (w' : World) : Prop :=
  ∃ (s : ByteArray) (i' : Nat), e = .returned (.string s) ∧ s.size ≤ 4000 ∧ Hid (FlagA n0 ns low d i s i') ∧ Sc w0 wv w' sb qb A0 n0 c0 i' An cn ns made low
def FlagC (d : Nat) : Prop :=
  ∀ {w0 wv w : World} {sb qb : Nat} {A0 : Option Addr} {n0 c0 i : Nat} {An : Option Addr} {cn : Nat} {ns : List ByteArray} {made low : Nat}, Sc w0 wv w sb qb A0 n0 c0 i An cn ns made low → Calls Tryz.prog 169 #[.pointer (some ⟨sb, 0, none⟩), .int .i64 d] w (FlagR w0 wv sb qb A0 n0 c0 An cn ns made low d i)
theorem flag_ret {w0 wv w' : World} {sb qb : Nat} {A0 : Option Addr} {n0 c0 i : Nat} {An : Option Addr} {cn : Nat} {ns : List ByteArray} {made low : Nat} {d i' : Nat} {s : ByteArray} (hd : d ≤ 2) (hA : FlagA n0 ns low d i s i') (hS : Sc w0 wv w' sb qb A0 n0 c0 i' An cn ns made low) : FlagR w0 wv sb qb A0 n0 c0 An cn ns made low d i (.returned (.string s)) w' :=
  ⟨s, i', rfl, hA.size hd hS.sz hS.l1, Lib.hid hA, hS⟩
theorem num_all : ∀ d : Nat, d ≤ 4 → NumC d
  | 0, _ => num_step 0 (by decide) (by omega)
  | d + 1, h => num_step (d + 1) h (fun _ => num_all d (by omega))
theorem Sc.al {w0 wv w : World} {sb qb : Nat} {A0 : Option Addr} {n0 c0 i : Nat} {An : Option Addr} {cn : Nat} {ns : List ByteArray} {made low : Nat} (h : Sc w0 wv w sb qb A0 n0 c0 i An cn ns made low) (o : Obj) : Sc w0 wv (w.alloc o) sb qb A0 n0 c0 i An cn ns made low := h.below ((Below.refl _ _).alloc (Nat.le_refl _) o)
theorem Sc.new {w0 wv w : World} {sb qb : Nat} {A0 : Option Addr} {n0 c0 i : Nat} {An : Option Addr} {cn : Nat} {ns : List ByteArray} {made low : Nat} {w' : World} {cs : Array Value} {t : TypeId} (h : Sc w0 wv w sb qb A0 n0 c0 i An cn ns made low) (q : Unit) (hg : (w.alloc (.cells cs t)).grownBy w' (some qb)) : w'.heap[w.heap.size]? = some (.cells cs t (0, 0)) :=
  (hg.block _ (by simp) (by have := h.q; have := h.s; simp; omega)).trans (heap_alloc_new w _)
theorem Sc.old {w0 wv w : World} {sb qb : Nat} {A0 : Option Addr} {n0 c0 i : Nat} {An : Option Addr} {cn : Nat} {ns : List ByteArray} {made low : Nat} {w' : World} {g : Nat} {o : Obj} (h : Sc w0 wv w sb qb A0 n0 c0 i An cn ns made low) (hg : w.grownBy w' (some qb)) (hgq : w.heap[g]? = some o ∧ g ≠ qb) : w'.heap[g]? = some o :=
  (hg.block _ (lt_of_some hgq.1) (by simpa using hgq.2)).trans hgq.1
theorem Sc.ne {w0 wv w : World} {sb qb : Nat} {A0 : Option Addr} {n0 c0 i : Nat} {An : Option Addr} {cn : Nat} {ns : List ByteArray} {made low : Nat} (h : Sc w0 wv w sb qb A0 n0 c0 i An cn ns made low) : w.heap.size ≠ qb := by have := h.q; have := h.s; omega
theorem Sc.newd {w0 wv w : World} {sb qb : Nat} {A0 : Option Addr} {n0 c0 i : Nat} {An : Option Addr} {cn : Nat} {ns : List ByteArray} {made low : Nat} {w' : World} {cs : Array Value} {t : TypeId} (h : Sc w0 wv w sb qb A0 n0 c0 i An cn ns made low) (hg : (w.alloc (.cells cs t)).drew.grownBy w' (some qb)) : w'.heap[w.heap.size]? = some (.cells cs t (0, 0)) := Sc.new h () (grown_trans (grown_of_below (bel_drew _) _) hg)
theorem Sc.ald {w0 wv w : World} {sb qb : Nat} {A0 : Option Addr} {n0 c0 i : Nat} {An : Option Addr} {cn : Nat} {ns : List ByteArray} {made low : Nat} (h : Sc w0 wv w sb qb A0 n0 c0 i An cn ns made low) (o : Obj) : Sc w0 wv (w.alloc o).drew sb qb A0 n0 c0 i An cn ns made low := (h.al o).dr
theorem one6 : (1 : Int) ≤ 6 := by decide
theorem six6 : (6 : Int) ≤ 4000000000 := by decide
theorem nl_h {a b : Nat} (h : a ≤ 6000) (h2 : b ≤ 4) : ¬ 9223372036854775807 < a + b := by omega
theorem nl_i {a b c : Nat} (h : a ≤ 6000) (h2 : b ≤ 4) (h3 : c ≤ 6000) : ¬ 9223372036854775807 < a + b + c := by omega
theorem cmp_t (k : Nat) : ∃ t : ByteArray, t.size ≤ 4 ∧ t = cmpT k := ⟨cmpT k, by unfold cmpT; split <;> decide, rfl⟩
theorem cmp_at {k : Nat} {t : ByteArray} (h : (k : Int) < 6) (ht : t = cmpT k) (w : World) (g : Nat) (hg : w.heap[g]? = some (.cells #[.string ⟨#[32, 60, 32]⟩, .string ⟨#[32, 60, 61, 32]⟩, .string ⟨#[32, 62, 32]⟩, .string ⟨#[32, 62, 61, 32]⟩, .string ⟨#[32, 61, 61, 32]⟩, .string ⟨#[32, 33, 61, 32]⟩] 9 (0, 0))) : w.cell? ⟨g, k, none⟩ = some (.string t) := by
  subst ht
  have hc : k = 0 ∨ k = 1 ∨ k = 2 ∨ k = 3 ∨ k = 4 ∨ k = 5 := by omega
  rcases hc with rfl | rfl | rfl | rfl | rfl | rfl
  · exact Lib.cell_of_heap hg 0
  · exact Lib.cell_of_heap hg 1
  · exact Lib.cell_of_heap hg 2
  · exact Lib.cell_of_heap hg 3
  · exact Lib.cell_of_heap hg 4
  · exact Lib.cell_of_heap hg 5
theorem tf_at (k : Nat) (h : (k : Int) < 2) (w : World) (g : Nat) (hg : w.heap[g]? = some (.cells #[.string ⟨#[116, 114, 117, 101]⟩, .string ⟨#[102, 97, 108, 115, 101]⟩] 9 (0, 0))) : ∃ t : ByteArray, w.cell? ⟨g, k, none⟩ = some (.string t) ∧ t = tfT k := by
  have hc : k = 0 ∨ k = 1 := by omega
  rcases hc with rfl | rfl
  · exact ⟨tfT 0, Lib.cell_of_heap hg 0, rfl⟩
  · exact ⟨tfT 1, Lib.cell_of_heap hg 1, rfl⟩

set_option maxRecDepth 100000 in
set_option maxHeartbeats 16000000 in
theorem flag_step (d : Nat) (hd : d ≤ 2) (ih : 1 ≤ d → FlagC (d - 1)) : FlagC d := by
  intro w0 wv w sb qb A0 n0 c0 i An cn ns made low h
  have IH : 1 ≤ d → ∀ {w0 wv w : World} {sb qb : Nat} {A0 : Option Addr} {n0 c0 i : Nat} {An : Option Addr} {cn : Nat} {ns : List ByteArray} {made low : Nat}, Sc w0 wv w sb qb A0 n0 c0 i An cn ns made low → Calls Tryz.prog 169 #[.pointer (some ⟨sb, 0, none⟩), .int .i64 ((d : Int) - 1)] w (FlagR w0 wv sb qb A0 n0 c0 An cn ns made low (d - 1) i) := by
    intro h1 w0 wv w sb qb A0 n0 c0 i An cn ns made low h
    have := ih h1 h
    rw [show ((d - 1 : Nat) : Int) = (d : Int) - 1 by omega] at this
    exact this
  have HIH := Lib.hid IH; have HS := Lib.hid h
  have HN : Hid (∀ {w0 wv w : World} {sb qb : Nat} {A0 : Option Addr} {n0 c0 i : Nat} {An : Option Addr} {cn : Nat} {ns : List ByteArray} {made low : Nat}, Sc w0 wv w sb qb A0 n0 c0 i An cn ns made low → Calls Tryz.prog 72 #[.pointer (some ⟨sb, 0, none⟩), .int .i64 1] w (NumR w0 wv sb qb A0 n0 c0 An cn ns made low 1 i)) := Lib.hid (num_all 1 (by decide))
  clear IH ih
  obtain ⟨c0', c1, c2, c3⟩ := h.c0
  have hl1 := h.l1
  clear h
  go_enter Tryz.func169, Tryz.ntmps169
  go_wp2_with fail
  refine (n_c 6 (by decide) (by decide) HS.out).mono ?_
  rintro e w1 ⟨k, i1, rfl, hk1, HX, hS⟩
  replace HX := Lib.hid HX
  replace HS := Lib.hid hS
  clear hS c0' c1 c2 c3
  by_cases h0 : k = 0 ∧ 1 ≤ d
  · obtain ⟨rfl, hd1⟩ := h0
    have hd1' : (1 : Int) ≤ (d : Int) := by omega
    have hd2' : (0 : Int) < (d : Int) := by omega
    go_wp2_with fail
    refine (HIH.out hd1 HS.out).mono ?_
    rintro e w2 ⟨s2, i2, rfl, hzs2, HAs2, hS⟩
    replace HS := Lib.hid hS
    clear hS
    go_wp2_with fail
    go_ret
    exact flag_ret hd (.not HX.out HAs2.out hd1) HS.out
  by_cases h1 : k = 1 ∧ 1 ≤ d
  · obtain ⟨rfl, hd1⟩ := h1
    have hd1' : (1 : Int) ≤ (d : Int) := by omega
    have hd2' : (0 : Int) < (d : Int) := by omega
    clear h0
    go_wp2_with fail
    refine (HIH.out hd1 HS.out).mono ?_
    rintro e w2 ⟨s2, i2, rfl, hzs2, HAs2, hS⟩
    replace HS := Lib.hid hS
    clear hS
    go_wp2_with fail
    refine (HIH.out hd1 HS.out).mono ?_
    rintro e w3 ⟨s3, i3, rfl, hzs3, HAs3, hS⟩
    replace HS := Lib.hid hS
    clear hS
    go_wp2_with fail
    go_ret
    exact flag_ret hd (.and HX.out (by decide) HAs2.out HAs3.out hd1) HS.out
  by_cases h2 : k = 2 ∧ 1 ≤ d
  · obtain ⟨rfl, hd1⟩ := h2
    have hd1' : (1 : Int) ≤ (d : Int) := by omega
    have hd2' : (0 : Int) < (d : Int) := by omega
    clear h0 h1
    go_wp2_with fail
    refine (HIH.out hd1 HS.out).mono ?_
    rintro e w2 ⟨s2, i2, rfl, hzs2, HAs2, hS⟩
    replace HS := Lib.hid hS
    clear hS
    go_wp2_with fail
    refine (HIH.out hd1 HS.out).mono ?_
    rintro e w3 ⟨s3, i3, rfl, hzs3, HAs3, hS⟩
    replace HS := Lib.hid hS
    clear hS
    go_wp2_with fail
    go_ret
    exact flag_ret hd (.or HX.out (by decide) HAs2.out HAs3.out hd1) HS.out
  have hq : k = 3 ∨ (k = 0 ∧ d = 0) ∨ (k = 1 ∧ d = 0) ∨ (k = 2 ∧ d = 0) ∨ (((k : Int) == 0) = false ∧ ((k : Int) == 1) = false ∧ ((k : Int) == 2) = false ∧ ((k : Int) == 3) = false) := by
    by_cases h3 : k < 4
    · omega
    · exact .inr (.inr (.inr (.inr ⟨beq_eq_false_iff_ne.2 (by omega), beq_eq_false_iff_ne.2 (by omega), beq_eq_false_iff_ne.2 (by omega), beq_eq_false_iff_ne.2 (by omega)⟩)))
  clear h0 h1 h2
  rcases hq with rfl | hq
  · obtain ⟨c0', c1, c2, c3⟩ := HS.out.c0
    have hsz := HS.out.s
    go_wp2_with fail
    have HSa := Lib.hid (HS.out.al (.cells #[.string ⟨#[116, 114, 117, 101]⟩, .string ⟨#[102, 97, 108, 115, 101]⟩] 9))
    refine (n_c 2 (by decide) (by decide) HSa.out.reb).mono ?_
    rintro e w2 ⟨k2, i2, rfl, hk2, HX2, hS⟩
    obtain ⟨t, ht, hT⟩ := tf_at k2 hk2 w2 w1.heap.size (Sc.new HS.out () hS.gr)
    have HT := Lib.hid hT
    replace HX2 := Lib.hid HX2
    replace HS := Lib.hid (HSa.out.tr hS)
    have j0 := nn k2
    clear hS c0' c1 c2 c3 hT
    go_wp2_with fail
    go_ret
    exact flag_ret hd (.tf HX.out (by decide) HX2.out HT.out) HS.out
  · rcases hq with ⟨rfl, rfl⟩ | ⟨rfl, rfl⟩ | ⟨rfl, rfl⟩ | ⟨q0, q1, q2, q3⟩
    all_goals
      obtain ⟨c0', c1, c2, c3⟩ := HS.out.c0
      go_upto_region 10 with (fail)
      have HSd := Lib.hid HS.out.dr
      have q8 := HSd.out.c3
      have q7 := HS.out.c3
      have hsz := HS.out.s
      have HS1 := Lib.hid HS.out
      clear HS c0' c1 c2 c3
      go_region_law (first | (go_simp; first
        | (go_at_call 69; refine (n_c _ one6 six6 HB2.out.1.reb).mono ?_; rintro e w3 ⟨k3, i3, rfl, hk3, HX3, hS8⟩; have q8 := hS8.c3; have y8 := hS8.s; have j0 := nn k3; replace HX3 := Lib.hid HX3; have HB3 := Lib.hid (And.intro (Sc.old HB2.out.1 hS8.gr HB2.out.2) HB2.out.2.2); obtain ⟨t3, hz3, hT3⟩ := cmp_t k3; have ct3 := cmp_at hk3 hT3 w3 _ HB3.out.1; have HT3 := Lib.hid hT3; have HS3 := Lib.hid (HB2.out.1.tr hS8); have f3 := nl_h hz2 hz3; clear hS8 hT3)
        | (go_at_call 69; refine (n_c _ one6 six6 (HS2.out.al _).reb).mono ?_; rintro e w3 ⟨k3, i3, rfl, hk3, HX3, hS8⟩; have q8 := hS8.c3; have y8 := hS8.s; have j0 := nn k3; replace HX3 := Lib.hid HX3; have HB3 := Lib.hid (And.intro (Sc.new HS2.out () hS8.gr) (Sc.ne HS2.out)); obtain ⟨t3, hz3, hT3⟩ := cmp_t k3; have ct3 := cmp_at hk3 hT3 w3 _ HB3.out.1; have HT3 := Lib.hid hT3; have HS3 := Lib.hid ((HS2.out.al _).tr hS8); have f3 := nl_h hz2 hz3; clear hS8 hT3)
        | (go_at_call 69; refine (n_c _ one6 six6 HS2.out).mono ?_; rintro e w3 ⟨k3, i3, rfl, hk3, HX3, hS8⟩; have q8 := hS8.c3; have y8 := hS8.s; have j0 := nn k3; replace HX3 := Lib.hid HX3; obtain ⟨t3, hz3, hT3⟩ := cmp_t k3; have ct3 := cmp_at hk3 hT3 (w3.alloc (.cells #[.string ⟨#[32, 60, 32]⟩, .string ⟨#[32, 60, 61, 32]⟩, .string ⟨#[32, 62, 32]⟩, .string ⟨#[32, 62, 61, 32]⟩, .string ⟨#[32, 61, 61, 32]⟩, .string ⟨#[32, 33, 61, 32]⟩] 9)) _ (heap_alloc_new w3 _); have HT3 := Lib.hid hT3; have HS3 := Lib.hid hS8; have f3 := nl_h hz2 hz3; clear hS8 hT3)
        | (go_at_call 72; refine (HN.out HS3.out.reb).mono ?_; rintro e w4 ⟨s4, i4, rfl, hz4, HA4, hS8⟩; have q8 := hS8.c3; have y8 := hS8.s; have HS4 := Lib.hid (HS3.out.tr hS8); have ct4 := cmp_at hk3 HT3.out w4 _ (Sc.old HS3.out hS8.gr HB3.out); clear hS8; have f4 := nl_i hz2 hz3 hz4)
        | (go_at_call 72; refine (HN.out (HS3.out.al _).reb).mono ?_; rintro e w4 ⟨s4, i4, rfl, hz4, HA4, hS8⟩; have q8 := hS8.c3; have y8 := hS8.s; have HS4 := Lib.hid ((HS3.out.al _).tr hS8); have ct4 := cmp_at hk3 HT3.out w4 _ (Sc.new HS3.out () hS8.gr); clear hS8; have f4 := nl_i hz2 hz3 hz4)
        | (go_at_call 72; refine (HN.out HS3.out).mono ?_; rintro e w4 ⟨s4, i4, rfl, hz4, HA4, hS8⟩; have q8 := hS8.c3; have y8 := hS8.s; have HS4 := Lib.hid hS8; have ct4 := cmp_at hk3 HT3.out (w4.alloc (.cells #[.string ⟨#[32, 60, 32]⟩, .string ⟨#[32, 60, 61, 32]⟩, .string ⟨#[32, 62, 32]⟩, .string ⟨#[32, 62, 61, 32]⟩, .string ⟨#[32, 61, 61, 32]⟩, .string ⟨#[32, 33, 61, 32]⟩] 9)) _ (heap_alloc_new w4 _); clear hS8; have f4 := nl_i hz2 hz3 hz4)
        | (go_at_call 72; refine (HN.out HSd.out).mono ?_; rintro e w2 ⟨s2, i2, rfl, hz2, HA2, hS8⟩; have q8 := hS8.c3; have y8 := hS8.s; have HS2 := Lib.hid hS8; clear hS8)
        | (go_at_call 72; refine (HN.out (HS1.out.ald _).reb).mono ?_; rintro e w2 ⟨s2, i2, rfl, hz2, HA2, hS8⟩; have q8 := hS8.c3; have y8 := hS8.s; have HB2 := Lib.hid (And.intro ((HS1.out.ald _).tr hS8) (And.intro (Sc.newd HS1.out hS8.gr) (Sc.ne HS1.out))); clear hS8)))
      all_goals
        go_wp2_with fail
        go_ret
        exact flag_ret hd (.cmp HX.out HA2.out HX3.out HT3.out HA4.out) (by first | exact HS4.out | exact HS4.out.al _)
end Go.Proofs.YtmngofgminlloaaGreatDoor

namespace Go.Proofs.YtmngofgminlloaaGreatDoor
open Go.RowKit Tw

theorem Stm.pre {N low : Nat} {B : Ms → GL → Ms → Prop} (hB : ∀ s g s', B s g s' → s'.ns = s.ns) {s : Ms} {g : GL} {s' : Ms} (h : Stm N low B s g s') : ∃ l, s'.ns = s.ns ++ l := by
  cases h with
  | ite _ _ ha hb => exact ⟨[], by rw [hB _ _ _ hb, hB _ _ _ ha]; simp⟩
  | loop _ _ hl => exact ⟨[], by rw [hB _ _ _ hl]; simp⟩
  | bind _ _ => exact ⟨_, rfl⟩
  | set _ _ _ _ => exact ⟨[], by simp⟩
  | yield _ _ => exact ⟨[], by simp⟩
  | run _ _ => exact ⟨[], by simp⟩
  | ret _ _ _ => exact ⟨[], by simp⟩
theorem blk_ns {N low : Nat} {d : Nat} {s : Ms} {g : GL} {s' : Ms} (h : Blk N low d s g s') : s'.ns = s.ns := by
  rw [blk_eq] at h
  obtain ⟨j, i1, s2, _, _, rfl⟩ := h
  rfl
theorem StmD.pre {N low d : Nat} {s : Ms} {g : GL} {s' : Ms} (h : StmD N low d s g s') : ∃ l, s'.ns = s.ns ++ l := by
  cases d with
  | zero => exact Stm.pre (fun _ _ _ h => h.elim) h
  | succ d => exact Stm.pre (fun _ _ _ h => blk_ns h) h
theorem Run.pre {N low d j : Nat} {s : Ms} {g : GL} {s' : Ms} (h : Run (StmD N low d) j s g s') : ∃ l, s'.ns = s.ns ++ l := by
  induction h with
  | nil => exact ⟨[], by simp⟩
  | snoc _ h2 ih =>
    obtain ⟨l, hl⟩ := ih
    obtain ⟨l', hl'⟩ := h2.pre
    exact ⟨l ++ l', by rw [hl', hl, List.append_assoc]⟩

theorem mkB_le {d : Nat} (h : d ≤ 3) : mkB d ≤ 777 ∧ mkS d ≤ 259 := by
  have hc : d = 0 ∨ d = 1 ∨ d = 2 ∨ d = 3 := by omega
  rcases hc with rfl | rfl | rfl | rfl <;> decide
theorem szB_le {d : Nat} (h : d ≤ 3) : szB d ≤ 3885000 ∧ szS d ≤ 1295000 := by
  have hc : d = 0 ∨ d = 1 ∨ d = 2 ∨ d = 3 := by omega
  rcases hc with rfl | rfl | rfl | rfl <;> decide

/-- A text of stmt at depth d. -/
def StmtA (N low d : Nat) (s : Ms) (t : ByteArray) (s' : Ms) : Prop := ∃ g : GL, t = g.txt ∧ StmD N low d s g s'
/-- A text of j statements; of a block. -/
def RunA (N low d j : Nat) (s : Ms) (t : ByteArray) (s' : Ms) : Prop := ∃ g : GL, t = g.txt ∧ Run (StmD N low d) j s g s'
def BlkA (N low d : Nat) (s : Ms) (t : ByteArray) (s' : Ms) : Prop := ∃ g : GL, t = g.txt ∧ Blk N low d s g s'
theorem StmtA.bd {N low d : Nat} {s : Ms} {t : ByteArray} {s' : Ms} (h : StmtA N low d s t s') (hd : d ≤ 3) (hl : low ≤ 2) (hn : NsOk s.ns) (hm : s.m ≤ 900000) : s.m ≤ s'.m ∧ s'.m ≤ s.m + mkS d ∧ t.size ≤ 1295000 ∧ NsOk s'.ns ∧ s'.ns.length ≤ s.ns.length + 1 := by
  obtain ⟨g, rfl, hg⟩ := h
  have h1 := mkB_le hd
  have h2 := szB_le hd
  obtain ⟨a1, a2, a3, a4, a5⟩ := StmD.bound hl d _ _ _ hg hn (by omega)
  exact ⟨a1, a2, by omega, a4, a5⟩
theorem BlkA.bd {N low d : Nat} {s : Ms} {t : ByteArray} {s' : Ms} (h : BlkA N low d s t s') (hd : d ≤ 3) (hl : low ≤ 2) (hn : NsOk s.ns) (hm : s.m ≤ 900000) : s.m ≤ s'.m ∧ s'.m ≤ s.m + mkB d ∧ t.size ≤ 3885000 ∧ s'.ns = s.ns := by
  obtain ⟨g, rfl, hg⟩ := h
  have h1 := mkB_le hd
  have h2 := szB_le hd
  obtain ⟨hb, he⟩ := Blk.bound hl d _ _ _ hg
  obtain ⟨a1, a2, a3, a4, a5⟩ := hb hn (by omega)
  exact ⟨a1, a2, by omega, he⟩
theorem RunA.bd {N low d j : Nat} {s : Ms} {t : ByteArray} {s' : Ms} (h : RunA N low d j s t s') (hj : j ≤ 3) (hd : d ≤ 3) (hl : low ≤ 2) (hn : NsOk s.ns) (hm : s.m ≤ 900000) : s.m ≤ s'.m ∧ s'.m ≤ s.m + j * mkS d ∧ t.size ≤ 3885000 ∧ NsOk s'.ns ∧ s'.ns.length ≤ s.ns.length + j ∧ ∃ l, s'.ns = s.ns ++ l := by
  obtain ⟨g, rfl, hg⟩ := h
  have h1 := mkB_le hd
  have h2 := szB_le hd
  have m1 := Nat.mul_le_mul_right (mkS d) hj
  have m2 := Nat.mul_le_mul_right (szS d) hj
  obtain ⟨a1, a2, a3, a4, a5⟩ := hg.bound (StmD.bound hl d) hn (by omega)
  exact ⟨a1, a2, by omega, a4, a5, hg.pre⟩
theorem RunA.nil {N low d : Nat} (s : Ms) : RunA N low d 0 s ⟨#[]⟩ s := ⟨.nil, rfl, .nil⟩
theorem RunA.snoc {N low d j : Nat} {s s1 s2 : Ms} {t u : ByteArray} (h : RunA N low d j s t s1) (h' : StmtA N low d s1 u s2) : RunA N low d (j + 1) s (t ++ u) s2 := by
  obtain ⟨g, rfl, hg⟩ := h
  obtain ⟨x, rfl, hx⟩ := h'
  exact ⟨_, (GL.txt_app g x).symm, .snoc hg hx⟩
theorem RunA.blk {N low d j i1 : Nat} {s s2 : Ms} {t : ByteArray} (hj : Nx N 4 s.i j i1) (h : RunA N low d j ⟨s.ns, s.m, i1⟩ t s2) : BlkA N low d s t ⟨s.ns, s2.m, s2.i⟩ := by
  obtain ⟨g, rfl, hg⟩ := h
  exact ⟨_, rfl, by rw [blk_eq]; exact ⟨j, i1, s2, hj, hg, rfl⟩⟩

section
variable {N low d : Nat} {ns : List ByteArray} {m i i1 i2 i3 k : Nat} {s t u x : ByteArray}
theorem StmtA.mk0 {g : GL} {s' : Ms} {t : ByteArray} (he : t = g.txt) (h : ∀ B, Stm N low B ⟨ns, m, i⟩ g s') : StmtA N low d ⟨ns, m, i⟩ t s' := ⟨g, he, by cases d <;> exact h _⟩
theorem StmtA.set {j : Nat} (h0 : Nx N 8 i 0 i1) (h1 : Nx N ns.length i1 j i2) (hs : ns[j]? = some s) (hx : NumA N ns low 2 i2 x i3) : StmtA N low d ⟨ns, m, i⟩ (s ++ ⟨#[32, 61, 32]⟩ ++ x ++ ⟨#[59, 32]⟩) ⟨ns, m, i3⟩ := by
  obtain ⟨g, rfl, hg⟩ := hx
  exact .mk0 (g := .set s g .nil) (by simp only [GL.txt, app_none]) fun B => .set h0 h1 hs hg
theorem StmtA.yield (h0 : Nx N 8 i k i1) (hk : 0 < k) (hx : NumA N ns low 2 i1 x i2) : StmtA N low d ⟨ns, m, i⟩ (⟨#[121, 105, 101, 108, 100, 32]⟩ ++ x ++ ⟨#[59, 32]⟩) ⟨ns, m, i2⟩ := by
  obtain ⟨hi, rfl⟩ := h0.got hk
  obtain ⟨g, rfl, hg⟩ := hx
  exact .mk0 (g := .yield g .nil) (by simp only [GL.txt, app_none]) fun B => .yield hi hg
theorem StmtA.run (h0 : Nx N 8 i k i1) (hk : 0 < k) (hx : NumA N ns low 2 i1 x i2) : StmtA N low d ⟨ns, m, i⟩ (x ++ ⟨#[59, 32]⟩) ⟨ns, m, i2⟩ := by
  obtain ⟨hi, rfl⟩ := h0.got hk
  obtain ⟨g, rfl, hg⟩ := hx
  exact .mk0 (g := .run g .nil) (by simp only [GL.txt, app_none]) fun B => .run hi hg
theorem StmtA.ret {j : Nat} (h0 : Nx N 8 i k i1) (hk : 0 < k) (h1 : Nx N 8 i1 j i2) (hx : NumA N ns low 1 i2 x i3) : StmtA N low d ⟨ns, m, i⟩ (⟨#[114, 101, 116, 117, 114, 110, 32]⟩ ++ x ++ ⟨#[59, 32]⟩) ⟨ns, m, i3⟩ := by
  obtain ⟨hi, rfl⟩ := h0.got hk
  obtain ⟨g, rfl, hg⟩ := hx
  exact .mk0 (g := .ret g .nil) (by simp only [GL.txt, app_none]) fun B => .ret hi h1 hg
theorem StmtA.ite {c a b : ByteArray} {s1 s2 : Ms} (h0 : Nx N 8 i k i1) (hk : 0 < k) (hd : 1 ≤ d) (hc : FlagA N ns low 2 i1 c i2) (ha : BlkA N low (d - 1) ⟨ns, m, i2⟩ a s1) (hb : BlkA N low (d - 1) s1 b s2) :
    StmtA N low d ⟨ns, m, i⟩ (⟨#[105, 102, 32]⟩ ++ c ++ ⟨#[32, 123, 32]⟩ ++ a ++ ⟨#[125, 32, 101, 108, 115, 101, 32, 123, 32]⟩ ++ b ++ ⟨#[125, 32]⟩) s2 := by
  obtain ⟨hi, rfl⟩ := h0.got hk
  obtain ⟨d, rfl⟩ : ∃ e, d = e + 1 := ⟨d - 1, by omega⟩
  obtain ⟨gc, rfl, hgc⟩ := hc
  obtain ⟨ga, rfl, hga⟩ := ha
  obtain ⟨gb, rfl, hgb⟩ := hb
  exact ⟨.ite gc ga gb .nil, by simp only [GL.txt, app_none], .ite hi hgc hga hgb⟩
theorem StmtA.loop {v z l : ByteArray} {n : Nat} {s2 : Ms} (h0 : Nx N 8 i k i1) (hk : 0 < k) (hd : 1 ≤ d) (h1 : Nx N 4 i1 n i2) (hv : v = iT (m + 1)) (hz : z = numT n) (hl : BlkA N low (d - 1) ⟨ns, m + 1, i2⟩ l s2) :
    StmtA N low d ⟨ns, m, i⟩ (⟨#[108, 101, 116, 32]⟩ ++ v ++ ⟨#[32, 61, 32, 48, 59, 32, 119, 104, 105, 108, 101, 32]⟩ ++ v ++ ⟨#[32, 60, 32]⟩ ++ z ++ ⟨#[32, 123, 32]⟩ ++ l ++ v ++ ⟨#[32, 61, 32]⟩ ++ v ++ ⟨#[32, 43, 32, 49, 59, 32, 125, 32]⟩) s2 := by
  obtain ⟨hi, rfl⟩ := h0.got hk
  obtain ⟨d, rfl⟩ : ∃ e, d = e + 1 := ⟨d - 1, by omega⟩
  obtain ⟨gl, rfl, hgl⟩ := hl
  subst hv hz
  exact ⟨.loop (m + 1) n gl .nil, by simp only [GL.txt, app_none], .loop hi h1 hgl⟩
theorem StmtA.bind {v : ByteArray} (h0 : i < i1 ∧ i1 ≤ N ∨ i = N ∧ i1 = N) (hx : NumA N ns low 2 i1 x i2) (hv : v = vT (m + 1)) : StmtA N low d ⟨ns, m, i⟩ (⟨#[108, 101, 116, 32]⟩ ++ v ++ ⟨#[32, 61, 32]⟩ ++ x ++ ⟨#[59, 32]⟩) ⟨ns ++ [v], m + 1, i2⟩ := by
  obtain ⟨g, rfl, hg⟩ := hx
  subst hv
  exact .mk0 (g := .bind (m + 1) g .nil) (by simp only [GL.txt, app_none]) fun B => .bind h0 hg
theorem Nx.mv {n : Nat} (h : Nx N n i k i1) : i < i1 ∧ i1 ≤ N ∨ i = N ∧ i1 = N := by
  rcases h.2 with h | h <;> omega
theorem Nx.mv2 {n n' k' : Nat} (h : Nx N n i k i1) (h' : Nx N n' i1 k' i2) : i < i2 ∧ i2 ≤ N ∨ i = N ∧ i2 = N := by
  rcases h.2 with h | h <;> rcases h'.2 with h' | h' <;> omega
end
end Go.Proofs.YtmngofgminlloaaGreatDoor

namespace Go.Proofs.YtmngofgminlloaaGreatDoor
open Go.RowKit Tw

/-- The state, where the scripter's own block, its names and new blocks have turned. -/
theorem Sc.turn {w0 wv w : World} {sb qb : Nat} {A0 : Option Addr} {n0 c0 i : Nat} {An : Option Addr} {cn : Nat} {ns : List ByteArray} {made low : Nat} (h : Sc w0 wv w sb qb A0 n0 c0 i An cn ns made low) {W : World} {An' : Option Addr} {cn' : Nat} {ns' : List ByteArray} {made' low' : Nat}
    (hb : W.heap[sb]? = some (.cells #[.pointer (some ⟨qb, 0, none⟩), .slice An' ns'.length cn', .int .i64 made', .int .i64 low'] 144 (0, 0)))
    (hlt : ∀ k, k < sb → W.heap[k]? = w.heap[k]?) (hsz : w.heap.size ≤ W.heap.size) (hos : W.os = w.os) (ht : W.tape = w.tape) (ho : W.output = w.output)
    (hr : GRow strElem W (sb + 1) 9 1 (.slice An' ns'.length cn') ns') (hz : NsOk ns') (hl : ns'.length ≤ 100) (hm : made' ≤ 1000000) (hlow : low' ≤ 2) : Sc w0 W W sb qb A0 n0 c0 i An' cn' ns' made' low' := by
  have hq := h.q; have hs := h.s; have h0 := h.b0
  exact ⟨hb, (hlt qb (by omega)).trans h.qblk, fun j hj => by
    obtain ⟨g, off, v, h1, h2, h3⟩ := h.nums j hj
    exact ⟨g, off, v, h1, h2, (World.cell?_of_block (a := ⟨g, off + j, none⟩) (hlt g (by omega))).trans h3⟩, hr, hz, hl, h.i0, h.n60, hm, hlow, h.b0, hq, Nat.lt_of_lt_of_le hs hsz, h.gl.same hsz (fun g hg => hlt g (by omega)),
    ⟨hos.trans h.bel.os, ht.trans h.bel.tape, ho.trans h.bel.output, Nat.le_trans h.bel.size hsz, fun k hk => (hlt k (by omega)).trans (h.bel.block k hk)⟩, grown_of_below (Below.refl _ _) _⟩
theorem Sc.setM {w0 wv w : World} {sb qb : Nat} {A0 : Option Addr} {n0 c0 i : Nat} {An : Option Addr} {cn : Nat} {ns : List ByteArray} {made low : Nat} (h : Sc w0 wv w sb qb A0 n0 c0 i An cn ns made low) (hm : made + 1 ≤ 1000000) : Sc w0 (w.setCell ⟨sb, 2, none⟩ (.int .i64 ((made : Int) + 1))) (w.setCell ⟨sb, 2, none⟩ (.int .i64 ((made : Int) + 1))) sb qb A0 n0 c0 i An cn ns (made + 1) low := by
  have hg := grown_set w sb 2 (.int .i64 ((made : Int) + 1))
  refine h.turn (by simpa using heap_setCell_same w sb 2 _ _ (.int .i64 ((made : Int) + 1)) h.sblk) (fun k hk => hg.block k (by have := h.s; omega) (by simp; omega)) hg.size hg.os hg.tape hg.output (h.row.kept hg (fun k e => .inl (by cases e; omega))) h.sz h.nl hm h.l1
/-- Fewer names. -/
theorem GRow.take {E : Elem ByteArray} {w : World} {base T : Nat} {A : Option Addr} {c : Nat} {l : List ByteArray} (hE : ∀ a, (E.cells a).length = 1) (h : GRow E w base T 1 (.slice A l.length c) l) {n : Nat} (hn : n ≤ l.length) : GRow E w base T 1 (.slice A (l.take n).length c) (l.take n) := by
  have hlen : (l.take n).length = n := by simp; omega
  have hfl : ∀ l : List ByteArray, (l.flatMap E.cells).length = l.length := by
    intro l; induction l with
    | nil => rfl
    | cons a l ih => simp [ih, hE]; omega
  have hft : ∀ (l : List ByteArray) (n : Nat), (l.take n).flatMap E.cells = (l.flatMap E.cells).take n := by
    intro l; induction l with
    | nil => intro n; simp
    | cons a l ih =>
      intro n
      cases n with
      | zero => simp
      | succ n =>
        obtain ⟨x, hx⟩ : ∃ x, E.cells a = [x] := List.length_eq_one_iff.1 (hE a)
        simp [ih, hx]
  refine ⟨⟨by simp [hfl], ?_⟩, fun a ha => by cases A <;> exact h.2 a (List.mem_of_mem_take ha)⟩
  rw [hlen]
  rcases h.1.2 with ⟨e, e2⟩ | ⟨g, cap, cur, e, hb, hg, h1, h2, h3, h4⟩
  · injection e with e1 e2 e3
    subst e1 e3
    have : n = 0 := by omega
    subst this
    exact .inl ⟨rfl, rfl⟩
  · injection e with e1 e2 e3
    subst e1 e3
    refine .inr ⟨g, c, cur, rfl, hb, hg, by omega, h2, h3, ?_⟩
    rw [hft, ← h4, List.take_take]
    congr 1
    omega
theorem Sc.setN {w0 wv w : World} {sb qb : Nat} {A0 : Option Addr} {n0 c0 i : Nat} {An : Option Addr} {cn : Nat} {ns : List ByteArray} {made low : Nat} (h : Sc w0 wv w sb qb A0 n0 c0 i An cn ns made low) (n : Nat) (l : List ByteArray) (hl : ns.take n = l) (hn : n ≤ ns.length) : Sc w0 (w.setCell ⟨sb, 1, none⟩ (.slice An n cn)) (w.setCell ⟨sb, 1, none⟩ (.slice An n cn)) sb qb A0 n0 c0 i An cn l made low := by
  have hg := grown_set w sb 1 (.slice An n cn)
  subst hl
  have hlen : (ns.take n).length = n := by simp; omega
  have hr := (h.row.take (fun _ => rfl) hn).kept hg (fun k e => .inl (by cases e; omega))
  rw [hlen] at hr
  refine h.turn (by rw [hlen]; simpa using heap_setCell_same w sb 1 _ _ (.slice An n cn) h.sblk) (fun k hk => hg.block k (by have := h.s; omega) (by simp; omega)) hg.size hg.os hg.tape hg.output (by rw [hlen]; exact hr) (fun s hs => h.sz s (List.mem_of_mem_take hs)) (by have := h.nl; omega) h.m1 h.l1
theorem Sc.app {w0 wv w : World} {sb qb : Nat} {A0 : Option Addr} {n0 c0 i : Nat} {An : Option Addr} {cn : Nat} {ns : List ByteArray} {made low : Nat} (h : Sc w0 wv w sb qb A0 n0 c0 i An cn ns made low) {w1 w2 : World} {g cap : Nat} {s : ByteArray} (hw : Below w.heap.size w w1) (own : w2.ownsRow (sb + 1) 9 1 (.slice (some ⟨g, 0, none⟩) (ns.length + 1) cap) (ns.length + 1) (ns.flatMap strElem.cells ++ [.string s]))
    (hg : w1.grownBy w2 (Value.slice An ns.length cn).ownBlock) (hat : (Value.slice An ns.length cn).ownBlock = some g ∨ g = w1.heap.size) (hs : s.size ≤ 22) (hn : ns.length + 1 ≤ 100) :
    Sc w0 (w2.setCell ⟨sb, 1, none⟩ (.slice (some ⟨g, 0, none⟩) (ns.length + 1) cap)) (w2.setCell ⟨sb, 1, none⟩ (.slice (some ⟨g, 0, none⟩) (ns.length + 1) cap)) sb qb A0 n0 c0 i (some ⟨g, 0, none⟩) cap (ns ++ [s]) made low := by
  have hss := h.s
  have hrow := h.row.below hw
  have hown : ∀ k, (Value.slice An ns.length cn).ownBlock = some k → sb < k := fun k e => by have := (hrow.1.lt k e).1; omega
  have hb2 : ∀ k, k ≤ sb → w2.heap[k]? = w.heap[k]? := fun k hk => (hg.block k (by have := hw.size; omega) (fun e => by have := hown k e.symm; omega)).trans (hw.block k (by omega))
  have hset := grown_set w2 sb 1 (.slice (some ⟨g, 0, none⟩) (ns.length + 1) cap)
  have hlen : (ns ++ [s]).length = ns.length + 1 := by simp
  have hr : GRow strElem w2 (sb + 1) 9 1 (.slice (some ⟨g, 0, none⟩) (ns.length + 1) cap) (ns ++ [s]) :=
    hrow.app (a := s) (F := fun _ => False) trivial (fun _ h => h.elim) (by simpa [strElem] using own) hg hat
  have hz1 : w.heap.size ≤ w2.heap.size := Nat.le_trans hw.size hg.size
  refine h.turn (by rw [hlen]; simpa using heap_setCell_same w2 sb 1 _ _ (.slice (some ⟨g, 0, none⟩) (ns.length + 1) cap) ((hb2 sb (Nat.le_refl _)).trans h.sblk)) (fun k hk => (hset.block k (by omega) (by simp; omega)).trans (hb2 k (by omega))) (Nat.le_trans hz1 hset.size)
    (hset.os.trans (hg.os.trans hw.os)) (hset.tape.trans (hg.tape.trans hw.tape)) (hset.output.trans (hg.output.trans hw.output)) (by rw [hlen]; exact hr.kept hset (fun k e => .inl (by cases e; omega))) (fun t ht => by
      rcases List.mem_append.1 ht with h' | h'
      · exact h.sz t h'
      · simp at h'; subst h'; exact hs) (by rw [hlen]; exact hn) h.m1 h.l1
theorem Sc.frz {w0 wv w : World} {sb qb : Nat} {A0 : Option Addr} {n0 c0 i : Nat} {An : Option Addr} {cn : Nat} {ns : List ByteArray} {made low : Nat} (h : Sc w0 wv w sb qb A0 n0 c0 i An cn ns made low) : w.frozen? ⟨sb, 1, none⟩ = false ∧ w.frozen? ⟨sb, 2, none⟩ = false := ⟨Lib.frozen_of_heap h.sblk 1, Lib.frozen_of_heap h.sblk 2⟩
theorem elemNm : ElemOk Tryz.prog 28 9 1 := ⟨Tryz.underlying28, by kernel_rfl, by decide⟩

/-- What stmt(d) answers. -/
def MStmtR (w0 : World) (sb qb : Nat) (A0 : Option Addr) (n0 c0 : Nat) (ns : List ByteArray) (made low d i : Nat) (e : Ending) (w' : World) : Prop :=
  ∃ (t : ByteArray) (ns' : List ByteArray) (m' i' : Nat) (An' : Option Addr) (cn' : Nat), e = .returned (.string t) ∧ t.size ≤ 1295000 ∧ m' ≤ made + mkS d ∧ ns'.length ≤ ns.length + 1 ∧ Hid (StmtA n0 low d ⟨ns, made, i⟩ t ⟨ns', m', i'⟩) ∧ Sc w0 w' w' sb qb A0 n0 c0 i' An' cn' ns' m' low
def MStmtC (d : Nat) : Prop :=
  ∀ {w0 wv w : World} {sb qb : Nat} {A0 : Option Addr} {n0 c0 i : Nat} {An : Option Addr} {cn : Nat} {ns : List ByteArray} {made low : Nat}, Sc w0 wv w sb qb A0 n0 c0 i An cn ns made low → made + mkS d ≤ 900000 → ns.length + 1 + 3 * d ≤ 90 → Calls Tryz.prog 120 #[.pointer (some ⟨sb, 0, none⟩), .int .i64 d] w (MStmtR w0 sb qb A0 n0 c0 ns made low d i)
theorem stmt_ret {w0 wv w' : World} {sb qb : Nat} {A0 : Option Addr} {n0 c0 i : Nat} {ns : List ByteArray} {made low : Nat} {d i' m' : Nat} {t : ByteArray} {ns' : List ByteArray} {An' : Option Addr} {cn' : Nat} (hd : d ≤ 3) (hl : low ≤ 2) (hn : NsOk ns) (hm : made + mkS d ≤ 900000) (hA : StmtA n0 low d ⟨ns, made, i⟩ t ⟨ns', m', i'⟩) (hS : Sc w0 wv w' sb qb A0 n0 c0 i' An' cn' ns' m' low) :
    MStmtR w0 sb qb A0 n0 c0 ns made low d i (.returned (.string t)) w' := by
  obtain ⟨h1, h2, h3, h4, h5⟩ := hA.bd hd hl hn (by simp only; omega)
  exact ⟨t, ns', m', i', An', cn', rfl, h3, h2, h5, Lib.hid hA, hS.reb⟩
/-- What stmts(d) answers. -/
def MStmtsR (w0 : World) (sb qb : Nat) (A0 : Option Addr) (n0 c0 : Nat) (ns : List ByteArray) (made low d i : Nat) (e : Ending) (w' : World) : Prop :=
  ∃ (t : ByteArray) (m' i' : Nat) (An' : Option Addr) (cn' : Nat), e = .returned (.string t) ∧ t.size ≤ 3885000 ∧ m' ≤ made + mkB d ∧ Hid (BlkA n0 low d ⟨ns, made, i⟩ t ⟨ns, m', i'⟩) ∧ Sc w0 w' w' sb qb A0 n0 c0 i' An' cn' ns m' low
def MStmtsC (d : Nat) : Prop :=
  ∀ {w0 wv w : World} {sb qb : Nat} {A0 : Option Addr} {n0 c0 i : Nat} {An : Option Addr} {cn : Nat} {ns : List ByteArray} {made low : Nat}, Sc w0 wv w sb qb A0 n0 c0 i An cn ns made low → made + mkB d ≤ 900000 → ns.length + 3 * (d + 1) ≤ 90 → Calls Tryz.prog 71 #[.pointer (some ⟨sb, 0, none⟩), .int .i64 d] w (MStmtsR w0 sb qb A0 n0 c0 ns made low d i)

theorem nl_j {a : Nat} (h : a ≤ 22) : ¬ 9223372036854775807 < a + 3 := by omega
theorem nl_k {a b : Nat} (h : a ≤ 22) (h2 : b ≤ 6000) : ¬ 9223372036854775807 < a + 3 + b ∧ ¬ 9223372036854775807 < a + 3 + b + 2 := by omega
theorem flag_all : ∀ d : Nat, d ≤ 2 → FlagC d
  | 0, _ => flag_step 0 (by decide) (by omega)
  | d + 1, h => flag_step (d + 1) h (fun _ => flag_all d (by omega))
theorem mkS_eq {d : Nat} (h : 1 ≤ d) : mkS d = 1 + 2 * mkB (d - 1) := by
  obtain ⟨d, rfl⟩ : ∃ e, d = e + 1 := ⟨d - 1, by omega⟩
  rfl
theorem app_sb {w0 wv w : World} {sb qb : Nat} {A0 : Option Addr} {n0 c0 i : Nat} {An : Option Addr} {cn : Nat} {ns : List ByteArray} {made low : Nat} {w2 : World} {o1 : Obj} (h : Sc w0 wv w sb qb A0 n0 c0 i An cn ns made low) (hg : (w.alloc o1).grownBy w2 (Value.slice An ns.length cn).ownBlock) : w2.cell? ⟨sb, 1, none⟩ = some (.slice An ns.length cn) ∧ w2.frozen? ⟨sb, 1, none⟩ = false := by
  have hs := h.s
  have hown : ∀ k, (Value.slice An ns.length cn).ownBlock = some k → sb < k := fun k e => by have := (h.row.1.lt k e).1; omega
  have hb : w2.heap[sb]? = w.heap[sb]? := (hg.block sb (by simp; omega) (fun e => by have := hown sb e.symm; omega)).trans (heap_alloc_old w _ hs)
  exact ⟨(World.cell?_of_block (a := ⟨sb, 1, none⟩) hb).trans h.c0.2.1, (World.frozen?_of_block (a := ⟨sb, 1, none⟩) hb).trans h.frz.1⟩
theorem hidden_c (v : ByteArray) (x : Int) {w0 w : World} {sb qb : Nat} {A0 : Option Addr} {n0 c0 : Nat} {ns : List ByteArray} {made low d i : Nat} (h : Calls Tryz.prog 71 #[.pointer (some ⟨sb, 0, none⟩), .int .i64 x] w (MStmtsR w0 sb qb A0 n0 c0 ns made low d i)) : Calls Tryz.prog 170 #[.pointer (some ⟨sb, 0, none⟩), .string v, .int .i64 x] w (MStmtsR w0 sb qb A0 n0 c0 ns made low d i) := by
  have H := Lib.hid h
  clear h
  go_enter Tryz.func170, Tryz.ntmps170
  go_wp2_with fail
  refine H.out.mono ?_
  rintro e w' ⟨t, m', i', An', cn', rfl, hz, hm, hA, hS⟩
  have HZ := Lib.hid (And.intro hm (And.intro hA hS))
  clear hm hA hS
  go_wp2_with fail
  go_ret
  exact ⟨t, m', i', An', cn', rfl, hz, HZ.out.1, HZ.out.2.1, HZ.out.2.2⟩
set_option maxRecDepth 100000 in
set_option maxHeartbeats 16000000 in
theorem stmt_step (d : Nat) (hd : d ≤ 3) (ih : 1 ≤ d → MStmtsC (d - 1)) : MStmtC d := by
  intro w0 wv w sb qb A0 n0 c0 i An cn ns made low h hm hln
  have IH : 1 ≤ d → ∀ {w0 wv w : World} {sb qb : Nat} {A0 : Option Addr} {n0 c0 i : Nat} {An : Option Addr} {cn : Nat} {ns : List ByteArray} {made low : Nat}, Sc w0 wv w sb qb A0 n0 c0 i An cn ns made low → made + mkB (d - 1) ≤ 900000 → ns.length + 3 * d ≤ 90 → Calls Tryz.prog 71 #[.pointer (some ⟨sb, 0, none⟩), .int .i64 ((d : Int) - 1)] w (MStmtsR w0 sb qb A0 n0 c0 ns made low (d - 1) i) := by
    intro h1 w0 wv w sb qb A0 n0 c0 i An cn ns made low h h2 h3
    have := ih h1 h h2 (by omega)
    rw [show ((d - 1 : Nat) : Int) = (d : Int) - 1 by omega] at this
    exact this
  have HIH := Lib.hid IH; have HS := Lib.hid h
  have HN : Hid (∀ {w0 wv w : World} {sb qb : Nat} {A0 : Option Addr} {n0 c0 i : Nat} {An : Option Addr} {cn : Nat} {ns : List ByteArray} {made low : Nat}, Sc w0 wv w sb qb A0 n0 c0 i An cn ns made low → Calls Tryz.prog 72 #[.pointer (some ⟨sb, 0, none⟩), .int .i64 2] w (NumR w0 wv sb qb A0 n0 c0 An cn ns made low 2 i)) := Lib.hid (num_all 2 (by decide))
  have HN1 : Hid (∀ {w0 wv w : World} {sb qb : Nat} {A0 : Option Addr} {n0 c0 i : Nat} {An : Option Addr} {cn : Nat} {ns : List ByteArray} {made low : Nat}, Sc w0 wv w sb qb A0 n0 c0 i An cn ns made low → Calls Tryz.prog 72 #[.pointer (some ⟨sb, 0, none⟩), .int .i64 1] w (NumR w0 wv sb qb A0 n0 c0 An cn ns made low 1 i)) := Lib.hid (num_all 1 (by decide))
  have HF2 : Hid (∀ {w0 wv w : World} {sb qb : Nat} {A0 : Option Addr} {n0 c0 i : Nat} {An : Option Addr} {cn : Nat} {ns : List ByteArray} {made low : Nat}, Sc w0 wv w sb qb A0 n0 c0 i An cn ns made low → Calls Tryz.prog 169 #[.pointer (some ⟨sb, 0, none⟩), .int .i64 2] w (FlagR w0 wv sb qb A0 n0 c0 An cn ns made low 2 i)) := Lib.hid (flag_all 2 (by decide))
  have HR : Hid (∀ {wv' w' : World} {i' m' : Nat} {t : ByteArray} {ns' : List ByteArray} {An' : Option Addr} {cn' : Nat}, StmtA n0 low d ⟨ns, made, i⟩ t ⟨ns', m', i'⟩ → Sc w0 wv' w' sb qb A0 n0 c0 i' An' cn' ns' m' low → MStmtR w0 sb qb A0 n0 c0 ns made low d i (.returned (.string t)) w') := Lib.hid (fun hA hS => stmt_ret hd hS.l1 h.sz hm hA hS)
  clear IH ih
  obtain ⟨c0', c1, c2, c3⟩ := h.c0
  have hl1 := h.l1
  have HM := Lib.hid hm; have HL := Lib.hid hln
  clear h hm hln
  go_enter Tryz.func120, Tryz.ntmps120
  go_wp2_with fail
  refine (n_c 8 (by decide) (by decide) HS.out).mono ?_
  rintro e w1 ⟨k, i1, rfl, hk1, HX, hS⟩
  replace HX := Lib.hid HX
  replace HS := Lib.hid hS
  clear hS c0' c1 c2 c3
  obtain ⟨c0', c1, c2, c3⟩ := HS.out.c0
  by_cases hv : k = 0 ∧ 0 < ns.length
  · obtain ⟨rfl, hn⟩ := hv
    obtain ⟨g, rfl⟩ := HS.out.arr hn
    have hnn : (0 : Int) < (ns.length : Int) := by omega
    have hnl := HS.out.nl
    have hq1 : (1 : Int) ≤ (ns.length : Int) := by omega
    have hq2 : (ns.length : Int) ≤ 4000000000 := by omega
    have HNs := Lib.hid HS.out.sz
    go_upto_region 3 with (fail)
    have hSd := HS.out.dr
    go_region_law (first | (go_simp; first
      | (go_at_call 69; refine (n_c _ hq1 hq2 hSd).mono ?_; rintro e w8 ⟨k2, i2, rfl, hk21, HX2, hS8⟩; obtain ⟨s8, hs8⟩ := some_at ns k2 hk21; have d8 := hS8.name k2 s8 hs8; have HS8 := Lib.hid hS8; have HN8 := Lib.hid hs8; replace HX2 := Lib.hid HX2; obtain ⟨e0, e1, e2, e3⟩ := hS8.c0; have k20 := nn k2; have z8 := HNs.out s8 (List.mem_of_getElem? hs8); have f8 := nl_j z8; clear hs8 hS8)
      | (go_at_call 72; refine (HN.out HS8.out).mono ?_; rintro e w9 ⟨s9, i9, rfl, hz9, HA9, hS9⟩; have d9 := hS9.name k2 s8 HN8.out; obtain ⟨y0, y1, y2, y3⟩ := hS9.c0; have HS9 := Lib.hid hS9; have f9 := nl_k z8 hz9; clear hS9)))
    all_goals
      go_wp2_with fail
      go_ret
      exact HR.out (.set HX.out HX2.out HN8.out HA9.out) (by first | exact HS9.out | exact HS9.out.dr)
  by_cases hk : k = 1
  · subst hk
    clear hv
    go_wp2_with fail
    refine (HN.out HS.out).mono ?_
    rintro e w2 ⟨s2, i2, rfl, hzs2, HAs2, hS⟩
    replace HS := Lib.hid hS
    clear hS
    go_wp2_with fail
    go_ret
    exact HR.out (.yield HX.out (by decide) HAs2.out) HS.out
  have HV := Lib.hid hv
  clear hv
  by_cases hk2 : k = 2 ∧ 1 ≤ d
  · obtain ⟨rfl, hd1⟩ := hk2
    clear hk HV
    have hd1' : (1 : Int) ≤ (d : Int) := by omega
    have hd2' : (0 : Int) < (d : Int) := by omega
    have hms := mkS_eq hd1
    have HMS := Lib.hid hms
    clear hms
    go_wp2_with fail
    refine (HF2.out HS.out).mono ?_
    rintro e w2 ⟨s2, i2, rfl, hzs2, HAs2, hS⟩
    replace HS := Lib.hid hS
    clear hS
    go_wp2_with fail
    refine (HIH.out hd1 HS.out (by have := HM.out; have := HMS.out; omega) (by have := HL.out; omega)).mono ?_
    rintro e w3 ⟨s3, m3, i3, An3, cn3, rfl, hzs3, hm3, HAs3, hS⟩
    replace HS := Lib.hid hS
    clear hS
    have HM3 := Lib.hid hm3
    clear hm3
    go_wp2_with fail
    refine (HIH.out hd1 HS.out (by have := HM.out; have := HMS.out; have := HM3.out; omega) (by have := HL.out; omega)).mono ?_
    rintro e w4 ⟨s4, m4, i4, An4, cn4, rfl, hzs4, hm4, HAs4, hS⟩
    replace HS := Lib.hid hS
    clear hS hm4
    go_wp2_with fail
    go_ret
    exact HR.out (.ite HX.out (by decide) hd1 HAs2.out HAs3.out HAs4.out) HS.out
  by_cases hk3 : k = 3 ∧ 1 ≤ d
  · obtain ⟨rfl, hd1⟩ := hk3
    clear hk HV hk2
    have hd1' : (1 : Int) ≤ (d : Int) := by omega
    have hd2' : (0 : Int) < (d : Int) := by omega
    have HMS := Lib.hid (mkS_eq hd1)
    have hmm : made ≤ 900000 := by have := HM.out; omega
    have hmm' : (made : Int) ≤ 900000 := by omega
    obtain ⟨q1, q2⟩ := HS.out.frz
    go_upto_region 10 with (fail)
    replace HS := Lib.hid (HS.out.setM (by omega))
    clear c0' c1 c2 c3 q1 q2
    generalize w1.setCell _ _ = w2 at HS ⊢
    obtain ⟨c0', c1, c2, c3⟩ := HS.out.c0
    have c2' : w2.cell? ⟨sb, 2, none⟩ = some (.int .i64 ((made : Int) + 1)) := c2
    clear c2
    go_wp2_with fail
    refine (itoa_s (made + 1) (by omega) HS.out).mono ?_
    rintro e w3 ⟨s3, rfl, HTs3, hzs3, hS⟩
    replace HS := Lib.hid hS
    clear hS c0' c1 c2' c3
    obtain ⟨c0', c1, c2, c3⟩ := HS.out.c0
    go_upto_region 11 with (fail)
    obtain ⟨v3, hv3⟩ : ∃ v : ByteArray, (⟨#[105]⟩ : ByteArray) ++ s3 = v := ⟨_, rfl⟩
    have hzv : v3.size ≤ 22 := by rw [← hv3]; simp only [ByteArray.size_append, sz_mk, List.size_toArray, List.length_cons, List.length_nil]; omega
    have HV3 : Hid (v3 = iT (made + 1)) := Lib.hid (by rw [← hv3, HTs3.out]; rfl)
    simp only [hv3]
    clear hv3
    go_wp2_with fail
    refine (n_c 4 (by decide) (by decide) HS.out).mono ?_
    rintro e w4 ⟨k4, i4, rfl, hk4, HX4, hS⟩
    replace HS := Lib.hid hS
    replace HX4 := Lib.hid HX4
    clear hS
    go_wp2_with fail
    refine (itoa_s k4 (by omega) HS.out).mono ?_
    rintro e w5 ⟨s5, rfl, HTs5, hzs5, hS⟩
    replace HS := Lib.hid hS
    clear hS
    go_wp2_with fail
    refine (hidden_c v3 ((d : Int) - 1) (HIH.out hd1 HS.out (by have := HM.out; have := HMS.out; omega) (by have := HL.out; omega))).mono ?_
    rintro e w6 ⟨s6, m6, i6, An6, cn6, rfl, hzs6, hm6, HAs6, hS⟩
    replace HS := Lib.hid hS
    clear hS hm6
    go_wp2_with fail
    go_ret
    exact HR.out (.loop HX.out (by decide) hd1 HX4.out HV3.out HTs5.out HAs6.out) HS.out
  by_cases hk4 : k = 4
  · subst hk4
    clear hk HV hk2 hk3
    go_wp2_with fail
    refine (HN.out HS.out).mono ?_
    rintro e w2 ⟨s2, i2, rfl, hzs2, HAs2, hS⟩
    replace HS := Lib.hid hS
    clear hS
    go_wp2_with fail
    go_ret
    exact HR.out (.run HX.out (by decide) HAs2.out) HS.out
  by_cases hk5 : k = 5
  · subst hk5
    clear hk HV hk2 hk3 hk4
    go_wp2_with fail
    refine (n_c 8 (by decide) (by decide) HS.out).mono ?_
    rintro e w9 ⟨k9, i9, rfl, hk9, HX9, hS⟩
    replace HS := Lib.hid hS
    replace HX9 := Lib.hid HX9
    clear hS c0' c1 c2 c3
    by_cases h9 : k9 = 0
    · subst h9
      go_wp2_with fail
      refine (HN1.out HS.out).mono ?_
      rintro e w2 ⟨s2, i2, rfl, hzs2, HAs2, hS⟩
      replace HS := Lib.hid hS
      clear hS
      go_wp2_with fail
      go_ret
      exact HR.out (.ret HX.out (by decide) HX9.out HAs2.out) HS.out
    have h9' : ((k9 : Int) == 0) = false := beq_eq_false_iff_ne.2 (by omega)
    skip
    · skip
      replace HS := Lib.hid HS.out.reb
      have hmm : made ≤ 900000 := by have := HM.out; omega
      have hmm' : (made : Int) ≤ 900000 := by omega
      go_wp2_with fail
      refine (HN.out HS.out).mono ?_
      rintro e w2 ⟨s2, i2, rfl, hzs2, HAs2, hS⟩
      replace HS := Lib.hid hS
      clear hS
      obtain ⟨c0', c1, c2, c3⟩ := HS.out.c0
      obtain ⟨q1, q2⟩ := HS.out.frz
      go_upto_region 18 with (fail)
      replace HS := Lib.hid (HS.out.setM (by omega))
      clear c0' c1 c2 c3 q1 q2
      generalize w2.setCell _ _ = w3 at HS ⊢
      obtain ⟨c0', c1, c2, c3⟩ := HS.out.c0
      have c2' : w3.cell? ⟨sb, 2, none⟩ = some (.int .i64 ((made : Int) + 1)) := c2
      clear c2
      go_wp2_with fail
      refine (itoa_s (made + 1) (by omega) HS.out).mono ?_
      rintro e w4 ⟨s4, rfl, HTs4, hzs4, hS⟩
      replace HS := Lib.hid hS
      clear hS c0' c1 c2' c3
      obtain ⟨c0', c1, c2, c3⟩ := HS.out.c0
      go_upto_region 19 with (fail)
      obtain ⟨v4, hv4⟩ : ∃ v : ByteArray, (⟨#[118]⟩ : ByteArray) ++ s4 = v := ⟨_, rfl⟩
      have hzv : v4.size ≤ 22 := by rw [← hv4]; simp only [ByteArray.size_append, sz_mk, List.size_toArray, List.length_cons, List.length_nil]; omega
      have HV4 : Hid (v4 = vT (made + 1)) := Lib.hid (by rw [← hv4, HTs4.out]; rfl)
      simp only [hv4]
      clear hv4
      have hsz := HS.out.s
      have hrow := Lib.hid (HS.out.row.below ((Below.refl _ _).alloc (Nat.le_refl _) (.cells #[.string v4] 9)))
      have HLn : Hid (ns.length + 1 ≤ 100) := Lib.hid (by have := HL.out; omega)
      have hblk := heap_alloc_new w4 (.cells #[.string v4] 9)
      have HB := Lib.hid hblk
      clear hblk
      obtain ⟨q1, q2⟩ := HS.out.frz
      go_wp2_with (at_builtin; go_must (refine wpList_app1 elemNm rfl _ _ rfl (sb + 1) _ ns.length (ns.flatMap strElem.cells) rfl hrow.out.1 w4.heap.size 1 #[.string v4] rfl HB.out rfl (by simp [Value.oneCell']) (by have := HLn.out; omega) (by simp; omega) ?_); intro g cap w5 hown hgr hat hlt; have HW5 := Lib.hid (And.intro hown (And.intro hgr hat)); have qs := app_sb HS.out HW5.out.2.1; clear hown hgr hat)
      go_ret
      exact HR.out (.bind (HX.out.mv2 HX9.out) HAs2.out HV4.out) (HS.out.app ((Below.refl _ _).alloc (Nat.le_refl _) _) HW5.out.1 HW5.out.2.1 HW5.out.2.2 hzv HLn.out)
  have hq : (k = 0 ∧ ns.length = 0) ∨ (k = 2 ∧ d = 0) ∨ (k = 3 ∧ d = 0) ∨ (((k : Int) == 0) = false ∧ ((k : Int) == 1) = false ∧ ((k : Int) == 2) = false ∧ ((k : Int) == 3) = false ∧ ((k : Int) == 4) = false ∧ ((k : Int) == 5) = false) := by
    have hv := HV.out
    by_cases h6 : k < 6
    · omega
    · refine .inr (.inr (.inr ⟨?_, ?_, ?_, ?_, ?_, ?_⟩)) <;> exact beq_eq_false_iff_ne.2 (by omega)
  clear hk HV hk2 hk3 hk4 hk5
  have HQ : Hid (i < i1 ∧ i1 ≤ n0 ∨ i = n0 ∧ i1 = n0) := Lib.hid HX.out.mv
  have hgo : (k = 0 ∧ ns.length = 0) ∨ (k = 2 ∧ d = 0) ∨ (k = 3 ∧ d = 0) ∨ 5 < k := by
    rcases hq with h | h | h | h
    · exact .inl h
    · exact .inr (.inl h)
    · exact .inr (.inr (.inl h))
    · have := h.1
      obtain ⟨a, b, c, d, e, f⟩ := h
      rw [beq_eq_false_iff_ne] at a b c d e f
      omega
  have HGO := Lib.hid hgo
  clear hgo hq
  go_upto_block 0 with (fail)
  go_cut [] (fun W => W = w1)
  case first =>
    rcases HGO.out with ⟨rfl, hn⟩ | ⟨rfl, rfl⟩ | ⟨rfl, rfl⟩ | h5
    · have hn' : (ns.length : Int) ≤ 0 := by omega
      go_wp2_with fail
      go_meet
      case rel => rfl
    · go_wp2_with fail
      go_meet
      case rel => rfl
    · go_wp2_with fail
      go_meet
      case rel => rfl
    · have h5' : (5 : Int) < (k : Int) := by omega
      go_wp2_with fail
      go_meet
      case rel => rfl
  case rest =>
    subst hcut
    skip
    · skip
      replace HS := Lib.hid HS.out.reb
      have hmm : made ≤ 900000 := by have := HM.out; omega
      have hmm' : (made : Int) ≤ 900000 := by omega
      go_wp2_with fail
      refine (HN.out HS.out).mono ?_
      rintro e w2 ⟨s2, i2, rfl, hzs2, HAs2, hS⟩
      replace HS := Lib.hid hS
      clear hS
      obtain ⟨c0', c1, c2, c3⟩ := HS.out.c0
      obtain ⟨q1, q2⟩ := HS.out.frz
      go_upto_region 18 with (fail)
      replace HS := Lib.hid (HS.out.setM (by omega))
      clear c0' c1 c2 c3 q1 q2
      generalize w2.setCell _ _ = w3 at HS ⊢
      obtain ⟨c0', c1, c2, c3⟩ := HS.out.c0
      have c2' : w3.cell? ⟨sb, 2, none⟩ = some (.int .i64 ((made : Int) + 1)) := c2
      clear c2
      go_wp2_with fail
      refine (itoa_s (made + 1) (by omega) HS.out).mono ?_
      rintro e w4 ⟨s4, rfl, HTs4, hzs4, hS⟩
      replace HS := Lib.hid hS
      clear hS c0' c1 c2' c3
      obtain ⟨c0', c1, c2, c3⟩ := HS.out.c0
      go_upto_region 19 with (fail)
      obtain ⟨v4, hv4⟩ : ∃ v : ByteArray, (⟨#[118]⟩ : ByteArray) ++ s4 = v := ⟨_, rfl⟩
      have hzv : v4.size ≤ 22 := by rw [← hv4]; simp only [ByteArray.size_append, sz_mk, List.size_toArray, List.length_cons, List.length_nil]; omega
      have HV4 : Hid (v4 = vT (made + 1)) := Lib.hid (by rw [← hv4, HTs4.out]; rfl)
      simp only [hv4]
      clear hv4
      have hsz := HS.out.s
      have hrow := Lib.hid (HS.out.row.below ((Below.refl _ _).alloc (Nat.le_refl _) (.cells #[.string v4] 9)))
      have HLn : Hid (ns.length + 1 ≤ 100) := Lib.hid (by have := HL.out; omega)
      have hblk := heap_alloc_new w4 (.cells #[.string v4] 9)
      have HB := Lib.hid hblk
      clear hblk
      obtain ⟨q1, q2⟩ := HS.out.frz
      go_wp2_with (at_builtin; go_must (refine wpList_app1 elemNm rfl _ _ rfl (sb + 1) _ ns.length (ns.flatMap strElem.cells) rfl hrow.out.1 w4.heap.size 1 #[.string v4] rfl HB.out rfl (by simp [Value.oneCell']) (by have := HLn.out; omega) (by simp; omega) ?_); intro g cap w5 hown hgr hat hlt; have HW5 := Lib.hid (And.intro hown (And.intro hgr hat)); have qs := app_sb HS.out HW5.out.2.1; clear hown hgr hat)
      go_ret
      exact HR.out (.bind HQ.out HAs2.out HV4.out) (HS.out.app ((Below.refl _ _).alloc (Nat.le_refl _) _) HW5.out.1 HW5.out.2.1 HW5.out.2.2 hzv HLn.out)
end Go.Proofs.YtmngofgminlloaaGreatDoor

namespace Go.Proofs.YtmngofgminlloaaGreatDoor
open Go.RowKit Tw

theorem GRow.cap {E : Elem ByteArray} {w : World} {base T sz : Nat} {A : Option Addr} {c : Nat} {l : List ByteArray} (h : GRow E w base T sz (.slice A l.length c) l) : (l.length : Int) ≤ (c : Int) := by
  rcases h.1.2 with ⟨e, e2⟩ | ⟨g, cap, cur, e, hb, hg, h1, h2, h3, h4⟩
  · omega
  · injection e with e1 e2 e3
    omega
/-- The loop's state behind kk statements. -/
def LoopS (w0 : World) (sb qb : Nat) (A0 : Option Addr) (n0 c0 : Nat) (ns : List ByteArray) (made low d i1 kk : Nat) (t : ByteArray) (W : World) : Prop :=
  ∃ (ns' : List ByteArray) (m' i' : Nat) (An' : Option Addr) (cn' : Nat), RunA n0 low d kk ⟨ns, made, i1⟩ t ⟨ns', m', i'⟩ ∧ Sc w0 W W sb qb A0 n0 c0 i' An' cn' ns' m' low
theorem LoopS.bd {w0 : World} {sb qb : Nat} {A0 : Option Addr} {n0 c0 : Nat} {ns : List ByteArray} {made low d i1 kk : Nat} {t : ByteArray} {W : World} (h : LoopS w0 sb qb A0 n0 c0 ns made low d i1 kk t W) (hk : kk ≤ 3) (hd : d ≤ 3) (hn : NsOk ns) (hm : made + mkB d ≤ 900000) : t.size ≤ 3885000 := by
  obtain ⟨ns', m', i', An', cn', hA, hS⟩ := h
  exact (hA.bd hk hd hS.l1 hn (by simp only; omega)).2.2.1
set_option maxRecDepth 100000 in
set_option maxHeartbeats 16000000 in
theorem stmts_step (d : Nat) (hd : d ≤ 3) (hst : MStmtC d) : MStmtsC d := by
  intro w0 wv w sb qb A0 n0 c0 i An cn ns made low h hm hln
  have HST : Hid (∀ {w0 wv w : World} {sb qb : Nat} {A0 : Option Addr} {n0 c0 i : Nat} {An : Option Addr} {cn : Nat} {ns : List ByteArray} {made low : Nat}, Sc w0 wv w sb qb A0 n0 c0 i An cn ns made low → made + mkS d ≤ 900000 → ns.length + 1 + 3 * d ≤ 90 → Calls Tryz.prog 120 #[.pointer (some ⟨sb, 0, none⟩), .int .i64 d] w (MStmtR w0 sb qb A0 n0 c0 ns made low d i)) := Lib.hid hst
  have HS := Lib.hid h
  obtain ⟨c0', c1, c2, c3⟩ := h.c0
  have hl1 := h.l1
  have HNS := Lib.hid h.sz
  have HM := Lib.hid hm; have HL := Lib.hid hln
  clear h hm hln hst
  go_enter Tryz.func71, Tryz.ntmps71
  go_wp2_with fail
  refine (n_c 4 (by decide) (by decide) HS.out).mono ?_
  rintro e w1 ⟨j, i1, rfl, hj1, HX, hS⟩
  replace HX := Lib.hid HX
  replace HS := Lib.hid hS.reb
  clear hS c0' c1 c2 c3
  go_wp2_with fail
  go_loopw [6, 17] (fun o c wr => ∃ (kk : Nat) (t : ByteArray), o = .string t ∧ c = .int .i64 kk ∧ kk ≤ j ∧ Hid (LoopS w0 sb qb A0 n0 c0 ns made low d i1 kk t wr))
    (fun _ c _ => (4 - intOf c).toNat)
  case atStart => exact ⟨0, ⟨#[]⟩, rfl, rfl, Nat.zero_le _, Lib.hid ⟨ns, made, i1, An, cn, .nil _, HS.out⟩⟩
  case round =>
    obtain ⟨kk, t, rfl, rfl, hkj, HLS⟩ := hrel
    by_cases hlt : kk < j
    · have hlt' : (kk : Int) < (j : Int) := by omega
      have htz := HLS.out.bd (by omega) hd HNS.out HM.out
      obtain ⟨ns', m', i', An', cn', hA, hS⟩ := HLS.out
      have HA := Lib.hid hA
      obtain ⟨b1, b2, b3, b4, b5, b6⟩ := hA.bd (show kk ≤ 3 by omega) hd hS.l1 HNS.out (by have := HM.out; simp only; omega)
      have HB := Lib.hid (And.intro b2 (And.intro b5 b6))
      have HS' := Lib.hid hS
      clear hA hS b1 b2 b3 b4 b5 b6 HLS HS
      go_wp2_with fail
      refine (HST.out HS'.out (by
        have h1 := HB.out.1; have h2 := HM.out; have h3 := mk_eq d
        have h4 : kk * mkS d ≤ 2 * mkS d := Nat.mul_le_mul_right _ (by omega)
        omega) (by have := HB.out.2.1; have := HL.out; omega)).mono ?_
      rintro e w2 ⟨u, ns2, m2, i2, An2, cn2, rfl, huz, hm2, hn2, HA2, hS⟩
      have HS2 := Lib.hid hS
      clear hS hm2 hn2 HS'
      have HLS : Hid (LoopS w0 sb qb A0 n0 c0 ns made low d i1 (kk + 1) (t ++ u) w2) := Lib.hid ⟨ns2, m2, i2, An2, cn2, HA.out.snoc HA2.out, HS2.out⟩
      go_wp2_with fail
      go_roundw
      case rel => exact ⟨kk + 1, t ++ u, rfl, by go_num, hlt, HLS⟩
      case measure => simp [intOf]; omega
    · obtain rfl : kk = j := by omega
      obtain ⟨ns', m', i', An', cn', hA, hS⟩ := HLS.out
      have htz := HLS.out.bd (by omega) hd HNS.out HM.out
      obtain ⟨b1, b2, b3, b4, b5, b6⟩ := hA.bd (show kk ≤ 3 by omega) hd hS.l1 HNS.out (by have := HM.out; simp only; omega)
      obtain ⟨l, hl⟩ := b6
      have hln : ns.length ≤ ns'.length := by simp only at hl; rw [hl]; simp
      have htk : ns'.take ns.length = ns := by simp only at hl; rw [hl]; simp
      have HA := Lib.hid hA
      have HS2 := Lib.hid (hS.setN ns.length ns htk hln)
      obtain ⟨d0, d1, d2, d3⟩ := hS.c0
      obtain ⟨q1, q2⟩ := hS.frz
      have k0 : (ns.length : Int) ≤ (ns'.length : Int) := by omega
      have k1 : (0 : Int) ≤ (ns.length : Int) := by omega
      have hcap := hS.row.cap
      clear hA hS b1 b2 b3 b4 b5 hl htk HLS HS hln
      go_wp2_with fail
      go_ret
      have hb := (RunA.blk (s := ⟨ns, made, i⟩) HX.out HA.out)
      have hbd := hb.bd hd hl1 HNS.out (by have := HM.out; simp only; omega)
      exact ⟨t, m', i', An', cn', rfl, hbd.2.2.1, hbd.2.1, Lib.hid hb, HS2.out⟩
end Go.Proofs.YtmngofgminlloaaGreatDoor
