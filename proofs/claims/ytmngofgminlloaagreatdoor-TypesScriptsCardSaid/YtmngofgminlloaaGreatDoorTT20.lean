/-
  The program's checker of names and types: the look for a variable, for a function.
  The program's checker of names and types: an expression of a type.
  The program's checker of names and types: operators; plain laws of its expressions.
-/
import Derived.Test.YtmngofgminlloaaGreatDoorTT19
import Derived.Outline
import Derived.Deep.DeepCutAuto
set_option linter.all false
namespace Go.Proofs.YtmngofgminlloaaGreatDoor
open Go.RowKit Tw

theorem tl_eq (a s : ByteArray) : (a.toList == s.toList) = decide (a = s) := by
  rw [ByteArray.toList_eq, ByteArray.toList_eq, Bool.eq_iff_iff]
  simp only [beq_iff_eq, decide_eq_true_eq]
  constructor
  · intro h; exact ByteArray.ext (Array.toList_inj.1 h)
  · rintro rfl; rfl
/-- What a function that looks for the name s answers of a variable. -/
def CloV (N : Nat) (p : Addr) (s : ByteArray) (w : World) : Prop :=
  ∀ (q : ByteArray × Int) (W : World), Below w.heap.size w W → Calls Tryz.prog N #[.agg #[.string q.1, .int .i64 q.2], .pointer (some p)] W fun e w' => e = .returned (.bool (decide (q.1 = s))) ∧ Below W.heap.size W w'
set_option maxRecDepth 100000 in
set_option maxHeartbeats 2000000 in
theorem clo_var (p : Nat) (s : ByteArray) (w : World) (hp : p < w.heap.size) (h : w.cell? ⟨p, 2, none⟩ = some (.string s)) : CloV 204 ⟨p, 0, none⟩ s w := by
  intro q W hb
  have hc : W.cell? ⟨p, 2, none⟩ = some (.string s) := (hb.cell (p := ⟨p, 2, none⟩) hp).trans h
  have hz := hb.size
  have hpW : p < W.heap.size := by omega
  have hN := heap_alloc_new W (.cells #[.string q.1, .int .i64 q.2] 201)
  have hb2 := (Below.refl W.heap.size W).alloc (Nat.le_refl _) (.cells #[.string q.1, .int .i64 q.2] 201)
  have HB2 := Lib.hid hb2
  have d0 : (W.alloc (.cells #[.string q.1, .int .i64 q.2] 201)).cell? ⟨W.heap.size, 0, none⟩ = some (.string q.1) := Lib.cell_of_heap hN 0
  have c0 := (hb2.cell (p := ⟨p, 2, none⟩) hpW).trans hc
  have HE := Lib.hid (tl_eq q.1 s)
  clear hb h hp hN hb2 hc hz
  go_enter Tryz.func204, Tryz.ntmps204
  go_upto_region 1 with (fail)
  generalize W.alloc _ = W1 at HB2 d0 c0 ⊢
  go_wp2_with fail
  go_ret
  rw [← HE.out]
  exact ⟨rfl, HB2.out⟩
set_option maxRecDepth 100000 in
set_option maxHeartbeats 2000000 in
theorem clo_set (p : Nat) (s : ByteArray) (w : World) (hp : p < w.heap.size) (h : w.cell? ⟨p, 1, none⟩ = some (.string s)) : CloV 166 ⟨p, 0, none⟩ s w := by
  intro q W hb
  have hc : W.cell? ⟨p, 1, none⟩ = some (.string s) := (hb.cell (p := ⟨p, 1, none⟩) hp).trans h
  have hz := hb.size
  have hpW : p < W.heap.size := by omega
  have hN := heap_alloc_new W (.cells #[.string q.1, .int .i64 q.2] 201)
  have hb2 := (Below.refl W.heap.size W).alloc (Nat.le_refl _) (.cells #[.string q.1, .int .i64 q.2] 201)
  have HB2 := Lib.hid hb2
  have d0 : (W.alloc (.cells #[.string q.1, .int .i64 q.2] 201)).cell? ⟨W.heap.size, 0, none⟩ = some (.string q.1) := Lib.cell_of_heap hN 0
  have c0 := (hb2.cell (p := ⟨p, 1, none⟩) hpW).trans hc
  have HE := Lib.hid (tl_eq q.1 s)
  clear hb h hp hN hb2 hc hz
  go_enter Tryz.func166, Tryz.ntmps166
  go_upto_region 1 with (fail)
  generalize W.alloc _ = W1 at HB2 d0 c0 ⊢
  go_wp2_with fail
  go_ret
  rw [← HE.out]
  exact ⟨rfl, HB2.out⟩
set_option maxRecDepth 100000 in
set_option maxHeartbeats 2000000 in
theorem clo_add (p : Nat) (s : ByteArray) (w : World) (hp : p < w.heap.size) (h : w.cell? ⟨p, 0, none⟩ = some (.string s)) : CloV 114 ⟨p, 0, none⟩ s w := by
  intro q W hb
  have hc : W.cell? ⟨p, 0, none⟩ = some (.string s) := (hb.cell (p := ⟨p, 0, none⟩) hp).trans h
  have hz := hb.size
  have hpW : p < W.heap.size := by omega
  have hN := heap_alloc_new W (.cells #[.string q.1, .int .i64 q.2] 201)
  have hb2 := (Below.refl W.heap.size W).alloc (Nat.le_refl _) (.cells #[.string q.1, .int .i64 q.2] 201)
  have HB2 := Lib.hid hb2
  have d0 : (W.alloc (.cells #[.string q.1, .int .i64 q.2] 201)).cell? ⟨W.heap.size, 0, none⟩ = some (.string q.1) := Lib.cell_of_heap hN 0
  have c0 := (hb2.cell (p := ⟨p, 0, none⟩) hpW).trans hc
  have HE := Lib.hid (tl_eq q.1 s)
  clear hb h hp hN hb2 hc hz
  go_enter Tryz.func114, Tryz.ntmps114
  go_upto_region 1 with (fail)
  generalize W.alloc _ = W1 at HB2 d0 c0 ⊢
  go_wp2_with fail
  go_ret
  rw [← HE.out]
  exact ⟨rfl, HB2.out⟩
/-- The variables that can be seen, where they lie. -/
def VarsAt (w : World) (A : Option Addr) (env : Env) : Prop := ∀ (i : Nat) (q : ByteArray × Int), env.reverse[i]? = some q → ∃ g, A = some ⟨g, 0, none⟩ ∧ g < w.heap.size ∧ w.cell? ⟨g, i * 2, none⟩ = some (.string q.1) ∧ w.cell? ⟨g, i * 2 + 1, none⟩ = some (.int .i64 q.2)
theorem VarsAt.keep {w w' : World} {A : Option Addr} {env : Env} (h : VarsAt w A env) (hb : Below w.heap.size w w') : VarsAt w' A env := fun i q hq => by
  obtain ⟨g, h1, h2, h3, h4⟩ := h i q hq
  exact ⟨g, h1, Nat.lt_of_lt_of_le h2 hb.size, (hb.cell (p := ⟨g, i * 2, none⟩) h2).trans h3, (hb.cell (p := ⟨g, i * 2 + 1, none⟩) h2).trans h4⟩
/-- Where a name stands among the variables: at a place, or nowhere. -/
def IdxV (env : Env) (s : ByteArray) (z : Int) : Prop := (∃ (i : Nat) (t : Int), env.reverse[i]? = some (s, t) ∧ z = i) ∨ ((∀ q ∈ env, q.1 ≠ s) ∧ z = -1)
set_option maxRecDepth 100000 in
set_option maxHeartbeats 4000000 in
theorem idx_var (p : Addr) (s : ByteArray) (A : Option Addr) (c : Nat) (env : Env) (w : World) (hV : VarsAt w A env) (hC : CloV 204 p s w) (hl : env.length ≤ 1000) :
    Calls Tryz.prog 164 #[.slice A env.length c, .func (.func 204) #[] #[.pointer (some p)]] w fun e w' => ∃ z : Int, e = .returned (.int .i64 z) ∧ IdxV env s z ∧ Below w.heap.size w w' := by
  have HV := Lib.hid hV; have HC := Lib.hid hC
  clear hV hC
  go_enter Tryz.func164, Tryz.ntmps164
  go_wp2_with fail
  go_loopw [8] (fun i wr => ∃ j : Nat, j ≤ env.length ∧ i = .int .i64 j ∧ Hid (∀ (m : Nat) (q : ByteArray × Int), m < j → env.reverse[m]? = some q → q.1 ≠ s) ∧ Hid (Below w.heap.size w wr)) (fun i _ => env.length - (intOf i).toNat)
  case atStart => exact ⟨0, Nat.zero_le _, rfl, Lib.hid (fun m q h => absurd h (Nat.not_lt_zero m)), Lib.hid (Below.refl _ _)⟩
  case round =>
    obtain ⟨j, hj, rfl, HN, HB⟩ := hrel
    by_cases hlt : j < env.length
    · obtain ⟨q, hq⟩ : ∃ q, env.reverse[j]? = some q := ⟨_, List.getElem?_eq_getElem (by simpa using hlt)⟩
      obtain ⟨g, rfl, hg, d0, d1⟩ := HV.out j q hq
      have c0 := (HB.out.cell (p := ⟨g, j * 2, none⟩) hg).trans d0
      have c1 := (HB.out.cell (p := ⟨g, j * 2 + 1, none⟩) hg).trans d1
      have HQ := Lib.hid hq
      clear hq d0 d1 hg
      have k0 : (0 : Int) ≤ (j : Int) := by omega
      have k1 : (j : Int) < (env.length : Int) := by omega
      go_wp2_with fail
      refine (HC.out q wr HB.out).mono ?_
      rintro e w8 ⟨rfl, hb8⟩
      have HB8 := Lib.hid (HB.out.trans (hb8.mono HB.out.size))
      clear hb8
      by_cases hs : q.1 = s
      · have hd : decide (q.1 = s) = true := decide_eq_true hs
        rw [hd]
        have HS := Lib.hid hs; clear hs hd
        go_wp2_with fail
        go_ret
        exact ⟨j, rfl, .inl ⟨j, q.2, by rw [HQ.out, ← HS.out], rfl⟩, HB8.out⟩
      · have hd : decide (q.1 = s) = false := decide_eq_false hs
        rw [hd]
        have HS := Lib.hid hs; clear hs hd
        go_wp2_with fail
        go_roundw
        case rel => exact ⟨j + 1, by omega, by go_num, Lib.hid (fun m q' hm hq' => by
          rcases Nat.lt_or_ge m j with h | h
          · exact HN.out m q' h hq'
          · obtain rfl : m = j := by omega
            rw [HQ.out] at hq'
            rw [← Option.some.inj hq']; exact HS.out), HB8⟩
        case measure => simp [intOf]; omega
    · have hje : j = env.length := by omega
      go_wp2_with fail
      go_ret
      exact ⟨-1, rfl, .inr ⟨fun q hq => by
        obtain ⟨m, hm⟩ := List.mem_iff_getElem?.1 (List.mem_reverse.2 hq)
        exact HN.out m q (by have := (List.getElem?_eq_some_iff.1 hm).1; simp at this; omega) hm, rfl⟩, HB.out⟩
set_option maxRecDepth 100000 in
set_option maxHeartbeats 4000000 in
theorem idx_set (p : Addr) (s : ByteArray) (A : Option Addr) (c : Nat) (env : Env) (w : World) (hV : VarsAt w A env) (hC : CloV 166 p s w) (hl : env.length ≤ 1000) :
    Calls Tryz.prog 164 #[.slice A env.length c, .func (.func 166) #[] #[.pointer (some p)]] w fun e w' => ∃ z : Int, e = .returned (.int .i64 z) ∧ IdxV env s z ∧ Below w.heap.size w w' := by
  have HV := Lib.hid hV; have HC := Lib.hid hC
  clear hV hC
  go_enter Tryz.func164, Tryz.ntmps164
  go_wp2_with fail
  go_loopw [8] (fun i wr => ∃ j : Nat, j ≤ env.length ∧ i = .int .i64 j ∧ Hid (∀ (m : Nat) (q : ByteArray × Int), m < j → env.reverse[m]? = some q → q.1 ≠ s) ∧ Hid (Below w.heap.size w wr)) (fun i _ => env.length - (intOf i).toNat)
  case atStart => exact ⟨0, Nat.zero_le _, rfl, Lib.hid (fun m q h => absurd h (Nat.not_lt_zero m)), Lib.hid (Below.refl _ _)⟩
  case round =>
    obtain ⟨j, hj, rfl, HN, HB⟩ := hrel
    by_cases hlt : j < env.length
    · obtain ⟨q, hq⟩ : ∃ q, env.reverse[j]? = some q := ⟨_, List.getElem?_eq_getElem (by simpa using hlt)⟩
      obtain ⟨g, rfl, hg, d0, d1⟩ := HV.out j q hq
      have c0 := (HB.out.cell (p := ⟨g, j * 2, none⟩) hg).trans d0
      have c1 := (HB.out.cell (p := ⟨g, j * 2 + 1, none⟩) hg).trans d1
      have HQ := Lib.hid hq
      clear hq d0 d1 hg
      have k0 : (0 : Int) ≤ (j : Int) := by omega
      have k1 : (j : Int) < (env.length : Int) := by omega
      go_wp2_with fail
      refine (HC.out q wr HB.out).mono ?_
      rintro e w8 ⟨rfl, hb8⟩
      have HB8 := Lib.hid (HB.out.trans (hb8.mono HB.out.size))
      clear hb8
      by_cases hs : q.1 = s
      · have hd : decide (q.1 = s) = true := decide_eq_true hs
        rw [hd]
        have HS := Lib.hid hs; clear hs hd
        go_wp2_with fail
        go_ret
        exact ⟨j, rfl, .inl ⟨j, q.2, by rw [HQ.out, ← HS.out], rfl⟩, HB8.out⟩
      · have hd : decide (q.1 = s) = false := decide_eq_false hs
        rw [hd]
        have HS := Lib.hid hs; clear hs hd
        go_wp2_with fail
        go_roundw
        case rel => exact ⟨j + 1, by omega, by go_num, Lib.hid (fun m q' hm hq' => by
          rcases Nat.lt_or_ge m j with h | h
          · exact HN.out m q' h hq'
          · obtain rfl : m = j := by omega
            rw [HQ.out] at hq'
            rw [← Option.some.inj hq']; exact HS.out), HB8⟩
        case measure => simp [intOf]; omega
    · have hje : j = env.length := by omega
      go_wp2_with fail
      go_ret
      exact ⟨-1, rfl, .inr ⟨fun q hq => by
        obtain ⟨m, hm⟩ := List.mem_iff_getElem?.1 (List.mem_reverse.2 hq)
        exact HN.out m q (by have := (List.getElem?_eq_some_iff.1 hm).1; simp at this; omega) hm, rfl⟩, HB.out⟩
set_option maxRecDepth 100000 in
set_option maxHeartbeats 4000000 in
theorem idx_add (p : Addr) (s : ByteArray) (A : Option Addr) (c : Nat) (env : Env) (w : World) (hV : VarsAt w A env) (hC : CloV 114 p s w) (hl : env.length ≤ 1000) :
    Calls Tryz.prog 164 #[.slice A env.length c, .func (.func 114) #[] #[.pointer (some p)]] w fun e w' => ∃ z : Int, e = .returned (.int .i64 z) ∧ IdxV env s z ∧ Below w.heap.size w w' := by
  have HV := Lib.hid hV; have HC := Lib.hid hC
  clear hV hC
  go_enter Tryz.func164, Tryz.ntmps164
  go_wp2_with fail
  go_loopw [8] (fun i wr => ∃ j : Nat, j ≤ env.length ∧ i = .int .i64 j ∧ Hid (∀ (m : Nat) (q : ByteArray × Int), m < j → env.reverse[m]? = some q → q.1 ≠ s) ∧ Hid (Below w.heap.size w wr)) (fun i _ => env.length - (intOf i).toNat)
  case atStart => exact ⟨0, Nat.zero_le _, rfl, Lib.hid (fun m q h => absurd h (Nat.not_lt_zero m)), Lib.hid (Below.refl _ _)⟩
  case round =>
    obtain ⟨j, hj, rfl, HN, HB⟩ := hrel
    by_cases hlt : j < env.length
    · obtain ⟨q, hq⟩ : ∃ q, env.reverse[j]? = some q := ⟨_, List.getElem?_eq_getElem (by simpa using hlt)⟩
      obtain ⟨g, rfl, hg, d0, d1⟩ := HV.out j q hq
      have c0 := (HB.out.cell (p := ⟨g, j * 2, none⟩) hg).trans d0
      have c1 := (HB.out.cell (p := ⟨g, j * 2 + 1, none⟩) hg).trans d1
      have HQ := Lib.hid hq
      clear hq d0 d1 hg
      have k0 : (0 : Int) ≤ (j : Int) := by omega
      have k1 : (j : Int) < (env.length : Int) := by omega
      go_wp2_with fail
      refine (HC.out q wr HB.out).mono ?_
      rintro e w8 ⟨rfl, hb8⟩
      have HB8 := Lib.hid (HB.out.trans (hb8.mono HB.out.size))
      clear hb8
      by_cases hs : q.1 = s
      · have hd : decide (q.1 = s) = true := decide_eq_true hs
        rw [hd]
        have HS := Lib.hid hs; clear hs hd
        go_wp2_with fail
        go_ret
        exact ⟨j, rfl, .inl ⟨j, q.2, by rw [HQ.out, ← HS.out], rfl⟩, HB8.out⟩
      · have hd : decide (q.1 = s) = false := decide_eq_false hs
        rw [hd]
        have HS := Lib.hid hs; clear hs hd
        go_wp2_with fail
        go_roundw
        case rel => exact ⟨j + 1, by omega, by go_num, Lib.hid (fun m q' hm hq' => by
          rcases Nat.lt_or_ge m j with h | h
          · exact HN.out m q' h hq'
          · obtain rfl : m = j := by omega
            rw [HQ.out] at hq'
            rw [← Option.some.inj hq']; exact HS.out), HB8⟩
        case measure => simp [intOf]; omega
    · have hje : j = env.length := by omega
      go_wp2_with fail
      go_ret
      exact ⟨-1, rfl, .inr ⟨fun q hq => by
        obtain ⟨m, hm⟩ := List.mem_iff_getElem?.1 (List.mem_reverse.2 hq)
        exact HN.out m q (by have := (List.getElem?_eq_some_iff.1 hm).1; simp at this; omega) hm, rfl⟩, HB.out⟩
set_option maxRecDepth 100000 in
set_option maxHeartbeats 4000000 in
theorem has_var (p : Addr) (s : ByteArray) (A : Option Addr) (c : Nat) (env : Env) (hE : EnvOK env) (w : World) (hV : VarsAt w A env) (hC : CloV 114 p s w) (hl : env.length ≤ 1000) :
    Calls Tryz.prog 113 #[.slice A env.length c, .func (.func 114) #[] #[.pointer (some p)]] w fun e w' => e = .returned (.bool (decide (lookE env s ≠ 0))) ∧ Below w.heap.size w w' := by
  have IC := Lib.hid (idx_add p s A c env w hV hC hl)
  have HE := Lib.hid hE
  clear hV hC hE
  go_enter Tryz.func113, Tryz.ntmps113
  go_wp2_with fail
  refine IC.out.mono ?_
  rintro e w8 ⟨z, rfl, hz, hb8⟩
  have HB8 := Lib.hid hb8; have HZ := Lib.hid hz
  clear hb8 hz
  by_cases h0 : 0 ≤ z
  · have HN := Lib.hid h0
    go_wp2_with fail
    go_ret
    refine ⟨?_, HB8.out⟩
    rcases HZ.out with ⟨i, t, h1, h2⟩ | ⟨h1, h2⟩
    · have hm := List.mem_reverse.1 (List.mem_of_getElem? h1)
      have := lookE_some HE.out.1 hm
      have h3 := HE.out.2 _ hm
      simp only at h3
      rw [decide_eq_true (by omega)]
      rfl
    · have := HN.out; omega
  · have h0' : z < 0 := by omega
    have HN := Lib.hid h0'
    clear h0
    go_wp2_with fail
    go_ret
    refine ⟨?_, HB8.out⟩
    rcases HZ.out with ⟨i, t, h1, h2⟩ | ⟨h1, h2⟩
    · have := HN.out; omega
    · subst h2
      rw [lookE_none h1]
      rfl
/-- What a function that looks for the name s answers of a function. -/
def CloF (N : Nat) (p : Addr) (s : ByteArray) (w : World) : Prop :=
  ∀ (f : Fn) (An At Ab : Option Addr) (cn ct cb : Nat) (W : World), Below w.heap.size w W → Calls Tryz.prog N #[.agg #[.string f.name, .slice An f.names.length cn, .slice At f.types.length ct, .int .i64 f.out, .slice Ab f.body.length cb, .int .i64 f.pos], .pointer (some p)] W fun e w' => e = .returned (.bool (decide (f.name = s))) ∧ Below W.heap.size W w'
set_option maxRecDepth 100000 in
set_option maxHeartbeats 2000000 in
theorem clo_call (p : Nat) (s : ByteArray) (w : World) (hp : p < w.heap.size) (h : w.cell? ⟨p, 2, none⟩ = some (.string s)) : CloF 206 ⟨p, 0, none⟩ s w := by
  intro f An At Ab cn ct cb W hb
  have hc : W.cell? ⟨p, 2, none⟩ = some (.string s) := (hb.cell (p := ⟨p, 2, none⟩) hp).trans h
  have hz := hb.size
  have hpW : p < W.heap.size := by omega
  have hN := heap_alloc_new W (.cells #[.string f.name, .slice An f.names.length cn, .slice At f.types.length ct, .int .i64 f.out, .slice Ab f.body.length cb, .int .i64 f.pos] 32)
  have hb2 := (Below.refl W.heap.size W).alloc (Nat.le_refl _) (.cells #[.string f.name, .slice An f.names.length cn, .slice At f.types.length ct, .int .i64 f.out, .slice Ab f.body.length cb, .int .i64 f.pos] 32)
  have HB2 := Lib.hid hb2
  have d0 : (W.alloc (.cells #[.string f.name, .slice An f.names.length cn, .slice At f.types.length ct, .int .i64 f.out, .slice Ab f.body.length cb, .int .i64 f.pos] 32)).cell? ⟨W.heap.size, 0, none⟩ = some (.string f.name) := Lib.cell_of_heap hN 0
  have c0 := (hb2.cell (p := ⟨p, 2, none⟩) hpW).trans hc
  have HE := Lib.hid (tl_eq f.name s)
  clear hb h hp hN hb2 hc hz
  go_enter Tryz.func206, Tryz.ntmps206
  go_upto_region 1 with (fail)
  generalize W.alloc _ = W1 at HB2 d0 c0 ⊢
  go_wp2_with fail
  go_ret
  rw [← HE.out]
  exact ⟨rfl, HB2.out⟩
set_option maxRecDepth 100000 in
set_option maxHeartbeats 2000000 in
theorem clo_dup (p : Nat) (s : ByteArray) (w : World) (hp : p < w.heap.size) (h : w.cell? ⟨p, 0, none⟩ = some (.string s)) : CloF 63 ⟨p, 0, none⟩ s w := by
  intro f An At Ab cn ct cb W hb
  have hc : W.cell? ⟨p, 0, none⟩ = some (.string s) := (hb.cell (p := ⟨p, 0, none⟩) hp).trans h
  have hz := hb.size
  have hpW : p < W.heap.size := by omega
  have hN := heap_alloc_new W (.cells #[.string f.name, .slice An f.names.length cn, .slice At f.types.length ct, .int .i64 f.out, .slice Ab f.body.length cb, .int .i64 f.pos] 32)
  have hb2 := (Below.refl W.heap.size W).alloc (Nat.le_refl _) (.cells #[.string f.name, .slice An f.names.length cn, .slice At f.types.length ct, .int .i64 f.out, .slice Ab f.body.length cb, .int .i64 f.pos] 32)
  have HB2 := Lib.hid hb2
  have d0 : (W.alloc (.cells #[.string f.name, .slice An f.names.length cn, .slice At f.types.length ct, .int .i64 f.out, .slice Ab f.body.length cb, .int .i64 f.pos] 32)).cell? ⟨W.heap.size, 0, none⟩ = some (.string f.name) := Lib.cell_of_heap hN 0
  have c0 := (hb2.cell (p := ⟨p, 0, none⟩) hpW).trans hc
  have HE := Lib.hid (tl_eq f.name s)
  clear hb h hp hN hb2 hc hz
  go_enter Tryz.func63, Tryz.ntmps63
  go_upto_region 1 with (fail)
  generalize W.alloc _ = W1 at HB2 d0 c0 ⊢
  go_wp2_with fail
  go_ret
  rw [← HE.out]
  exact ⟨rfl, HB2.out⟩
/-- Where a name stands first among functions: at a place, or nowhere. -/
def IdxF (us : List Fn) (s : ByteArray) (z : Int) : Prop := (∃ (i : Nat) (f : Fn), us[i]? = some f ∧ findF us s = some f ∧ z = i) ∨ (findF us s = none ∧ z = -1)
theorem findF_first {us : List Fn} {s : ByteArray} {j : Nat} {f : Fn} (hj : us[j]? = some f) (hs : f.name = s) (hn : ∀ (m : Nat) (g : Fn), m < j → us[m]? = some g → g.name ≠ s) : findF us s = some f := by
  unfold findF
  rw [List.find?_eq_some_iff_getElem]
  have hlt := (List.getElem?_eq_some_iff.1 hj).1
  refine ⟨by simp [hs], j, hlt, (List.getElem?_eq_some_iff.1 hj).2, fun m hm => ?_⟩
  have := hn m us[m] hm (List.getElem?_eq_getElem (by omega))
  simpa using this
theorem findF_nowhere {us : List Fn} {s : ByteArray} (hn : ∀ (m : Nat) (g : Fn), us[m]? = some g → g.name ≠ s) : findF us s = none := by
  unfold findF
  rw [List.find?_eq_none]
  intro g hg
  obtain ⟨m, hm⟩ := List.mem_iff_getElem?.1 hg
  simpa using hn m g hm
set_option maxRecDepth 100000 in
set_option maxHeartbeats 4000000 in
theorem idx_fun (p : Addr) (s : ByteArray) (A : Option Addr) (c : Nat) (F : Nat → Prop) (us : List Fn) (w : World) (hU : FnsIn w F (.slice A us.length c) us) (hC : CloF 206 p s w) (hl : us.length ≤ 281474976710656) :
    Calls Tryz.prog 112 #[.slice A us.length c, .func (.func 206) #[] #[.pointer (some p)]] w fun e w' => ∃ z : Int, e = .returned (.int .i64 z) ∧ IdxF us s z ∧ Below w.heap.size w w' := by
  have HV := Lib.hid hU; have HC := Lib.hid hC
  clear hU hC
  go_enter Tryz.func112, Tryz.ntmps112
  go_wp2_with fail
  go_loopw [8] (fun i wr => ∃ j : Nat, j ≤ us.length ∧ i = .int .i64 j ∧ Hid (∀ (m : Nat) (g : Fn), m < j → us[m]? = some g → g.name ≠ s) ∧ Hid (Below w.heap.size w wr)) (fun i _ => us.length - (intOf i).toNat)
  case atStart => exact ⟨0, Nat.zero_le _, rfl, Lib.hid (fun m q h => absurd h (Nat.not_lt_zero m)), Lib.hid (Below.refl _ _)⟩
  case round =>
    obtain ⟨j, hj, rfl, HN, HB⟩ := hrel
    by_cases hlt : j < us.length
    · obtain ⟨f, hq⟩ : ∃ q, us[j]? = some q := ⟨_, List.getElem?_eq_getElem hlt⟩
      obtain ⟨g, off, An, cn, At, ct, Ab, cb, rfl, hg, -, -, -, hc⟩ := HV.out.at j f hq
      have b0 := (HB.out.cell (p := ⟨g, off + j * 6, none⟩) hg).trans (hc 0 _ rfl)
      have b1 := (HB.out.cell (p := ⟨g, off + j * 6 + 1, none⟩) hg).trans (hc 1 _ rfl)
      have b2 := (HB.out.cell (p := ⟨g, off + j * 6 + 2, none⟩) hg).trans (hc 2 _ rfl)
      have b3 := (HB.out.cell (p := ⟨g, off + j * 6 + 3, none⟩) hg).trans (hc 3 _ rfl)
      have b4 := (HB.out.cell (p := ⟨g, off + j * 6 + 4, none⟩) hg).trans (hc 4 _ rfl)
      have b5 := (HB.out.cell (p := ⟨g, off + j * 6 + 5, none⟩) hg).trans (hc 5 _ rfl)
      have HQ := Lib.hid hq
      clear hq hc hg
      have k0 : (0 : Int) ≤ (j : Int) := by omega
      have k1 : (j : Int) < (us.length : Int) := by omega
      go_wp2_with fail
      refine (HC.out f An At Ab cn ct cb wr HB.out).mono ?_
      rintro e w8 ⟨rfl, hb8⟩
      have HB8 := Lib.hid (HB.out.trans (hb8.mono HB.out.size))
      clear hb8 b0 b1 b2 b3 b4 b5
      by_cases hs : f.name = s
      · have hd : decide (f.name = s) = true := decide_eq_true hs
        rw [hd]
        have HS := Lib.hid hs; clear hs hd
        go_wp2_with fail
        go_ret
        exact ⟨j, rfl, .inl ⟨j, f, HQ.out, findF_first HQ.out HS.out HN.out, rfl⟩, HB8.out⟩
      · have hd : decide (f.name = s) = false := decide_eq_false hs
        rw [hd]
        have HS := Lib.hid hs; clear hs hd
        go_wp2_with fail
        go_roundw
        case rel => exact ⟨j + 1, by omega, by go_num, Lib.hid (fun m q' hm hq' => by
          rcases Nat.lt_or_ge m j with h | h
          · exact HN.out m q' h hq'
          · obtain rfl : m = j := by omega
            rw [HQ.out] at hq'
            rw [← Option.some.inj hq']; exact HS.out), HB8⟩
        case measure => simp [intOf]; omega
    · have hje : j = us.length := by omega
      go_wp2_with fail
      go_ret
      exact ⟨-1, rfl, .inr ⟨findF_nowhere (fun m g hm => HN.out m g (by have := (List.getElem?_eq_some_iff.1 hm).1; omega) hm), rfl⟩, HB.out⟩
set_option maxRecDepth 100000 in
set_option maxHeartbeats 4000000 in
theorem idx_dup (p : Addr) (s : ByteArray) (A : Option Addr) (c : Nat) (F : Nat → Prop) (us : List Fn) (w : World) (hU : FnsIn w F (.slice A us.length c) us) (hC : CloF 63 p s w) (hl : us.length ≤ 281474976710656) :
    Calls Tryz.prog 112 #[.slice A us.length c, .func (.func 63) #[] #[.pointer (some p)]] w fun e w' => ∃ z : Int, e = .returned (.int .i64 z) ∧ IdxF us s z ∧ Below w.heap.size w w' := by
  have HV := Lib.hid hU; have HC := Lib.hid hC
  clear hU hC
  go_enter Tryz.func112, Tryz.ntmps112
  go_wp2_with fail
  go_loopw [8] (fun i wr => ∃ j : Nat, j ≤ us.length ∧ i = .int .i64 j ∧ Hid (∀ (m : Nat) (g : Fn), m < j → us[m]? = some g → g.name ≠ s) ∧ Hid (Below w.heap.size w wr)) (fun i _ => us.length - (intOf i).toNat)
  case atStart => exact ⟨0, Nat.zero_le _, rfl, Lib.hid (fun m q h => absurd h (Nat.not_lt_zero m)), Lib.hid (Below.refl _ _)⟩
  case round =>
    obtain ⟨j, hj, rfl, HN, HB⟩ := hrel
    by_cases hlt : j < us.length
    · obtain ⟨f, hq⟩ : ∃ q, us[j]? = some q := ⟨_, List.getElem?_eq_getElem hlt⟩
      obtain ⟨g, off, An, cn, At, ct, Ab, cb, rfl, hg, -, -, -, hc⟩ := HV.out.at j f hq
      have b0 := (HB.out.cell (p := ⟨g, off + j * 6, none⟩) hg).trans (hc 0 _ rfl)
      have b1 := (HB.out.cell (p := ⟨g, off + j * 6 + 1, none⟩) hg).trans (hc 1 _ rfl)
      have b2 := (HB.out.cell (p := ⟨g, off + j * 6 + 2, none⟩) hg).trans (hc 2 _ rfl)
      have b3 := (HB.out.cell (p := ⟨g, off + j * 6 + 3, none⟩) hg).trans (hc 3 _ rfl)
      have b4 := (HB.out.cell (p := ⟨g, off + j * 6 + 4, none⟩) hg).trans (hc 4 _ rfl)
      have b5 := (HB.out.cell (p := ⟨g, off + j * 6 + 5, none⟩) hg).trans (hc 5 _ rfl)
      have HQ := Lib.hid hq
      clear hq hc hg
      have k0 : (0 : Int) ≤ (j : Int) := by omega
      have k1 : (j : Int) < (us.length : Int) := by omega
      go_wp2_with fail
      refine (HC.out f An At Ab cn ct cb wr HB.out).mono ?_
      rintro e w8 ⟨rfl, hb8⟩
      have HB8 := Lib.hid (HB.out.trans (hb8.mono HB.out.size))
      clear hb8 b0 b1 b2 b3 b4 b5
      by_cases hs : f.name = s
      · have hd : decide (f.name = s) = true := decide_eq_true hs
        rw [hd]
        have HS := Lib.hid hs; clear hs hd
        go_wp2_with fail
        go_ret
        exact ⟨j, rfl, .inl ⟨j, f, HQ.out, findF_first HQ.out HS.out HN.out, rfl⟩, HB8.out⟩
      · have hd : decide (f.name = s) = false := decide_eq_false hs
        rw [hd]
        have HS := Lib.hid hs; clear hs hd
        go_wp2_with fail
        go_roundw
        case rel => exact ⟨j + 1, by omega, by go_num, Lib.hid (fun m q' hm hq' => by
          rcases Nat.lt_or_ge m j with h | h
          · exact HN.out m q' h hq'
          · obtain rfl : m = j := by omega
            rw [HQ.out] at hq'
            rw [← Option.some.inj hq']; exact HS.out), HB8⟩
        case measure => simp [intOf]; omega
    · have hje : j = us.length := by omega
      go_wp2_with fail
      go_ret
      exact ⟨-1, rfl, .inr ⟨findF_nowhere (fun m g hm => HN.out m g (by have := (List.getElem?_eq_some_iff.1 hm).1; omega) hm), rfl⟩, HB.out⟩
end Go.Proofs.YtmngofgminlloaaGreatDoor

namespace Go.Proofs.YtmngofgminlloaaGreatDoor
open Go.RowKit Tw

theorem wantT_eq {us : List Fn} {env : Env} {x : Ex} {t : Int} (h : exT us env x = .ok t) : wantT us env x t = .ok () := by unfold wantT; rw [h]; simp
theorem wantT_ne {us : List Fn} {env : Env} {x : Ex} {t u : Int} (h : exT us env x = .ok u) (hn : u ≠ t) : wantT us env x t = .bad x.pos 8 := by unfold wantT; rw [h]; simp [hn]
theorem wantT_bad {us : List Fn} {env : Env} {x : Ex} {t q e : Int} (h : exT us env x = .bad q e) : wantT us env x t = .bad q e := by unfold wantT; rw [h]
set_option maxRecDepth 100000 in
set_option maxHeartbeats 4000000 in
theorem want_x (left : Nat) (ih : ExC left) : WantC left := by
  intro x t B d F w base cb K A c env many us hex hZ hFZ hUL hEL hE hO h hA
  have hb := (Below.refl w.heap.size w).alloc (Nat.le_refl _) (.cells #[.int .i64 x.kind, .int .i64 x.n, .string x.text, .slice B x.args.length d, .int .i64 x.pos] 186)
  have HF := Lib.hid (h.reb.below hb)
  have HC := Lib.hid (ih x B d F _ base cb K A c env many us hex hZ hFZ hUL hEL hE hO (h.reb.below hb).reb (h.args (hb.mono h.bs) hA))
  have HX := Lib.hid (heap_alloc_new w (.cells #[.int .i64 x.kind, .int .i64 x.n, .string x.text, .slice B x.args.length d, .int .i64 x.pos] 186))
  have HB := Lib.hid hb
  have hs0 := lt_of_some HX.out
  clear h hb ih hA hex hZ hFZ hUL hE hO
  obtain ⟨r, hr⟩ : ∃ r, exT us env x = r := ⟨_, rfl⟩
  have HR := Lib.hid hr
  have HC2 : Hid (Calls Tryz.prog 165 #[.pointer (some ⟨cb, 0, none⟩), .agg #[.int .i64 x.kind, .int .i64 x.n, .string x.text, .slice B x.args.length d, .int .i64 x.pos]] (w.alloc (.cells #[.int .i64 x.kind, .int .i64 x.n, .string x.text, .slice B x.args.length d, .int .i64 x.pos] 186)) fun e w' => EndT r (.int .i64 ·) e ∧ Below (w.alloc (.cells #[.int .i64 x.kind, .int .i64 x.n, .string x.text, .slice B x.args.length d, .int .i64 x.pos] 186)).heap.size (w.alloc (.cells #[.int .i64 x.kind, .int .i64 x.n, .string x.text, .slice B x.args.length d, .int .i64 x.pos] 186)) w') := Lib.hid (by rw [← hr]; exact HC.out)
  clear HC hr
  go_enter Tryz.func167, Tryz.ntmps167
  go_upto_region 1 with (fail)
  obtain ⟨⟨z0, z1, z2, z3, z4⟩, -⟩ := facts5 HX.out
  generalize w.alloc _ = w1 at HF HX HB HC2 hs0 z0 z1 z2 z3 z4 ⊢
  generalize w.heap.size = b1 at HX hs0 z0 z1 z2 z3 z4 ⊢
  go_wp2_with fail
  refine HC2.out.mono ?_
  rintro e w2 ⟨he, hb2⟩
  have HB2 := Lib.hid (HB.out.trans (hb2.mono HB.out.size))
  have hX2 := (hb2.block _ hs0).trans HX.out
  clear z0 z1 z2 z3 z4
  obtain ⟨⟨-, -, -, -, z4⟩, -⟩ := facts5 hX2
  clear hX2 hb2
  cases r with
  | bad q er =>
    have he' : e = faultE q er := he
    subst he'
    clear he z4
    unfold faultE
    go_wp2_with fail
    rw [wantT_bad HR.out]
    exact ⟨rfl, rfl, HB2.out⟩
  | ok u =>
    have he' : e = .returned (.int .i64 u) := he
    subst he'
    clear he
    by_cases hu : u = t
    · subst hu
      have e0 : (u != u) = false := by simp
      clear z4
      go_wp2_with fail
      go_end0
      rw [wantT_eq HR.out]
      exact ⟨rfl, HB2.out⟩
    · have e0 : (u != t) = true := by simpa using hu
      have HU := Lib.hid hu
      clear hu
      go_wp2_with fail
      rw [wantT_ne HR.out HU.out]
      exact ⟨rfl, rfl, HB2.out⟩
end Go.Proofs.YtmngofgminlloaaGreatDoor

namespace Go.Proofs.YtmngofgminlloaaGreatDoor
open Go.RowKit Tw

theorem exsF_all' : ∀ (l : List Ex) (left : Nat), exsF l left = 0 → ∀ a ∈ l, exF a left = 0 := by
  intro l
  induction l with
  | nil => intro left _ a ha; cases ha
  | cons b l ih =>
    intro left h a ha
    rw [exsF] at h
    split at h
    · rename_i h0
      rcases List.mem_cons.1 ha with rfl | ha
      · exact h0
      · exact ih left h a ha
    · rename_i h0; exact absurd h h0
theorem exF_args' {k n : Int} {t : ByteArray} {xs : List Ex} {p : Int} {left : Nat} (h : exF (.mk k n t xs p) left = 0) : 1 ≤ left ∧ okEx k n t xs.length = true ∧ ∀ a ∈ xs, exF a (left - 1) = 0 := by
  rw [exF] at h
  unfold headF at h
  by_cases h0 : left = 0
  · rw [if_pos h0] at h; cases h
  rw [if_neg h0] at h
  by_cases h1 : okEx k n t xs.length = false
  · rw [if_pos h1] at h; cases h
  rw [if_neg h1] at h
  split at h
  · rename_i e he; split at he
    · injection he with he; omega
    · cases he
  · exact ⟨by omega, by simpa using h1, exsF_all' _ _ h⟩
section
variable {us : List Fn} {env : Env} {n p : Int} {t : ByteArray} {a b : Ex} {xs : List Ex}
theorem wantsT_1 {w : Int} : wantsT us env [a] [w] = wantT us env a w := by
  simp only [wantsT, wantT, List.headD_cons]; cases exT us env a <;> rfl
theorem wantsT_0 : wantsT us env [a] [] = wantT us env a 1 := by
  simp only [wantsT, wantT]; cases exT us env a <;> rfl
theorem wantsT_2 {w v : Int} : wantsT us env [a, b] [w, v] = (wantT us env a w).bind fun _ => wantT us env b v := by
  simp only [wantsT, wantT, List.headD_cons, List.tail_cons]
  cases exT us env a with
  | bad q e => rfl
  | ok u =>
    by_cases h : u = w
    · subst h; simp only [if_true, TyR.bind]; cases exT us env b <;> rfl
    · simp [h, TyR.bind]
theorem wantsT_20 : wantsT us env [a, b] [] = (wantT us env a 1).bind fun _ => wantT us env b 1 := by
  simp only [wantsT, wantT, List.headD_nil, List.tail_nil]
  cases exT us env a with
  | bad q e => rfl
  | ok u =>
    by_cases h : u = 1
    · subst h; simp only [if_true, TyR.bind]; cases exT us env b <;> rfl
    · simp [h, TyR.bind]
theorem exT_log' (h : lv t.data.toList ≤ 2) : exT us env (.mk 6 n t [a, b] p) = (wantT us env a 2).bind fun _ => (wantT us env b 2).bind fun _ => .ok 2 := by
  rw [exT, if_neg (by decide), if_neg (by decide), if_neg (by decide), if_neg (by decide), if_neg (by decide), if_pos ⟨rfl, h⟩, wantsT_2]
  cases wantT us env a 2 with
  | bad q e => rfl
  | ok u => simp only [TyR.bind]; cases wantT us env b 2 <;> rfl
theorem exT_eq' (h : ¬ lv t.data.toList ≤ 2) (h2 : t = ⟨#[61, 61]⟩ ∨ t = ⟨#[33, 61]⟩) : exT us env (.mk 6 n t [a, b] p) = (exT us env a).bind fun ta => (wantT us env b ta).bind fun _ => .ok 2 := by
  rw [exT, if_neg (by decide), if_neg (by decide), if_neg (by decide), if_neg (by decide), if_neg (by decide), if_neg (fun e => h e.2), if_pos ⟨rfl, h2⟩]
  simp only [headT]
  cases ha : exT us env a with
  | bad q e => rfl
  | ok ta =>
    simp only [TyR.bind, wantsT_2, wantT_eq ha]
    cases wantT us env b ta <;> rfl
theorem exT_num' (h : ¬ lv t.data.toList ≤ 2) (h2 : ¬ (t = ⟨#[61, 61]⟩ ∨ t = ⟨#[33, 61]⟩)) : exT us env (.mk 6 n t [a, b] p) = (wantT us env a 1).bind fun _ => (wantT us env b 1).bind fun _ => .ok (if lv t.data.toList = 3 then 2 else 1) := by
  rw [exT, if_neg (by decide), if_neg (by decide), if_neg (by decide), if_neg (by decide), if_neg (by decide), if_neg (fun e => h e.2), if_neg (fun e => h2 e.2), wantsT_20]
  cases wantT us env a 1 with
  | bad q e => rfl
  | ok u => simp only [TyR.bind]; cases wantT us env b 1 <;> simp
theorem exT_var' : exT us env (.mk 3 n t xs p) = if lookE env t = 0 then .bad p 16 else .ok (lookE env t) := by rw [exT, if_neg (by decide), if_neg (by decide), if_pos rfl]
theorem exT_neg' : exT us env (.mk 4 n t [a] p) = (wantT us env a 1).bind fun _ => .ok 1 := by
  rw [exT]; simp [wantsT_0, TyR.bind]; cases wantT us env a 1 <;> rfl
theorem exT_not' : exT us env (.mk 5 n t [a] p) = (wantT us env a 2).bind fun _ => .ok 2 := by
  rw [exT]; simp [wantsT_1, TyR.bind]; cases wantT us env a 2 <;> rfl
theorem exT_host' : exT us env (.mk 8 n t xs p) = (wantsT us env xs []).bind fun _ => .ok 1 := by
  rw [exT]; simp [TyR.bind]; cases wantsT us env xs [] <;> rfl
theorem exT_call0 (h : findF us t = none) : exT us env (.mk 7 n t xs p) = .bad p 16 := by rw [exT, h]; simp
theorem exT_calll {f : Fn} (h : findF us t = some f) (hl : f.types.length ≠ xs.length) : exT us env (.mk 7 n t xs p) = .bad p 8 := by rw [exT, h]; simp [hl]
theorem exT_call' {f : Fn} (h : findF us t = some f) (hl : f.types.length = xs.length) : exT us env (.mk 7 n t xs p) = (wantsT us env xs f.types).bind fun _ => .ok f.out := by
  rw [exT, h]; simp [TyR.bind, hl]; cases wantsT us env xs f.types <;> rfl
theorem wants_app (l r : List Ex) : ∀ ws : List Int, wantsT us env (l ++ r) ws = (wantsT us env l ws).bind fun _ => wantsT us env r (ws.drop l.length) := by
  induction l with
  | nil => intro ws; simp [wantsT, TyR.bind]
  | cons x l ih =>
    intro ws
    simp only [List.cons_append, wantsT]
    cases exT us env x with
    | bad q e => rfl
    | ok u =>
      simp only
      by_cases h : u = ws.headD 1
      · rw [if_pos h, if_pos h, ih, List.drop_tail]; simp
      · rw [if_neg h, if_neg h]; rfl
theorem wants_next {xs : List Ex} {ws : List Int} {j : Nat} {x : Ex} (hx : xs[j]? = some x) (h : wantsT us env (xs.take j) ws = .ok ()) (hw : wantT us env x ((ws.drop j).headD 1) = .ok ()) : wantsT us env (xs.take (j + 1)) ws = .ok () := by
  have hj := (List.getElem?_eq_some_iff.1 hx).1
  rw [take_snoc_at hx, wants_app, h]
  simp only [TyR.bind, List.length_take, Nat.min_eq_left (Nat.le_of_lt hj)]
  unfold wantT at hw
  rw [wantsT]
  cases hex : exT us env x with
  | bad q e => rw [hex] at hw; cases hw
  | ok u =>
    rw [hex] at hw
    simp only at hw ⊢
    split at hw
    · rename_i h; rw [if_pos h, wantsT]
    · cases hw
theorem wants_hit {xs : List Ex} {ws : List Int} {j : Nat} {x : Ex} {q e : Int} (hx : xs[j]? = some x) (h : wantsT us env (xs.take j) ws = .ok ()) (hw : wantT us env x ((ws.drop j).headD 1) = .bad q e) : wantsT us env xs ws = .bad q e := by
  have hj := (List.getElem?_eq_some_iff.1 hx).1
  have e1 : xs = xs.take j ++ x :: xs.drop (j + 1) := by
    have h1 := List.take_append_drop j xs
    rw [List.drop_eq_getElem_cons hj] at h1
    have : xs[j] = x := (List.getElem?_eq_some_iff.1 hx).2
    rw [this] at h1
    exact h1.symm
  rw [e1, wants_app, h]
  simp only [TyR.bind, List.length_take, Nat.min_eq_left (Nat.le_of_lt hj)]
  unfold wantT at hw
  rw [wantsT]
  cases hex : exT us env x with
  | bad q' e' => rw [hex] at hw; exact hw
  | ok u =>
    rw [hex] at hw
    simp only at hw ⊢
    split at hw
    · cases hw
    · rename_i h; rw [if_neg h]; exact hw
end
/-- How an operator's text is compared. -/
theorem tl_is (t : ByteArray) (l : List UInt8) : (t.toList == l) = decide (t.data.toList = l) := by
  rw [ByteArray.toList_eq, Bool.eq_iff_iff]; simp
end Go.Proofs.YtmngofgminlloaaGreatDoor
