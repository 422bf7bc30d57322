/-
  The reference's checker of names and types: expressions without parts.
  The reference's checker of names and types: expressions with parts.
  The reference's checker of names and types: typ at every expression that is well formed.
  Statements one after the other: what the loops of the two checkers go by. No program in sight.
  What the checkers of types may rely on, in plain Lean: types are 1 or 2, names of variables are apart, operators by their levels. No program in sight.
-/
import Derived.Test.YtmngofgminlloaaGreatDoorTT15
import Derived.Outline
set_option linter.all false
namespace Go.Proofs.YtmngofgminlloaaGreatDoor
open Go.RowKit Tw Go.Maps

set_option maxRecDepth 100000 in
set_option maxHeartbeats 2000000 in
theorem typ_k1 (n : Int) (t : ByteArray) (xs : List Ex) (p : Int) (A : Option Addr) (c : Nat) (F : Nat → Prop) (w0 w : World) (cb b : Nat) (Au : Option Addr) (cu : Nat) (us : List Fn) (out : Int) (many : Nat) (Fl : Flt) (env : Env) (h : FrT w0 w cb b Au cu us out many Fl env F) :
    Calls Tryz.prog 118 #[.pointer (some ⟨cb, 0, none⟩), .agg #[.int .i64 1, .int .i64 n, .string t, .slice A xs.length c, .int .i64 p], .map (some b)] w (TypR w cb (.slice Au us.length cu) out many Fl (exT us env (.mk 1 n t xs p))) := by
  have HF := Lib.hid h
  clear h
  go_enter Tryz.func118, Tryz.ntmps118
  go_wp2_with fail
  go_ret
  have hb := (Below.refl w.heap.size w).alloc (Nat.le_refl _) (.cells #[.int .i64 1, .int .i64 n, .string t, .slice A xs.length c, .int .i64 p] 186)
  refine ⟨1, rfl, fun _ t' ht => ?_, ?_, grown_of_below hb _⟩
  · simp [exT] at ht; exact ht
  · simp only [exT]
    first | rw [if_pos rfl, Flt.on_ok] | rw [if_neg (by decide), if_pos rfl, Flt.on_ok] | (simp [Flt.on_ok])
    exact (HF.out.below hb).sco
set_option maxRecDepth 100000 in
set_option maxHeartbeats 2000000 in
theorem typ_k2 (n : Int) (t : ByteArray) (xs : List Ex) (p : Int) (A : Option Addr) (c : Nat) (F : Nat → Prop) (w0 w : World) (cb b : Nat) (Au : Option Addr) (cu : Nat) (us : List Fn) (out : Int) (many : Nat) (Fl : Flt) (env : Env) (h : FrT w0 w cb b Au cu us out many Fl env F) :
    Calls Tryz.prog 118 #[.pointer (some ⟨cb, 0, none⟩), .agg #[.int .i64 2, .int .i64 n, .string t, .slice A xs.length c, .int .i64 p], .map (some b)] w (TypR w cb (.slice Au us.length cu) out many Fl (exT us env (.mk 2 n t xs p))) := by
  have HF := Lib.hid h
  clear h
  go_enter Tryz.func118, Tryz.ntmps118
  go_wp2_with fail
  go_ret
  have hb := (Below.refl w.heap.size w).alloc (Nat.le_refl _) (.cells #[.int .i64 2, .int .i64 n, .string t, .slice A xs.length c, .int .i64 p] 186)
  refine ⟨2, rfl, fun _ t' ht => ?_, ?_, grown_of_below hb _⟩
  · simp [exT] at ht; exact ht
  · simp only [exT]
    first | rw [if_pos rfl, Flt.on_ok] | rw [if_neg (by decide), if_pos rfl, Flt.on_ok] | (simp [Flt.on_ok])
    exact (HF.out.below hb).sco
set_option maxRecDepth 100000 in
set_option maxHeartbeats 2000000 in
theorem typ_k3 (n : Int) (t : ByteArray) (xs : List Ex) (p : Int) (A : Option Addr) (c : Nat) (F : Nat → Prop) (w0 w : World) (cb b : Nat) (Au : Option Addr) (cu : Nat) (us : List Fn) (out : Int) (many : Nat) (Fl : Flt) (env : Env) (hz : t.size ≤ maxLen) (h : FrT w0 w cb b Au cu us out many Fl env F) :
    Calls Tryz.prog 118 #[.pointer (some ⟨cb, 0, none⟩), .agg #[.int .i64 3, .int .i64 n, .string t, .slice A xs.length c, .int .i64 p], .map (some b)] w (TypR w cb (.slice Au us.length cu) out many Fl (exT us env (.mk 3 n t xs p))) := by
  have hb := (Below.refl w.heap.size w).alloc (Nat.le_refl _) (.cells #[.int .i64 3, .int .i64 n, .string t, .slice A xs.length c, .int .i64 p] 186)
  have HF := Lib.hid (h.reb.below hb)
  have hlk := HF.out.seen.look t hz
  have hx := heap_alloc_new w (.cells #[.int .i64 3, .int .i64 n, .string t, .slice A xs.length c, .int .i64 p] 186)
  have HX := Lib.hid hx
  have HB := Lib.hid hb
  have hs0 := lt_of_some hx
  obtain ⟨⟨z0, z1, z2, z3, z4⟩, -⟩ := facts5 hx
  have hcw : cb ≠ w.heap.size := by have := h.sco.lt; omega
  have HC := Lib.hid hcw
  clear h hb hx hcw
  have e3 : exT us env (.mk 3 n t xs p) = if lookE env t = 0 then .bad p 16 else .ok (lookE env t) := by
    rw [exT, if_neg (by decide), if_neg (by decide), if_pos rfl]
  rw [e3]
  clear e3
  by_cases h0 : lookE env t = 0
  · rw [if_pos h0]
    rw [h0] at hlk
    clear h0
    go_enter Tryz.func118, Tryz.ntmps118
    go_wp2_with fail
    refine (bad_c p 16 (by decide) HF.out.sco).mono ?_
    rintro ee w2 ⟨rfl, hC, hg⟩
    have HF2 := Lib.hid (HF.out.step hC hg)
    have hlk2 := HF2.out.seen.look t hz
    have hx2 : w2.heap[w.heap.size]? = _ := (hg.block _ hs0 (by have := HC.out; simpa using fun e => this e.symm)).trans HX.out
    obtain ⟨⟨y0, y1, y2, y3, y4⟩, -⟩ := facts5 hx2
    have HG := Lib.hid (grown_trans (grown_of_below HB.out (some cb)) hg)
    have HSC := Lib.hid hC
    clear hC hg hx2 hlk z0 z1 z2 z3 z4
    go_wp2_with fail
    go_ret
    exact ⟨_, rfl, (fun _ t' ht => by cases ht), by rw [Flt.on_bad]; exact HSC.out, HG.out⟩
  · rw [if_neg h0]
    obtain ⟨tt, htt⟩ : ∃ tt, lookE env t = tt := ⟨_, rfl⟩
    rw [htt] at h0 hlk ⊢
    have hq : (tt == 0) = false := beq_eq_false_iff_ne.2 h0
    clear htt h0
    go_enter Tryz.func118, Tryz.ntmps118
    go_wp2_with fail
    go_ret
    exact ⟨tt, rfl, (fun _ t' ht => by injection ht), by rw [Flt.on_ok]; exact HF.out.sco, grown_of_below HB.out _⟩
end Go.Proofs.YtmngofgminlloaaGreatDoor

namespace Go.Proofs.YtmngofgminlloaaGreatDoor
open Go.RowKit Tw Go.Maps

theorem exsF_all : ∀ (l : List Ex) (left : Nat), exsF l left = 0 → ∀ a ∈ l, exF a left = 0 := by
  intro l
  induction l with
  | nil => intro left _ a ha; cases ha
  | cons b l ih =>
    intro left h a ha
    rw [exsF] at h
    split at h
    · rename_i h0
      rcases List.mem_cons.1 ha with rfl | ha
      · exact h0
      · exact ih left h a ha
    · rename_i h0; exact absurd h h0
theorem exF_args {k n : Int} {t : ByteArray} {xs : List Ex} {p : Int} {left : Nat} (h : exF (.mk k n t xs p) left = 0) : 1 ≤ left ∧ okEx k n t xs.length = true ∧ ∀ a ∈ xs, exF a (left - 1) = 0 := by
  rw [exF] at h
  unfold headF at h
  by_cases h0 : left = 0
  · rw [if_pos h0] at h; cases h
  rw [if_neg h0] at h
  by_cases h1 : okEx k n t xs.length = false
  · rw [if_pos h1] at h; cases h
  rw [if_neg h1] at h
  split at h
  · rename_i e he; split at he
    · injection he with he; omega
    · cases he
  · exact ⟨by omega, by simpa using h1, exsF_all _ _ h⟩
theorem FrT.args' {w0 w w1 : World} {cb b : Nat} {Au : Option Addr} {cu : Nat} {us : List Fn} {out : Int} {many : Nat} {Fl : Flt} {env : Env} {F : Nat → Prop} {v : Value} {l : List Ex} (h : FrT w0 w cb b Au cu us out many Fl env F) (hg : w1.grownBy w (some cb)) (ha : ArgsIn w1 F v l) : ArgsIn w F v l :=
  ha.keep (fun g h1 h2 => ⟨h1, Nat.lt_of_lt_of_le h2 hg.size, hg.block g h2 (by have := h.fc g h1; simpa using this)⟩)
theorem tl_iff (t : ByteArray) (l : List UInt8) : (t.toList == l) = decide (t = ⟨l.toArray⟩) := by
  rw [ByteArray.toList_eq, Bool.eq_iff_iff]
  simp only [beq_iff_eq, decide_eq_true_eq]
  constructor
  · intro h; cases t with | mk d => congr 1; exact Array.toList_inj.1 h
  · intro h; rw [h]
theorem head_at {us : List Fn} {env : Env} {xs : List Ex} {a : Ex} (h : xs[0]? = some a) : headT us env xs = exT us env a := by
  cases xs with
  | nil => cases h
  | cons b l => injection h with h; subst h; rfl
theorem find_at {us : List Fn} {t : ByteArray} {j : Nat} {f : Fn} (hap : Apart us) (hj : us[j]? = some f) (ht : f.name = t) : findF us t = some f := by
  unfold findF
  cases h : us.find? (fun f => decide (f.name = t)) with
  | none =>
    have := List.find?_eq_none.1 h f (List.mem_of_getElem? hj)
    simp [ht] at this
  | some g =>
    have h1 := List.find?_some h
    simp at h1
    obtain ⟨i, hi⟩ := List.mem_iff_getElem?.1 (List.mem_of_find?_eq_some h)
    have : i = j := hap i j g f hi hj (h1.trans ht.symm)
    subst this
    rw [hi] at hj
    exact hj
theorem ints2 (w : World) (cb : Nat) (a b : Int) (hc : w.heap.size ≠ cb) : IntsIn (w.alloc (.cells #[.int .i64 a, .int .i64 b] 3)) (fun g => g ≠ cb) (.slice (some ⟨w.heap.size, 0, none⟩) 2 2) [a, b] := by
  have hn := heap_alloc_new w (.cells #[.int .i64 a, .int .i64 b] 3)
  refine .inr ⟨w.heap.size, 0, 2, rfl, hc, lt_of_some hn, fun q s hs => ?_⟩
  have hq : q < 2 := (List.getElem?_eq_some_iff.1 hs).1
  have hc : q = 0 ∨ q = 1 := by omega
  rcases hc with rfl | rfl
  · injection hs with hs; subst hs; exact Lib.cell_of_heap hn 0
  · injection hs with hs; subst hs; exact Lib.cell_of_heap hn 1
def TyR.to {α β : Type} (r : TyR α) (b : β) : TyR β := match r with | .ok _ => .ok b | .bad q e => .bad q e
theorem Flt.on_map' {α β : Type} (F : Flt) (r : TyR α) (b : β) : F.on (r.to b) = F.on r := by cases F <;> cases r <;> rfl
theorem two_eq {Fl : Flt} {r : TyR Int} {ta : Int} (W : Int → TyR Unit) (hT : Fl = none → ∀ t', r = .ok t' → ta = t') : Fl.on (match r with | .ok t => (W t).to (2 : Int) | .bad q e => .bad q e) = (Fl.on r).on (W ta) := by
  cases Fl with
  | some q => cases r <;> cases W ta <;> simp [Flt.on]
  | none =>
    cases r with
    | bad q e => cases W ta <;> simp [Flt.on]
    | ok t =>
      have := hT rfl t rfl
      subst this
      simp only [Flt.on]
      cases W ta <;> rfl
theorem two_ok {r : TyR Int} {W : Int → TyR Unit} {t' : Int} (h : (match r with | .ok t => (W t).to (2 : Int) | .bad q e => .bad q e) = .ok t') : 2 = t' := by
  cases r with
  | bad q e => cases h
  | ok t => simp only at h; revert h; cases W t <;> intro h <;> cases h; rfl
theorem map_ok {α β : Type} {r : TyR α} {b t : β} (h : r.to b = .ok t) : b = t := by cases r <;> cases h; rfl
section
variable {us : List Fn} {env : Env} {n : Int} {t : ByteArray} {xs : List Ex} {p : Int}
theorem exT_4 : exT us env (.mk 4 n t xs p) = (wantsT us env xs []).to 1 := by rw [exT]; simp only [TyR.to]; cases wantsT us env xs [] <;> simp
theorem exT_5 : exT us env (.mk 5 n t xs p) = (wantsT us env xs [2]).to 2 := by rw [exT]; simp only [TyR.to]; cases wantsT us env xs [2] <;> simp
theorem exT_8 : exT us env (.mk 8 n t xs p) = (wantsT us env xs []).to 1 := by rw [exT]; simp only [TyR.to]; cases wantsT us env xs [] <;> simp
theorem exT_7n (h : findF us t = none) : exT us env (.mk 7 n t xs p) = .bad p 16 := by rw [exT, h]; simp
theorem exT_7l {f : Fn} (h : findF us t = some f) (hl : f.types.length ≠ xs.length) : exT us env (.mk 7 n t xs p) = .bad p 8 := by rw [exT, h]; simp [hl]
theorem exT_7 {f : Fn} (h : findF us t = some f) (hl : f.types.length = xs.length) : exT us env (.mk 7 n t xs p) = (wantsT us env xs f.types).to f.out := by rw [exT, h]; simp only [TyR.to, hl]; cases wantsT us env xs f.types <;> simp
theorem exT_6a (h : lv t.data.toList ≤ 2) : exT us env (.mk 6 n t xs p) = (wantsT us env xs [2, 2]).to 2 := by rw [exT]; simp only [TyR.to]; cases wantsT us env xs [2, 2] <;> simp [h]
theorem exT_6b (h : ¬ lv t.data.toList ≤ 2) (h2 : t = ⟨#[61, 61]⟩ ∨ t = ⟨#[33, 61]⟩) : exT us env (.mk 6 n t xs p) = match headT us env xs with | .ok ta => (wantsT us env xs [ta, ta]).to 2 | .bad q e => .bad q e := by
  rw [exT]
  simp only [TyR.to]
  rw [if_neg (by decide), if_neg (by decide), if_neg (by decide), if_neg (by decide), if_neg (by decide), if_neg (fun e => h e.2), if_pos (⟨trivial, h2⟩ : True ∧ _)]
  cases headT us env xs with
  | ok ta => simp only; cases wantsT us env xs [ta, ta] <;> rfl
  | bad q e => rfl
theorem exT_6c (h : ¬ lv t.data.toList ≤ 2) (h2 : ¬ (t = ⟨#[61, 61]⟩ ∨ t = ⟨#[33, 61]⟩)) : exT us env (.mk 6 n t xs p) = (wantsT us env xs []).to (if lv t.data.toList = 3 then 2 else 1) := by
  rw [exT]
  simp only [TyR.to]
  rw [if_neg (by decide), if_neg (by decide), if_neg (by decide), if_neg (by decide), if_neg (by decide), if_neg (fun e => h e.2), if_neg (fun e => h2 e.2)]
  cases wantsT us env xs [] <;> simp
end
theorem headD_at {ws : List Int} {j : Nat} {s : Int} (h : ws[j]? = some s) : (ws.drop j).headD 1 = s := by
  rw [List.headD_eq_head?_getD, List.head?_drop, h]; rfl
theorem headD_out {ws : List Int} {j : Nat} (h : ws.length ≤ j) : (ws.drop j).headD 1 = 1 := by
  rw [List.drop_of_length_le h]; rfl
theorem kept_cell {w w' : World} {cb g o : Nat} {v : Value} (hg : w.grownBy w' (some cb)) (hgs : g < w.heap.size) (hne : g ≠ cb) (hc : w.cell? ⟨g, o, none⟩ = some v) : w'.cell? ⟨g, o, none⟩ = some v :=
  (World.cell?_of_block (a := ⟨g, o, none⟩) (hg.block g hgs (by simpa using hne))).trans hc
set_option maxRecDepth 100000 in
set_option maxHeartbeats 16000000 in
theorem typ_kl (left : Nat) (h1 : 1 ≤ left) (ih : TypC (left - 1)) (k : Int) (hk : k = 4 ∨ k = 5 ∨ k = 6 ∨ k = 7 ∨ k = 8) (n : Int) (t : ByteArray) (xs : List Ex) (p : Int) (A : Option Addr) (c : Nat) (F : Nat → Prop) (w0 w : World) (cb b : Nat) (Au : Option Addr) (cu : Nat) (us : List Fn) (out : Int) (many : Nat) (Fl : Flt) (env : Env) (hex : exF (.mk k n t xs p) left = 0) (hZ : ExZ (.mk k n t xs p)) (hFZ : ∀ f ∈ us, FnZ f) (hUL : us.length ≤ 281474976710656) (hap : Apart us) (h : FrT w0 w cb b Au cu us out many Fl env F) (hA : ArgsIn w F (.slice A xs.length c) xs) :
    Calls Tryz.prog 118 #[.pointer (some ⟨cb, 0, none⟩), .agg #[.int .i64 k, .int .i64 n, .string t, .slice A xs.length c, .int .i64 p], .map (some b)] w (TypR w cb (.slice Au us.length cu) out many Fl (exT us env (.mk k n t xs p))) := by
  have hb := (Below.refl w.heap.size w).alloc (Nat.le_refl _) (.cells #[.int .i64 k, .int .i64 n, .string t, .slice A xs.length c, .int .i64 p] 186)
  have HF := Lib.hid (h.reb.below hb)
  have HA := Lib.hid (h.args (grown_of_below hb (some cb)) hA)
  have hx := heap_alloc_new w (.cells #[.int .i64 k, .int .i64 n, .string t, .slice A xs.length c, .int .i64 p] 186)
  have HX := Lib.hid hx
  have HB := Lib.hid hb
  have hs0 := lt_of_some hx
  obtain ⟨⟨z0, z1, z2, z3, z4⟩, -⟩ := facts5 hx
  have hcw : cb ≠ w.heap.size := by have := h.sco.lt; omega
  have HC := Lib.hid hcw
  have IH := Lib.hid ih
  have HZ := Lib.hid hZ
  have HFZ := Lib.hid hFZ
  have HAP := Lib.hid hap
  have HUL := Lib.hid hUL
  obtain ⟨-, hok, hargs⟩ := exF_args hex
  have HEX := Lib.hid hargs
  have HOK := Lib.hid hok
  have hzt : t.size ≤ maxLen := hZ.args.1
  have hxl : xs.length ≤ 281474976710656 := hZ.args.2.1
  clear h hb hx hcw ih hZ hFZ hUL hap hex hok hargs hA
  have m1 : ((k == 1) = false) := beq_eq_false_iff_ne.2 (by omega)
  have m2 : ((k == 2) = false) := beq_eq_false_iff_ne.2 (by omega)
  have m3 : ((k == 3) = false) := beq_eq_false_iff_ne.2 (by omega)
  generalize hw1 : w.alloc (.cells #[.int .i64 k, .int .i64 n, .string t, .slice A xs.length c, .int .i64 p] 186) = w1 at HF HA HX HB hs0 z0 z1 z2 z3 z4
  have HW1 := Lib.hid hw1
  clear hw1
  go_enter Tryz.func118, Tryz.ntmps118
  go_upto_region 1 with (fail)
  rw [HW1.out]
  go_upto_block 1 with (fail)
  go_cut [7, 8] (fun wv ov W => ∃ (ws : List Int) (Aw : Option Addr) (cw : Nat) (oo : Int) (Fl' : Flt), wv = .slice Aw ws.length cw ∧ ov = .int .i64 oo ∧ Hid (FrT w W cb b Au cu us out many Fl' env F) ∧ Hid (W.heap[w.heap.size]? = some (.cells #[.int .i64 k, .int .i64 n, .string t, .slice A xs.length c, .int .i64 p] 186 (0, 0))) ∧
    Hid (IntsIn W (fun g => g ≠ cb) (.slice Aw ws.length cw) ws) ∧ Hid (w1.grownBy W (some cb)) ∧ Hid (Fl.on (exT us env (.mk k n t xs p)) = Fl'.on (wantsT us env xs ws)) ∧ Hid (Fl = none → ∀ t', exT us env (.mk k n t xs p) = .ok t' → oo = t'))
  case first =>
    rcases hk with rfl | rfl | rfl | rfl | rfl
    · go_wp2_with fail
      go_meet
      case rel =>
        rw [exT_4]
        exact ⟨[], none, 0, 1, Fl, rfl, rfl, HF, HX, Lib.hid (.inl ⟨none, 0, rfl, rfl⟩), Lib.hid (grown_of_below (Below.refl _ _) _), Lib.hid (Flt.on_map' _ _ _), Lib.hid (fun _ t' ht => map_ok ht)⟩
    · go_wp2_with fail
      have hb2 := (Below.refl w1.heap.size w1).alloc (Nat.le_refl _) (.cells #[.int .i64 2] 3)
      have HF2 := Lib.hid (HF.out.below hb2)
      have HX2 := Lib.hid ((hb2.block _ hs0).trans HX.out)
      have HG2 := Lib.hid (grown_of_below hb2 (some cb))
      have hn2 := heap_alloc_new w1 (.cells #[.int .i64 2] 3)
      have HI2 : Hid (IntsIn (w1.alloc (.cells #[.int .i64 2] 3)) (fun g => g ≠ cb) (.slice (some ⟨w1.heap.size, 0, none⟩) 1 1) [2]) := Lib.hid (.inr ⟨w1.heap.size, 0, 1, rfl, by have := HF.out.sco.lt; omega, lt_of_some hn2, fun q s hs => by
        have : q = 0 := by have := (List.getElem?_eq_some_iff.1 hs).1; simp at this; omega
        subst this
        injection hs with hs; subst hs
        exact Lib.cell_of_heap hn2 0⟩)
      clear hb2 hn2
      go_meet
      case rel =>
        rw [exT_5]
        exact ⟨[2], _, 1, 2, Fl, rfl, rfl, HF2, HX2, HI2, HG2, Lib.hid (Flt.on_map' _ _ _), Lib.hid (fun _ t' ht => map_ok ht)⟩
    · obtain ⟨m, hm⟩ : ∃ m, lv t.data.toList = m := ⟨_, rfl⟩
      have HM := Lib.hid hm
      have BC : Hid (∀ W : World, Glob W → Calls Tryz.prog 161 #[.string t] W fun e w' => e = .returned (.int .i64 m) ∧ Below W.heap.size W w') := Lib.hid (fun W hW => by rw [← hm]; exact bind_c t W hW)
      clear hm
      go_wp2_with fail
      refine (BC.out w1 HF.out.gl).mono ?_
      rintro e w2 ⟨rfl, hb2⟩
      have HF2 := Lib.hid (HF.out.below hb2)
      have HX2 := Lib.hid ((hb2.block _ hs0).trans HX.out)
      have HG2 := Lib.hid (grown_of_below hb2 (some cb))
      have hs2 := lt_of_some HX2.out
      clear z0 z1 z2 z3 z4 hb2
      obtain ⟨⟨z0, z1, z2, z3, z4⟩, -⟩ := facts5 HX2.out
      by_cases hm2 : m ≤ 2
      · have hm2' : (m : Int) ≤ 2 := by omega
        go_wp2_with fail
        have hb3 := (Below.refl w2.heap.size w2).alloc (Nat.le_refl _) (.cells #[.int .i64 2, .int .i64 2] 3)
        have HF3 := Lib.hid (HF2.out.below hb3)
        have HX3 := Lib.hid ((hb3.block _ hs2).trans HX2.out)
        have HG3 := Lib.hid (grown_trans HG2.out (grown_of_below hb3 (some cb)))
        have HI3 := Lib.hid (ints2 w2 cb 2 2 (by have := HF2.out.sco.lt; omega))
        clear hb3
        go_meet
        case rel =>
          rw [exT_6a (by rw [HM.out]; exact hm2)]
          exact ⟨[2, 2], _, 2, 2, Fl, rfl, rfl, HF3, HX3, HI3, HG3, Lib.hid (Flt.on_map' _ _ _), Lib.hid (fun _ t' ht => map_ok ht)⟩
      · have hm2' : (2 : Int) < (m : Int) := by omega
        by_cases he : t = ⟨#[61, 61]⟩ ∨ t = ⟨#[33, 61]⟩
        · have HE := Lib.hid he
          have hlen : xs.length = 2 := by
            have := HOK.out
            simp [ok6] at this
            exact this.1
          obtain ⟨a, hx0⟩ : ∃ a, xs[0]? = some a := ⟨_, List.getElem?_eq_getElem (by omega)⟩
          have HLEN := Lib.hid hlen
          have k1 : (0 : Int) < (xs.length : Int) := by omega
          obtain ⟨g, off, A', c', rfl, hFg, hg, hk2, a0, a1, a2, a3, a4⟩ := (HF2.out.args' HG2.out HA.out).at 0 a hx0
          simp only [Nat.zero_mul, Nat.add_zero] at a0 a1 a2 a3 a4
          have HKx := Lib.hid hk2; have HX0 := Lib.hid hx0
          clear hx0 hk2 hlen
          have hff : ((t.toList == [61, 61]) = true) ∨ ((t.toList == [61, 61]) = false ∧ (t.toList == [33, 61]) = true) := by
            rcases he with rfl | rfl
            · exact .inl (by rw [tl_iff]; exact decide_eq_true rfl)
            · exact .inr ⟨by rw [tl_iff]; decide, by rw [tl_iff]; exact decide_eq_true rfl⟩
          clear he
          rcases hff with f1 | ⟨f1, f2⟩
          all_goals
            go_wp2_with fail
            refine (IH.out a A' c' F _ w2 cb b Au cu us out many Fl env (HEX.out a (List.mem_of_getElem? HX0.out)) (HZ.out.args.2.2 a (List.mem_of_getElem? HX0.out)) HFZ.out HUL.out HAP.out HF2.out HKx.out).mono ?_
            rintro e w3 ⟨ta, rfl, hT, hC, hg3⟩
            have HF3 := Lib.hid (HF2.out.step hC hg3)
            have HX3 := Lib.hid ((hg3.block _ hs2 (by have := HC.out; simpa using fun e => this e.symm)).trans HX2.out)
            have HG3 := Lib.hid (grown_trans HG2.out hg3)
            have HT := Lib.hid hT
            have hs3 := lt_of_some HX3.out
            clear hT hC hg3 a0 a1 a2 a3 a4 z0 z1 z2 z3 z4 f1
            obtain ⟨⟨z0, z1, z2, z3, z4⟩, -⟩ := facts5 HX3.out
            go_wp2_with fail
            have hb4 := (Below.refl w3.heap.size w3).alloc (Nat.le_refl _) (.cells #[.int .i64 ta, .int .i64 ta] 3)
            have HF4 := Lib.hid (HF3.out.below hb4)
            have HX4 := Lib.hid ((hb4.block _ hs3).trans HX3.out)
            have HG4 := Lib.hid (grown_trans HG3.out (grown_of_below hb4 (some cb)))
            have HI4 := Lib.hid (ints2 w3 cb ta ta (by have := HF3.out.sco.lt; omega))
            clear hb4
            go_meet
            case rel =>
              rw [exT_6b (by rw [HM.out]; exact hm2) HE.out, head_at HX0.out]
              exact ⟨[ta, ta], _, 2, 2, _, rfl, rfl, HF4, HX4, HI4, HG4, Lib.hid (two_eq (fun u => wantsT us env xs [u, u]) HT.out), Lib.hid (fun _ t' ht => two_ok ht)⟩
        · have HE := Lib.hid he
          have f1 : (t.toList == [61, 61]) = false := by rw [tl_iff]; exact decide_eq_false (fun e => he (.inl e))
          have f2 : (t.toList == [33, 61]) = false := by rw [tl_iff]; exact decide_eq_false (fun e => he (.inr e))
          clear he
          go_wp2_with fail
          refine (BC.out w2 HF2.out.gl).mono ?_
          rintro e w3 ⟨rfl, hb3⟩
          have HF3 := Lib.hid (HF2.out.below hb3)
          have HX3 := Lib.hid ((hb3.block _ hs2).trans HX2.out)
          have HG3 := Lib.hid (grown_trans HG2.out (grown_of_below hb3 (some cb)))
          clear hb3 z0 z1 z2 z3 z4
          by_cases hm3 : m = 3
          · subst hm3
            go_wp2_with fail
            go_meet
            case rel =>
              rw [exT_6c (by rw [HM.out]; exact hm2) HE.out, HM.out, if_pos rfl]
              exact ⟨[], none, 0, 2, Fl, rfl, rfl, HF3, HX3, Lib.hid (.inl ⟨none, 0, rfl, rfl⟩), HG3, Lib.hid (Flt.on_map' _ _ _), Lib.hid (fun _ t' ht => map_ok ht)⟩
          · have hm3' : ((m : Int) == 3) = false := beq_eq_false_iff_ne.2 (by omega)
            go_wp2_with fail
            go_meet
            case rel =>
              rw [exT_6c (by rw [HM.out]; exact hm2) HE.out, HM.out, if_neg hm3]
              exact ⟨[], none, 0, 1, Fl, rfl, rfl, HF3, HX3, Lib.hid (.inl ⟨none, 0, rfl, rfl⟩), HG3, Lib.hid (Flt.on_map' _ _ _), Lib.hid (fun _ t' ht => map_ok ht)⟩
    · obtain ⟨d0, -, -, -, -⟩ := HF.out.sco.cells
      go_wp2_with fail
      clear d0 z0 z1 z2 z3 z4
      go_loopw [7, 8, 9, 53] (fun wv ov fv iv wr => ∃ j : Nat, j ≤ us.length ∧ iv = .int .i64 j ∧ Hid (FrT w wr cb b Au cu us out many Fl env F) ∧ Hid (wr.heap[w.heap.size]? = some (.cells #[.int .i64 7, .int .i64 n, .string t, .slice A xs.length c, .int .i64 p] 186 (0, 0))) ∧ Hid (w1.grownBy wr (some cb)) ∧
          ((fv = .bool false ∧ wv = .slice none 0 0 ∧ ov = .int .i64 1 ∧ Hid (∀ i f, i < j → us[i]? = some f → f.name ≠ t)) ∨ (∃ (jf : Nat) (f : Fn) (Aw : Option Addr) (cw : Nat), fv = .bool true ∧ wv = .slice Aw f.types.length cw ∧ ov = .int .i64 f.out ∧ Hid (jf < j ∧ us[jf]? = some f ∧ f.name = t) ∧ Hid (IntsIn wr F (.slice Aw f.types.length cw) f.types))))
        (fun _ _ _ iv _ => us.length - (intOf iv).toNat)
      case atStart => exact ⟨0, Nat.zero_le _, rfl, HF, HX, Lib.hid (grown_of_below (Below.refl _ _) _), .inl ⟨rfl, rfl, rfl, Lib.hid (fun i f h => by omega)⟩⟩
      case round =>
        obtain ⟨j, hj, rfl, HFj, HXj, HGj, hst⟩ := hrel
        have HST := Lib.hid hst
        clear HF HX hst
        have hsj := lt_of_some HXj.out
        by_cases hlt : j < us.length
        · obtain ⟨fj, hfj⟩ : ∃ f, us[j]? = some f := ⟨_, List.getElem?_eq_getElem hlt⟩
          obtain ⟨g, off, An, cn, At, ct, Ab, cbb, rfl, hg, -, hty, -, hc⟩ := HFj.out.fns.at j fj hfj
          have a0 := hc 0 _ rfl
          have a1 := hc 1 _ rfl
          have a2 := hc 2 _ rfl
          have a3 := hc 3 _ rfl
          have a4 := hc 4 _ rfl
          have a5 := hc 5 _ rfl
          simp only [Nat.add_zero] at a0
          have HTY := Lib.hid hty; have HJ := Lib.hid hfj
          clear hc hty hfj
          obtain ⟨⟨z0, z1, z2, z3, z4⟩, -⟩ := facts5 HXj.out
          have k0 : (0 : Int) ≤ (j : Int) := by omega
          have k1 : (j : Int) < (us.length : Int) := by omega
          have hul := HUL.out
          have hbj := (Below.refl wr.heap.size wr).alloc (Nat.le_refl _) (.cells #[.string fj.name, .slice An fj.names.length cn, .slice At fj.types.length ct, .int .i64 fj.out, .slice Ab fj.body.length cbb, .int .i64 fj.pos] 32)
          have HFn := Lib.hid (HFj.out.below hbj)
          have HXn := Lib.hid ((hbj.block _ hsj).trans HXj.out)
          have HGn := Lib.hid (grown_trans HGj.out (grown_of_below hbj (some cb)))
          have HTn := Lib.hid (HTY.out.keep (F' := F) (fun g h1 h2 => ⟨h1, Nat.lt_of_lt_of_le h2 hbj.size, hbj.block g h2⟩))
          have hbz := hbj
          clear hbj
          by_cases hnm : fj.name = t
          · have hq : (fj.name.toList == t.toList) = true := by rw [hnm]; simp
            have HNM := Lib.hid hnm
            clear hnm
            rcases HST.out with ⟨rfl, rfl, rfl, hno⟩ | ⟨jf, f, Aw, cw, rfl, rfl, rfl, hjf, HI⟩
            · clear hbz
              go_upto_region 20 with (fail)
              go_quiet (fail)
              go_wp2_with fail
              have hbq := below_drewN (Below.refl (wr.alloc (.cells #[.string fj.name, .slice An fj.names.length cn, .slice At fj.types.length ct, .int .i64 fj.out, .slice Ab fj.body.length cbb, .int .i64 fj.pos] 32)).heap.size (wr.alloc (.cells #[.string fj.name, .slice An fj.names.length cn, .slice At fj.types.length ct, .int .i64 fj.out, .slice Ab fj.body.length cbb, .int .i64 fj.pos] 32))) nq
              have HF9 := Lib.hid (HFn.out.below hbq)
              have HX9 := Lib.hid ((hbq.block _ (lt_of_some HXn.out)).trans HXn.out)
              have HG9 := Lib.hid (grown_trans HGn.out (grown_of_below hbq (some cb)))
              have HT9 := Lib.hid (HTn.out.keep (F' := F) (fun g h1 h2 => ⟨h1, Nat.lt_of_lt_of_le h2 hbq.size, hbq.block g h2⟩))
              clear hbq
              go_roundw
              case rel => exact ⟨j + 1, hlt, by go_num, HF9, HX9, HG9, .inr ⟨j, fj, At, ct, rfl, rfl, rfl, Lib.hid ⟨by omega, HJ.out, HNM.out⟩, HT9⟩⟩
              case measure => simp [intOf]; omega
            · exact absurd (HAP.out jf j f fj hjf.out.2.1 HJ.out (hjf.out.2.2.trans HNM.out.symm)) (by have := hjf.out.1; omega)
          · have hq : (fj.name.toList == t.toList) = false := by rw [ByteArray.toList_eq t, tl_iff]; exact decide_eq_false (fun e => hnm (e.trans (by cases t; rfl)))
            have HNM := Lib.hid hnm
            clear hnm
            rcases HST.out with ⟨rfl, rfl, rfl, hno⟩ | ⟨jf, f, Aw, cw, rfl, rfl, rfl, hjf, HI⟩
            · clear hbz
              go_wp2_with fail
              go_roundw
              case rel => exact ⟨j + 1, hlt, by go_num, HFn, HXn, HGn, .inl ⟨rfl, rfl, rfl, Lib.hid (fun i f h hi => by
                rcases Nat.lt_or_ge i j with h' | h'
                · exact hno.out i f h' hi
                · obtain rfl : i = j := by omega
                  have := HJ.out
                  rw [hi] at this
                  injection this with this
                  subst this
                  exact HNM.out)⟩⟩
              case measure => simp [intOf]; omega
            · have HI9 := Lib.hid (HI.out.keep (F' := F) (fun g h1 h2 => ⟨h1, Nat.lt_of_lt_of_le h2 hbz.size, hbz.block g h2⟩))
              clear hbz
              go_wp2_with fail
              go_roundw
              case rel => exact ⟨j + 1, hlt, by go_num, HFn, HXn, HGn, .inr ⟨jf, f, Aw, cw, rfl, rfl, rfl, Lib.hid ⟨by have := hjf.out.1; omega, hjf.out.2.1, hjf.out.2.2⟩, HI9⟩⟩
              case measure => simp [intOf]; omega
        · obtain rfl : j = us.length := by omega
          obtain ⟨⟨z0, z1, z2, z3, z4⟩, -⟩ := facts5 HXj.out
          rcases HST.out with ⟨rfl, rfl, rfl, hno⟩ | ⟨jf, f, Aw, cw, rfl, rfl, rfl, hjf, HI⟩
          · have hff : findF us t = none := by
              unfold findF
              rw [List.find?_eq_none]
              intro f hf
              obtain ⟨i, hi⟩ := List.mem_iff_getElem?.1 hf
              have := hno.out i f (by have := (List.getElem?_eq_some_iff.1 hi).1; omega) hi
              simpa using this
            have HFF := Lib.hid hff
            clear hff hno
            go_wp2_with fail
            refine (bad_c p 16 (by decide) HFj.out.sco).mono ?_
            rintro e w3 ⟨rfl, hC, hg3⟩
            have HC3 := Lib.hid hC
            have HG3 := Lib.hid (grown_trans (grown_of_below HB.out (some cb)) (grown_trans HGj.out hg3))
            clear hC hg3 z0 z1 z2 z3 z4
            go_wp2_with fail
            go_ret
            rw [exT_7n HFF.out]
            exact ⟨0, rfl, (fun _ t' ht => by cases ht), by rw [Flt.on_bad]; exact HC3.out, HG3.out⟩
          · have hff : findF us t = some f := find_at HAP.out hjf.out.2.1 hjf.out.2.2
            have HFF := Lib.hid hff
            clear hff
            by_cases hl : f.types.length = xs.length
            · have hl' : ((f.types.length : Int) == (xs.length : Int)) = true := by rw [hl]; simp
              have hl2 : ((f.types.length : Int) != (xs.length : Int)) = false := by rw [hl]; simp
              have HL := Lib.hid hl
              clear hl
              have HI2 : Hid (IntsIn wr (fun g => g ≠ cb) (.slice Aw f.types.length cw) f.types) := Lib.hid (HI.out.keep (fun g h1 h2 => ⟨HFj.out.fc g h1, h2, rfl⟩))
              go_wp2_with fail
              go_meet
              case rel =>
                rw [exT_7 HFF.out HL.out]
                exact ⟨f.types, Aw, cw, f.out, Fl, rfl, rfl, HFj, HXj, HI2, HGj, Lib.hid (Flt.on_map' _ _ _), Lib.hid (fun _ t' ht => map_ok ht)⟩
            · have hl' : ((f.types.length : Int) == (xs.length : Int)) = false := beq_eq_false_iff_ne.2 (by omega)
              have hl2 : ((f.types.length : Int) != (xs.length : Int)) = true := by simp [bne, hl']
              have HL := Lib.hid hl
              clear hl
              go_wp2_with fail
              refine (bad_c p 8 (by decide) HFj.out.sco).mono ?_
              rintro e w3 ⟨rfl, hC, hg3⟩
              have HC3 := Lib.hid hC
              have HG3 := Lib.hid (grown_trans (grown_of_below HB.out (some cb)) (grown_trans HGj.out hg3))
              clear hC hg3 z0 z1 z2 z3 z4
              go_wp2_with fail
              go_ret
              rw [exT_7l HFF.out HL.out]
              exact ⟨0, rfl, (fun _ t' ht => by cases ht), by rw [Flt.on_bad]; exact HC3.out, HG3.out⟩
    · go_wp2_with fail
      go_meet
      case rel =>
        rw [exT_8]
        exact ⟨[], none, 0, 1, Fl, rfl, rfl, HF, HX, Lib.hid (.inl ⟨none, 0, rfl, rfl⟩), Lib.hid (grown_of_below (Below.refl _ _) _), Lib.hid (Flt.on_map' _ _ _), Lib.hid (fun _ t' ht => map_ok ht)⟩
  case rest =>
    obtain ⟨ws, Aw, cw, oo, Fl', rfl, rfl, HFW, HXW, HI, HGW, H1, H2⟩ := hcut
    clear m1 m2 m3 z0 z1 z2 z3 z4 HX HF
    have HA2 := Lib.hid (HFW.out.args' HGW.out HA.out)
    have HFR := Lib.hid HFW.out.reb
    have hsW := lt_of_some HXW.out
    obtain ⟨⟨z0, z1, z2, z3, z4⟩, -⟩ := facts5 HXW.out
    go_wp2_with fail
    clear z0 z1 z2 z3 z4
    obtain ⟨wa, rfl⟩ : ∃ wo : World, wo = wc := ⟨_, rfl⟩
    go_loopw [131] (fun i wr => ∃ j : Nat, j ≤ xs.length ∧ i = .int .i64 j ∧ Hid (FrT wa wr cb b Au cu us out many (Fl'.on (wantsT us env (xs.take j) ws)) env F)) (fun i _ => xs.length - (intOf i).toNat)
    case atStart => exact ⟨0, Nat.zero_le _, rfl, by rw [List.take_zero, wantsT, Flt.on_ok]; exact HFR⟩
    case round =>
      obtain ⟨j, hj, rfl, HFj⟩ := hrel
      clear HFR
      by_cases hlt : j < xs.length
      · obtain ⟨x, hx⟩ : ∃ x, xs[j]? = some x := ⟨_, List.getElem?_eq_getElem hlt⟩
        obtain ⟨g, off, A', c', rfl, hFg, hg, hk2, a0, a1, a2, a3, a4⟩ := HA2.out.at j x hx
        have hgc := HFW.out.fc g hFg
        have b0 := kept_cell HFj.out.gr hg hgc a0
        have b1 := kept_cell HFj.out.gr hg hgc a1
        have b2 := kept_cell HFj.out.gr hg hgc a2
        have b3 := kept_cell HFj.out.gr hg hgc a3
        have b4 := kept_cell HFj.out.gr hg hgc a4
        clear a0 a1 a2 a3 a4
        have HKx := Lib.hid hk2; have HIN := Lib.hid (List.mem_of_getElem? hx); have HXJ := Lib.hid hx
        clear hx hk2
        have k0 : (0 : Int) ≤ (j : Int) := by omega
        have k1 : (j : Int) < (xs.length : Int) := by omega
        have hbx := (Below.refl wr.heap.size wr).alloc (Nat.le_refl _) (.cells #[.int .i64 x.kind, .int .i64 x.n, .string x.text, .slice A' x.args.length c', .int .i64 x.pos] 186)
        have hnx := heap_alloc_new wr (.cells #[.int .i64 x.kind, .int .i64 x.n, .string x.text, .slice A' x.args.length c', .int .i64 x.pos] 186)
        have HFx := Lib.hid (HFj.out.below hbx)
        have HNX := Lib.hid hnx
        have hcr : cb ≠ wr.heap.size := by have := HFj.out.sco.lt; omega
        have HCR := Lib.hid hcr
        obtain ⟨wv, hwv⟩ : ∃ v, (ws.drop j).headD 1 = v := ⟨_, rfl⟩
        have HWV := Lib.hid hwv
        have HIj := Lib.hid (HI.out.keep (F' := fun g => g ≠ cb) (fun q h1 h2 => ⟨h1, Nat.lt_of_lt_of_le h2 HFx.out.gr.size, HFx.out.gr.block q h2 (by simpa using h1)⟩))
        clear hbx hnx hcr hwv
        have hsr := lt_of_some HNX.out
        by_cases hjw : j < ws.length
        · obtain ⟨s, hs⟩ : ∃ s, ws[j]? = some s := ⟨_, List.getElem?_eq_getElem hjw⟩
          obtain rfl : wv = s := by rw [← HWV.out]; exact headD_at hs
          obtain ⟨g2, off2, rfl, hg2, hcell⟩ := HIj.out.at j wv hs
          have q1 : (j : Int) < (ws.length : Int) := by omega
          clear hs
          go_wp2_with fail
          refine (IH.out x A' c' F _ _ cb b Au cu us out many _ env (HEX.out x HIN.out) (HZ.out.args.2.2 x HIN.out) HFZ.out HUL.out HAP.out HFx.out (HFx.out.args' HFx.out.gr HKx.out)).mono ?_
          rintro e w8 ⟨tt, rfl, hT, hC, hg8⟩
          have HF8 := Lib.hid (HFx.out.step hC hg8)
          have HT := Lib.hid hT
          have hn8 : w8.heap[wr.heap.size]? = _ := (hg8.block _ hsr (by have := HCR.out; simpa using fun e => this e.symm)).trans HNX.out
          obtain ⟨⟨y0, y1, y2, y3, y4⟩, -⟩ := facts5 hn8
          clear hT hC hg8 hn8 b0 b1 b2 b3 b4 hcell
          by_cases heq : tt = wv
          · subst heq
            have HFn : Hid (FrT wa w8 cb b Au cu us out many (Fl'.on (wantsT us env (xs.take (j + 1)) ws)) env F) := Lib.hid (by rw [wants_step HXJ.out HT.out, if_pos HWV.out.symm]; exact HF8.out)
            go_wp2_with fail
            go_roundw
            case rel => exact ⟨j + 1, hlt, by go_num, HFn⟩
            case measure => simp [intOf]; omega
          · have hq1 : (tt == wv) = false := beq_eq_false_iff_ne.2 heq
            have hq2 : (tt != wv) = true := by simp [bne, hq1]
            have HQ := Lib.hid heq
            clear heq
            go_wp2_with fail
            refine (bad_c x.pos 8 (by decide) HF8.out.sco).mono ?_
            rintro e w9 ⟨rfl, hC, hg9⟩
            have HFn : Hid (FrT wa w9 cb b Au cu us out many (Fl'.on (wantsT us env (xs.take (j + 1)) ws)) env F) := Lib.hid (by rw [wants_step HXJ.out HT.out, if_neg (fun e => HQ.out (e.trans HWV.out))]; exact HF8.out.step hC hg9)
            clear hC hg9 y0 y1 y2 y3 y4
            go_wp2_with fail
            go_roundw
            case rel => exact ⟨j + 1, hlt, by go_num, HFn⟩
            case measure => simp [intOf]; omega
        · have q1 : (ws.length : Int) ≤ (j : Int) := by omega
          obtain rfl : wv = 1 := by rw [← HWV.out]; exact headD_out (by omega)
          go_wp2_with fail
          refine (IH.out x A' c' F _ _ cb b Au cu us out many _ env (HEX.out x HIN.out) (HZ.out.args.2.2 x HIN.out) HFZ.out HUL.out HAP.out HFx.out (HFx.out.args' HFx.out.gr HKx.out)).mono ?_
          rintro e w8 ⟨tt, rfl, hT, hC, hg8⟩
          have HF8 := Lib.hid (HFx.out.step hC hg8)
          have HT := Lib.hid hT
          have hn8 : w8.heap[wr.heap.size]? = _ := (hg8.block _ hsr (by have := HCR.out; simpa using fun e => this e.symm)).trans HNX.out
          obtain ⟨⟨y0, y1, y2, y3, y4⟩, -⟩ := facts5 hn8
          clear hT hC hg8 hn8 b0 b1 b2 b3 b4
          by_cases heq : tt = 1
          · subst heq
            have HFn : Hid (FrT wa w8 cb b Au cu us out many (Fl'.on (wantsT us env (xs.take (j + 1)) ws)) env F) := Lib.hid (by rw [wants_step HXJ.out HT.out, if_pos HWV.out.symm]; exact HF8.out)
            go_wp2_with fail
            go_roundw
            case rel => exact ⟨j + 1, hlt, by go_num, HFn⟩
            case measure => simp [intOf]; omega
          · have hq1 : (tt == 1) = false := beq_eq_false_iff_ne.2 heq
            have hq2 : (tt != 1) = true := by simp [bne, hq1]
            have HQ := Lib.hid heq
            clear heq
            go_wp2_with fail
            refine (bad_c x.pos 8 (by decide) HF8.out.sco).mono ?_
            rintro e w9 ⟨rfl, hC, hg9⟩
            have HFn : Hid (FrT wa w9 cb b Au cu us out many (Fl'.on (wantsT us env (xs.take (j + 1)) ws)) env F) := Lib.hid (by rw [wants_step HXJ.out HT.out, if_neg (fun e => HQ.out (e.trans HWV.out))]; exact HF8.out.step hC hg9)
            clear hC hg9 y0 y1 y2 y3 y4
            go_wp2_with fail
            go_roundw
            case rel => exact ⟨j + 1, hlt, by go_num, HFn⟩
            case measure => simp [intOf]; omega
      · obtain rfl : j = xs.length := by omega
        go_wp2_with fail
        go_ret
        refine ⟨oo, rfl, H2.out, ?_, grown_trans (grown_of_below HB.out _) (grown_trans HGW.out HFj.out.gr)⟩
        rw [H1.out]
        have := HFj.out.sco
        rw [List.take_length] at this
        exact this
end Go.Proofs.YtmngofgminlloaaGreatDoor

namespace Go.Proofs.YtmngofgminlloaaGreatDoor
open Go.RowKit Tw Go.Maps

theorem typeOf_r : ∀ left : Nat, TypC left := by
  intro left
  induction left with
  | zero =>
    intro x A c F w0 w cb b Au cu us out many Fl env hex
    cases x with | mk k n t xs p =>
    exact absurd (exF_args hex).1 (by omega)
  | succ left ih =>
    intro x A c F w0 w cb b Au cu us out many Fl env hex hZ hFZ hUL hap h hA
    cases x with | mk k n t xs p =>
    obtain ⟨_, hok, _⟩ := exF_args hex
    simp only [Ex.kind, Ex.n, Ex.text, Ex.args, Ex.pos] at hA ⊢
    by_cases hk : k = 4 ∨ k = 5 ∨ k = 6 ∨ k = 7 ∨ k = 8
    · exact typ_kl (left + 1) (by omega) ih k hk n t xs p A c F w0 w cb b Au cu us out many Fl env hex hZ hFZ hUL hap h hA
    by_cases h1 : k = 1
    · subst h1; exact typ_k1 n t xs p A c F w0 w cb b Au cu us out many Fl env h
    by_cases h2 : k = 2
    · subst h2; exact typ_k2 n t xs p A c F w0 w cb b Au cu us out many Fl env h
    by_cases h3 : k = 3
    · subst h3; exact typ_k3 n t xs p A c F w0 w cb b Au cu us out many Fl env hZ.args.1 h
    rw [oko (by omega)] at hok
    cases hok
end Go.Proofs.YtmngofgminlloaaGreatDoor

namespace Go.Proofs.YtmngofgminlloaaGreatDoor
open Go.RowKit Tw

/-- Statements from a state on: the variables, how many there were, whether one has returned. -/
def runT (us : List Fn) (out : Int) : List Sm → Env → Nat → Bool → TyR (Env × Nat × Bool)
  | [], env, m, r => .ok (env, m, r)
  | s :: l, env, m, r => match smT us out s env m with
    | .bad q e => .bad q e
    | .ok (env', m', r') => runT us out l env' m' (r || r')
theorem blT_run (us : List Fn) (out : Int) : ∀ (l : List Sm) (env : Env) (m : Nat) (r : Bool), runT us out l env m r = match runT us out l env m false with
    | .bad q e => .bad q e
    | .ok (env', m', r') => .ok (env', m', r || r') := by
  intro l
  induction l with
  | nil => intro env m r; simp [runT]
  | cons s l ih =>
    intro env m r
    simp only [runT]
    cases smT us out s env m with
    | bad q e => rfl
    | ok z =>
      obtain ⟨env', m', r'⟩ := z
      simp only [Bool.false_or]
      rw [ih env' m' (r || r'), ih env' m' r']
      cases runT us out l env' m' false with
      | bad q e => rfl
      | ok z => simp [Bool.or_assoc]
theorem blT_eq (us : List Fn) (out : Int) : ∀ (l : List Sm) (env : Env) (m : Nat), blT us out l env m = match runT us out l env m false with
    | .bad q e => .bad q e
    | .ok (_, m', r') => .ok (m', r') := by
  intro l
  induction l with
  | nil => intro env m; simp [runT, blT]
  | cons s l ih =>
    intro env m
    rw [blT, runT]
    cases smT us out s env m with
    | bad q e => rfl
    | ok z =>
      obtain ⟨env', m', r'⟩ := z
      simp only [Bool.false_or]
      rw [ih env' m', blT_run us out l env' m' r']
      cases runT us out l env' m' false <;> rfl
theorem runT_snoc (us : List Fn) (out : Int) (s : Sm) : ∀ (l : List Sm) (env : Env) (m : Nat) (r : Bool), runT us out (l ++ [s]) env m r = match runT us out l env m r with
    | .bad q e => .bad q e
    | .ok (env', m', r') => (match smT us out s env' m' with | .bad q e => .bad q e | .ok (env2, m2, r2) => .ok (env2, m2, r' || r2)) := by
  intro l
  induction l with
  | nil =>
    intro env m r
    simp only [List.nil_append, runT]
  | cons a l ih =>
    intro env m r
    simp only [List.cons_append, runT]
    cases smT us out a env m with
    | bad q e => rfl
    | ok z => exact ih _ _ _
theorem runT_bad (us : List Fn) (out : Int) : ∀ (l l' : List Sm) (env : Env) (m : Nat) (r : Bool) {q e : Int}, runT us out l env m r = .bad q e → runT us out (l ++ l') env m r = .bad q e := by
  intro l
  induction l with
  | nil => intro l' env m r q e h; simp [runT] at h
  | cons a l ih =>
    intro l' env m r q e h
    simp only [List.cons_append, runT] at h ⊢
    cases hs : smT us out a env m with
    | bad q' e' => rw [hs] at h; exact h
    | ok z => rw [hs] at h; exact ih _ _ _ _ h
theorem take_snoc_at {α : Type} {l : List α} {i : Nat} {x : α} (hx : l[i]? = some x) : l.take (i + 1) = l.take i ++ [x] := by
  have hi : i < l.length := by rcases Nat.lt_or_ge i l.length with h | h; exact h; rw [List.getElem?_eq_none h] at hx; cases hx
  rw [List.take_succ_eq_append_getElem hi]
  have : l[i] = x := by rw [List.getElem?_eq_getElem hi] at hx; exact Option.some.inj hx
  rw [this]
/-- A fault at statement i is the block's. -/
theorem blT_hit {us : List Fn} {out : Int} {l : List Sm} {env : Env} {m i : Nat} {s : Sm} {env' : Env} {m' : Nat} {r' : Bool} {q e : Int} (hs : l[i]? = some s) (h : runT us out (l.take i) env m false = .ok (env', m', r')) (hb : smT us out s env' m' = .bad q e) : blT us out l env m = .bad q e := by
  have h1 : runT us out (l.take (i + 1)) env m false = .bad q e := by rw [take_snoc_at hs, runT_snoc, h]; simp only [hb]
  have h2 := runT_bad us out (l.take (i + 1)) (l.drop (i + 1)) env m false h1
  rw [List.take_append_drop] at h2
  rw [blT_eq, h2]
/-- Variables are bounded. -/
theorem letT_le {env env' : Env} {m m' : Nat} {p : Int} {nm : ByteArray} {t : Int} (h : letT env m p nm t = .ok (env', m')) : m' = m + 1 ∧ m < 64 ∧ env' = (nm, t) :: env ∧ lookE env nm = 0 := by
  unfold letT at h
  split at h
  · cases h
  · split at h
    · cases h
    · injection h with h; injection h with h1 h2
      exact ⟨h2.symm, by omega, h1.symm, by omega⟩
mutual
theorem smT_le (us : List Fn) (out : Int) : ∀ (s : Sm) (env : Env) (m : Nat) (env' : Env) (m' : Nat) (r : Bool), smT us out s env m = .ok (env', m', r) → m ≤ m' ∧ (m ≤ 64 → m' ≤ 64) ∧ (env.length ≤ m → env'.length ≤ m')
  | .mk k nm a body els p, env, m, env', m', r, h => by
    rw [smT] at h
    split at h
    · cases h
    cases hx : exT us env a with
    | bad q e => rw [hx] at h; cases h
    | ok t =>
      rw [hx] at h
      simp only at h
      by_cases h1 : k = 1
      · rw [if_pos h1] at h
        cases hl : letT env m p nm t with
        | bad q e => rw [hl] at h; cases h
        | ok z =>
          obtain ⟨e1, m1⟩ := z
          rw [hl] at h
          injection h with h; injection h with h2 h3; injection h3 with h3 h4
          obtain ⟨a1, a2, a3, a4⟩ := letT_le hl
          subst h2 h3
          exact ⟨by omega, by omega, by rw [a3]; simp; omega⟩
      rw [if_neg h1] at h
      by_cases h2 : k = 2
      · rw [if_pos h2] at h
        split at h
        · cases h
        · injection h with h; injection h with h2 h3; injection h3 with h3 h4; subst h2 h3; exact ⟨by omega, by omega, by omega⟩
      rw [if_neg h2] at h
      by_cases h3 : k = 3
      · rw [if_pos h3] at h
        split at h
        · cases h
        cases hb : blT us out body env m with
        | bad q e => rw [hb] at h; cases h
        | ok z =>
          obtain ⟨m1, r1⟩ := z
          rw [hb] at h
          simp only at h
          have hb1 := blT_le us out body env m m1 r1 hb
          cases he : blT us out els env m1 with
          | bad q e => rw [he] at h; cases h
          | ok z =>
            obtain ⟨m2, r2⟩ := z
            rw [he] at h
            injection h with h; injection h with h2 h3; injection h3 with h3 h4; subst h2 h3
            have he1 := blT_le us out els env m1 m2 r2 he
            exact ⟨by omega, by omega, by omega⟩
      rw [if_neg h3] at h
      by_cases h4 : k = 4
      · rw [if_pos h4] at h
        split at h
        · cases h
        cases hb : blT us out body env m with
        | bad q e => rw [hb] at h; cases h
        | ok z =>
          obtain ⟨m1, r1⟩ := z
          rw [hb] at h
          injection h with h; injection h with h2 h3; injection h3 with h3 h4; subst h2 h3
          have hb1 := blT_le us out body env m m1 r1 hb
          exact ⟨by omega, by omega, by omega⟩
      rw [if_neg h4] at h
      split at h
      · split at h
        · cases h
        · injection h with h; injection h with h2 h3; injection h3 with h3 h4; subst h2 h3; exact ⟨by omega, by omega, by omega⟩
      · split at h
        · split at h
          · cases h
          · injection h with h; injection h with h2 h3; injection h3 with h3 h4; subst h2 h3; exact ⟨by omega, by omega, by omega⟩
        · injection h with h; injection h with h2 h3; injection h3 with h3 h4; subst h2 h3; exact ⟨by omega, by omega, by omega⟩
theorem blT_le (us : List Fn) (out : Int) : ∀ (l : List Sm) (env : Env) (m m' : Nat) (r : Bool), blT us out l env m = .ok (m', r) → m ≤ m' ∧ (m ≤ 64 → m' ≤ 64)
  | [], env, m, m', r, h => by rw [blT] at h; injection h with h; injection h with h1 h2; omega
  | s :: l, env, m, m', r, h => by
    rw [blT] at h
    cases hs : smT us out s env m with
    | bad q e => rw [hs] at h; cases h
    | ok z =>
      obtain ⟨e1, m1, r1⟩ := z
      rw [hs] at h
      simp only at h
      have h1 := smT_le us out s env m e1 m1 r1 hs
      cases hl : blT us out l e1 m1 with
      | bad q e => rw [hl] at h; cases h
      | ok z =>
        obtain ⟨m2, r2⟩ := z
        rw [hl] at h
        injection h with h; injection h with h2 h3
        have h4 := blT_le us out l e1 m1 m2 r2 hl
        subst h2
        exact ⟨by omega, by omega⟩
end
end Go.Proofs.YtmngofgminlloaaGreatDoor

namespace Go.Proofs.YtmngofgminlloaaGreatDoor
open Go.RowKit Tw

/-- The variables that can be seen have different names, and types. -/
def EnvOK (env : Env) : Prop := (env.map Prod.fst).Nodup ∧ ∀ q ∈ env, q.2 = 1 ∨ q.2 = 2
theorem EnvOK.nil : EnvOK [] := ⟨List.nodup_nil, fun _ h => by cases h⟩
theorem lookE_some : ∀ {env : Env} {s : ByteArray} {t : Int}, (env.map Prod.fst).Nodup → (s, t) ∈ env → lookE env s = t := by
  intro env s t hn h
  induction env with
  | nil => cases h
  | cons q env ih =>
    obtain ⟨n, u⟩ := q
    simp only [List.map_cons, List.nodup_cons] at hn
    rw [lookE]
    rcases List.mem_cons.1 h with h | h
    · injection h with h1 h2
      rw [if_pos h1.symm, h2]
    · rw [if_neg (fun e => hn.1 (by rw [e]; exact List.mem_map_of_mem (f := Prod.fst) h))]
      exact ih hn.2 h
theorem lookE_none : ∀ {env : Env} {s : ByteArray}, (∀ q ∈ env, q.1 ≠ s) → lookE env s = 0 := by
  intro env s h
  induction env with
  | nil => rfl
  | cons q env ih =>
    obtain ⟨n, u⟩ := q
    rw [lookE, if_neg (h (n, u) (List.mem_cons_self ..))]
    exact ih fun q hq => h q (List.mem_cons_of_mem _ hq)
theorem lookE_mem : ∀ {env : Env} {s : ByteArray}, lookE env s ≠ 0 → (s, lookE env s) ∈ env := by
  intro env s h
  induction env with
  | nil => exact absurd rfl h
  | cons q env ih =>
    obtain ⟨n, u⟩ := q
    rw [lookE] at h ⊢
    by_cases e : n = s
    · rw [if_pos e] at h ⊢; rw [e]; exact List.mem_cons_self ..
    · rw [if_neg e] at h ⊢; exact List.mem_cons_of_mem _ (ih h)
theorem EnvOK.look {env : Env} (h : EnvOK env) {s : ByteArray} (h0 : lookE env s ≠ 0) : lookE env s = 1 ∨ lookE env s = 2 := h.2 _ (lookE_mem h0)
theorem EnvOK.absent {env : Env} (h : EnvOK env) {s : ByteArray} (h0 : lookE env s = 0) : ∀ q ∈ env, q.1 ≠ s := by
  intro q hq e
  obtain ⟨n, t⟩ := q
  simp only at e
  subst e
  have := lookE_some h.1 hq
  have := h.2 _ hq
  simp only at this
  omega
theorem EnvOK.letT {env env' : Env} {m m' : Nat} {p : Int} {nm : ByteArray} {t : Int} (h : EnvOK env) (ht : t = 1 ∨ t = 2) (hl : letT env m p nm t = .ok (env', m')) : EnvOK env' := by
  obtain ⟨-, -, rfl, h0⟩ := letT_le hl
  refine ⟨?_, ?_⟩
  · simp only [List.map_cons, List.nodup_cons]
    refine ⟨fun hm => ?_, h.1⟩
    obtain ⟨q, hq, e⟩ := List.mem_map.1 hm
    exact h.absent h0 q hq e
  · intro q hq
    rcases List.mem_cons.1 hq with rfl | hq
    · exact ht
    · exact h.2 q hq
theorem EnvOK.pos {env : Env} (h : EnvOK env) (s : ByteArray) : 0 ≤ lookE env s := by
  by_cases h0 : lookE env s = 0
  · omega
  · rcases h.look h0 with h | h <;> omega
/-- The functions' results have types. -/
def OutsOK (us : List Fn) : Prop := ∀ f ∈ us, typB f.out = true
theorem typB_iff {t : Int} : typB t = true ↔ t = 1 ∨ t = 2 := by simp [typB]
theorem exT_types {us : List Fn} {env : Env} (hU : OutsOK us) (hE : EnvOK env) (x : Ex) {t : Int} (h : exT us env x = .ok t) : t = 1 ∨ t = 2 := by
  cases x with | mk k n s xs p =>
  rw [exT] at h
  split at h
  · injection h with h; omega
  split at h
  · injection h with h; omega
  split at h
  · split at h
    · cases h
    · rename_i h0; injection h with h; subst h; exact hE.look h0
  split at h
  · split at h <;> cases h; omega
  split at h
  · split at h
    · cases h
    · rename_i f hf
      split at h
      · cases h
      · split at h <;> cases h
        exact typB_iff.1 (hU f (List.mem_of_find?_eq_some hf))
  split at h
  · split at h <;> cases h; omega
  split at h
  · split at h
    · split at h <;> cases h; omega
    · cases h
  · split at h
    · injection h with h; subst h; split <;> omega
    · cases h
theorem smT_env {us : List Fn} {out : Int} (hU : OutsOK us) (s : Sm) {env env' : Env} {m m' : Nat} {r : Bool} (hE : EnvOK env) (h : smT us out s env m = .ok (env', m', r)) : EnvOK env' := by
  cases s with | mk k nm a body els p =>
  rw [smT] at h
  split at h
  · cases h
  cases hx : exT us env a with
  | bad q e => rw [hx] at h; cases h
  | ok t =>
    rw [hx] at h
    simp only at h
    have ht := exT_types hU hE a hx
    split at h
    · cases hl : letT env m p nm t with
      | bad q e => rw [hl] at h; cases h
      | ok z =>
        obtain ⟨e1, m1⟩ := z
        rw [hl] at h
        injection h with h; injection h with h2 h3
        subst h2
        exact hE.letT ht hl
    split at h
    · split at h
      · cases h
      · injection h with h; injection h with h2 h3; subst h2; exact hE
    split at h
    · split at h
      · cases h
      split at h
      · cases h
      split at h
      · cases h
      · injection h with h; injection h with h2 h3; subst h2; exact hE
    split at h
    · split at h
      · cases h
      split at h
      · cases h
      · injection h with h; injection h with h2 h3; subst h2; exact hE
    split at h
    · split at h
      · cases h
      · injection h with h; injection h with h2 h3; subst h2; exact hE
    split at h
    · split at h
      · cases h
      · injection h with h; injection h with h2 h3; subst h2; exact hE
    · injection h with h; injection h with h2 h3; subst h2; exact hE
theorem runT_env {us : List Fn} {out : Int} (hU : OutsOK us) : ∀ (l : List Sm) {env env' : Env} {m m' : Nat} {r r' : Bool}, EnvOK env → runT us out l env m r = .ok (env', m', r') → EnvOK env' := by
  intro l
  induction l with
  | nil => intro env env' m m' r r' hE h; rw [runT] at h; injection h with h; injection h with h1 h2; subst h1; exact hE
  | cons s l ih =>
    intro env env' m m' r r' hE h
    rw [runT] at h
    cases hs : smT us out s env m with
    | bad q e => rw [hs] at h; cases h
    | ok z =>
      obtain ⟨e1, m1, r1⟩ := z
      rw [hs] at h
      exact ih (smT_env hU s hE hs) h
/-- A statement keeps the older variables. -/
theorem smT_old {us : List Fn} {out : Int} (s : Sm) {env env' : Env} {m m' : Nat} {r : Bool} (h : smT us out s env m = .ok (env', m', r)) : ∃ pre, env' = pre ++ env := by
  cases s with | mk k nm a body els p =>
  rw [smT] at h
  split at h
  · cases h
  cases hx : exT us env a with
  | bad q e => rw [hx] at h; cases h
  | ok t =>
    rw [hx] at h
    simp only at h
    split at h
    · cases hl : letT env m p nm t with
      | bad q e => rw [hl] at h; cases h
      | ok z =>
        obtain ⟨e1, m1⟩ := z
        rw [hl] at h
        injection h with h; injection h with h2 h3
        subst h2
        obtain ⟨-, -, rfl, -⟩ := letT_le hl
        exact ⟨[_], rfl⟩
    split at h
    · split at h
      · cases h
      · injection h with h; injection h with h2 h3; subst h2; exact ⟨[], rfl⟩
    split at h
    · split at h
      · cases h
      split at h
      · cases h
      split at h
      · cases h
      · injection h with h; injection h with h2 h3; subst h2; exact ⟨[], rfl⟩
    split at h
    · split at h
      · cases h
      split at h
      · cases h
      · injection h with h; injection h with h2 h3; subst h2; exact ⟨[], rfl⟩
    split at h
    · split at h
      · cases h
      · injection h with h; injection h with h2 h3; subst h2; exact ⟨[], rfl⟩
    split at h
    · split at h
      · cases h
      · injection h with h; injection h with h2 h3; subst h2; exact ⟨[], rfl⟩
    · injection h with h; injection h with h2 h3; subst h2; exact ⟨[], rfl⟩
theorem runT_old {us : List Fn} {out : Int} : ∀ (l : List Sm) {env env' : Env} {m m' : Nat} {r r' : Bool}, runT us out l env m r = .ok (env', m', r') → ∃ pre, env' = pre ++ env := by
  intro l
  induction l with
  | nil => intro env env' m m' r r' h; rw [runT] at h; injection h with h; injection h with h1 h2; subst h1; exact ⟨[], rfl⟩
  | cons s l ih =>
    intro env env' m m' r r' h
    rw [runT] at h
    cases hs : smT us out s env m with
    | bad q e => rw [hs] at h; cases h
    | ok z =>
      obtain ⟨e1, m1, r1⟩ := z
      rw [hs] at h
      obtain ⟨p1, rfl⟩ := smT_old s hs
      obtain ⟨p2, rfl⟩ := ih h
      exact ⟨p2 ++ p1, by simp⟩
theorem runT_le {us : List Fn} {out : Int} : ∀ (l : List Sm) {env env' : Env} {m m' : Nat} {r r' : Bool}, runT us out l env m r = .ok (env', m', r') → m ≤ m' ∧ (m ≤ 64 → m' ≤ 64) ∧ (env.length ≤ m → env'.length ≤ m') := by
  intro l
  induction l with
  | nil => intro env env' m m' r r' h; rw [runT] at h; injection h with h; injection h with h1 h2; injection h2 with h2 h3; subst h1 h2; exact ⟨by omega, by omega, by omega⟩
  | cons s l ih =>
    intro env env' m m' r r' h
    rw [runT] at h
    cases hs : smT us out s env m with
    | bad q e => rw [hs] at h; cases h
    | ok z =>
      obtain ⟨e1, m1, r1⟩ := z
      rw [hs] at h
      obtain ⟨a1, a2, a3⟩ := smT_le us out s env m e1 m1 r1 hs
      obtain ⟨b1, b2, b3⟩ := ih h
      exact ⟨by omega, by omega, by omega⟩
/-- The operators of the third level: all but == and != begin with < or >. -/
theorem lv3 {t : ByteArray} (h : lv t.data.toList = 3) (h2 : ¬ (t = ⟨#[61, 61]⟩ ∨ t = ⟨#[33, 61]⟩)) : t.data.toList = [60] ∨ t.data.toList = [60, 61] ∨ t.data.toList = [62] ∨ t.data.toList = [62, 61] := by
  unfold lv at h
  repeat' (first | split at h)
  all_goals first | omega | skip
  rename_i h3
  rcases h3 with h3 | h3 | h3 | h3 | h3 | h3
  · exact .inl h3
  · exact .inr (.inl h3)
  · exact .inr (.inr (.inl h3))
  · exact .inr (.inr (.inr h3))
  · exact absurd (.inl (by rw [show t = ⟨t.data.toList.toArray⟩ by simp, h3])) h2
  · exact absurd (.inr (by rw [show t = ⟨t.data.toList.toArray⟩ by simp, h3])) h2
theorem lv45 {t : ByteArray} (h : 3 < lv t.data.toList) : ∃ c, t.data.toList = [c] ∧ (c = 43 ∨ c = 45 ∨ c = 42 ∨ c = 47 ∨ c = 37) := by
  unfold lv at h
  repeat' (first | split at h)
  all_goals first | omega | skip
  · rename_i h4
    rcases h4 with h4 | h4
    · exact ⟨43, h4, by simp⟩
    · exact ⟨45, h4, by simp⟩
  · rename_i h4
    rcases h4 with h4 | h4 | h4
    · exact ⟨42, h4, by simp⟩
    · exact ⟨47, h4, by simp⟩
    · exact ⟨37, h4, by simp⟩
theorem lv12 {t : ByteArray} (h : 1 ≤ lv t.data.toList) (h2 : lv t.data.toList ≤ 2) : t.data.toList = [124, 124] ∨ t.data.toList = [38, 38] := by
  by_cases h1 : t.data.toList = [124, 124]
  · exact .inl h1
  by_cases h3 : t.data.toList = [38, 38]
  · exact .inr h3
  exfalso
  unfold lv at h h2
  rw [if_neg h1, if_neg h3] at h h2
  repeat' (first | split at h2)
  all_goals first | omega | skip
  simp_all
end Go.Proofs.YtmngofgminlloaaGreatDoor
