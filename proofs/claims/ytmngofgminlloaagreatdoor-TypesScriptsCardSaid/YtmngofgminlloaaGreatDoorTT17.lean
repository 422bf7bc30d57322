/-
  The reference's table of the types that statements want: what it reads while its entries are put in, in any order.
  A region that draws its order, by an invariant over what has been done so far: for operations that commute though the worlds that they leave differ. Any program.
  Regions that draw their order: the slots by a table, and regions whose last operation waits for all others. Any program.
  The reference's table of wanted types, made in one region that draws its order: the invariant that its operations keep.
-/
import Derived.Test.YtmngofgminlloaaGreatDoorTT11
import Derived.Test.YtmngofgminlloaaGreatDoorTT15
import Derived.Orders
import Derived.Test.YtmngofgminlloaaGreatDoorTT03
set_option linter.all false
namespace Go.Proofs.YtmngofgminlloaaGreatDoor
open Go.RowKit Tw Go.Maps

/-- Block b is a map of n entries that reads f. -/
def TabF (w : World) (b n : Nat) (f : Int → Int) : Prop := ∃ D : TabD, w.ownsMap Tryz.prog 3 (plainElem Tryz.prog 3) b n D ∧ ∀ k : Int, (Lit.int .i64 k).wf = true → D.atKey (.int .i64 k) (.lit (.int .i64 0)) = .lit (.int .i64 (f k))
theorem TabF.made (w : World) : TabF (w.alloc (.map #[] 0)) w.heap.size 0 (fun _ => 0) := ⟨.map [], World.ownsMap_made _ _ _ _, fun _ _ => rfl⟩
theorem TabF.lt {w : World} {b n : Nat} {f : Int → Int} (h : TabF w b n f) : b < w.heap.size := by obtain ⟨D, h1, _⟩ := h; exact h1.lt
theorem TabF.kept {w w' : World} {b n : Nat} {f : Int → Int} {row : Option Nat} (h : TabF w b n f) (hg : w.grownBy w' row) (hr : row ≠ some b) : TabF w' b n f := by
  obtain ⟨D, h1, h2⟩ := h
  exact ⟨D, h1.kept hg (by first | exact hr | exact fun e => hr e.symm), h2⟩
theorem TabF.put {w : World} {b n : Nat} {f : Int → Int} (h : TabF w b n f) (hn : n < 100) (k v : Int) (hk : (Lit.int .i64 k).wf = true) (hv : (Lit.int .i64 v).wf = true) :
    ∃ w', (Instr.mapUpdate 207 (.map (some b)) (.int .i64 k) (.int .i64 v)).run Tryz.prog w = .ok () w' ∧ TabF w' b (n + 1) (fun j => if j = k then v else f j) ∧ w.grownBy w' (some b) := by
  obtain ⟨D, h1, h2⟩ := h
  obtain ⟨w', hr, h3, hg⟩ := tab_step h1 hn k v hk hv
  refine ⟨w', hr, ⟨_, h3, fun j hj => ?_⟩, hg⟩
  unfold tabPut
  simp only
  by_cases e : j = k
  · subst e
    rw [if_pos rfl, atKey_put_same h1.isMap (by trivial)]
  · rw [if_neg e, atKey_put_other (by intro he; injection he with _ he; exact e he)]
    exact h2 j hj
theorem TabF.look {w : World} {b n : Nat} {f : Int → Int} (h : TabF w b n f) (k : Int) (hk : (Lit.int .i64 k).wf = true) : (Instr.lookup 207 (.map (some b)) (.int .i64 k) false).run Tryz.prog w = .ok (.int .i64 (f k)) w := by
  obtain ⟨D, h1, h2⟩ := h
  obtain ⟨c, hrun, hat, _⟩ := h1.lookup_int tab_law Tryz.underlying207 Tryz.underlying3 (tab_zero w) (tab_key hk)
  have h5 := h2 k hk
  rw [hat] at h5
  have : c = f k := (Lit.int.inj (DataW.lit.inj h5)).2
  rw [← this]; exact hrun
def bn (b : Bool) : Nat := if b then 1 else 0
/-- The table, where so much of it has been put in. -/
def tabV (l3 l4 l5 l6 l2 : Bool) (out look : Int) (k : Int) : Int := if k = 3 then (if l3 then 2 else 0) else if k = 4 then (if l4 then 2 else 0) else if k = 5 then (if l5 then out else 0) else if k = 6 then (if l6 then 1 else 0) else if k = 2 then (if l2 then look else 0) else 0
def TabI (w : World) (b : Nat) (l3 l4 l5 l6 l2 : Bool) (out look : Int) : Prop := TabF w b (bn l3 + bn l4 + bn l5 + bn l6 + bn l2) (tabV l3 l4 l5 l6 l2 out look)
section
variable {w : World} {b : Nat} {l3 l4 l5 l6 l2 : Bool} {out lk : Int}
theorem TabI.made (w : World) (out lk : Int) : TabI (w.alloc (.map #[] 0)) w.heap.size false false false false false out lk := by
  have := TabF.made w
  unfold TabI
  rw [show tabV false false false false false out lk = fun _ => 0 by funext k; simp [tabV]]
  exact this
theorem bn_le (b : Bool) : bn b ≤ 1 := by cases b <;> decide
theorem TabI.put3 (h : TabI w b false l4 l5 l6 l2 out lk) : ∃ w', (Instr.mapUpdate 207 (.map (some b)) (.int .i64 3) (.int .i64 2)).run Tryz.prog w = .ok () w' ∧ TabI w' b true l4 l5 l6 l2 out lk ∧ w.grownBy w' (some b) := by
  have := bn_le l4; have := bn_le l5; have := bn_le l6; have := bn_le l2
  obtain ⟨w', hr, h1, hg⟩ := TabF.put h (by have : bn false = 0 := rfl; omega) 3 2 (by decide) (by decide)
  refine ⟨w', hr, ?_, hg⟩
  unfold TabI
  rw [show bn true + bn l4 + bn l5 + bn l6 + bn l2 = bn false + bn l4 + bn l5 + bn l6 + bn l2 + 1 by have : bn false = 0 := rfl; have : bn true = 1 := rfl; omega, show tabV true l4 l5 l6 l2 out lk = fun j => if j = 3 then 2 else tabV false l4 l5 l6 l2 out lk j by funext j; simp only [tabV]; split <;> simp_all]
  exact h1
theorem TabI.put4 (h : TabI w b l3 false l5 l6 l2 out lk) : ∃ w', (Instr.mapUpdate 207 (.map (some b)) (.int .i64 4) (.int .i64 2)).run Tryz.prog w = .ok () w' ∧ TabI w' b l3 true l5 l6 l2 out lk ∧ w.grownBy w' (some b) := by
  have := bn_le l3; have := bn_le l5; have := bn_le l6; have := bn_le l2
  obtain ⟨w', hr, h1, hg⟩ := TabF.put h (by have : bn false = 0 := rfl; omega) 4 2 (by decide) (by decide)
  refine ⟨w', hr, ?_, hg⟩
  unfold TabI
  rw [show bn l3 + bn true + bn l5 + bn l6 + bn l2 = bn l3 + bn false + bn l5 + bn l6 + bn l2 + 1 by have : bn false = 0 := rfl; have : bn true = 1 := rfl; omega, show tabV l3 true l5 l6 l2 out lk = fun j => if j = 4 then 2 else tabV l3 false l5 l6 l2 out lk j by
    funext j; simp only [tabV]; by_cases e : j = 4
    · subst e; simp
    · rw [if_neg e, if_neg e, if_neg e]]
  exact h1
theorem TabI.put5 (h : TabI w b l3 l4 false l6 l2 out lk) (ho : (Lit.int .i64 out).wf = true) : ∃ w', (Instr.mapUpdate 207 (.map (some b)) (.int .i64 5) (.int .i64 out)).run Tryz.prog w = .ok () w' ∧ TabI w' b l3 l4 true l6 l2 out lk ∧ w.grownBy w' (some b) := by
  have := bn_le l3; have := bn_le l4; have := bn_le l6; have := bn_le l2
  obtain ⟨w', hr, h1, hg⟩ := TabF.put h (by have : bn false = 0 := rfl; omega) 5 out (by decide) ho
  refine ⟨w', hr, ?_, hg⟩
  unfold TabI
  rw [show bn l3 + bn l4 + bn true + bn l6 + bn l2 = bn l3 + bn l4 + bn false + bn l6 + bn l2 + 1 by have : bn false = 0 := rfl; have : bn true = 1 := rfl; omega, show tabV l3 l4 true l6 l2 out lk = fun j => if j = 5 then out else tabV l3 l4 false l6 l2 out lk j by
    funext j; simp only [tabV]; by_cases e : j = 5
    · subst e; simp
    · rw [if_neg e, if_neg e, if_neg e]]
  exact h1
theorem TabI.put6 (h : TabI w b l3 l4 l5 false l2 out lk) : ∃ w', (Instr.mapUpdate 207 (.map (some b)) (.int .i64 6) (.int .i64 1)).run Tryz.prog w = .ok () w' ∧ TabI w' b l3 l4 l5 true l2 out lk ∧ w.grownBy w' (some b) := by
  have := bn_le l3; have := bn_le l4; have := bn_le l5; have := bn_le l2
  obtain ⟨w', hr, h1, hg⟩ := TabF.put h (by have : bn false = 0 := rfl; omega) 6 1 (by decide) (by decide)
  refine ⟨w', hr, ?_, hg⟩
  unfold TabI
  rw [show bn l3 + bn l4 + bn l5 + bn true + bn l2 = bn l3 + bn l4 + bn l5 + bn false + bn l2 + 1 by have : bn false = 0 := rfl; have : bn true = 1 := rfl; omega, show tabV l3 l4 l5 true l2 out lk = fun j => if j = 6 then 1 else tabV l3 l4 l5 false l2 out lk j by
    funext j; simp only [tabV]; by_cases e : j = 6
    · subst e; simp
    · rw [if_neg e, if_neg e, if_neg e]]
  exact h1
theorem TabI.put2 (h : TabI w b l3 l4 l5 l6 false out lk) (ho : (Lit.int .i64 lk).wf = true) : ∃ w', (Instr.mapUpdate 207 (.map (some b)) (.int .i64 2) (.int .i64 lk)).run Tryz.prog w = .ok () w' ∧ TabI w' b l3 l4 l5 l6 true out lk ∧ w.grownBy w' (some b) := by
  have := bn_le l3; have := bn_le l4; have := bn_le l5; have := bn_le l6
  obtain ⟨w', hr, h1, hg⟩ := TabF.put h (by have : bn false = 0 := rfl; omega) 2 lk (by decide) ho
  refine ⟨w', hr, ?_, hg⟩
  unfold TabI
  rw [show bn l3 + bn l4 + bn l5 + bn l6 + bn true = bn l3 + bn l4 + bn l5 + bn l6 + bn false + 1 by have : bn false = 0 := rfl; have : bn true = 1 := rfl; omega, show tabV l3 l4 l5 l6 true out lk = fun j => if j = 2 then lk else tabV l3 l4 l5 l6 false out lk j by
    funext j; simp only [tabV]; by_cases e : j = 2
    · subst e; simp
    · rw [if_neg e, if_neg e, if_neg e]]
  exact h1
theorem TabI.look (h : TabI w b true true true true true out lk) (k : Int) (hk : (Lit.int .i64 k).wf = true) : (Instr.lookup 207 (.map (some b)) (.int .i64 k) false).run Tryz.prog w = .ok (.int .i64 (tabV true true true true true out lk k)) w := TabF.look h k hk
end
end Go.Proofs.YtmngofgminlloaaGreatDoor

namespace Go.Proofs.YtmngofgminlloaaGreatDoor
open Go

section
variable {P : Program} {ops : Array Oper} {Q : Exit → Act → World → Prop} {md : Region.Mode}
/-- How many operations are still to come. -/
def toCome (ops : Array Oper) (listed : Array Bool) : Nat := ((List.range ops.size).filter fun i => !listed.getD i true).length
theorem ready_sub {listed : Array Bool} {i : Nat} (h : i ∈ Region.ready md ops listed) : i < ops.size ∧ listed.getD i true = false := by
  unfold Region.ready at h
  rw [List.mem_filter] at h
  simp at h
  exact ⟨h.1, by rw [Array.getD_eq_getD_getElem?]; exact h.2.1⟩
theorem toCome_set {listed : Array Bool} {i : Nat} (hi : i < ops.size) (h : listed.getD i true = false) : toCome ops (listed.setIfInBounds i true) < toCome ops listed := by
  have hlt : i < listed.size := by
    rcases Nat.lt_or_ge i listed.size with h' | h'
    · exact h'
    · rw [Array.getD_eq_getD_getElem?, Array.getElem?_eq_none h'] at h; cases h
  unfold toCome
  have hsub : ∀ l : List Nat, (l.filter fun j => !(listed.setIfInBounds i true).getD j true).length ≤ (l.filter fun j => !listed.getD j true).length ∧ (i ∈ l → (l.filter fun j => !(listed.setIfInBounds i true).getD j true).length < (l.filter fun j => !listed.getD j true).length) := by
    have hat : (listed.setIfInBounds i true).getD i true = true := by
      rw [Array.getD_eq_getD_getElem?]; simp [hlt]
    have hne : ∀ j, j ≠ i → (listed.setIfInBounds i true).getD j true = listed.getD j true := by
      intro j hj
      rw [Array.getD_eq_getD_getElem?, Array.getD_eq_getD_getElem?, Array.getElem?_setIfInBounds_ne (fun e => hj e.symm)]
    intro l
    induction l with
    | nil => exact ⟨Nat.le_refl _, fun h => by cases h⟩
    | cons j l ih =>
      by_cases hj : j = i
      · subst hj
        simp only [List.filter_cons, hat, h]
        simp only [Bool.not_true, Bool.not_false, Bool.false_eq_true, if_false, if_true, List.length_cons]
        exact ⟨by have := ih.1; omega, fun _ => by have := ih.1; omega⟩
      · simp only [List.filter_cons, hne j hj]
        refine ⟨?_, fun hm => ?_⟩
        · split
          · simp only [List.length_cons]; have := ih.1; omega
          · exact ih.1
        · have hm' : i ∈ l := by rcases List.mem_cons.1 hm with e | e; exact absurd e.symm hj; exact e
          split
          · simp only [List.length_cons]; have := ih.2 hm'; omega
          · exact ih.2 hm'
  exact (hsub _).2 (List.mem_range.2 hi)
theorem wpAny_inv (J : Array Bool → Act → World → Prop) (hstep : ∀ listed a w i, J listed a w → i ∈ Region.ready md ops listed → wpOp P ops Q i (J (listed.setIfInBounds i true)) a w)
    (hdone : ∀ listed a w, J listed a w → Region.ready md ops listed = [] → Q .normal a w) : ∀ (fuel : Nat) (listed : Array Bool) (a : Act) (w : World), toCome ops listed ≤ fuel → J listed a w → wpAny P md ops Q fuel listed a w := by
  intro fuel
  induction fuel with
  | zero =>
    intro listed a w hf hJ
    have hr : Region.ready md ops listed = [] := by
      apply List.eq_nil_iff_forall_not_mem.2
      intro i hi
      obtain ⟨h1, h2⟩ := ready_sub hi
      have := toCome_set h1 h2
      omega
    exact ⟨hr, hdone _ _ _ hJ hr⟩
  | succ fuel ih =>
    intro listed a w hf hJ
    refine ⟨fun hr => hdone _ _ _ hJ hr, fun i hi => ?_⟩
    obtain ⟨h1, h2⟩ := ready_sub hi
    have hlt := toCome_set (ops := ops) h1 h2
    exact wpOp_mono (fun a w h => ih _ a w (by omega) h) (hstep _ _ _ _ hJ hi)
/-- The same for a region. -/
theorem region_inv {id : Nat} {a : Act} {w : World} (hm : P.follows .mixedOrders = true) (J : Array Bool → Act → World → Prop) (h0 : J (Array.replicate ops.size false) a { w with drawn := w.drawn + 1 })
    (hstep : ∀ listed a w i, J listed a w → i ∈ Region.ready .any ops listed → wpOp P ops Q i (J (listed.setIfInBounds i true)) a w)
    (hdone : ∀ listed a w, J listed a w → Region.ready .any ops listed = [] → Q .normal a w) : (Code.region id ops true).wp P Q a w :=
  wp_region_any hm (wpAny_inv J hstep hdone ops.size _ a _ (by
    unfold toCome
    have := List.length_filter_le (fun i => !(Array.replicate ops.size false).getD i true) (List.range ops.size)
    simpa using this) h0)
end
end Go.Proofs.YtmngofgminlloaaGreatDoor

namespace Go.Proofs.YtmngofgminlloaaGreatDoor
open Go.RowKit

/-- What each operation that yields lays into its slot. -/
abbrev Tab9 : Type := List (Nat × Nat × Value)
/-- The slots: where an operation is listed, its slot holds what it yields; all other slots are as they were. -/
structure S9 (T : Tab9) (a0 : Act) (L : Array Bool) (a : Act) : Prop where
  df : a.defers = a0.defers
  az : a.tmps.size = a0.tmps.size
  tb : ∀ e ∈ T, L.getD e.1 false = true → a.tmps[e.2.1]? = some e.2.2
  un : ∀ k, (∀ e ∈ T, e.2.1 ≠ k) → a.tmps[k]? = a0.tmps[k]?
theorem getD_set {L : Array Bool} {i j : Nat} (h : j ≠ i) : (L.setIfInBounds i true).getD j false = L.getD j false := by
  rw [Array.getD_eq_getD_getElem?, Array.getD_eq_getD_getElem?, Array.getElem?_setIfInBounds_ne (fun e => h e.symm)]
theorem getD_set_same {L : Array Bool} {i : Nat} (h : i < L.size) : (L.setIfInBounds i true).getD i false = true := by
  rw [Array.getD_eq_getD_getElem?]; simp [h]
theorem S9.put {T : Tab9} {a0 a : Act} {L : Array Bool} (h1 : (T.map (·.1)).Nodup) (h2 : (T.map (·.2.1)).Nodup) (hz : ∀ e ∈ T, e.2.1 < a0.tmps.size) (h : S9 T a0 L a) (e : Nat × Nat × Value) (he : e ∈ T) : S9 T a0 (L.setIfInBounds e.1 true) (a.put (some e.2.1) e.2.2) := by
  have inj : ∀ {β : Type} (f : Nat × Nat × Value → β) (l : Tab9), (l.map f).Nodup → ∀ x ∈ l, ∀ y ∈ l, f x = f y → x = y := by
    intro β f l
    induction l with
    | nil => intro _ x hx; cases hx
    | cons z l ih =>
      intro hn x hx y hy e
      simp only [List.map_cons, List.nodup_cons] at hn
      rcases List.mem_cons.1 hx with h3 | h3
      · rcases List.mem_cons.1 hy with h4 | h4
        · rw [h3, h4]
        · exact absurd (by rw [← h3, e]; exact List.mem_map_of_mem h4) hn.1
      · rcases List.mem_cons.1 hy with h4 | h4
        · exact absurd (by rw [← h4, ← e]; exact List.mem_map_of_mem h3) hn.1
        · exact ih hn.2 x h3 y h4 e
  refine ⟨h.df, by simp [Act.put, h.az], fun e' he' hl => ?_, fun k hk => ?_⟩
  · by_cases h0 : e' = e
    · subst h0
      simp [Act.put, h.az, hz e' he']
    · have n1 : e'.1 ≠ e.1 := fun x => h0 (inj _ T h1 e' he' e he x)
      have n2 : e'.2.1 ≠ e.2.1 := fun x => h0 (inj _ T h2 e' he' e he x)
      rw [getD_set n1] at hl
      simp only [Act.put]
      rw [Array.getElem?_setIfInBounds_ne (fun x => n2 x.symm)]
      exact h.tb e' he' hl
  · simp only [Act.put]
    rw [Array.getElem?_setIfInBounds_ne (hk e he)]
    exact h.un k hk
theorem S9.skip {T : Tab9} {a0 a : Act} {L : Array Bool} (h : S9 T a0 L a) (i : Nat) (hi : ∀ e ∈ T, e.1 ≠ i) : S9 T a0 (L.setIfInBounds i true) a :=
  ⟨h.df, h.az, fun e he hl => h.tb e he (by rwa [getD_set (hi e he)] at hl), h.un⟩
theorem ready_dep {md : Region.Mode} {ops : Array Oper} {L : Array Bool} {i : Nat} (h : i ∈ Region.ready md ops L) {o : Oper} (ho : ops[i]? = some o) : ∀ e ∈ o.after.toList, Region.binds md e = true → L.getD e.on false = true := by
  unfold Region.ready at h
  rw [List.mem_filter] at h
  have h2 := h.2
  rw [ho] at h2
  simp only [Bool.and_eq_true, Option.map_some, Option.getD_some] at h2
  have h3 := h2.2
  intro e he hb
  rw [← Array.all_toList] at h3
  have := List.all_eq_true.1 h3 e he
  rw [hb] at this
  simpa using this
theorem wpOp_value {P : Program} {ops : Array Oper} {Q : Exit → Act → World → Prop} {i : Nat} {K : Act → World → Prop} {a : Act} {w w' : World} {o : Oper} {v : Value} (d : Nat) (ho : ops[i]? = some o) (hg : o.guard = none) (hd : o.dst = some d) (hr : (execOp a.eval o).run P w = .ok (.value v) w') (hK : K (a.put (some d) v) w') : wpOp P ops Q i K a w := by
  unfold wpOp
  rw [ho]
  simp only
  rw [if_pos (by simp [Region.wanted, hg])]
  exact .inl (by unfold Oper.wp; rw [hr]; show K (a.put o.dst v) w'; rw [hd]; exact hK)
theorem wpOp_skip {P : Program} {ops : Array Oper} {Q : Exit → Act → World → Prop} {i : Nat} {K : Act → World → Prop} {a : Act} {w w' : World} {o : Oper} (ho : ops[i]? = some o) (hg : o.guard = none) (hd : o.dst = none) (hr : (execOp a.eval o).run P w = .ok .skip w') (hK : K a w') : wpOp P ops Q i K a w := by
  unfold wpOp
  rw [ho]
  simp only
  rw [if_pos (by simp [Region.wanted, hg])]
  exact .inl (by unfold Oper.wp; rw [hr]; show K (a.put o.dst undef) w'; rw [hd]; exact hK)
theorem wpOp_call {P : Program} {ops : Array Oper} {Q : Exit → Act → World → Prop} {i : Nat} {K : Act → World → Prop} {a : Act} {w w' : World} {o : Oper} (f : FuncId) (args : Array Value) (ho : ops[i]? = some o) (hg : o.guard = none) (hr : (execOp a.eval o).run P w = .ok (.enter f args) w') (hK : Calls P f args w' fun
    | .returned v, w'' => K (a.put o.dst v) w''
    | .panicked chain, w'' => Q (.panic chain) a w''
    | .outgrown, _ => LetsOut Q) : wpOp P ops Q i K a w := by
  unfold wpOp
  rw [ho]
  simp only
  rw [if_pos (by simp [Region.wanted, hg])]
  exact .inl (by unfold Oper.wp; rw [hr]; exact hK)
theorem ready_nil {md : Region.Mode} {ops : Array Oper} {L : Array Bool} (h : Region.ready md ops L = []) {i : Nat} {o : Oper} (ho : ops[i]? = some o) (hz : i < L.size) (hd : ∀ e ∈ o.after.toList, L.getD e.on false = true) : L.getD i false = true := by
  cases hl : L.getD i false with
  | true => rfl
  | false =>
    exfalso
    have hm : i ∈ Region.ready md ops L := by
      unfold Region.ready
      rw [List.mem_filter]
      refine ⟨List.mem_range.2 (Array.getElem?_eq_some_iff.1 ho).1, ?_⟩
      have h1 : L.getD i true = false := by
        rw [Array.getD_eq_getD_getElem?] at hl ⊢
        rw [Array.getElem?_eq_getElem hz] at hl ⊢
        exact hl
      rw [h1, ho]
      simp only [Bool.not_false, Bool.true_and, Option.map_some, Option.getD_some]
      rw [← Array.all_toList]
      exact List.all_eq_true.2 fun e he => by rw [hd e he]; simp
    rw [h] at hm
    cases hm
theorem ready_lt {md : Region.Mode} {ops : Array Oper} {L : Array Bool} {i : Nat} (h : i ∈ Region.ready md ops L) (hz : i < L.size) : L.getD i false = false := by
  have := (ready_sub h).2
  rw [Array.getD_eq_getD_getElem?] at this ⊢
  rw [Array.getElem?_eq_getElem hz] at this ⊢
  exact this
theorem getD_mono {L : Array Bool} {i j : Nat} (h : L.getD j false = true) : (L.setIfInBounds i true).getD j false = true := by
  by_cases e : j = i
  · subst e
    have hz : j < L.size := by
      rcases Nat.lt_or_ge j L.size with h' | h'
      · exact h'
      · rw [Array.getD_eq_getD_getElem?, Array.getElem?_eq_none h'] at h; cases h
    exact getD_set_same hz
  · rw [getD_set e]; exact h
theorem getD_none (n j : Nat) : (Array.replicate n false).getD j false = false := by
  rw [Array.getD_eq_getD_getElem?]
  by_cases h : j < n
  · simp [h]
  · simp [h]
theorem S9.start (T : Tab9) (a : Act) (n : Nat) : S9 T a (Array.replicate n false) a := ⟨rfl, rfl, (fun e _ h => by rw [getD_none] at h; cases h), fun _ _ => rfl⟩
/-- Each operation that is listed has those listed on which it waits. -/
def Clo (ops : Array Oper) (L : Array Bool) : Prop := ∀ (i : Nat) (o : Oper), ops[i]? = some o → L.getD i false = true → ∀ e ∈ o.after.toList, Region.binds .any e = true → L.getD e.on false = true
theorem Clo.start (ops : Array Oper) (n : Nat) : Clo ops (Array.replicate n false) := fun i o _ h => by rw [getD_none] at h; cases h
theorem Clo.next {ops : Array Oper} {L : Array Bool} (h : Clo ops L) {i : Nat} (hi : i ∈ Region.ready .any ops L) : Clo ops (L.setIfInBounds i true) := by
  intro j o ho hj e he hb
  by_cases hji : j = i
  · subst hji
    exact getD_mono (ready_dep hi ho e he hb)
  · rw [getD_set hji] at hj
    exact getD_mono (h j o ho hj e he hb)
/-- A region whose last operation waits for all others, of which none turns the world. -/
theorem region_last {P : Program} {ops : Array Oper} {Q : Exit → Act → World → Prop} {id : Nat} {a : Act} {w : World} (hm : P.follows .mixedOrders = true) (n : Nat) (hsz : ops.size = n + 1) (J : Array Bool → Act → Prop) (h0 : J (Array.replicate ops.size false) a)
    (hstep : ∀ L a i, L.size = n + 1 → J L a → i ∈ Region.ready .any ops L → i < n → wpOp P ops Q i (fun a' w' => J (L.setIfInBounds i true) a' ∧ w' = w.drew) a w.drew)
    (hlast : ∀ L a, L.size = n + 1 → J L a → n ∈ Region.ready .any ops L → (∀ i, i < n → L.getD i false = true) ∧ wpOp P ops Q n (fun a' w' => Q .normal a' w') a w.drew)
    (hnil : ∀ L a, L.size = n + 1 → J L a → Region.ready .any ops L = [] → L.getD n false = true) : (Code.region id ops true).wp P Q a w := by
  refine region_inv hm (fun L a' w' => L.size = n + 1 ∧ ((L.getD n false = false ∧ J L a' ∧ w' = w.drew) ∨ ((∀ i, i < n + 1 → L.getD i false = true) ∧ Q .normal a' w'))) ?_ ?_ ?_
  · exact ⟨by simp [hsz], .inl ⟨getD_none _ _, h0, rfl⟩⟩
  · rintro L a' w' i ⟨hz, h⟩ hi
    have hlt := (ready_sub hi).1
    have hli := ready_lt hi (by omega)
    rcases h with ⟨h1, h2, rfl⟩ | ⟨h1, h2⟩
    · by_cases hin : i = n
      · subst hin
        obtain ⟨hall, hw⟩ := hlast L a' hz h2 hi
        refine wpOp_mono ?_ hw
        intro a2 w2 hq
        refine ⟨by simpa using hz, .inr ⟨fun j hj => ?_, hq⟩⟩
        by_cases hji : j = i
        · subst hji; exact getD_set_same (by omega)
        · exact getD_mono (hall j (by omega))
      · refine wpOp_mono ?_ (hstep L a' i hz h2 hi (by omega))
        rintro a2 w2 ⟨hj, hw⟩
        exact ⟨by simpa using hz, .inl ⟨by rw [getD_set (fun e => hin e.symm)]; exact h1, hj, hw⟩⟩
    · exfalso
      rw [h1 i (by omega)] at hli
      cases hli
  · rintro L a' w' ⟨hz, h⟩ hr
    rcases h with ⟨h1, h2, rfl⟩ | ⟨h1, h2⟩
    · have := hnil L a' hz h2 hr
      rw [h1] at this; cases this
    · exact h2
/-- The same, the slots by a table. -/
theorem region_tab {P : Program} {ops : Array Oper} {Q : Exit → Act → World → Prop} {id : Nat} {a0 : Act} {w : World} (hm : P.follows .mixedOrders = true) (n : Nat) (hsz : ops.size = n + 1) (T : Tab9)
    (hstep : ∀ L a i, L.size = n + 1 → (S9 T a0 L a ∧ Clo ops L) → i ∈ Region.ready .any ops L → i < n → wpOp P ops Q i (fun a' w' => (S9 T a0 (L.setIfInBounds i true) a' ∧ Clo ops (L.setIfInBounds i true)) ∧ w' = w.drew) a w.drew)
    (hlast : ∀ L a, L.size = n + 1 → (S9 T a0 L a ∧ Clo ops L) → n ∈ Region.ready .any ops L → (∀ i, i < n → L.getD i false = true) ∧ wpOp P ops Q n (fun a' w' => Q .normal a' w') a w.drew)
    (hnil : ∀ L a, L.size = n + 1 → (S9 T a0 L a ∧ Clo ops L) → Region.ready .any ops L = [] → L.getD n false = true) : (Code.region id ops true).wp P Q a0 w :=
  region_last hm n hsz (fun L a => S9 T a0 L a ∧ Clo ops L) ⟨S9.start _ _ _, Clo.start _ _⟩ hstep hlast hnil
/-- Slots are as they were, but for a run of them. -/
theorem act_run {a0 a : Act} {lo hi : Nat} (hd : a.defers = a0.defers) (hz : a.tmps.size = a0.tmps.size) (hu : ∀ k, k < lo ∨ hi < k → a.tmps[k]? = a0.tmps[k]?) : a = ⟨(List.range' lo (hi + 1 - lo)).foldl (fun t k => t.setIfInBounds k (a.tmps.getD k undef)) a0.tmps, a0.defers⟩ := by
  have key : ∀ (n lo : Nat) (t : Array Value), t.size = a.tmps.size → (∀ k, k < lo ∨ lo + n ≤ k → a.tmps[k]? = t[k]?) → a.tmps = (List.range' lo n).foldl (fun t k => t.setIfInBounds k (a.tmps.getD k undef)) t := by
    intro n
    induction n with
    | zero => intro lo t _ h; simp only [List.range'_zero, List.foldl_nil]; exact Array.ext_getElem? fun k => h k (by omega)
    | succ n ih =>
      intro lo t hs h
      rw [List.range'_succ, List.foldl_cons]
      refine ih (lo + 1) _ (by simpa using hs) fun k hk => ?_
      by_cases e : k = lo
      · subst e
        by_cases hk2 : k < t.size
        · simp [hk2, Array.getD_eq_getD_getElem?, show k < a.tmps.size by omega]
        · rw [Array.getElem?_eq_none (by omega), Array.getElem?_eq_none (by simp; omega)]
      · rw [Array.getElem?_setIfInBounds_ne (fun x => e x.symm)]
        exact h k (by omega)
  cases a with | mk tm df =>
  simp only at hd hz hu ⊢
  subst hd
  congr 1
  exact key (hi + 1 - lo) lo a0.tmps hz.symm fun k hk => hu k (by omega)
end Go.Proofs.YtmngofgminlloaaGreatDoor

namespace Go.Proofs.YtmngofgminlloaaGreatDoor
open Go.RowKit Tw Go.Maps

/-- The world: the new map block and what it reads; all else is kept. -/
structure W9 (w0 : World) (out lk : Int) (L : Array Bool) (w : World) : Prop where
  bel : Below w0.heap.size w0 w
  no : L.getD 0 false = false → w.heap.size = w0.heap.size ∧ L.getD 1 false = false ∧ L.getD 2 false = false ∧ L.getD 7 false = false ∧ L.getD 8 false = false ∧ L.getD 13 false = false
  yes : L.getD 0 false = true → TabI w w0.heap.size (L.getD 1 false) (L.getD 2 false) (L.getD 7 false) (L.getD 8 false) (L.getD 13 false) out lk
section
variable {w0 w : World} {out lk : Int} {L : Array Bool}
theorem W9.skip (h : W9 w0 out lk L w) (i : Nat) (hi : i ≠ 0 ∧ i ≠ 1 ∧ i ≠ 2 ∧ i ≠ 7 ∧ i ≠ 8 ∧ i ≠ 13) : W9 w0 out lk (L.setIfInBounds i true) w := by
  obtain ⟨i0, i1, i2, i7, i8, i13⟩ := hi
  refine ⟨h.bel, ?_, ?_⟩
  · rw [getD_set i0.symm, getD_set i1.symm, getD_set i2.symm, getD_set i7.symm, getD_set i8.symm, getD_set i13.symm]; exact h.no
  · rw [getD_set i0.symm, getD_set i1.symm, getD_set i2.symm, getD_set i7.symm, getD_set i8.symm, getD_set i13.symm]; exact h.yes
theorem W9.make (hz : 0 < L.size) (h : W9 w0 out lk L w) (h0 : L.getD 0 false = false) : w.heap.size = w0.heap.size ∧ W9 w0 out lk (L.setIfInBounds 0 true) (w.alloc (.map #[] 0)) := by
  obtain ⟨e0, e1, e2, e7, e8, e13⟩ := h.no h0
  refine ⟨e0, h.bel.alloc (by have := h.bel.size; omega) _, fun h' => ?_, fun _ => ?_⟩
  · rw [getD_set_same hz] at h'; cases h'
  · rw [getD_set (by decide), getD_set (by decide), getD_set (by decide), getD_set (by decide), getD_set (by decide), e1, e2, e7, e8, e13, ← e0]
    exact TabI.made w out lk
theorem W9.grown {w' : World} {b : Nat} (h : W9 w0 out lk L w) (hb : w0.heap.size ≤ b) (hg : w.grownBy w' (some b)) : Below w0.heap.size w0 w' :=
  ⟨hg.os.trans h.bel.os, hg.tape.trans h.bel.tape, hg.output.trans h.bel.output, Nat.le_trans h.bel.size hg.size, fun k hk => (hg.block k (Nat.lt_of_lt_of_le hk h.bel.size) (by simp; omega)).trans (h.bel.block k hk)⟩
theorem W9.ins3 (hz : 13 < L.size) (h : W9 w0 out lk L w) (h0 : L.getD 0 false = true) (hi : L.getD 1 false = false) : ∃ w', (Instr.mapUpdate 207 (.map (some w0.heap.size)) (.int .i64 3) (.int .i64 2)).run Tryz.prog w = .ok () w' ∧ W9 w0 out lk (L.setIfInBounds 1 true) w' := by
  have ht := h.yes h0
  rw [hi] at ht
  obtain ⟨w', hr, h1, hg⟩ := ht.put3
  refine ⟨w', hr, h.grown (Nat.le_refl _) hg, fun h' => ?_, fun _ => ?_⟩
  · rw [getD_set (by decide), h0] at h'; cases h'
  · rw [getD_set_same (by omega), getD_set (by decide), getD_set (by decide), getD_set (by decide), getD_set (by decide)]; exact h1
theorem W9.ins4 (hz : 13 < L.size) (h : W9 w0 out lk L w) (h0 : L.getD 0 false = true) (hi : L.getD 2 false = false) : ∃ w', (Instr.mapUpdate 207 (.map (some w0.heap.size)) (.int .i64 4) (.int .i64 2)).run Tryz.prog w = .ok () w' ∧ W9 w0 out lk (L.setIfInBounds 2 true) w' := by
  have ht := h.yes h0
  rw [hi] at ht
  obtain ⟨w', hr, h1, hg⟩ := ht.put4
  refine ⟨w', hr, h.grown (Nat.le_refl _) hg, fun h' => ?_, fun _ => ?_⟩
  · rw [getD_set (by decide), h0] at h'; cases h'
  · rw [getD_set_same (by omega), getD_set (by decide), getD_set (by decide), getD_set (by decide), getD_set (by decide)]; exact h1
theorem W9.ins5 (ho : (Lit.int .i64 out).wf = true) (hz : 13 < L.size) (h : W9 w0 out lk L w) (h0 : L.getD 0 false = true) (hi : L.getD 7 false = false) : ∃ w', (Instr.mapUpdate 207 (.map (some w0.heap.size)) (.int .i64 5) (.int .i64 out)).run Tryz.prog w = .ok () w' ∧ W9 w0 out lk (L.setIfInBounds 7 true) w' := by
  have ht := h.yes h0
  rw [hi] at ht
  obtain ⟨w', hr, h1, hg⟩ := ht.put5 ho
  refine ⟨w', hr, h.grown (Nat.le_refl _) hg, fun h' => ?_, fun _ => ?_⟩
  · rw [getD_set (by decide), h0] at h'; cases h'
  · rw [getD_set_same (by omega), getD_set (by decide), getD_set (by decide), getD_set (by decide), getD_set (by decide)]; exact h1
theorem W9.ins6 (hz : 13 < L.size) (h : W9 w0 out lk L w) (h0 : L.getD 0 false = true) (hi : L.getD 8 false = false) : ∃ w', (Instr.mapUpdate 207 (.map (some w0.heap.size)) (.int .i64 6) (.int .i64 1)).run Tryz.prog w = .ok () w' ∧ W9 w0 out lk (L.setIfInBounds 8 true) w' := by
  have ht := h.yes h0
  rw [hi] at ht
  obtain ⟨w', hr, h1, hg⟩ := ht.put6
  refine ⟨w', hr, h.grown (Nat.le_refl _) hg, fun h' => ?_, fun _ => ?_⟩
  · rw [getD_set (by decide), h0] at h'; cases h'
  · rw [getD_set_same (by omega), getD_set (by decide), getD_set (by decide), getD_set (by decide), getD_set (by decide)]; exact h1
theorem W9.ins2 (ho : (Lit.int .i64 lk).wf = true) (hz : 13 < L.size) (h : W9 w0 out lk L w) (h0 : L.getD 0 false = true) (hi : L.getD 13 false = false) : ∃ w', (Instr.mapUpdate 207 (.map (some w0.heap.size)) (.int .i64 2) (.int .i64 lk)).run Tryz.prog w = .ok () w' ∧ W9 w0 out lk (L.setIfInBounds 13 true) w' := by
  have ht := h.yes h0
  rw [hi] at ht
  obtain ⟨w', hr, h1, hg⟩ := ht.put2 ho
  refine ⟨w', hr, h.grown (Nat.le_refl _) hg, fun h' => ?_, fun _ => ?_⟩
  · rw [getD_set (by decide), h0] at h'; cases h'
  · rw [getD_set_same (by omega), getD_set (by decide), getD_set (by decide), getD_set (by decide), getD_set (by decide)]; exact h1
end
/-- Which operation lays what, at these values. -/
def tab9 (cb bm bx bt : Nat) (out lk kd v : Int) (nm : ByteArray) : Tab9 := [(0, 33, .map (some bt)), (3, 34, .pointer (some ⟨cb, 0, none⟩)), (4, 35, .pointer (some ⟨cb, 0, none⟩)), (5, 36, .pointer (some ⟨cb, 1, none⟩)), (6, 37, .int .i64 out), (9, 38, .map (some bm)), (10, 39, .pointer (some ⟨bx, 1, none⟩)), (11, 40, .string nm), (12, 41, .int .i64 lk), (14, 42, .map (some bt)), (15, 43, .pointer (some ⟨bx, 0, none⟩)), (16, 44, .int .i64 kd), (17, 45, .int .i64 v), (18, 12, .int .i64 v)]
/-- Where the table has been named, it has been made whole. -/
def C9 (L : Array Bool) : Prop := L.getD 14 false = true → L.getD 0 false = true ∧ L.getD 1 false = true ∧ L.getD 2 false = true ∧ L.getD 7 false = true ∧ L.getD 8 false = true ∧ L.getD 13 false = true
theorem C9.skip {L : Array Bool} (h : C9 L) (i : Nat) (hi : i ≠ 14) : C9 (L.setIfInBounds i true) := fun h' => by
  rw [getD_set (fun e => hi e.symm)] at h'
  obtain ⟨a0, a1, a2, a7, a8, a13⟩ := h h'
  exact ⟨getD_mono a0, getD_mono a1, getD_mono a2, getD_mono a7, getD_mono a8, getD_mono a13⟩
theorem C9.named {L : Array Bool} (a0 : L.getD 0 false = true) (a1 : L.getD 1 false = true) (a2 : L.getD 2 false = true) (a7 : L.getD 7 false = true) (a8 : L.getD 8 false = true) (a13 : L.getD 13 false = true) : C9 (L.setIfInBounds 14 true) := fun _ => ⟨getD_mono a0, getD_mono a1, getD_mono a2, getD_mono a7, getD_mono a8, getD_mono a13⟩
theorem W9.start (w : World) (out lk : Int) (n : Nat) : W9 w out lk (Array.replicate n false) w := ⟨Below.refl _ _, fun _ => ⟨rfl, getD_none _ _, getD_none _ _, getD_none _ _, getD_none _ _, getD_none _ _⟩, (fun h => by rw [getD_none] at h; cases h)⟩
theorem C9.start (n : Nat) : C9 (Array.replicate n false) := fun h => by rw [getD_none] at h; cases h
/-- The slots in the end. -/
theorem S9.whole {cb bm bx bt : Nat} {out lk kd v : Int} {nm : ByteArray} {a0 a : Act} {L : Array Bool} (h : S9 (tab9 cb bm bx bt out lk kd v nm) a0 L a) (hz : 45 < a0.tmps.size) (hl : ∀ e ∈ tab9 cb bm bx bt out lk kd v nm, L.getD e.1 false = true) :
    a = Act.mk ((((((((((((((a0.tmps.setIfInBounds 12 (.int .i64 v)).setIfInBounds 33 (.map (some bt))).setIfInBounds 34 (.pointer (some ⟨cb, 0, none⟩))).setIfInBounds 35 (.pointer (some ⟨cb, 0, none⟩))).setIfInBounds 36 (.pointer (some ⟨cb, 1, none⟩))).setIfInBounds 37 (.int .i64 out)).setIfInBounds 38 (.map (some bm))).setIfInBounds 39 (.pointer (some ⟨bx, 1, none⟩))).setIfInBounds 40 (.string nm)).setIfInBounds 41 (.int .i64 lk)).setIfInBounds 42 (.map (some bt))).setIfInBounds 43 (.pointer (some ⟨bx, 0, none⟩))).setIfInBounds 44 (.int .i64 kd)).setIfInBounds 45 (.int .i64 v)) a0.defers := by
  have key : a.tmps = ((((((((((((((a0.tmps.setIfInBounds 12 (.int .i64 v)).setIfInBounds 33 (.map (some bt))).setIfInBounds 34 (.pointer (some ⟨cb, 0, none⟩))).setIfInBounds 35 (.pointer (some ⟨cb, 0, none⟩))).setIfInBounds 36 (.pointer (some ⟨cb, 1, none⟩))).setIfInBounds 37 (.int .i64 out)).setIfInBounds 38 (.map (some bm))).setIfInBounds 39 (.pointer (some ⟨bx, 1, none⟩))).setIfInBounds 40 (.string nm)).setIfInBounds 41 (.int .i64 lk)).setIfInBounds 42 (.map (some bt))).setIfInBounds 43 (.pointer (some ⟨bx, 0, none⟩))).setIfInBounds 44 (.int .i64 kd)).setIfInBounds 45 (.int .i64 v)) := by
    have t := fun e he => h.tb e he (hl e he)
    simp only [tab9, List.forall_mem_cons, List.not_mem_nil, false_implies, implies_true, and_true] at t
    obtain ⟨t0, t1, t2, t3, t4, t5, t6, t7, t8, t9, t10, t11, t12, t13⟩ := t
    apply Array.ext_getElem?
    intro k
    by_cases hk : k = 12 ∨ (33 ≤ k ∧ k ≤ 45)
    · have hc : k = 12 ∨ k = 33 ∨ k = 34 ∨ k = 35 ∨ k = 36 ∨ k = 37 ∨ k = 38 ∨ k = 39 ∨ k = 40 ∨ k = 41 ∨ k = 42 ∨ k = 43 ∨ k = 44 ∨ k = 45 := by omega
      rcases hc with rfl | rfl | rfl | rfl | rfl | rfl | rfl | rfl | rfl | rfl | rfl | rfl | rfl | rfl
      all_goals
        simp [Array.getElem?_setIfInBounds, *]
        try omega
    · have hu := h.un k (by
        intro e he
        simp only [tab9, List.mem_cons, List.mem_nil_iff, or_false] at he
        rcases he with rfl | rfl | rfl | rfl | rfl | rfl | rfl | rfl | rfl | rfl | rfl | rfl | rfl | rfl <;> (simp only; omega))
      rw [hu]
      rw [Array.getElem?_setIfInBounds_ne (by omega), Array.getElem?_setIfInBounds_ne (by omega), Array.getElem?_setIfInBounds_ne (by omega), Array.getElem?_setIfInBounds_ne (by omega), Array.getElem?_setIfInBounds_ne (by omega), Array.getElem?_setIfInBounds_ne (by omega), Array.getElem?_setIfInBounds_ne (by omega), Array.getElem?_setIfInBounds_ne (by omega), Array.getElem?_setIfInBounds_ne (by omega), Array.getElem?_setIfInBounds_ne (by omega), Array.getElem?_setIfInBounds_ne (by omega), Array.getElem?_setIfInBounds_ne (by omega), Array.getElem?_setIfInBounds_ne (by omega), Array.getElem?_setIfInBounds_ne (by omega)]
  cases a with | mk tm df =>
  simp only at key
  have := h.df
  simp only at this
  rw [key, this]
end Go.Proofs.YtmngofgminlloaaGreatDoor
