/-
  Scripts that came in: from how they read as data to where they lie in memory.
-/
import Derived.Test.YtmngofgminlloaaGreatDoorTT11
import Derived.ChangeArms
import Derived.SliceStrings
import Derived.ChangeSlices
set_option linter.all false
namespace Go.Proofs.YtmngofgminlloaaGreatDoor
open Go.RowKit Tw

theorem list_of {α : Type} {P : Nat → α → Prop} : ∀ n, (∀ i, i < n → ∃ p, P i p) → ∃ l : List α, l.length = n ∧ ∀ i p, l[i]? = some p → P i p
  | 0, _ => ⟨[], rfl, fun i p h => by simp at h⟩
  | n + 1, h => by
    obtain ⟨l, hl, hp⟩ := list_of n (fun i hi => h i (by omega))
    obtain ⟨p, hpn⟩ := h n (by omega)
    refine ⟨l ++ [p], by simp [hl], fun i q hq => ?_⟩
    by_cases hi : i < n
    · rw [List.getElem?_append_left (by omega)] at hq; exact hp i q hq
    · have hlt : i < (l ++ [p]).length := by rcases Nat.lt_or_ge i (l ++ [p]).length with h | h; exact h; rw [List.getElem?_eq_none h] at hq; cases hq
      have e : i = n := by simp [hl] at hlt; omega
      subst e
      rw [List.getElem?_append_right (by omega)] at hq
      simp [hl] at hq
      subst hq
      exact hpn
theorem cells_at {w : World} {a : Addr} {n : Nat} {cs : List Value} (h : w.cells? 0 a n = some cs) (hn : 0 < n) : ∃ g off, a = ⟨g, off, none⟩ ∧ g < w.heap.size ∧ cs.length = n ∧ CellsAt w g off cs := by
  obtain ⟨_, hl, hc⟩ := World.cells?_some h
  have h0 := hc 0 hn
  obtain ⟨v, hv⟩ : ∃ v, cs[0]? = some v := ⟨_, List.getElem?_eq_getElem (by omega)⟩
  rw [hv] at h0
  have hs : a.spot = none := by have := World.cell?_spot h0; simpa [Addr.add] using this
  obtain ⟨g, off, spot⟩ := a
  simp only at hs
  subst hs
  have e : ∀ j, (⟨g, off, none⟩ : Addr).add j = ⟨g, off + j, none⟩ := fun j => by unfold Addr.add; split <;> simp_all
  refine ⟨g, off, rfl, ?_, hl, fun j u hu => ?_⟩
  · have := World.block_lt_of_cell? w _ h0
    rwa [e] at this
  · have hj : j < cs.length := by rcases Nat.lt_or_ge j cs.length with h | h; exact h; rw [List.getElem?_eq_none h] at hu; cases hu
    have := hc j (by omega)
    rw [e, hu] at this
    exact this
theorem add_at (g off j : Nat) : (⟨g, off, none⟩ : Addr).add j = ⟨g, off + j, none⟩ := by unfold Addr.add; split <;> simp_all
theorem list5 {α : Type} {l : List α} (h : l.length = 5) : ∃ a b c d e, l = [a, b, c, d, e] := by
  match l, h with
  | [a, b, c, d, e], _ => exact ⟨a, b, c, d, e, rfl⟩
theorem list6 {α : Type} {l : List α} (h : l.length = 6) : ∃ a b c d e f, l = [a, b, c, d, e, f] := by
  match l, h with
  | [a, b, c, d, e, f], _ => exact ⟨a, b, c, d, e, f, rfl⟩
theorem list10 {α : Type} {l : List α} (h : l.length = 10) : ∃ a b c d e f g i j k, l = [a, b, c, d, e, f, g, i, j, k] := by
  match l, h with
  | [a, b, c, d, e, f, g, i, j, k], _ => exact ⟨a, b, c, d, e, f, g, i, j, k, rfl⟩
theorem weightsAll_mem {H : Type} {P : Program} {e : TypeId} {d : DataW H} : ∀ {l : List (DataW H)}, d ∈ l → ∀ y ∈ d.weights P e, y ∈ DataW.weightsAll P e l := by
  intro l
  induction l with
  | nil => intro h; cases h
  | cons a l ih =>
    intro h y hy
    rw [DataW.weightsAll]
    rcases List.mem_cons.1 h with rfl | h
    · exact List.mem_append_left _ hy
    · exact List.mem_append_right _ (ih h y hy)
/-- No weight is beyond reach. -/
abbrev Lig (l : List Nat) : Prop := ∀ y ∈ l, y ≤ reachBytes
variable {H : Type} {enc : TypeId × Value → H} {w : World}
/-- A slice that came in: its elements, one by one. -/
theorem open_sl {t e : TypeId} {c : Nat} (ht : Tryz.prog.underlying t = some (.slice e)) (hc : Tryz.prog.cellsOf e = c) (_ : 0 < c) (hby : 0 < Tryz.prog.bytesOf e) {fuel : Nat} {cs : List Value} {x : DataW H × List MemPlace}
    (h : DataW.trod enc Tryz.prog w 0 (fun _ => true) true fuel t cs = some x) (hw : Lig (x.1.weights Tryz.prog t)) :
    (cs = [.slice none 0 0]) ∨ ∃ (a : Addr) (len cap n : Nat), fuel = n + 1 ∧ cs = [.slice (some a) len cap] ∧ len ≤ cap ∧ len ≤ 281474976710656 ∧
      ∀ i, i < len → ∃ cs' y, w.cells? 0 (a.add (i * c)) c = some cs' ∧ DataW.trod enc Tryz.prog w 0 (fun _ => true) true n e cs' = some y ∧ Lig (y.1.weights Tryz.prog e) := by
  rcases DataW.trod_slice ht h with ⟨rfl, rfl⟩ | ⟨a, len, cap, elems, rest, n, rfl, rfl, rfl, hb, hl, hm, hlen, hel, -, -⟩
  · exact .inl rfl
  · right
    rw [hc] at hel
    have hw' : Lig ((((elems.map (·.1)).length + (rest.map (·.1)).length) * Tryz.prog.bytesOf e) :: (DataW.weightsAll Tryz.prog e (elems.map (·.1)) ++ DataW.weightsAll Tryz.prog e (rest.map (·.1)))) := by
      have := hw
      unfold DataW.weights at this
      rw [ht] at this
      exact this
    refine ⟨a, len, cap, n, rfl, rfl, hl, ?_, fun i hi => ?_⟩
    · have h1 := hw' _ (List.mem_cons_self ..)
      simp only [List.length_map] at h1
      have h2 : len ≤ (elems.length + rest.length) * Tryz.prog.bytesOf e := by
        rw [hlen]
        exact Nat.le_trans (Nat.le_add_right _ _) (Nat.le_mul_of_pos_right _ hby)
      have h3 : reachBytes = 140737488351232 := rfl
      omega
    · obtain ⟨y, hy⟩ : ∃ y, elems[i]? = some y := ⟨_, List.getElem?_eq_getElem (by omega)⟩
      have := hel i hi
      rw [hy] at this
      obtain ⟨cs', h1, h2⟩ := Option.bind_eq_some_iff.1 this
      exact ⟨cs', y, h1, h2, fun z hz => hw' z (List.mem_cons_of_mem _ (List.mem_append_left _ (weightsAll_mem (List.mem_map_of_mem (List.mem_of_getElem? hy)) z hz)))⟩
set_option maxRecDepth 100000 in
theorem open_exs : ∀ (fuel : Nat) (cs : List Value) (x : DataW H × List MemPlace), DataW.trod enc Tryz.prog w 0 (fun _ => true) true fuel 184 cs = some x → Lig (x.1.weights Tryz.prog 184) →
    ∃ a l c, cs = [.slice a l.length c] ∧ l.length ≤ c ∧ l.length ≤ 281474976710656 ∧ ArgsIn w (fun _ => True) (.slice a l.length c) l ∧ ∀ e ∈ l, ExZ e := by
  intro fuel
  induction fuel using Nat.strongRecOn with
  | ind fuel ih =>
    intro cs x h hw
    rcases open_sl Tryz.underlying184 (c := 5) (by kernel_rfl) (by decide) (of_decide_eq_true (by kernel_rfl)) h hw with rfl | ⟨a, len, cap, n, rfl, rfl, hl, hlen, hel⟩
    · exact ⟨none, [], 0, rfl, Nat.le_refl _, by simp, .nil _ _, fun e he => by cases he⟩
    · have hat : ∀ i, i < len → ∃ p : Ex × Value, ∃ g off, a = ⟨g, off, none⟩ ∧ g < w.heap.size ∧ CellsAt w g (off + i * 5) (exCells p.1 p.2) ∧ ArgsIn w (fun _ => True) p.2 p.1.args ∧ ExZ p.1 := by
        intro i hi
        obtain ⟨cs0, y0, h0, -, -⟩ := hel 0 (by omega)
        obtain ⟨cs', y, h1, h2, h3⟩ := hel i hi
        obtain ⟨g, off, ha, hg, -, -⟩ := cells_at h0 (by decide)
        obtain ⟨g', off', ha', -, hcl, hca⟩ := cells_at h1 (by decide)
        rw [Nat.zero_mul] at ha
        have ha0 : a = ⟨g, off, none⟩ := by
          obtain ⟨ga, oa, sa⟩ := a
          unfold Addr.add at ha
          split at ha <;> simp_all
        subst ha0
        rw [add_at] at ha'
        obtain ⟨rfl, rfl⟩ : g = g' ∧ off + i * 5 = off' := by injection ha' with e1 e2; exact ⟨e1, e2⟩
        obtain ⟨v0, v1, v2, v3, v4, rfl⟩ := list5 hcl
        obtain ⟨xs, n', rfl, hx, -, hxl, hf⟩ := DataW.trod_struct Tryz.underlying186 h2
        obtain ⟨x0, x1, x2, x3, x4, rfl⟩ := list5 (l := xs) hxl
        have f0 : DataW.trod enc Tryz.prog w 0 (fun _ => true) true n' 3 [v0] = some x0 := hf 0 _ rfl
        have f1 : DataW.trod enc Tryz.prog w 0 (fun _ => true) true n' 3 [v1] = some x1 := hf 1 _ rfl
        have f2 : DataW.trod enc Tryz.prog w 0 (fun _ => true) true n' 9 [v2] = some x2 := hf 2 _ rfl
        have f3 : DataW.trod enc Tryz.prog w 0 (fun _ => true) true n' 184 [v3] = some x3 := hf 3 _ rfl
        have f4 : DataW.trod enc Tryz.prog w 0 (fun _ => true) true n' 3 [v4] = some x4 := hf 4 _ rfl
        obtain ⟨k, e0, -, wk⟩ := DataW.trod_int Tryz.underlying3 f0
        obtain ⟨nn, e1, -, -⟩ := DataW.trod_int Tryz.underlying3 f1
        obtain ⟨s, e2, -, ws⟩ := DataW.trod_string Tryz.underlying9 f2
        obtain ⟨p, e4, -, -⟩ := DataW.trod_int Tryz.underlying3 f4
        have w3 : Lig (x3.1.weights Tryz.prog 184) := by
          intro z hz
          refine h3 z ?_
          rw [hx]
          unfold DataW.weights
          rw [Tryz.underlying186]
          simp only [List.map_cons, List.map_nil, DataW.weightsEach, List.mem_append]
          exact .inr (.inr (.inr (.inl hz)))
        obtain ⟨b, l, c, e3, -, hll, hA, hZ⟩ := ih n' (by omega) _ _ f3 w3
        simp only [List.cons.injEq, and_true] at e0 e1 e2 e3 e4
        subst e0 e1 e2 e3 e4
        exact ⟨(.mk k nn s l p, .slice b l.length c), g, off, rfl, hg, hca, hA, .mk wk ws hll hZ⟩
      obtain ⟨pl, hpl, hp⟩ := list_of len hat
      have hml : (pl.map (·.1)).length = len := by simp [hpl]
      by_cases h0 : len = 0
      · subst h0
        refine ⟨some a, [], cap, rfl, Nat.zero_le _, by simp, .nil _ _, fun e he => by cases he⟩
      · obtain ⟨p0, hp0⟩ : ∃ p, pl[0]? = some p := ⟨_, List.getElem?_eq_getElem (by omega)⟩
        obtain ⟨g, off, rfl, hg, -⟩ := hp 0 p0 hp0
        have each : ∀ k x, (pl.map (·.1))[k]? = some x → ∃ v, pl[k]? = some (x, v) ∧ CellsAt w g (off + k * 5) (exCells x v) ∧ ArgsIn w (fun _ => True) v x.args ∧ ExZ x := by
          intro k x hx
          rw [List.getElem?_map, Option.map_eq_some_iff] at hx
          obtain ⟨⟨x', v⟩, hk, rfl⟩ := hx
          obtain ⟨g', off', e, -, h1, h2, h3⟩ := hp k _ hk
          injection e with e1 e2
          subst e1 e2
          exact ⟨v, hk, h1, h2, h3⟩
        refine ⟨some ⟨g, off, none⟩, pl.map (·.1), cap, by rw [hml], by rw [hml]; exact hl, by rw [hml]; exact hlen, .row g off cap _ (fun k => ((pl[k]?).map (·.2)).getD undef) trivial hg (fun k x hx => ?_) (fun k x hx => ?_), fun e he => ?_⟩
        · obtain ⟨v, hk, h1, -⟩ := each k x hx
          simpa [hk] using h1
        · obtain ⟨v, hk, -, h2, -⟩ := each k x hx
          simpa [hk] using h2
        · obtain ⟨k, hk⟩ := List.getElem?_of_mem he
          exact (each k e hk).choose_spec.2.2.2
set_option maxRecDepth 100000 in
theorem open_sms : ∀ (fuel : Nat) (cs : List Value) (x : DataW H × List MemPlace), DataW.trod enc Tryz.prog w 0 (fun _ => true) true fuel 30 cs = some x → Lig (x.1.weights Tryz.prog 30) →
    ∃ a l c, cs = [.slice a l.length c] ∧ l.length ≤ c ∧ l.length ≤ 281474976710656 ∧ StmtsIn w (fun _ => True) (.slice a l.length c) l ∧ ∀ e ∈ l, SmZ e := by
  intro fuel
  induction fuel using Nat.strongRecOn with
  | ind fuel ih =>
    intro cs x h hw
    rcases open_sl Tryz.underlying30 (c := 10) (by kernel_rfl) (by decide) (of_decide_eq_true (by kernel_rfl)) h hw with rfl | ⟨a, len, cap, n, rfl, rfl, hl, hlen, hel⟩
    · exact ⟨none, [], 0, rfl, Nat.le_refl _, by simp, .nil _ _, fun e he => by cases he⟩
    · have hat : ∀ i, i < len → ∃ p : Sm × Value × Value × Value, ∃ g off, a = ⟨g, off, none⟩ ∧ g < w.heap.size ∧ CellsAt w g (off + i * 10) (smCells p.1 p.2.1 p.2.2.1 p.2.2.2) ∧ ArgsIn w (fun _ => True) p.2.1 p.1.a.args ∧ StmtsIn w (fun _ => True) p.2.2.1 p.1.body ∧ StmtsIn w (fun _ => True) p.2.2.2 p.1.els ∧ SmZ p.1 := by
        intro i hi
        obtain ⟨cs0, y0, h0, -, -⟩ := hel 0 (by omega)
        obtain ⟨cs', y, h1, h2, h3⟩ := hel i hi
        obtain ⟨g, off, ha, hg, -, -⟩ := cells_at h0 (by decide)
        obtain ⟨g', off', ha', -, hcl, hca⟩ := cells_at h1 (by decide)
        rw [Nat.zero_mul] at ha
        have ha0 : a = ⟨g, off, none⟩ := by
          obtain ⟨ga, oa, sa⟩ := a
          unfold Addr.add at ha
          split at ha <;> simp_all
        subst ha0
        rw [add_at] at ha'
        obtain ⟨rfl, rfl⟩ : g = g' ∧ off + i * 10 = off' := by injection ha' with e1 e2; exact ⟨e1, e2⟩
        obtain ⟨v0, v1, v2, v3, v4, v5, v6, v7, v8, v9, rfl⟩ := list10 hcl
        obtain ⟨xs, n', rfl, hx, -, hxl, hf⟩ := DataW.trod_struct Tryz.underlying188 h2
        obtain ⟨x0, x1, x2, x3, x4, x5, rfl⟩ := list6 (l := xs) hxl
        have f0 : DataW.trod enc Tryz.prog w 0 (fun _ => true) true n' 3 [v0] = some x0 := hf 0 _ rfl
        have f1 : DataW.trod enc Tryz.prog w 0 (fun _ => true) true n' 9 [v1] = some x1 := hf 1 _ rfl
        have f2 : DataW.trod enc Tryz.prog w 0 (fun _ => true) true n' 186 [v2, v3, v4, v5, v6] = some x2 := hf 2 _ rfl
        have f3 : DataW.trod enc Tryz.prog w 0 (fun _ => true) true n' 30 [v7] = some x3 := hf 3 _ rfl
        have f4 : DataW.trod enc Tryz.prog w 0 (fun _ => true) true n' 30 [v8] = some x4 := hf 4 _ rfl
        have f5 : DataW.trod enc Tryz.prog w 0 (fun _ => true) true n' 3 [v9] = some x5 := hf 5 _ rfl
        obtain ⟨xs', n2, rfl, hx', -, hxl', hf'⟩ := DataW.trod_struct Tryz.underlying186 f2
        obtain ⟨y0, y1, y2, y3, y4, rfl⟩ := list5 (l := xs') hxl'
        have k0 : DataW.trod enc Tryz.prog w 0 (fun _ => true) true n2 3 [v2] = some y0 := hf' 0 _ rfl
        have k1 : DataW.trod enc Tryz.prog w 0 (fun _ => true) true n2 3 [v3] = some y1 := hf' 1 _ rfl
        have k2 : DataW.trod enc Tryz.prog w 0 (fun _ => true) true n2 9 [v4] = some y2 := hf' 2 _ rfl
        have k3 : DataW.trod enc Tryz.prog w 0 (fun _ => true) true n2 184 [v5] = some y3 := hf' 3 _ rfl
        have k4 : DataW.trod enc Tryz.prog w 0 (fun _ => true) true n2 3 [v6] = some y4 := hf' 4 _ rfl
        obtain ⟨k, e0, -, -⟩ := DataW.trod_int Tryz.underlying3 f0
        obtain ⟨nm, e1, -, wn⟩ := DataW.trod_string Tryz.underlying9 f1
        obtain ⟨p, e9, -, -⟩ := DataW.trod_int Tryz.underlying3 f5
        obtain ⟨ak, e2, -, wk⟩ := DataW.trod_int Tryz.underlying3 k0
        obtain ⟨an, e3, -, -⟩ := DataW.trod_int Tryz.underlying3 k1
        obtain ⟨at', e4, -, ws⟩ := DataW.trod_string Tryz.underlying9 k2
        obtain ⟨ap, e6, -, -⟩ := DataW.trod_int Tryz.underlying3 k4
        have hwx : ∀ z, (z ∈ x2.1.weights Tryz.prog 186 ∨ z ∈ x3.1.weights Tryz.prog 30 ∨ z ∈ x4.1.weights Tryz.prog 30) → z ≤ reachBytes := by
          intro z hz
          refine h3 z ?_
          rw [hx]
          unfold DataW.weights
          rw [Tryz.underlying188]
          simp only [List.map_cons, List.map_nil, DataW.weightsEach, List.mem_append]
          rcases hz with hz | hz | hz
          · exact .inr (.inr (.inl hz))
          · exact .inr (.inr (.inr (.inl hz)))
          · exact .inr (.inr (.inr (.inr (.inl hz))))
        have w5 : Lig (y3.1.weights Tryz.prog 184) := by
          intro z hz
          refine hwx z (.inl ?_)
          rw [hx']
          unfold DataW.weights
          rw [Tryz.underlying186]
          simp only [List.map_cons, List.map_nil, DataW.weightsEach, List.mem_append]
          exact .inr (.inr (.inr (.inl hz)))
        obtain ⟨b, l, c, e5, -, hll, hA, hZ⟩ := open_exs n2 _ _ k3 w5
        obtain ⟨b7, l7, c7, e7, -, hl7, hA7, hZ7⟩ := ih (n2 + 1) (by omega) _ _ f3 (fun z hz => hwx z (.inr (.inl hz)))
        obtain ⟨b8, l8, c8, e8, -, hl8, hA8, hZ8⟩ := ih (n2 + 1) (by omega) _ _ f4 (fun z hz => hwx z (.inr (.inr hz)))
        simp only [List.cons.injEq, and_true] at e0 e1 e2 e3 e4 e5 e6 e7 e8 e9
        subst e0 e1 e2 e3 e4 e5 e6 e7 e8 e9
        exact ⟨(.mk k nm (.mk ak an at' l ap) l7 l8 p, .slice b l.length c, .slice b7 l7.length c7, .slice b8 l8.length c8), g, off, rfl, hg, hca, hA, hA7, hA8, .mk wn (.mk wk ws hll hZ) hl7 hl8 hZ7 hZ8⟩
      obtain ⟨pl, hpl, hp⟩ := list_of len hat
      have hml : (pl.map (·.1)).length = len := by simp [hpl]
      by_cases h0 : len = 0
      · subst h0
        refine ⟨some a, [], cap, rfl, Nat.zero_le _, by simp, .nil _ _, fun e he => by cases he⟩
      · obtain ⟨p0, hp0⟩ : ∃ p, pl[0]? = some p := ⟨_, List.getElem?_eq_getElem (by omega)⟩
        obtain ⟨g, off, rfl, hg, -⟩ := hp 0 p0 hp0
        have each : ∀ k x, (pl.map (·.1))[k]? = some x → ∃ v, pl[k]? = some (x, v) ∧ CellsAt w g (off + k * 10) (smCells x v.1 v.2.1 v.2.2) ∧ ArgsIn w (fun _ => True) v.1 x.a.args ∧ StmtsIn w (fun _ => True) v.2.1 x.body ∧ StmtsIn w (fun _ => True) v.2.2 x.els ∧ SmZ x := by
          intro k x hx
          rw [List.getElem?_map, Option.map_eq_some_iff] at hx
          obtain ⟨⟨x', v⟩, hk, rfl⟩ := hx
          obtain ⟨g', off', e, -, h1⟩ := hp k _ hk
          injection e with e1 e2
          subst e1 e2
          exact ⟨v, hk, h1⟩
        refine ⟨some ⟨g, off, none⟩, pl.map (·.1), cap, by rw [hml], by rw [hml]; exact hl, by rw [hml]; exact hlen,
          .row g off cap _ (fun k => ((pl[k]?).map (·.2.1)).getD undef) (fun k => ((pl[k]?).map (·.2.2.1)).getD undef) (fun k => ((pl[k]?).map (·.2.2.2)).getD undef) trivial hg (fun k x hx => ?_) (fun k x hx => ?_) (fun k x hx => ?_) (fun k x hx => ?_), fun e he => ?_⟩
        · obtain ⟨v, hk, h1, -⟩ := each k x hx
          simpa [hk] using h1
        · obtain ⟨v, hk, -, h2, -⟩ := each k x hx
          simpa [hk] using h2
        · obtain ⟨v, hk, -, -, h2, -⟩ := each k x hx
          simpa [hk] using h2
        · obtain ⟨v, hk, -, -, -, h2, -⟩ := each k x hx
          simpa [hk] using h2
        · obtain ⟨k, hk⟩ := List.getElem?_of_mem he
          exact (each k e hk).choose_spec.2.2.2.2.2
theorem open_strs0 {fuel : Nat} {cs : List Value} {x : DataW H × List MemPlace} (h : DataW.trod enc Tryz.prog w 0 (fun _ => true) true fuel 28 cs = some x) (hw : Lig (x.1.weights Tryz.prog 28)) :
    ∃ a l c, cs = [.slice a l.length c] ∧ l.length ≤ 281474976710656 ∧ StrsIn w (fun _ => True) (.slice a l.length c) l ∧ ∀ s ∈ l, s.size ≤ maxLen := by
  rcases open_sl Tryz.underlying28 (c := 1) (by kernel_rfl) (by decide) (of_decide_eq_true (by kernel_rfl)) h hw with rfl | ⟨a, len, cap, n, rfl, rfl, hl, hlen, hel⟩
  · exact ⟨none, [], 0, rfl, by simp, .inl ⟨_, _, rfl, rfl⟩, fun e he => by cases he⟩
  · by_cases h0 : len = 0
    · subst h0
      exact ⟨some a, [], cap, rfl, by simp, .inl ⟨_, _, rfl, rfl⟩, fun e he => by cases he⟩
    · obtain ⟨cs0, y0, h1, -, -⟩ := hel 0 (by omega)
      obtain ⟨g, off, ha, hg, -, -⟩ := cells_at h1 (by decide)
      rw [Nat.zero_mul] at ha
      have ha0 : a = ⟨g, off, none⟩ := by
        obtain ⟨ga, oa, sa⟩ := a
        unfold Addr.add at ha
        split at ha <;> simp_all
      subst ha0
      have hat : ∀ i, i < len → ∃ s : ByteArray, w.cell? ⟨g, off + i, none⟩ = some (.string s) ∧ s.size ≤ maxLen := by
        intro i hi
        obtain ⟨cs', y, h1, h2, -⟩ := hel i hi
        obtain ⟨s, rfl, -, hs⟩ := DataW.trod_string Tryz.underlying9 h2
        have h3 := Go.ChangeShapes.cell_of_cells?_one h1
        rw [add_at, Nat.mul_one] at h3
        exact ⟨s, h3, hs⟩
      obtain ⟨l, hll, hp⟩ := list_of len hat
      refine ⟨some ⟨g, off, none⟩, l, cap, by rw [hll], by rw [hll]; exact hlen, .inr ⟨g, off, cap, rfl, trivial, hg, fun k s hs => (hp k s hs).1⟩, fun s hs => ?_⟩
      obtain ⟨k, hk⟩ := List.getElem?_of_mem hs
      exact (hp k s hk).2
theorem open_ints0 {fuel : Nat} {cs : List Value} {x : DataW H × List MemPlace} (h : DataW.trod enc Tryz.prog w 0 (fun _ => true) true fuel 29 cs = some x) (hw : Lig (x.1.weights Tryz.prog 29)) :
    ∃ a l c, cs = [.slice a l.length c] ∧ l.length ≤ 281474976710656 ∧ IntsIn w (fun _ => True) (.slice a l.length c) l := by
  rcases open_sl Tryz.underlying29 (c := 1) (by kernel_rfl) (by decide) (of_decide_eq_true (by kernel_rfl)) h hw with rfl | ⟨a, len, cap, n, rfl, rfl, hl, hlen, hel⟩
  · exact ⟨none, [], 0, rfl, by simp, .inl ⟨_, _, rfl, rfl⟩⟩
  · by_cases h0 : len = 0
    · subst h0
      exact ⟨some a, [], cap, rfl, by simp, .inl ⟨_, _, rfl, rfl⟩⟩
    · obtain ⟨cs0, y0, h1, -, -⟩ := hel 0 (by omega)
      obtain ⟨g, off, ha, hg, -, -⟩ := cells_at h1 (by decide)
      rw [Nat.zero_mul] at ha
      have ha0 : a = ⟨g, off, none⟩ := by
        obtain ⟨ga, oa, sa⟩ := a
        unfold Addr.add at ha
        split at ha <;> simp_all
      subst ha0
      have hat : ∀ i, i < len → ∃ s : Int, w.cell? ⟨g, off + i, none⟩ = some (.int .i64 s) := by
        intro i hi
        obtain ⟨cs', y, h1, h2, -⟩ := hel i hi
        obtain ⟨s, rfl, -, hs⟩ := DataW.trod_int Tryz.underlying3 h2
        have h3 := Go.ChangeShapes.cell_of_cells?_one h1
        rw [add_at, Nat.mul_one] at h3
        exact ⟨s, h3⟩
      obtain ⟨l, hll, hp⟩ := list_of len hat
      exact ⟨some ⟨g, off, none⟩, l, cap, by rw [hll], by rw [hll]; exact hlen, .inr ⟨g, off, cap, rfl, trivial, hg, fun k s hs => hp k s hs⟩⟩
set_option maxRecDepth 100000 in
theorem open_fns {fuel : Nat} {cs : List Value} {x : DataW H × List MemPlace} (h : DataW.trod enc Tryz.prog w 0 (fun _ => true) true fuel 22 cs = some x) (hw : Lig (x.1.weights Tryz.prog 22)) :
    ∃ a l c, cs = [.slice a l.length c] ∧ l.length ≤ c ∧ l.length ≤ 281474976710656 ∧ FnsIn w (fun _ => True) (.slice a l.length c) l ∧ ∀ f ∈ l, FnZ f := by
  rcases open_sl Tryz.underlying22 (c := 6) (by kernel_rfl) (by decide) (of_decide_eq_true (by kernel_rfl)) h hw with rfl | ⟨a, len, cap, n, rfl, rfl, hl, hlen, hel⟩
  · exact ⟨none, [], 0, rfl, Nat.le_refl _, by simp, .inl ⟨_, _, rfl, rfl⟩, fun e he => by cases he⟩
  · by_cases h0 : len = 0
    · subst h0
      exact ⟨some a, [], cap, rfl, Nat.zero_le _, by simp, .inl ⟨_, _, rfl, rfl⟩, fun e he => by cases he⟩
    · obtain ⟨cs0, y0, h1, -, -⟩ := hel 0 (by omega)
      obtain ⟨g, off, ha, hg, -, -⟩ := cells_at h1 (by decide)
      rw [Nat.zero_mul] at ha
      have ha0 : a = ⟨g, off, none⟩ := by
        obtain ⟨ga, oa, sa⟩ := a
        unfold Addr.add at ha
        split at ha <;> simp_all
      subst ha0
      have hat : ∀ i, i < len → ∃ p : Fn × Value × Value × Value, CellsAt w g (off + i * 6) (fnCells p.1 p.2.1 p.2.2.1 p.2.2.2) ∧ StrsIn w (fun _ => True) p.2.1 p.1.names ∧ IntsIn w (fun _ => True) p.2.2.1 p.1.types ∧ StmtsIn w (fun _ => True) p.2.2.2 p.1.body ∧ FnZ p.1 := by
        intro i hi
        obtain ⟨cs', y, h1, h2, h3⟩ := hel i hi
        obtain ⟨g', off', ha', -, hcl, hca⟩ := cells_at h1 (by decide)
        rw [add_at] at ha'
        obtain ⟨rfl, rfl⟩ : g = g' ∧ off + i * 6 = off' := by injection ha' with e1 e2; exact ⟨e1, e2⟩
        obtain ⟨v0, v1, v2, v3, v4, v5, rfl⟩ := list6 hcl
        obtain ⟨xs, n', rfl, hx, -, hxl, hf⟩ := DataW.trod_struct Tryz.underlying32 h2
        obtain ⟨x0, x1, x2, x3, x4, x5, rfl⟩ := list6 (l := xs) hxl
        have f0 : DataW.trod enc Tryz.prog w 0 (fun _ => true) true n' 9 [v0] = some x0 := hf 0 _ rfl
        have f1 : DataW.trod enc Tryz.prog w 0 (fun _ => true) true n' 28 [v1] = some x1 := hf 1 _ rfl
        have f2 : DataW.trod enc Tryz.prog w 0 (fun _ => true) true n' 29 [v2] = some x2 := hf 2 _ rfl
        have f3 : DataW.trod enc Tryz.prog w 0 (fun _ => true) true n' 3 [v3] = some x3 := hf 3 _ rfl
        have f4 : DataW.trod enc Tryz.prog w 0 (fun _ => true) true n' 30 [v4] = some x4 := hf 4 _ rfl
        have f5 : DataW.trod enc Tryz.prog w 0 (fun _ => true) true n' 3 [v5] = some x5 := hf 5 _ rfl
        have hwx : ∀ z, (z ∈ x1.1.weights Tryz.prog 28 ∨ z ∈ x2.1.weights Tryz.prog 29 ∨ z ∈ x4.1.weights Tryz.prog 30) → z ≤ reachBytes := by
          intro z hz
          refine h3 z ?_
          rw [hx]
          unfold DataW.weights
          rw [Tryz.underlying32]
          simp only [List.map_cons, List.map_nil, DataW.weightsEach, List.mem_append]
          rcases hz with hz | hz | hz
          · exact .inr (.inl hz)
          · exact .inr (.inr (.inl hz))
          · exact .inr (.inr (.inr (.inr (.inl hz))))
        obtain ⟨nm, e0, -, wn⟩ := DataW.trod_string Tryz.underlying9 f0
        obtain ⟨b1, l1, c1, e1, hl1, hA1, hZ1⟩ := open_strs0 f1 (fun z hz => hwx z (.inl hz))
        obtain ⟨b2, l2, c2, e2, hl2, hA2⟩ := open_ints0 f2 (fun z hz => hwx z (.inr (.inl hz)))
        obtain ⟨o, e3, -, -⟩ := DataW.trod_int Tryz.underlying3 f3
        obtain ⟨b4, l4, c4, e4, -, hl4, hA4, hZ4⟩ := open_sms _ _ _ f4 (fun z hz => hwx z (.inr (.inr hz)))
        obtain ⟨p, e5, -, -⟩ := DataW.trod_int Tryz.underlying3 f5
        simp only [List.cons.injEq, and_true] at e0 e1 e2 e3 e4 e5
        subst e0 e1 e2 e3 e4 e5
        exact ⟨(⟨nm, l1, l2, o, l4, p⟩, .slice b1 l1.length c1, .slice b2 l2.length c2, .slice b4 l4.length c4), hca, hA1, hA2, hA4, ⟨wn, hZ1, hl1, hl2, hl4, hZ4⟩⟩
      obtain ⟨pl, hpl, hp⟩ := list_of len hat
      have hml : (pl.map (·.1)).length = len := by simp [hpl]
      have each : ∀ k x, (pl.map (·.1))[k]? = some x → ∃ v, pl[k]? = some (x, v) ∧ CellsAt w g (off + k * 6) (fnCells x v.1 v.2.1 v.2.2) ∧ StrsIn w (fun _ => True) v.1 x.names ∧ IntsIn w (fun _ => True) v.2.1 x.types ∧ StmtsIn w (fun _ => True) v.2.2 x.body ∧ FnZ x := by
        intro k x hx
        rw [List.getElem?_map, Option.map_eq_some_iff] at hx
        obtain ⟨⟨x', v⟩, hk, rfl⟩ := hx
        exact ⟨v, hk, hp k _ hk⟩
      refine ⟨some ⟨g, off, none⟩, pl.map (·.1), cap, by rw [hml], by rw [hml]; exact hl, by rw [hml]; exact hlen,
        .inr ⟨g, off, cap, (fun k => ((pl[k]?).map (·.2.1)).getD undef), (fun k => ((pl[k]?).map (·.2.2.1)).getD undef), (fun k => ((pl[k]?).map (·.2.2.2)).getD undef), by rw [hml], trivial, hg, fun k f hf => ?_⟩, fun e he => ?_⟩
      · obtain ⟨v, hk, h1, h2, h3, h4, -⟩ := each k f hf
        simp only [hk, Option.map_some, Option.getD_some]
        exact ⟨h1, h2, h3, h4⟩
      · obtain ⟨k, hk⟩ := List.getElem?_of_mem he
        exact (each k e hk).choose_spec.2.2.2.2.2
set_option maxRecDepth 100000 in
theorem open_unit {r : Reach} {b0 : Nat} {v : Value} {d : DataW H} {p : List MemPlace} (hv : Value.okWide Tryz.prog w r b0 24 v) (h : DataW.Trod enc Tryz.prog w 0 (fun _ => true) true 24 v d p) (hw : Lig (d.weights Tryz.prog 24)) :
    ∃ a l c, v = .agg #[.slice a l.length c] ∧ l.length ≤ c ∧ l.length ≤ 281474976710656 ∧ FnsIn w (fun _ => True) (.slice a l.length c) l ∧ ∀ f ∈ l, FnZ f := by
  obtain ⟨cs, rfl, hsz⟩ := Go.WideShapes.okWide_struct Tryz.underlying24 hv
  have hsz1 : cs.size = 1 := hsz.trans (by kernel_rfl)
  obtain ⟨c0, rfl⟩ : ∃ c0, cs = #[c0] := by
    rcases cs with ⟨l⟩
    match l, hsz1 with
    | [c0], _ => exact ⟨c0, rfl⟩
  obtain ⟨fuel, hf⟩ := h
  obtain ⟨xs, n, rfl, hx, -, hxl, hf'⟩ := DataW.trod_struct Tryz.underlying24 hf
  obtain ⟨x0, rfl⟩ : ∃ x0, xs = [x0] := by
    match xs, hxl with
    | [x0], _ => exact ⟨x0, rfl⟩
  have f0 : DataW.trod enc Tryz.prog w 0 (fun _ => true) true n 22 [c0] = some x0 := hf' 0 _ rfl
  have hd : d = .agg [x0.1] := (Prod.mk.inj hx).1
  have w0 : Lig (x0.1.weights Tryz.prog 22) := by
    intro z hz
    refine hw z ?_
    rw [hd]
    unfold DataW.weights
    rw [Tryz.underlying24]
    simp only [List.map_cons, List.map_nil, DataW.weightsEach, List.mem_append]
    exact .inl hz
  obtain ⟨a, l, c, e, hl, hll, hA, hZ⟩ := open_fns f0 w0
  simp only [List.cons.injEq, and_true] at e
  subst e
  exact ⟨a, l, c, rfl, hl, hll, hA, hZ⟩
end Go.Proofs.YtmngofgminlloaaGreatDoor
