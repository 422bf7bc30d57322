/-
  A row of words in memory; the contracts of word.Join and of slices.Equal at words.
-/
import Derived.Test.YtmngofgminlloaaDoorLex3
import Derived.Test.YtmngofgminlloaaDoorBuilder
namespace Go.Proofs.YtmngofgminlloaaDoor
open Go.RowKit Tw

theorem wcells_len (ws : List Wd) : (wcells ws).length = ws.length * 3 := by
  induction ws with
  | nil => rfl
  | cons x ws ih => simp [wcells, Wd.cells] at *; omega
theorem wcells_at (ws : List Wd) : ∀ (k : Nat) (x : Wd), ws[k]? = some x → (wcells ws)[k * 3]? = some (.int .i64 x.kind) ∧ (wcells ws)[k * 3 + 1]? = some (.string x.text) ∧ (wcells ws)[k * 3 + 2]? = some (.int .i64 x.pos) := by
  induction ws with
  | nil => intro k x h; simp at h
  | cons y ws ih =>
    intro k x h
    have e : wcells (y :: ws) = Value.int .i64 y.kind :: Value.string y.text :: Value.int .i64 y.pos :: wcells ws := by simp [wcells, Wd.cells]
    cases k with
    | zero => simp at h; subst h; rw [e]; exact ⟨rfl, rfl, rfl⟩
    | succ k =>
      have := ih k x (by simpa using h)
      rw [e, show (k + 1) * 3 = k * 3 + 1 + 1 + 1 by omega]
      exact this

/-- The words ws lie at the slice v, below block B. -/
def WRow (w : World) (B : Nat) (v : Value) (ws : List Wd) : Prop :=
  (v = .slice none 0 0 ∧ ws = []) ∨ ∃ g cap, v = .slice (some ⟨g, 0, none⟩) ws.length cap ∧ g < B ∧ ∀ j u, (wcells ws)[j]? = some u → w.cell? ⟨g, j, none⟩ = some u

section
variable {w w' : World} {B : Nat} {v : Value} {ws : List Wd}
theorem WRow.below {B' : Nat} (h : WRow w B v ws) (hb : Below B' w w') (hB : B ≤ B') : WRow w' B v ws := by
  rcases h with h | ⟨g, cap, hv, hg, hc⟩
  · exact .inl h
  · exact .inr ⟨g, cap, hv, hg, fun j u hu => (hb.cell (p := ⟨g, j, none⟩) (Nat.lt_of_lt_of_le hg hB)).trans (hc j u hu)⟩
theorem WRow.of_own {base t : Nat} (h : w.ownsRow base t 3 v ws.length (wcells ws)) : WRow w w.heap.size v ws := by
  rcases h.2 with ⟨hv, h0⟩ | ⟨g, cap, cur, hv, _⟩
  · exact .inl ⟨hv, List.eq_nil_of_length_eq_zero h0⟩
  · right
    subst hv
    have hl := (h.lt g rfl).2
    refine ⟨g, cap, rfl, hl, fun j u hu => ?_⟩
    have := h.cells (g := g) rfl j u hu
    have e : (⟨g, 0, none⟩ : Addr).add j = ⟨g, j, none⟩ := by unfold Addr.add; split <;> simp_all
    rwa [e] at this
theorem WRow.mono {B' : Nat} (h : WRow w B v ws) (hB : B ≤ B') : WRow w B' v ws := by
  rcases h with h | ⟨g, cap, hv, hg, hc⟩
  · exact .inl h
  · exact .inr ⟨g, cap, hv, Nat.lt_of_lt_of_le hg hB, hc⟩
end

/-- What has been written when k words have been: a blank ahead of each word but the first. -/
def joinP (ws : List Wd) : Nat → Bs
  | 0 => []
  | k + 1 => joinP ws k ++ (if k = 0 then [] else [32]) ++ (ws.getD k ⟨0, ⟨#[]⟩, 0⟩).text.data.toList
theorem joinP_len (ws : List Wd) (h : ∀ x ∈ ws, x.text.size ≤ 4000) : ∀ k, k ≤ ws.length → (joinP ws k).length ≤ k * 4001 := by
  intro k
  induction k with
  | zero => intro _; simp [joinP]
  | succ k ih =>
    intro hk
    have h1 := ih (by omega)
    have h2 : (ws.getD k ⟨0, ⟨#[]⟩, 0⟩).text.data.toList.length ≤ 4000 := by
      have hk' : k < ws.length := by omega
      rw [List.getD_eq_getElem?_getD, List.getElem?_eq_getElem hk']
      exact h _ (List.getElem_mem hk')
    simp only [joinP, List.length_append]
    have h3 : (if k = 0 then ([] : Bs) else [32]).length ≤ 1 := by split <;> simp
    omega

theorem byteCells_app (a b : Bs) : Lib.byteCells (a ++ b) = Lib.byteCells a ++ Lib.byteCells b := by simp [Lib.byteCells]
theorem strCells_eq (s : ByteArray) : Lib.strCells s = Lib.byteCells s.data.toList := rfl
theorem isb_alloc {T e B b : Nat} {bs : List Value} {w : World} (h : Lib.IsBuilder T e B b bs w) (o : Obj) : Lib.IsBuilder T e B b bs (w.alloc o) := by
  have go : ∀ p, Lib.BuilderAt T e B b p bs w → Lib.BuilderAt T e B b p bs (w.alloc o) := fun p hp => by
    have hlt := hp.lt
    obtain ⟨hB, v, hb, hown, hne⟩ := hp
    exact ⟨hB, v, by rw [Lib.alloc_old w o b hlt]; exact hb, hown.alloc o, hne⟩
  rcases h with h | h
  · exact .inl (go _ h)
  · exact .inr (go _ h)

set_option maxRecDepth 100000 in
set_option maxHeartbeats 2000000 in
theorem join_some (g cap : Nat) (ws : List Wd) (w : World) (hn : ws.length ≤ 4000) (hx : ∀ x ∈ ws, x.text.size ≤ 4000) (hg : g < w.heap.size) (hc : ∀ j u, (wcells ws)[j]? = some u → w.cell? ⟨g, j, none⟩ = some u) :
    Calls Tryd.prog 7 #[.slice (some ⟨g, 0, none⟩) ws.length cap] w fun e w' => e = .returned (.string ⟨(joinP ws ws.length).toArray⟩) ∧ Below w.heap.size w w' := by
  have HC := Lib.hid hc; clear hc
  have HX := Lib.hid hx; clear hx
  obtain ⟨n, hnn⟩ : ∃ n, n = ws.length := ⟨_, rfl⟩
  rw [← hnn] at hn ⊢
  have HN := Lib.hid hnn; clear hnn
  go_enter Tryd.func7, Tryd.ntmps7
  go_wp2_with fail
  go_loopw [8] (fun i wr => ∃ k : Nat, k ≤ n ∧ i = .int .i64 k ∧ Hid (Lib.IsBuilder 48 5 w.heap.size w.heap.size (Lib.byteCells (joinP ws k)) wr) ∧ Below w.heap.size w wr ∧ w.heap.size < wr.heap.size) (fun i _ => n - (intOf i).toNat)
  case atStart => exact ⟨0, Nat.zero_le _, rfl, Lib.hid (Lib.fresh_isBuilder _ _ _), (Below.refl _ _).alloc (Nat.le_refl _) _, by simp⟩
  case round =>
    obtain ⟨k, hk, rfl, HB, hb, hsz⟩ := hrel
    by_cases hlt : k < n
    · obtain ⟨x, hx⟩ : ∃ x, ws[k]? = some x := ⟨_, List.getElem?_eq_getElem (by have := HN.out; omega)⟩
      have hca := wcells_at ws k x hx
      have c0 : wr.cell? ⟨g, k * 3, none⟩ = some (.int .i64 x.kind) := (hb.cell (p := ⟨g, _, none⟩) hg).trans (HC.out _ _ hca.1)
      have c1 : wr.cell? ⟨g, k * 3 + 1, none⟩ = some (.string x.text) := (hb.cell (p := ⟨g, _, none⟩) hg).trans (HC.out _ _ hca.2.1)
      have c2 : wr.cell? ⟨g, k * 3 + 2, none⟩ = some (.int .i64 x.pos) := (hb.cell (p := ⟨g, _, none⟩) hg).trans (HC.out _ _ hca.2.2)
      have HXx : Hid (x.text.size ≤ 4000) := Lib.hid (HX.out x (List.mem_of_getElem? hx))
      have HXk := Lib.hid hx
      clear hx hca
      have HS : Hid (joinP ws (k + 1) = joinP ws k ++ (if k = 0 then [] else [32]) ++ x.text.data.toList) := Lib.hid (by
        simp only [joinP, List.getD_eq_getElem?_getD, HXk.out]; rfl)
      have HLk : Hid ((joinP ws k).length ≤ k * 4001) := Lib.hid (joinP_len ws HX.out k (by have := HN.out; omega))
      by_cases h0 : 0 < k
      · go_wp2_with fail
        refine (writeByte_any w.heap.size w.heap.size (Lib.byteCells (joinP ws k)) 32 _ (isb_alloc HB.out _) (by rw [Lib.byteCells_length]; have := HLk.out; omega)).mono ?_
        rintro e w1 ⟨rfl, hB1, hb1, ho1⟩
        have d1 : w1.cell? ⟨wr.heap.size, 1, none⟩ = some (.string x.text) := by
          have := ho1 wr.heap.size (by simp) (by omega) (fun cs fr h => by rw [heap_alloc_new] at h; cases h)
          rw [World.cell?_of_block (a := ⟨wr.heap.size, 1, none⟩) this]
          simp
        have HB1 : Hid (Lib.IsBuilder 48 5 w.heap.size w.heap.size (Lib.byteCells (joinP ws k) ++ [.int .u8 32]) w1) := Lib.hid (.inr hB1)
        have hb2 : Below w.heap.size w w1 := (hb.alloc (by omega) _).trans hb1
        have hz2 : wr.heap.size < w1.heap.size := by have := hb1.size; simp at this; omega
        clear hB1 hb1 ho1 c0 c1 c2
        go_wp2_with fail
        refine (writeString_any w.heap.size w.heap.size (Lib.byteCells (joinP ws k) ++ [.int .u8 32]) x.text _ HB1.out (by rw [List.length_append, Lib.byteCells_length]; have := HLk.out; have := HXx.out; simp; omega)).mono ?_
        rintro e w2 ⟨rfl, hB3, hb3, ho3⟩
        have HB3 : Hid (Lib.IsBuilder 48 5 w.heap.size w.heap.size (Lib.byteCells (joinP ws (k + 1))) w2) := Lib.hid (by
          rw [HS.out, if_neg (by omega), byteCells_app, byteCells_app]; exact .inr hB3)
        have hb4 := hb2.trans hb3
        have hz3 := hb3.size
        clear hB3 hb3 ho3 d1
        go_wp2_with fail
        go_roundw
        case rel => exact ⟨k + 1, by omega, by go_num, HB3, hb4, by omega⟩
        case measure => simp [intOf]; omega
      · go_wp2_with fail
        refine (writeString_any w.heap.size w.heap.size (Lib.byteCells (joinP ws k)) x.text _ (isb_alloc HB.out _) (by rw [Lib.byteCells_length]; have := HLk.out; have := HXx.out; omega)).mono ?_
        rintro e w2 ⟨rfl, hB3, hb3, ho3⟩
        have HB3 : Hid (Lib.IsBuilder 48 5 w.heap.size w.heap.size (Lib.byteCells (joinP ws (k + 1))) w2) := Lib.hid (by
          rw [HS.out, if_pos (by omega), byteCells_app, List.append_nil]; exact .inr hB3)
        have hb4 : Below w.heap.size w w2 := (hb.alloc (by omega) _).trans hb3
        have hz3 : wr.heap.size < w2.heap.size := by have := hb3.size; simp at this; omega
        clear hB3 hb3 ho3 c0 c1 c2
        go_wp2_with fail
        go_roundw
        case rel => exact ⟨k + 1, by omega, by go_num, HB3, hb4, by omega⟩
        case measure => simp [intOf]; omega
    · obtain rfl : k = n := by omega
      go_wp2_with fail
      refine (Tryd.Builder_String_any w.heap.size w.heap.size (joinP ws k) _ HB.out (by omega)).mono ?_
      rintro e w2 ⟨rfl, hbb⟩
      go_wp2_with fail
      go_ret
      exact ⟨rfl, hb.trans hbb⟩

set_option maxRecDepth 100000 in
set_option maxHeartbeats 2000000 in
theorem join_nil (w : World) : Calls Tryd.prog 7 #[.slice none 0 0] w fun e w' => e = .returned (.string ⟨#[]⟩) ∧ Below w.heap.size w w' := by
  have hb0 := Lib.hid (Lib.fresh_isBuilder 48 5 w)
  go_enter Tryd.func7, Tryd.ntmps7
  go_wp2_with fail
  go_loopw [8] (fun i wr => i = .int .i64 0 ∧ wr = w.alloc (.cells #[.pointer none, .slice none 0 0] 48)) (fun i _ => 0)
  case atStart => exact ⟨rfl, rfl⟩
  case round =>
    obtain ⟨rfl, rfl⟩ := hrel
    go_wp2_with fail
    refine (Tryd.Builder_String_any w.heap.size w.heap.size [] _ hb0.out (by simp)).mono ?_
    rintro e w2 ⟨rfl, hbb⟩
    go_wp2_with fail
    go_ret
    exact ⟨rfl, ((Below.refl _ _).alloc (Nat.le_refl _) _).trans hbb⟩
theorem join_any (v : Value) (ws : List Wd) (w : World) (hn : ws.length ≤ 4000) (hx : ∀ x ∈ ws, x.text.size ≤ 4000) (hv : WRow w w.heap.size v ws) :
    Calls Tryd.prog 7 #[v] w fun e w' => e = .returned (.string ⟨(joinP ws ws.length).toArray⟩) ∧ Below w.heap.size w w' := by
  rcases hv with ⟨rfl, rfl⟩ | ⟨g, cap, rfl, hg, hc⟩
  · exact join_nil w
  · exact join_some g cap ws w hn hx hg hc
end Go.Proofs.YtmngofgminlloaaDoor
