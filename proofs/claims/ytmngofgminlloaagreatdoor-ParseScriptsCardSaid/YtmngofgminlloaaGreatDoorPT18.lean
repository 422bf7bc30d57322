/-
  What statements, parameters, functions and scripts are is one thing, in plain Lean.
  Scripts that have been read out of few short words are small, in plain Lean.
  The frames of the reference's Script: of the whole, of one function.
  The frame of the program's fun(): its result (b0), what is written of the function (bf), its rows; and what fun() answers.
  What stands there when the program's fun() goes its ways, in plain Lean.
-/
import Derived.Test.YtmngofgminlloaaGreatDoorPT08
import Derived.Test.YtmngofgminlloaaGreatDoorPT14
import Derived.Test.YtmngofgminlloaaGreatDoorPT17
import Derived.Test.YtmngofgminlloaaGreatDoorPT12
namespace Go.Proofs.YtmngofgminlloaaGreatDoor
open Go.RowKit Tw

theorem Ds.det {ws : List Wd} {en : Nat} {q : Qs} {r : Rs} (h : Ds ws en q r) : ∀ r', Ds ws en q r' → r = r' := by
  induction h with
  | letN h0 h1 => intro r' h'; cases h' <;> first | rfl | (exfalso; omega) | contradiction | (rename_i g _; exact absurd (g h0).1 h1) | (rename_i g _ _; exact absurd (g h0).1 h1)
  | letE h0 h1 h2 =>
    intro r' h'
    cases h' <;> first
      | rfl
      | (exfalso; omega)
      | contradiction
      | (rename_i g _; have := (g h0).2; rw [h2] at this; cases this; done)
      | (rename_i g _ _; have := (g h0).2; rw [h2] at this; cases this; done)
  | simpB h3 h4 hl h1 =>
    intro r' h'
    cases h' with
    | letN g0 g1 => exact absurd (hl g0).1 g1
    | letE g0 g1 g2 => have := (hl g0).2; rw [g2] at this; cases this
    | simpB _ _ _ g1 => have e := h1.det _ g1; injection e with e; subst e; rfl
    | simpC _ _ _ g1 => have e := h1.det _ g1; cases e
    | simp _ _ _ g1 => have e := h1.det _ g1; cases e
    | _ => exfalso; omega
  | simpC h3 h4 hl h1 hc =>
    intro r' h'
    cases h' with
    | letN g0 g1 => exact absurd (hl g0).1 g1
    | letE g0 g1 g2 => have := (hl g0).2; rw [g2] at this; cases this
    | simpB _ _ _ g1 => have e := h1.det _ g1; cases e
    | simpC _ _ _ g1 => have e := h1.det _ g1; injection e with e1 e2; subst e1; subst e2; rfl
    | simp _ _ _ g1 gc => have e := h1.det _ g1; injection e with e1 e2; subst e1; subst e2; rw [hc] at gc; cases gc
    | _ => exfalso; omega
  | simp h3 h4 hl h1 hc =>
    intro r' h'
    cases h' with
    | letN g0 g1 => exact absurd (hl g0).1 g1
    | letE g0 g1 g2 => have := (hl g0).2; rw [g2] at this; cases this
    | simpB _ _ _ g1 => have e := h1.det _ g1; cases e
    | simpC _ _ _ g1 gc => have e := h1.det _ g1; injection e with e1 e2; subst e1; subst e2; rw [hc] at gc; cases gc
    | simp _ _ _ g1 gc => have e := h1.det _ g1; injection e with e1 e2; subst e1; subst e2; rfl
    | _ => exfalso; omega
  | condB h0 h1 =>
    intro r' h'
    cases h' <;> first
      | (exfalso; omega)
      | (have e := h1.det _ (by assumption); first | (cases e; done) | (injection e with e; subst e; rfl))
  | condD h0 h1 _ ih =>
    intro r' h'
    cases h' with
    | condB _ g1 => have e := h1.det _ g1; cases e
    | condD _ g1 g2 => have e := h1.det _ g1; injection e with e1 e2; subst e1; subst e2; exact ih _ g2
    | whil _ g1 g2 | if0 _ g1 g2 | ifE _ g1 g2 | ifEB _ g1 g2 | ifI _ g1 g2 | ifIB _ g1 g2 => have e := h1.det _ g1; injection e with e1 e2; subst e1; subst e2; have e := ih _ g2; cases e
    | _ => exfalso; omega
  | whil h0 h1 _ ih =>
    intro r' h'
    cases h' with
    | condB _ g1 => have e := h1.det _ g1; cases e
    | condD _ g1 g2 => have e := h1.det _ g1; injection e with e1 e2; subst e1; subst e2; have e := ih _ g2; cases e
    | whil _ g1 g2 => have e := h1.det _ g1; injection e with e1 e2; subst e1; subst e2; have e := ih _ g2; injection e with e1 e2; subst e1; subst e2; rfl
    | _ => exfalso; omega
  | if0 h0 h1 _ hc ih =>
    intro r' h'
    cases h' with
    | condB _ g1 => have e := h1.det _ g1; cases e
    | condD _ g1 g2 => have e := h1.det _ g1; injection e with e1 e2; subst e1; subst e2; have e := ih _ g2; cases e
    | if0 _ g1 g2 => have e := h1.det _ g1; injection e with e1 e2; subst e1; subst e2; have e := ih _ g2; injection e with e1 e2; subst e1; subst e2; rfl
    | ifE _ g1 g2 gc | ifEB _ g1 g2 gc | ifI _ g1 g2 gc | ifIB _ g1 g2 gc => have e := h1.det _ g1; injection e with e1 e2; subst e1; subst e2; have e := ih _ g2; injection e with e1 e2; subst e1; subst e2; rw [hc] at gc; cases gc
    | _ => exfalso; omega
  | ifE h0 h1 _ hc hd _ ih ih2 | ifEB h0 h1 _ hc hd _ ih ih2 =>
    intro r' h'
    cases h' with
    | condB _ g1 => have e := h1.det _ g1; cases e
    | condD _ g1 g2 => have e := h1.det _ g1; injection e with e1 e2; subst e1; subst e2; have e := ih _ g2; cases e
    | if0 _ g1 g2 gc => have e := h1.det _ g1; injection e with e1 e2; subst e1; subst e2; have e := ih _ g2; injection e with e1 e2; subst e1; subst e2; rw [hc] at gc; cases gc
    | ifE _ g1 g2 gc gd g3 | ifEB _ g1 g2 gc gd g3 =>
      have e := h1.det _ g1; injection e with e1 e2; subst e1; subst e2; have e := ih _ g2; injection e with e1 e2; subst e1; subst e2
      have e := ih2 _ g3; first | (cases e; done) | (injection e with e1 e2; subst e1; subst e2; rfl) | (injection e with e1; subst e1; rfl)
    | ifI _ g1 g2 gc gd | ifIB _ g1 g2 gc gd => have e := h1.det _ g1; injection e with e1 e2; subst e1; subst e2; have e := ih _ g2; injection e with e1 e2; subst e1; subst e2; rw [hd] at gd; cases gd
    | _ => exfalso; omega
  | ifI h0 h1 _ hc hd _ ih ih2 | ifIB h0 h1 _ hc hd _ ih ih2 =>
    intro r' h'
    cases h' with
    | condB _ g1 => have e := h1.det _ g1; cases e
    | condD _ g1 g2 => have e := h1.det _ g1; injection e with e1 e2; subst e1; subst e2; have e := ih _ g2; cases e
    | if0 _ g1 g2 gc => have e := h1.det _ g1; injection e with e1 e2; subst e1; subst e2; have e := ih _ g2; injection e with e1 e2; subst e1; subst e2; rw [hc] at gc; cases gc
    | ifI _ g1 g2 gc gd g3 | ifIB _ g1 g2 gc gd g3 =>
      have e := h1.det _ g1; injection e with e1 e2; subst e1; subst e2; have e := ih _ g2; injection e with e1 e2; subst e1; subst e2
      have e := ih2 _ g3; first | (cases e; done) | (injection e with e1 e2; subst e1; subst e2; rfl) | (injection e with e1; subst e1; rfl)
    | ifE _ g1 g2 gc gd | ifEB _ g1 g2 gc gd => have e := h1.det _ g1; injection e with e1 e2; subst e1; subst e2; have e := ih _ g2; injection e with e1 e2; subst e1; subst e2; rw [hd] at gd; cases gd
    | _ => exfalso; omega
  | blockB h0 => intro r' h'; cases h' <;> first | rfl | (rename_i g _; rw [h0] at g; cases g)
  | block h0 _ ih =>
    intro r' h'
    cases h' with
    | blockB g => rw [h0] at g; cases g
    | block _ g => exact ih _ g
  | done h0 =>
    intro r' h'
    cases h' with
    | done => rfl
    | more g | moreR g | moreB g => rw [h0] at g; cases g
  | more h0 _ _ ih1 ih2 | moreR h0 _ _ ih1 ih2 =>
    intro r' h'
    cases h' with
    | done g => rw [h0] at g; cases g
    | more _ g1 g2 | moreR _ g1 g2 =>
      have e := ih1 _ g1; injection e with e1 e2; subst e1; subst e2
      have e := ih2 _ g2; first | (cases e; done) | (injection e with e1 e2; subst e1; subst e2; rfl) | (injection e with e1; subst e1; rfl)
    | moreB _ g1 => have e := ih1 _ g1; cases e
  | moreB h0 _ ih1 =>
    intro r' h'
    cases h' with
    | done g => rw [h0] at g; cases g
    | more _ g1 _ | moreR _ g1 _ => have e := ih1 _ g1; cases e
    | moreB _ g1 => have e := ih1 _ g1; injection e with e1; subst e1; rfl

theorem Dp.det {ws : List Wd} {en k i : Nat} {r : Rp} (h : Dp ws en k i r) : ∀ r', Dp ws en k i r' → r = r' := by
  induction h with
  | close h0 =>
    intro r' h'
    cases h' with
    | close => rfl
    | comma g | name g | typ g | next g | nextR g => rw [h0] at g; cases g
  | comma h0 h1 h2 =>
    intro r' h'
    cases h' with
    | close g => rw [h0] at g; cases g
    | comma => rfl
    | name _ g | typ _ g | next _ g | nextR _ g => have := g h1; rw [h2] at this; cases this
  | name h0 h1 h2 =>
    intro r' h'
    cases h' with
    | close g => rw [h0] at g; cases g
    | comma _ g1 g2 => have := h1 g1; rw [g2] at this; cases this
    | name => rfl
    | typ _ _ g | next _ _ g | nextR _ _ g => contradiction
  | typ h0 h1 h2 h3 =>
    intro r' h'
    cases h' with
    | close g => rw [h0] at g; cases g
    | comma _ g1 g2 => have := h1 g1; rw [g2] at this; cases this
    | name _ _ g => contradiction
    | typ _ _ _ g => rw [h3] at g; cases g; rfl
    | next _ _ _ g | nextR _ _ _ g => rw [h3] at g; cases g
  | next h0 h1 h2 h3 _ ih | nextR h0 h1 h2 h3 _ ih =>
    intro r' h'
    cases h' with
    | close g => rw [h0] at g; cases g
    | comma _ g1 g2 => have := h1 g1; rw [g2] at this; cases this
    | name _ _ g => contradiction
    | typ _ _ _ g => rw [h3] at g; cases g
    | next _ _ _ g g2 | nextR _ _ _ g g2 =>
      rw [h3] at g; cases g
      have e := ih _ g2; first | (cases e; done) | (injection e with e1 e2 e3; subst e1; subst e2; subst e3; rfl) | (injection e with e1; subst e1; rfl)

theorem Df.det {ws : List Wd} {en i : Nat} {r : Rf} (h : Df ws en i r) : ∀ r', Df ws en i r' → r = r' := by
  intro r' h'
  cases h with
  | noFun h0 => cases h' <;> first | rfl | (rw [h0] at *; contradiction)
  | noName h0 h1 => cases h' <;> first | rfl | contradiction | (rw [h0] at *; contradiction)
  | noOpen h0 h1 h2 => cases h' <;> first | rfl | contradiction | (rw [h0] at *; contradiction) | (rw [h2] at *; contradiction)
  | par h0 h1 h2 h3 =>
    cases h' with
    | noFun g => rw [h0] at g; cases g
    | noName _ g => contradiction
    | noOpen _ _ g => rw [h2] at g; cases g
    | par _ _ _ g => have e := h3.det _ g; injection e with e; subst e; rfl
    | typ _ _ _ g | body _ _ _ g | fn _ _ _ g => have e := h3.det _ g; cases e
  | typ h0 h1 h2 h3 h4 =>
    cases h' with
    | noFun g => rw [h0] at g; cases g
    | noName _ g => contradiction
    | noOpen _ _ g => rw [h2] at g; cases g
    | par _ _ _ g => have e := h3.det _ g; cases e
    | typ _ _ _ g g4 => have e := h3.det _ g; injection e with e1 e2 e3; subst e3; rw [h4] at g4; cases g4; rfl
    | body _ _ _ g g4 | fn _ _ _ g g4 => have e := h3.det _ g; injection e with e1 e2 e3; subst e3; rw [h4] at g4; cases g4
  | body h0 h1 h2 h3 h4 h5 =>
    cases h' with
    | noFun g => rw [h0] at g; cases g
    | noName _ g => contradiction
    | noOpen _ _ g => rw [h2] at g; cases g
    | par _ _ _ g => have e := h3.det _ g; cases e
    | typ _ _ _ g g4 => have e := h3.det _ g; injection e with e1 e2 e3; subst e3; rw [h4] at g4; cases g4
    | body _ _ _ g g4 g5 => have e := h3.det _ g; injection e with e1 e2 e3; subst e3; have e := h5.det _ g5; injection e with e; subst e; rfl
    | fn _ _ _ g g4 g5 => have e := h3.det _ g; injection e with e1 e2 e3; subst e3; have e := h5.det _ g5; cases e
  | fn h0 h1 h2 h3 h4 h5 =>
    cases h' with
    | noFun g => rw [h0] at g; cases g
    | noName _ g => contradiction
    | noOpen _ _ g => rw [h2] at g; cases g
    | par _ _ _ g => have e := h3.det _ g; cases e
    | typ _ _ _ g g4 => have e := h3.det _ g; injection e with e1 e2 e3; subst e3; rw [h4] at g4; cases g4
    | body _ _ _ g g4 g5 => have e := h3.det _ g; injection e with e1 e2 e3; subst e3; have e := h5.det _ g5; cases e
    | fn _ _ _ g g4 g5 => have e := h3.det _ g; injection e with e1 e2 e3; subst e1; subst e2; subst e3; rw [h4] at g4; injection g4 with g4; subst g4; have e := h5.det _ g5; injection e with e1 e2; subst e1; subst e2; rfl

theorem Du.det {ws : List Wd} {en i : Nat} {r : Ru} (h : Du ws en i r) : ∀ r', Du ws en i r' → r = r' := by
  induction h with
  | done h0 => intro r' h'; cases h' <;> first | rfl | (exfalso; omega)
  | more h0 h1 _ ih | moreR h0 h1 _ ih =>
    intro r' h'
    cases h' with
    | done g => exfalso; omega
    | more _ g1 g2 | moreR _ g1 g2 =>
      have e := h1.det _ g1; injection e with e1 e2; subst e1; subst e2
      have e := ih _ g2; first | (cases e; done) | (injection e with e; subst e; rfl)
    | moreB _ g1 => have e := h1.det _ g1; cases e
  | moreB h0 h1 =>
    intro r' h'
    cases h' with
    | done g => exfalso; omega
    | more _ g1 _ | moreR _ g1 _ => have e := h1.det _ g1; cases e
    | moreB _ g1 => have e := h1.det _ g1; injection e with e; subst e; rfl
end Go.Proofs.YtmngofgminlloaaGreatDoor

namespace Go.Proofs.YtmngofgminlloaaGreatDoor
open Go.RowKit Tw

def WsZ (ws : List Wd) : Prop := ws.length ≤ 4000 ∧ ∀ x ∈ ws, x.text.size ≤ 4000
theorem WsZ.text {ws : List Wd} (h : WsZ ws) (i : Nat) : (textAt ws i).size ≤ maxLen := by
  unfold textAt maxLen
  cases hx : ws[i]? with
  | none => decide
  | some x => have := h.2 x (List.mem_of_getElem? hx); simp; omega
theorem none_small : sNone.size ≤ maxLen := by unfold maxLen; decide
theorem isAt_len {ws : List Wd} {i : Nat} {s : ByteArray} (h : isAt ws i s = true) : i < ws.length := by
  unfold isAt at h
  rcases Nat.lt_or_ge i ws.length with h' | h'
  · exact h'
  · rw [List.getElem?_eq_none h'] at h; cases h
theorem kindAt_len {ws : List Wd} {i k : Nat} (h : kindAt ws i = k) (hk : k ≠ 0) : i < ws.length := by
  unfold kindAt at h
  rcases Nat.lt_or_ge i ws.length with h' | h'
  · exact h'
  · rw [List.getElem?_eq_none h'] at h; exact absurd h.symm hk
theorem lvAt_len {ws : List Wd} {i k : Nat} (h : lvAt ws i = k) (hk : k ≠ 0) : i < ws.length := by
  unfold lvAt at h
  rcases Nat.lt_or_ge i ws.length with h' | h'
  · exact h'
  · rw [List.getElem?_eq_none h'] at h; exact absurd h.symm hk
theorem headQ_len {ws : List Wd} {i : Nat} (h : headQ ws i ≠ 0) : i < ws.length := by
  unfold headQ at h
  repeat' split at h
  all_goals first
    | (exact isAt_len ‹_›)
    | (exact kindAt_len ‹_› (by decide))
    | (exact absurd rfl h)
/-- What has been read is small, and lies within the words. -/
def smallE (ws : List Wd) : Qe → Re → Prop
  | .lvl n i, .ex x j => 1 ≤ n → i < j ∧ j ≤ ws.length ∧ ExZ x
  | .one i, .ex x j => i < j ∧ j ≤ ws.length ∧ ExZ x
  | .rest n a i, .ex x j => 1 ≤ n → i ≤ ws.length → ExZ a → i ≤ j ∧ j ≤ ws.length ∧ ExZ x
  | .args _ i, .exs l j => i + l.length < j ∧ j ≤ ws.length ∧ ∀ a ∈ l, ExZ a
  | _, _ => True
theorem De.small {ws : List Wd} {en : Nat} {q : Qe} {r : Re} (hz : WsZ ws) (h : De ws en q r) : smallE ws q r := by
  have ht := hz.text
  have hl := hz.1
  have hE : ∀ {k n : Int} {t : ByteArray} {p : Int}, (Lit.int .i64 k).wf = true → t.size ≤ maxLen → ExZ (.mk k n t [] p) := fun hk h => .mk hk h (by simp) (by simp)
  have hE1 : ∀ {k n : Int} {t : ByteArray} {a : Ex} {p : Int}, (Lit.int .i64 k).wf = true → t.size ≤ maxLen → ExZ a → ExZ (.mk k n t [a] p) := fun hk h ha => .mk hk h (by simp) (by simp [ha])
  have hE2 : ∀ {j : Nat} {a b : Ex}, ExZ a → ExZ b → ExZ (twoEx ws en j a b) := fun ha hb => .mk (by decide) (ht _) (by simp) (by simp [ha, hb])
  have hEl : ∀ {k n : Int} {t : ByteArray} {l : List Ex} {p : Int}, (Lit.int .i64 k).wf = true → t.size ≤ maxLen → l.length ≤ 4000 → (∀ a ∈ l, ExZ a) → ExZ (.mk k n t l p) := fun hk h hl' ha => .mk hk h (by omega) ha
  induction h with
  | @lvl6 i r _ ih =>
    cases r with
    | ex x j => intro _; exact ih
    | exs => trivial
    | bad => trivial
  | @lvl n i j a r hn _ _ ih1 ih2 =>
    cases r with
    | ex x k =>
      intro h1
      obtain ⟨a1, a2, a3⟩ := ih1 (by omega)
      obtain ⟨b1, b2, b3⟩ := ih2 h1 a2 a3
      exact ⟨by omega, b2, b3⟩
    | exs => trivial
    | bad => trivial
  | stop _ => intro _ h2 h3; exact ⟨Nat.le_refl _, h2, h3⟩
  | @go n j j' a b r h3 h0 _ _ ih1 ih2 =>
    cases r with
    | ex x k =>
      intro h1 h2 ha
      obtain ⟨a1, a2, a3⟩ := ih1 (by omega)
      obtain ⟨b1, b2, b3⟩ := ih2 h1 a2 (hE2 ha a3)
      exact ⟨by omega, b2, b3⟩
    | exs => trivial
    | bad => trivial
  | cmp h0 _ hx ih1 =>
    intro h1 h2 ha
    obtain ⟨a1, a2, a3⟩ := ih1 (by omega)
    exact ⟨by omega, a2, hE2 ha a3⟩
  | neg h0 _ ih => exact ⟨by have := ih.1; omega, ih.2.1, hE1 (by decide) none_small ih.2.2⟩
  | not h0 _ ih => exact ⟨by have := ih.1; omega, ih.2.1, hE1 (by decide) none_small ih.2.2⟩
  | par h0 _ hc ih =>
    obtain ⟨a1, a2, a3⟩ := ih (by decide)
    exact ⟨by omega, by have := isAt_len hc; omega, a3⟩
  | tru h0 => exact ⟨by omega, by have := headQ_len (ws := ws) (by rw [h0]; decide); omega, hE (by decide) none_small⟩
  | fls h0 => exact ⟨by omega, by have := headQ_len (ws := ws) (by rw [h0]; decide); omega, hE (by decide) none_small⟩
  | host h0 _ _ _ ih => exact ⟨by have := ih.1; omega, ih.2.1, hEl (by decide) none_small (by have := ih.1; have := ih.2.1; omega) ih.2.2⟩
  | num h0 => exact ⟨by omega, by have := headQ_len (ws := ws) (by rw [h0]; decide); omega, hE (by decide) none_small⟩
  | var h0 _ => exact ⟨by omega, by have := headQ_len (ws := ws) (by rw [h0]; decide); omega, hE (by decide) (ht _)⟩
  | call h0 _ _ ih => exact ⟨by have := ih.1; omega, ih.2.1, hEl (by decide) (ht _) (by have := ih.1; have := ih.2.1; omega) ih.2.2⟩
  | close hc => exact ⟨by simp, by have := isAt_len hc; omega, by simp⟩
  | first hc _ _ ih1 ih2 =>
    obtain ⟨a1, a2, a3⟩ := ih1 (by decide)
    exact ⟨by have := ih2.1; simp; omega, ih2.2.1, by intro a ha; rcases List.mem_cons.1 ha with rfl | ha; exact a3; exact ih2.2.2 a ha⟩
  | next hc hd _ _ ih1 ih2 =>
    obtain ⟨a1, a2, a3⟩ := ih1 (by decide)
    exact ⟨by have := ih2.1; simp; omega, ih2.2.1, by intro a ha; rcases List.mem_cons.1 ha with rfl | ha; exact a3; exact ih2.2.2 a ha⟩
  | _ => trivial
theorem nameS_small {ws : List Wd} (hz : WsZ ws) (i : Nat) : (nameS ws i).size ≤ maxLen := by
  unfold nameS
  repeat' split
  · exact hz.text _
  · exact hz.text _
  · exact none_small
def smallS (ws : List Wd) : Qs → Rs → Prop
  | .stmt i, .st s j => i < j ∧ j ≤ ws.length ∧ SmZ s
  | .block i, .sts l j => i + l.length < j ∧ j ≤ ws.length ∧ ∀ s ∈ l, SmZ s
  | .stmts i, .sts l j => i + l.length < j ∧ j ≤ ws.length ∧ ∀ s ∈ l, SmZ s
  | _, _ => True
theorem exprS_ge (ws : List Wd) (i : Nat) : i ≤ exprS ws i := by unfold exprS; repeat' (first | omega | split)
theorem Ds.small {ws : List Wd} {en : Nat} {q : Qs} {r : Rs} (hz : WsZ ws) (h : Ds ws en q r) : smallS ws q r := by
  have hl := hz.1
  have hS : ∀ {k : Int} {nm : ByteArray} {a : Ex} {b e : List Sm} {p : Int}, nm.size ≤ maxLen → ExZ a → b.length ≤ 4000 → e.length ≤ 4000 → (∀ s ∈ b, SmZ s) → (∀ s ∈ e, SmZ s) → SmZ (.mk k nm a b e p) := fun h1 h2 h3 h4 h5 h6 => .mk h1 h2 (by omega) (by omega) h5 h6
  induction h with
  | @simp i j x _ _ _ hx hc =>
    obtain ⟨a1, a2, a3⟩ := hx.small hz (by decide)
    have := exprS_ge ws i
    exact ⟨by omega, by have := isAt_len hc; omega, hS (nameS_small hz _) a3 (by simp) (by simp) (by simp) (by simp)⟩
  | whil _ hx _ ih =>
    obtain ⟨a1, a2, a3⟩ := hx.small hz (by decide)
    exact ⟨by have := ih.1; omega, ih.2.1, hS none_small a3 (by have := ih.1; have := ih.2.1; omega) (by simp) ih.2.2 (by simp)⟩
  | if0 _ hx _ _ ih =>
    obtain ⟨a1, a2, a3⟩ := hx.small hz (by decide)
    exact ⟨by have := ih.1; omega, ih.2.1, hS none_small a3 (by have := ih.1; have := ih.2.1; omega) (by simp) ih.2.2 (by simp)⟩
  | ifE _ hx _ _ _ _ ih ih2 =>
    obtain ⟨a1, a2, a3⟩ := hx.small hz (by decide)
    exact ⟨by have := ih.1; have := ih2.1; omega, ih2.2.1, hS none_small a3 (by have := ih.1; have := ih.2.1; omega) (by have := ih2.1; have := ih2.2.1; omega) ih.2.2 ih2.2.2⟩
  | ifI _ hx _ _ _ _ ih ih2 =>
    obtain ⟨a1, a2, a3⟩ := hx.small hz (by decide)
    exact ⟨by have := ih.1; have := ih2.1; omega, ih2.2.1, hS none_small a3 (by have := ih.1; have := ih.2.1; omega) (by simp) ih.2.2 (by simp; exact ih2.2.2)⟩
  | @block i r _ _ ih =>
    cases r with
    | sts l j => exact ⟨by have := ih.1; omega, ih.2⟩
    | st => trivial
    | bad => trivial
  | done hc => exact ⟨by simp, by have := isAt_len hc; omega, by simp⟩
  | more _ _ _ ih1 ih2 =>
    exact ⟨by have := ih1.1; have := ih2.1; simp; omega, ih2.2.1, by intro a ha; rcases List.mem_cons.1 ha with rfl | ha; exact ih1.2.2; exact ih2.2.2 a ha⟩
  | _ => trivial
theorem typF_len {ws : List Wd} {i : Nat} {t : Int} (h : typF ws i = .ok t) : i + 2 ≤ ws.length := by
  unfold typF at h
  repeat' split at h
  all_goals first
    | (have := isAt_len ‹isAt ws (i + 1) _ = true›; omega)
    | cases h
theorem Dp.small {ws : List Wd} {en k i : Nat} {r : Rp} (hz : WsZ ws) (h : Dp ws en k i r) : ∀ ns ts j, r = .ok ns ts j → i + ns.length < j ∧ j ≤ ws.length ∧ ts.length = ns.length ∧ ∀ n ∈ ns, n.size ≤ maxLen := by
  induction h with
  | close hc => rintro ns ts j e; cases e; exact ⟨by simp, by have := isAt_len hc; omega, rfl, by simp⟩
  | @next k i j t ns ts _ _ _ ht _ ih =>
    rintro ns' ts' j' e; cases e
    obtain ⟨a1, a2, a3, a4⟩ := ih _ _ _ rfl
    have hp : i ≤ parAt k i := by unfold parAt; split <;> omega
    exact ⟨by simp; omega, a2, by simp [a3], by intro n hn; rcases List.mem_cons.1 hn with rfl | hn; exact hz.text _; exact a4 n hn⟩
  | _ => rintro ns ts j e; cases e
theorem Df.small {ws : List Wd} {en i : Nat} {f : Fn} {j : Nat} (hz : WsZ ws) (h : Df ws en i (.fn f j)) : i < j ∧ j ≤ ws.length ∧ FnZ f := by
  have hl := hz.1
  cases h with
  | fn h0 h1 h2 h3 h4 h5 =>
    obtain ⟨a1, a2, a3, a4⟩ := h3.small hz _ _ _ rfl
    obtain ⟨b1, b2, b3⟩ := h5.small hz
    exact ⟨by omega, b2, ⟨hz.text _, a4, by dsimp only; omega, by dsimp only; omega, by dsimp only; omega, b3⟩⟩
theorem Du.small {ws : List Wd} {en i : Nat} {r : Ru} (hz : WsZ ws) (h : Du ws en i r) : ∀ l, r = .fns l → i + l.length ≤ ws.length + i ∧ (i ≤ ws.length → i + l.length ≤ ws.length) ∧ ∀ f ∈ l, FnZ f := by
  induction h with
  | done _ => rintro l e; cases e; exact ⟨by simp, by simp, by simp⟩
  | more hi hf _ ih =>
    rintro l e; cases e
    obtain ⟨a1, a2, a3⟩ := hf.small hz
    obtain ⟨b1, b2, b3⟩ := ih _ rfl
    have := b2 a2
    exact ⟨by simp; omega, fun _ => by simp; omega, by intro f' hf'; rcases List.mem_cons.1 hf' with rfl | hf'; exact a3; exact b3 _ hf'⟩
  | _ => rintro l e; cases e
end Go.Proofs.YtmngofgminlloaaGreatDoor

namespace Go.Proofs.YtmngofgminlloaaGreatDoor
open Go.RowKit Tw Go.Maps

structure FrU (w W : World) (rb bu b2 base : Nat) (v : Value) (ws : List Wd) (i en : Nat) (b : Bool) (A : Option Addr) (c : Nat) (l : List (Fn × Value × Value × Value)) : Prop where
  rd : Rd W rb v ws i en b
  un : W.heap[bu]? = some (.cells #[.slice A l.length c] 24 (0, 0))
  res : W.heap[b2]? = some (.cells #[.slice none 0 0] 24 (0, 0))
  row : GRow fnElem W base 32 6 (.slice A l.length c) l
  be : Below w.heap.size w W
  gl : Glob W
  r0 : 10 < rb
  z0 : w.heap.size ≤ b2
  z1 : b2 < rb
  z2 : rb < bu
  z3 : bu < base
  z4 : base ≤ W.heap.size
theorem below_grown {B : Nat} {w w1 w2 : World} {r : Nat} (h : Below B w w1) (hg : w1.grownBy w2 (some r)) (hr : B ≤ r) (hB : B ≤ w1.heap.size) : Below B w w2 :=
  ⟨hg.os.trans h.os, hg.tape.trans h.tape, hg.output.trans h.output, Nat.le_trans h.size hg.size, fun k hk => (hg.block k (by omega) (by simp; omega)).trans (h.block k hk)⟩
theorem FrU.step {w W W' : World} {rb bu b2 base : Nat} {v : Value} {ws : List Wd} {i en : Nat} {b : Bool} {A : Option Addr} {c : Nat} {l : List (Fn × Value × Value × Value)} {i' : Nat} {b' : Bool}
    (h : FrU w W rb bu b2 base v ws i en b A c l) (hr : Rd W' rb v ws i' en b') (hg : W.grownBy W' (some rb)) : FrU w W' rb bu b2 base v ws i' en b' A c l := by
  have h0 := h.z0; have h1 := h.z1; have h2 := h.z2; have h3 := h.z3; have h4 := h.z4
  exact ⟨hr, (hg.block bu (by omega) (by simp; omega)).trans h.un, (hg.block b2 (by omega) (by simp; omega)).trans h.res, h.row.kept hg (fun k e => .inl (by cases e; omega)), below_grown h.be hg (by omega) (by omega), h.gl.of hg h.r0, h.r0, h0, h1, h2, h3, Nat.le_trans h4 hg.size⟩
/-- The frame of one function: what is written of it lies in bf; its rows lie in new blocks. -/
structure FrF (wr W : World) (rb bf base : Nat) (v : Value) (ws : List Wd) (i en : Nat) (b : Bool) (nm : ByteArray) (An : Option Addr) (cn : Nat) (ns : List ByteArray) (At : Option Addr) (ct : Nat) (ts : List Int) (out : Int) (vb : Value) (pos : Int) : Prop where
  rd : Rd W rb v ws i en b
  fb : W.heap[bf]? = some (.cells #[.string nm, .slice An ns.length cn, .slice At ts.length ct, .int .i64 out, vb, .int .i64 pos] 32 (0, 0))
  gr : wr.grownBy W (some rb)
  gl : Glob W
  rn : GRow strElem W base 9 1 (.slice An ns.length cn) ns
  rt : GRow intElem W base 3 1 (.slice At ts.length ct) ts
  ne : ∀ g, (Value.slice An ns.length cn).ownBlock = some g → (Value.slice At ts.length ct).ownBlock ≠ some g
  r0 : 10 < rb
  z0 : rb < wr.heap.size
  z1 : wr.heap.size ≤ bf
  z2 : bf < base
  z3 : base ≤ W.heap.size
section
variable {wr W W' : World} {rb bf base : Nat} {v : Value} {ws : List Wd} {i en : Nat} {b : Bool} {nm : ByteArray} {An : Option Addr} {cn : Nat} {ns : List ByteArray} {At : Option Addr} {ct : Nat} {ts : List Int} {out : Int} {vb : Value} {pos : Int}
theorem FrF.step {i' : Nat} {b' : Bool} (h : FrF wr W rb bf base v ws i en b nm An cn ns At ct ts out vb pos) (hr : Rd W' rb v ws i' en b') (hg : W.grownBy W' (some rb)) : FrF wr W' rb bf base v ws i' en b' nm An cn ns At ct ts out vb pos := by
  have h0 := h.z0; have h1 := h.z1; have h2 := h.z2; have h3 := h.z3
  exact ⟨hr, (hg.block bf (by omega) (by simp; omega)).trans h.fb, grown_trans h.gr hg, h.gl.of hg h.r0, h.rn.kept hg (fun k e => .inl (by cases e; omega)), h.rt.kept hg (fun k e => .inl (by cases e; omega)), h.ne, h.r0, h0, h1, h2, Nat.le_trans h3 hg.size⟩
theorem FrF.below (h : FrF wr W rb bf base v ws i en b nm An cn ns At ct ts out vb pos) (hb : Below W.heap.size W W') : FrF wr W' rb bf base v ws i en b nm An cn ns At ct ts out vb pos := h.step (h.rd.keep hb) (grown_of_below hb _)
/-- A write of a cell of the function's. -/
theorem FrF.cell {x : Value} (h : FrF wr W rb bf base v ws i en b nm An cn ns At ct ts out vb pos) (j : Nat) : W.grownBy (W.setCell ⟨bf, j, none⟩ x) (some bf) ∧ Rd (W.setCell ⟨bf, j, none⟩ x) rb v ws i en b ∧ wr.grownBy (W.setCell ⟨bf, j, none⟩ x) (some rb) ∧ Glob (W.setCell ⟨bf, j, none⟩ x) ∧ GRow strElem (W.setCell ⟨bf, j, none⟩ x) base 9 1 (.slice An ns.length cn) ns ∧ GRow intElem (W.setCell ⟨bf, j, none⟩ x) base 3 1 (.slice At ts.length ct) ts := by
  have h0 := h.z0; have h1 := h.z1; have h2 := h.z2; have h3 := h.z3
  have hg := grown_set W bf j x
  exact ⟨hg, h.rd.grown hg (by omega), grown_new h.gr hg (by omega), h.gl.same hg.size (fun g hg' => hg.block g (by have := h.r0; omega) (by simp; have := h.r0; omega)), h.rn.kept hg (fun k e => .inl (by cases e; omega)), h.rt.kept hg (fun k e => .inl (by cases e; omega))⟩
theorem FrF.s0 (h : FrF wr W rb bf base v ws i en b nm An cn ns At ct ts out vb pos) (x : ByteArray) : FrF wr (W.setCell ⟨bf, 0, none⟩ (.string x)) rb bf base v ws i en b x An cn ns At ct ts out vb pos := by
  obtain ⟨h1, h2, h3, h4, h5, h6⟩ := h.cell (x := (.string x)) 0
  exact ⟨h2, by simpa using heap_setCell_same W bf 0 _ _ (.string x) h.fb, h3, h4, h5, h6, h.ne, h.r0, h.z0, h.z1, h.z2, Nat.le_trans h.z3 h1.size⟩
theorem FrF.s3 (h : FrF wr W rb bf base v ws i en b nm An cn ns At ct ts out vb pos) (x : Int) : FrF wr (W.setCell ⟨bf, 3, none⟩ (.int .i64 x)) rb bf base v ws i en b nm An cn ns At ct ts x vb pos := by
  obtain ⟨h1, h2, h3, h4, h5, h6⟩ := h.cell (x := (.int .i64 x)) 3
  exact ⟨h2, by simpa using heap_setCell_same W bf 3 _ _ (.int .i64 x) h.fb, h3, h4, h5, h6, h.ne, h.r0, h.z0, h.z1, h.z2, Nat.le_trans h.z3 h1.size⟩
theorem FrF.s4 (h : FrF wr W rb bf base v ws i en b nm An cn ns At ct ts out vb pos) (x : Value) : FrF wr (W.setCell ⟨bf, 4, none⟩ x) rb bf base v ws i en b nm An cn ns At ct ts out x pos := by
  obtain ⟨h1, h2, h3, h4, h5, h6⟩ := h.cell (x := x) 4
  exact ⟨h2, by simpa using heap_setCell_same W bf 4 _ _ x h.fb, h3, h4, h5, h6, h.ne, h.r0, h.z0, h.z1, h.z2, Nat.le_trans h.z3 h1.size⟩
/-- One name more. -/
theorem FrF.name {s : ByteArray} {g cap k : Nat} (h : FrF wr W rb bf base v ws i en b nm An cn ns At ct ts out vb pos) (ho : W'.ownsRow base 9 1 (.slice (some ⟨g, 0, none⟩) (ns.length + 1) cap) (ns.length + 1) (ns.flatMap strElem.cells ++ strElem.cells s)) (hg : W.grownBy W' (Value.slice An ns.length cn).ownBlock) (hat : (Value.slice An ns.length cn).ownBlock = some g ∨ g = W.heap.size) (hk : k = ns.length + 1) :
    FrF wr (W'.setCell ⟨bf, 1, none⟩ (.slice (some ⟨g, 0, none⟩) k cap)) rb bf base v ws i en b nm (some ⟨g, 0, none⟩) cap (ns ++ [s]) At ct ts out vb pos := by
  subst hk
  have h0 := h.z0; have h1 := h.z1; have h2 := h.z2; have h3 := h.z3
  have hlt := h.rn.1.lt
  have hrow : ∀ k, (Value.slice An ns.length cn).ownBlock = some k → base ≤ k := fun k e => (hlt k e).1
  have hrn : GRow strElem W' base 9 1 (.slice (some ⟨g, 0, none⟩) (ns.length + 1) cap) (ns ++ [s]) := GRow.app (F := fun _ => False) h.rn trivial (fun _ h => h.elim) ho hg hat
  have hrt : GRow intElem W' base 3 1 (.slice At ts.length ct) ts := h.rt.beside (fun _ _ _ => trivial) hg (by
    cases hv : (Value.slice At ts.length ct).ownBlock with
    | none => exact .inl rfl
    | some k => right; intro e; exact h.ne k e.symm hv)
  have hgl : Glob W' := h.gl.same hg.size (fun q hq => hg.block q (by have := h.r0; omega) (fun e => by have := hrow q e.symm; have := h.r0; omega))
  have hset := grown_set W' bf 1 (.slice (some ⟨g, 0, none⟩) (ns.length + 1) cap)
  have hfb : W'.heap[bf]? = some (.cells #[.string nm, .slice An ns.length cn, .slice At ts.length ct, .int .i64 out, vb, .int .i64 pos] 32 (0, 0)) := (hg.block bf (by omega) (fun e => by have := hrow bf e.symm; omega)).trans h.fb
  have hgr : wr.grownBy W' (some rb) := ⟨hg.os.trans h.gr.os, hg.tape.trans h.gr.tape, hg.output.trans h.gr.output, Nat.le_trans h.gr.size hg.size, fun q hq hr => (hg.block q (Nat.lt_of_lt_of_le hq h.gr.size) (fun e => by have := hrow q e.symm; omega)).trans (h.gr.block q hq hr)⟩
  have hrd : Rd W' rb v ws i en b := ⟨(hg.block rb h.rd.lt (fun e => by have := hrow rb e.symm; omega)).trans h.rd.blk, h.rd.row.same fun q hq => hg.block q (Nat.lt_trans hq h.rd.lt) (fun e => by have := hrow q e.symm; omega), h.rd.len, h.rd.pos⟩
  have e1 : (ns ++ [s]).length = ns.length + 1 := by simp
  refine ⟨hrd.grown hset (by omega), by rw [e1]; simpa using heap_setCell_same W' bf 1 _ _ (.slice (some ⟨g, 0, none⟩) (ns.length + 1) cap) hfb, grown_new hgr hset (by omega), hgl.same hset.size (fun q hq => hset.block q (by have := h.r0; have := hg.size; omega) (by simp; have := h.r0; omega)),
    by rw [e1]; exact hrn.kept hset (fun k e => .inl (by cases e; omega)), hrt.kept hset (fun k e => .inl (by cases e; omega)), ?_, h.r0, h0, h1, h2, Nat.le_trans h3 (Nat.le_trans hg.size hset.size)⟩
  intro q hq e
  simp [Value.ownBlock] at hq
  subst hq
  rcases hat with hat | hat
  · exact h.ne g hat e
  · have := (h.rt.1.lt g e).2; omega
/-- One type more. -/
theorem FrF.typ {s : Int} {g cap k : Nat} (h : FrF wr W rb bf base v ws i en b nm An cn ns At ct ts out vb pos) (ho : W'.ownsRow base 3 1 (.slice (some ⟨g, 0, none⟩) (ts.length + 1) cap) (ts.length + 1) (ts.flatMap intElem.cells ++ intElem.cells s)) (hg : W.grownBy W' (Value.slice At ts.length ct).ownBlock) (hat : (Value.slice At ts.length ct).ownBlock = some g ∨ g = W.heap.size) (hk : k = ts.length + 1) :
    FrF wr (W'.setCell ⟨bf, 2, none⟩ (.slice (some ⟨g, 0, none⟩) k cap)) rb bf base v ws i en b nm An cn ns (some ⟨g, 0, none⟩) cap (ts ++ [s]) out vb pos := by
  subst hk
  have h0 := h.z0; have h1 := h.z1; have h2 := h.z2; have h3 := h.z3
  have hlt := h.rt.1.lt
  have hrow : ∀ k, (Value.slice At ts.length ct).ownBlock = some k → base ≤ k := fun k e => (hlt k e).1
  have hrt : GRow intElem W' base 3 1 (.slice (some ⟨g, 0, none⟩) (ts.length + 1) cap) (ts ++ [s]) := GRow.app (F := fun _ => False) h.rt trivial (fun _ h => h.elim) ho hg hat
  have hrn : GRow strElem W' base 9 1 (.slice An ns.length cn) ns := h.rn.beside (fun _ _ _ => trivial) hg (by
    cases hv : (Value.slice An ns.length cn).ownBlock with
    | none => exact .inl rfl
    | some k => right; intro e; exact h.ne k hv e.symm)
  have hgl : Glob W' := h.gl.same hg.size (fun q hq => hg.block q (by have := h.r0; omega) (fun e => by have := hrow q e.symm; have := h.r0; omega))
  have hset := grown_set W' bf 2 (.slice (some ⟨g, 0, none⟩) (ts.length + 1) cap)
  have hfb : W'.heap[bf]? = some (.cells #[.string nm, .slice An ns.length cn, .slice At ts.length ct, .int .i64 out, vb, .int .i64 pos] 32 (0, 0)) := (hg.block bf (by omega) (fun e => by have := hrow bf e.symm; omega)).trans h.fb
  have hgr : wr.grownBy W' (some rb) := ⟨hg.os.trans h.gr.os, hg.tape.trans h.gr.tape, hg.output.trans h.gr.output, Nat.le_trans h.gr.size hg.size, fun q hq hr => (hg.block q (Nat.lt_of_lt_of_le hq h.gr.size) (fun e => by have := hrow q e.symm; omega)).trans (h.gr.block q hq hr)⟩
  have hrd : Rd W' rb v ws i en b := ⟨(hg.block rb h.rd.lt (fun e => by have := hrow rb e.symm; omega)).trans h.rd.blk, h.rd.row.same fun q hq => hg.block q (Nat.lt_trans hq h.rd.lt) (fun e => by have := hrow q e.symm; omega), h.rd.len, h.rd.pos⟩
  have e1 : (ts ++ [s]).length = ts.length + 1 := by simp
  refine ⟨hrd.grown hset (by omega), by rw [e1]; simpa using heap_setCell_same W' bf 2 _ _ (.slice (some ⟨g, 0, none⟩) (ts.length + 1) cap) hfb, grown_new hgr hset (by omega), hgl.same hset.size (fun q hq => hset.block q (by have := h.r0; have := hg.size; omega) (by simp; have := h.r0; omega)),
    hrn.kept hset (fun k e => .inl (by cases e; omega)), by rw [e1]; exact hrt.kept hset (fun k e => .inl (by cases e; omega)), ?_, h.r0, h0, h1, h2, Nat.le_trans h3 (Nat.le_trans hg.size hset.size)⟩
  intro q hq e
  simp [Value.ownBlock] at e
  subst e
  rcases hat with hat | hat
  · exact h.ne g hq hat
  · have := (h.rn.1.lt g hq).2; omega
end
end Go.Proofs.YtmngofgminlloaaGreatDoor

namespace Go.Proofs.YtmngofgminlloaaGreatDoor
open Go.RowKit Tw

/-- The frame of one function: what is written of it lies in bf; its rows lie in new blocks. -/
structure FrG (wr W : World) (rb b0 bf base : Nat) (v : Value) (ws : List Wd) (i en : Nat) (nm : ByteArray) (An : Option Addr) (cn : Nat) (ns : List ByteArray) (At : Option Addr) (ct : Nat) (ts : List Int) (out : Int) (vb : Value) (pos : Int) : Prop where
  rd : Rq W rb v ws i en
  fb : W.heap[bf]? = some (.cells #[.string nm, .slice An ns.length cn, .slice At ts.length ct, .int .i64 out, vb, .int .i64 pos] 32 (0, 0))
  res : W.heap[b0]? = some (.cells #[.string ⟨#[]⟩, .slice none 0 0, .slice none 0 0, .int .i64 0, .slice none 0 0, .int .i64 0] 32 (0, 0))
  gr : wr.grownBy W (some rb)
  gl : Glob W
  rn : GRow strElem W base 9 1 (.slice An ns.length cn) ns
  rt : GRow intElem W base 3 1 (.slice At ts.length ct) ts
  ne : ∀ g, (Value.slice An ns.length cn).ownBlock = some g → (Value.slice At ts.length ct).ownBlock ≠ some g
  r0 : 10 < rb
  z0 : rb < wr.heap.size
  z1 : wr.heap.size ≤ bf
  zb : wr.heap.size ≤ b0 ∧ b0 < bf
  z2 : bf < base
  z3 : base ≤ W.heap.size
section
variable {wr W W' : World} {rb b0 bf base : Nat} {v : Value} {ws : List Wd} {i en : Nat} {nm : ByteArray} {An : Option Addr} {cn : Nat} {ns : List ByteArray} {At : Option Addr} {ct : Nat} {ts : List Int} {out : Int} {vb : Value} {pos : Int}
theorem FrG.step {i' : Nat} (h : FrG wr W rb b0 bf base v ws i en nm An cn ns At ct ts out vb pos) (hr : Rq W' rb v ws i' en) (hg : W.grownBy W' (some rb)) : FrG wr W' rb b0 bf base v ws i' en nm An cn ns At ct ts out vb pos := by
  have h0 := h.z0; have h1 := h.z1; have h2 := h.z2; have h3 := h.z3; have hb := h.zb
  exact ⟨hr, (hg.block bf (by omega) (by simp; omega)).trans h.fb, (hg.block b0 (by omega) (by simp; omega)).trans h.res, grown_trans h.gr hg, h.gl.of hg h.r0, h.rn.kept hg (fun k e => .inl (by cases e; omega)), h.rt.kept hg (fun k e => .inl (by cases e; omega)), h.ne, h.r0, h0, h1, h.zb, h2, Nat.le_trans h3 hg.size⟩
theorem FrG.below (h : FrG wr W rb b0 bf base v ws i en nm An cn ns At ct ts out vb pos) (hb : Below W.heap.size W W') : FrG wr W' rb b0 bf base v ws i en nm An cn ns At ct ts out vb pos := h.step (h.rd.keep hb) (grown_of_below hb _)
/-- A write of a cell of the function's. -/
theorem FrG.cell {x : Value} (h : FrG wr W rb b0 bf base v ws i en nm An cn ns At ct ts out vb pos) (j : Nat) : W.grownBy (W.setCell ⟨bf, j, none⟩ x) (some bf) ∧ Rq (W.setCell ⟨bf, j, none⟩ x) rb v ws i en ∧ wr.grownBy (W.setCell ⟨bf, j, none⟩ x) (some rb) ∧ Glob (W.setCell ⟨bf, j, none⟩ x) ∧ GRow strElem (W.setCell ⟨bf, j, none⟩ x) base 9 1 (.slice An ns.length cn) ns ∧ GRow intElem (W.setCell ⟨bf, j, none⟩ x) base 3 1 (.slice At ts.length ct) ts ∧ (W.setCell ⟨bf, j, none⟩ x).heap[b0]? = some (.cells #[.string ⟨#[]⟩, .slice none 0 0, .slice none 0 0, .int .i64 0, .slice none 0 0, .int .i64 0] 32 (0, 0)) := by
  have h0 := h.z0; have h1 := h.z1; have h2 := h.z2; have h3 := h.z3; have hb := h.zb
  have hg := grown_set W bf j x
  exact ⟨hg, h.rd.grown hg (by omega), grown_new h.gr hg (by omega), h.gl.same hg.size (fun g hg' => hg.block g (by have := h.r0; omega) (by simp; have := h.r0; omega)), h.rn.kept hg (fun k e => .inl (by cases e; omega)), h.rt.kept hg (fun k e => .inl (by cases e; omega)), (hg.block b0 (by omega) (by simp; omega)).trans h.res⟩
theorem FrG.s0 (h : FrG wr W rb b0 bf base v ws i en nm An cn ns At ct ts out vb pos) (x : ByteArray) : FrG wr (W.setCell ⟨bf, 0, none⟩ (.string x)) rb b0 bf base v ws i en x An cn ns At ct ts out vb pos := by
  obtain ⟨h1, h2, h3, h4, h5, h6, h7⟩ := h.cell (x := (.string x)) 0
  exact ⟨h2, by simpa using heap_setCell_same W bf 0 _ _ (.string x) h.fb, h7, h3, h4, h5, h6, h.ne, h.r0, h.z0, h.z1, h.zb, h.z2, Nat.le_trans h.z3 h1.size⟩
theorem FrG.s3 (h : FrG wr W rb b0 bf base v ws i en nm An cn ns At ct ts out vb pos) (x : Int) : FrG wr (W.setCell ⟨bf, 3, none⟩ (.int .i64 x)) rb b0 bf base v ws i en nm An cn ns At ct ts x vb pos := by
  obtain ⟨h1, h2, h3, h4, h5, h6, h7⟩ := h.cell (x := (.int .i64 x)) 3
  exact ⟨h2, by simpa using heap_setCell_same W bf 3 _ _ (.int .i64 x) h.fb, h7, h3, h4, h5, h6, h.ne, h.r0, h.z0, h.z1, h.zb, h.z2, Nat.le_trans h.z3 h1.size⟩
theorem FrG.s4 (h : FrG wr W rb b0 bf base v ws i en nm An cn ns At ct ts out vb pos) (x : Value) : FrG wr (W.setCell ⟨bf, 4, none⟩ x) rb b0 bf base v ws i en nm An cn ns At ct ts out x pos := by
  obtain ⟨h1, h2, h3, h4, h5, h6, h7⟩ := h.cell (x := x) 4
  exact ⟨h2, by simpa using heap_setCell_same W bf 4 _ _ x h.fb, h7, h3, h4, h5, h6, h.ne, h.r0, h.z0, h.z1, h.zb, h.z2, Nat.le_trans h.z3 h1.size⟩
/-- One name more. -/
theorem FrG.name {s : ByteArray} {g cap k : Nat} (h : FrG wr W rb b0 bf base v ws i en nm An cn ns At ct ts out vb pos) (ho : W'.ownsRow base 9 1 (.slice (some ⟨g, 0, none⟩) (ns.length + 1) cap) (ns.length + 1) (ns.flatMap strElem.cells ++ strElem.cells s)) (hg : W.grownBy W' (Value.slice An ns.length cn).ownBlock) (hat : (Value.slice An ns.length cn).ownBlock = some g ∨ g = W.heap.size) (hk : k = ns.length + 1) :
    FrG wr (W'.setCell ⟨bf, 1, none⟩ (.slice (some ⟨g, 0, none⟩) k cap)) rb b0 bf base v ws i en nm (some ⟨g, 0, none⟩) cap (ns ++ [s]) At ct ts out vb pos := by
  subst hk
  have h0 := h.z0; have h1 := h.z1; have h2 := h.z2; have h3 := h.z3; have hb := h.zb
  have hlt := h.rn.1.lt
  have hrow : ∀ k, (Value.slice An ns.length cn).ownBlock = some k → base ≤ k := fun k e => (hlt k e).1
  have hrn : GRow strElem W' base 9 1 (.slice (some ⟨g, 0, none⟩) (ns.length + 1) cap) (ns ++ [s]) := GRow.app (F := fun _ => False) h.rn trivial (fun _ h => h.elim) ho hg hat
  have hrt : GRow intElem W' base 3 1 (.slice At ts.length ct) ts := h.rt.beside (fun _ _ _ => trivial) hg (by
    cases hv : (Value.slice At ts.length ct).ownBlock with
    | none => exact .inl rfl
    | some k => right; intro e; exact h.ne k e.symm hv)
  have hgl : Glob W' := h.gl.same hg.size (fun q hq => hg.block q (by have := h.r0; omega) (fun e => by have := hrow q e.symm; have := h.r0; omega))
  have hset := grown_set W' bf 1 (.slice (some ⟨g, 0, none⟩) (ns.length + 1) cap)
  have hfb : W'.heap[bf]? = some (.cells #[.string nm, .slice An ns.length cn, .slice At ts.length ct, .int .i64 out, vb, .int .i64 pos] 32 (0, 0)) := (hg.block bf (by omega) (fun e => by have := hrow bf e.symm; omega)).trans h.fb
  have hgr : wr.grownBy W' (some rb) := ⟨hg.os.trans h.gr.os, hg.tape.trans h.gr.tape, hg.output.trans h.gr.output, Nat.le_trans h.gr.size hg.size, fun q hq hr => (hg.block q (Nat.lt_of_lt_of_le hq h.gr.size) (fun e => by have := hrow q e.symm; omega)).trans (h.gr.block q hq hr)⟩
  have hrd : Rq W' rb v ws i en := ⟨(hg.block rb h.rd.lt (fun e => by have := hrow rb e.symm; omega)).trans h.rd.blk, h.rd.row.same fun q hq => hg.block q (Nat.lt_trans hq h.rd.lt) (fun e => by have := hrow q e.symm; omega), h.rd.len, h.rd.pos⟩
  have e1 : (ns ++ [s]).length = ns.length + 1 := by simp
  refine ⟨hrd.grown hset (by omega), by rw [e1]; simpa using heap_setCell_same W' bf 1 _ _ (.slice (some ⟨g, 0, none⟩) (ns.length + 1) cap) hfb, (hset.block b0 (by have := hg.size; omega) (by simp; omega)).trans ((hg.block b0 (by omega) (fun e => by have := hrow b0 e.symm; omega)).trans h.res), grown_new hgr hset (by omega), hgl.same hset.size (fun q hq => hset.block q (by have := h.r0; have := hg.size; omega) (by simp; have := h.r0; omega)),
    by rw [e1]; exact hrn.kept hset (fun k e => .inl (by cases e; omega)), hrt.kept hset (fun k e => .inl (by cases e; omega)), ?_, h.r0, h0, h1, h.zb, h2, Nat.le_trans h3 (Nat.le_trans hg.size hset.size)⟩
  intro q hq e
  simp [Value.ownBlock] at hq
  subst hq
  rcases hat with hat | hat
  · exact h.ne g hat e
  · have := (h.rt.1.lt g e).2; omega
/-- One type more. -/
theorem FrG.typ {s : Int} {g cap k : Nat} (h : FrG wr W rb b0 bf base v ws i en nm An cn ns At ct ts out vb pos) (ho : W'.ownsRow base 3 1 (.slice (some ⟨g, 0, none⟩) (ts.length + 1) cap) (ts.length + 1) (ts.flatMap intElem.cells ++ intElem.cells s)) (hg : W.grownBy W' (Value.slice At ts.length ct).ownBlock) (hat : (Value.slice At ts.length ct).ownBlock = some g ∨ g = W.heap.size) (hk : k = ts.length + 1) :
    FrG wr (W'.setCell ⟨bf, 2, none⟩ (.slice (some ⟨g, 0, none⟩) k cap)) rb b0 bf base v ws i en nm An cn ns (some ⟨g, 0, none⟩) cap (ts ++ [s]) out vb pos := by
  subst hk
  have h0 := h.z0; have h1 := h.z1; have h2 := h.z2; have h3 := h.z3; have hb := h.zb
  have hlt := h.rt.1.lt
  have hrow : ∀ k, (Value.slice At ts.length ct).ownBlock = some k → base ≤ k := fun k e => (hlt k e).1
  have hrt : GRow intElem W' base 3 1 (.slice (some ⟨g, 0, none⟩) (ts.length + 1) cap) (ts ++ [s]) := GRow.app (F := fun _ => False) h.rt trivial (fun _ h => h.elim) ho hg hat
  have hrn : GRow strElem W' base 9 1 (.slice An ns.length cn) ns := h.rn.beside (fun _ _ _ => trivial) hg (by
    cases hv : (Value.slice An ns.length cn).ownBlock with
    | none => exact .inl rfl
    | some k => right; intro e; exact h.ne k hv e.symm)
  have hgl : Glob W' := h.gl.same hg.size (fun q hq => hg.block q (by have := h.r0; omega) (fun e => by have := hrow q e.symm; have := h.r0; omega))
  have hset := grown_set W' bf 2 (.slice (some ⟨g, 0, none⟩) (ts.length + 1) cap)
  have hfb : W'.heap[bf]? = some (.cells #[.string nm, .slice An ns.length cn, .slice At ts.length ct, .int .i64 out, vb, .int .i64 pos] 32 (0, 0)) := (hg.block bf (by omega) (fun e => by have := hrow bf e.symm; omega)).trans h.fb
  have hgr : wr.grownBy W' (some rb) := ⟨hg.os.trans h.gr.os, hg.tape.trans h.gr.tape, hg.output.trans h.gr.output, Nat.le_trans h.gr.size hg.size, fun q hq hr => (hg.block q (Nat.lt_of_lt_of_le hq h.gr.size) (fun e => by have := hrow q e.symm; omega)).trans (h.gr.block q hq hr)⟩
  have hrd : Rq W' rb v ws i en := ⟨(hg.block rb h.rd.lt (fun e => by have := hrow rb e.symm; omega)).trans h.rd.blk, h.rd.row.same fun q hq => hg.block q (Nat.lt_trans hq h.rd.lt) (fun e => by have := hrow q e.symm; omega), h.rd.len, h.rd.pos⟩
  have e1 : (ts ++ [s]).length = ts.length + 1 := by simp
  refine ⟨hrd.grown hset (by omega), by rw [e1]; simpa using heap_setCell_same W' bf 2 _ _ (.slice (some ⟨g, 0, none⟩) (ts.length + 1) cap) hfb, (hset.block b0 (by have := hg.size; omega) (by simp; omega)).trans ((hg.block b0 (by omega) (fun e => by have := hrow b0 e.symm; omega)).trans h.res), grown_new hgr hset (by omega), hgl.same hset.size (fun q hq => hset.block q (by have := h.r0; have := hg.size; omega) (by simp; have := h.r0; omega)),
    hrn.kept hset (fun k e => .inl (by cases e; omega)), by rw [e1]; exact hrt.kept hset (fun k e => .inl (by cases e; omega)), ?_, h.r0, h0, h1, h.zb, h2, Nat.le_trans h3 (Nat.le_trans hg.size hset.size)⟩
  intro q hq e
  simp [Value.ownBlock] at e
  subst e
  rcases hat with hat | hat
  · exact h.ne g hq hat
  · have := (h.rn.1.lt g hq).2; omega
end
theorem set6 {w : World} {b t : Nat} {u0 u1 u2 u3 u4 u5 : Value} (v0 v1 v2 v3 v4 v5 : Value) (h : w.heap[b]? = some (.cells #[u0, u1, u2, u3, u4, u5] t (0, 0))) :
    ((((((w.setCell ⟨b, 0, none⟩ v0).setCell ⟨b, 1, none⟩ v1).setCell ⟨b, 2, none⟩ v2).setCell ⟨b, 3, none⟩ v3).setCell ⟨b, 4, none⟩ v4).setCell ⟨b, 5, none⟩ v5).heap[b]? = some (.cells #[v0, v1, v2, v3, v4, v5] t (0, 0)) := by
  have h0 := heap_setCell_same _ b 0 _ _ v0 h
  have h1 := heap_setCell_same _ b 1 _ _ v1 h0
  have h2 := heap_setCell_same _ b 2 _ _ v2 h1
  have h3 := heap_setCell_same _ b 3 _ _ v3 h2
  have h4 := heap_setCell_same _ b 4 _ _ v4 h3
  have h5 := heap_setCell_same _ b 5 _ _ v5 h4
  simpa using h5
theorem grown6 (w : World) (b : Nat) (v0 v1 v2 v3 v4 v5 : Value) : w.grownBy ((((((w.setCell ⟨b, 0, none⟩ v0).setCell ⟨b, 1, none⟩ v1).setCell ⟨b, 2, none⟩ v2).setCell ⟨b, 3, none⟩ v3).setCell ⟨b, 4, none⟩ v4).setCell ⟨b, 5, none⟩ v5) (some b) :=
  grown_trans (grown_trans (grown_trans (grown_trans (grown_trans (grown_set _ _ _ _) (grown_set _ _ _ _)) (grown_set _ _ _ _)) (grown_set _ _ _ _)) (grown_set _ _ _ _)) (grown_set _ _ _ _)
theorem fnInfo : (Tryz.prog.info? 32).map (·.size) = some 6 := by kernel_rfl
theorem StrsIn.later {w w' : World} {F F' : Nat → Prop} {v : Value} {l : List ByteArray} (h : StrsIn w F v l) (row : Option Nat) (hg : w.grownBy w' row) (hk : ∀ g, F g → row ≠ some g) (hF : ∀ g, F g → F' g) : StrsIn w' F' v l :=
  h.keep fun g h1 h2 => ⟨hF g h1, Nat.lt_of_lt_of_le h2 hg.size, hg.block g h2 (fun e => hk g h1 e.symm)⟩
theorem IntsIn.later {w w' : World} {F F' : Nat → Prop} {v : Value} {l : List Int} (h : IntsIn w F v l) (row : Option Nat) (hg : w.grownBy w' row) (hk : ∀ g, F g → row ≠ some g) (hF : ∀ g, F g → F' g) : IntsIn w' F' v l :=
  h.keep fun g h1 h2 => ⟨hF g h1, Nat.lt_of_lt_of_le h2 hg.size, hg.block g h2 (fun e => hk g h1 e.symm)⟩
/-- What fun() answers, by what stands there. -/
def FnR (w : World) (rb : Nat) (v : Value) (ws : List Wd) (en : Nat) (r : Rf) (e : Ending) (w' : World) : Prop :=
  match r with
  | .fn f j => ∃ An cn At ct Ab cb, e = .returned (.agg #[.string f.name, .slice An f.names.length cn, .slice At f.types.length ct, .int .i64 f.out, .slice Ab f.body.length cb, .int .i64 f.pos]) ∧ StrsIn w' (fun g => w.heap.size ≤ g) (.slice An f.names.length cn) f.names ∧ IntsIn w' (fun g => w.heap.size ≤ g) (.slice At f.types.length ct) f.types ∧ StmtsIn w' (fun g => w.heap.size ≤ g) (.slice Ab f.body.length cb) f.body ∧ Rq w' rb v ws j en ∧ w.grownBy w' (some rb)
  | .bad j => e = badP ws en j ∧ w.grownBy w' (some rb)
def FnP (rb : Nat) (v : Value) (ws : List Wd) (en i : Nat) : Prop :=
  ∀ r, Df ws en i r → ∀ w, Rq w rb v ws i en → Glob w → Calls Tryz.prog 83 #[.pointer (some ⟨rb, 0, none⟩)] w fun e w' => FnR w rb v ws en r e w'
theorem FrG.ret {wr W : World} {rb b0 bf base : Nat} {v : Value} {ws : List Wd} {i en : Nat} {nm : ByteArray} {An : Option Addr} {cn : Nat} {ns : List ByteArray} {At : Option Addr} {ct : Nat} {ts : List Int} {out : Int} {Ab : Option Addr} {cb : Nat} {lb : List Sm} {pos : Int}
    (h : FrG wr W rb b0 bf base v ws i en nm An cn ns At ct ts out (.slice Ab lb.length cb) pos) (hB : StmtsIn W (fun g => base ≤ g) (.slice Ab lb.length cb) lb) :
    FnR wr rb v ws en (.fn ⟨nm, ns, ts, out, lb, pos⟩ i) (.returned (.agg #[.string nm, .slice An ns.length cn, .slice At ts.length ct, .int .i64 out, .slice Ab lb.length cb, .int .i64 pos]))
      ((((((W.setCell ⟨b0, 0, none⟩ (.string nm)).setCell ⟨b0, 1, none⟩ (.slice An ns.length cn)).setCell ⟨b0, 2, none⟩ (.slice At ts.length ct)).setCell ⟨b0, 3, none⟩ (.int .i64 out)).setCell ⟨b0, 4, none⟩ (.slice Ab lb.length cb)).setCell ⟨b0, 5, none⟩ (.int .i64 pos)) := by
  have hg := grown6 W b0 (.string nm) (.slice An ns.length cn) (.slice At ts.length ct) (.int .i64 out) (.slice Ab lb.length cb) (.int .i64 pos)
  have h0 := h.z0; have h1 := h.z1; have h2 := h.z2; have hb := h.zb
  exact ⟨An, cn, At, ct, Ab, cb, rfl, h.rn.strs.later _ hg (fun g (q : base ≤ g) => by simp; omega) (fun g q => by omega), h.rt.ints.later _ hg (fun g (q : base ≤ g) => by simp; omega) (fun g q => by omega), hB.later _ hg (fun g (q : base ≤ g) => by simp; omega) (fun g q => by omega), h.rd.grown hg (by omega), grown_new h.gr hg hb.1⟩
end Go.Proofs.YtmngofgminlloaaGreatDoor

namespace Go.Proofs.YtmngofgminlloaaGreatDoor
open Go.RowKit Tw

def joinP (ns : List ByteArray) (ts : List Int) : Rp → Rp
  | .ok ms us j => .ok (ns ++ ms) (ts ++ us) j
  | r => r
theorem joinP_nil (r : Rp) : joinP [] [] r = r := by cases r <;> simp [joinP]
theorem joinP_join (ns ms : List ByteArray) (ts us : List Int) (r : Rp) : joinP ns ts (joinP ms us r) = joinP (ns ++ ms) (ts ++ us) r := by cases r <;> simp [joinP]
section
variable {ws : List Wd} {en i k : Nat} {r : Rf} {q : Rp}
theorem dp_close (h : Dp ws en k i q) (hc : isAt ws i sClose = true) : q = .ok [] [] (i + 1) := by
  cases h with
  | close _ => rfl
  | comma g => rw [hc] at g; cases g
  | name g => rw [hc] at g; cases g
  | typ g => rw [hc] at g; cases g
  | next g => rw [hc] at g; cases g
  | nextR g => rw [hc] at g; cases g
theorem dp_more (h : Dp ws en k i q) (hc : isAt ws i sClose = false) :
    (k ≠ 0 ∧ isAt ws i sComma = false ∧ q = .bad i) ∨ ((k ≠ 0 → isAt ws i sComma = true) ∧ ((kindAt ws (parAt k i) ≠ 2 ∧ q = .bad (parAt k i)) ∨
      (kindAt ws (parAt k i) = 2 ∧ ((∃ j, typF ws (parAt k i + 1) = .bad j ∧ q = .bad j) ∨ ∃ t q2, typF ws (parAt k i + 1) = .ok t ∧ Dp ws en (k + 1) (parAt k i + 3) q2 ∧ q = joinP [textAt ws (parAt k i)] [t] q2)))) := by
  cases h with
  | close g => rw [hc] at g; cases g
  | comma _ g1 g2 => exact .inl ⟨g1, g2, rfl⟩
  | name _ g1 g2 => exact .inr ⟨g1, .inl ⟨g2, rfl⟩⟩
  | typ _ g1 g2 g3 => exact .inr ⟨g1, .inr ⟨g2, .inl ⟨_, g3, rfl⟩⟩⟩
  | next _ g1 g2 g3 g4 => exact .inr ⟨g1, .inr ⟨g2, .inr ⟨_, _, g3, g4, rfl⟩⟩⟩
  | nextR _ g1 g2 g3 g4 => exact .inr ⟨g1, .inr ⟨g2, .inr ⟨_, _, g3, g4, rfl⟩⟩⟩
theorem df_cases (h : Df ws en i r) :
    (isAt ws i sFun = false ∧ r = .bad i) ∨ (isAt ws i sFun = true ∧ ((kindAt ws (i + 1) ≠ 2 ∧ r = .bad (i + 1)) ∨ (kindAt ws (i + 1) = 2 ∧ ((isAt ws (i + 2) sOpen = false ∧ r = .bad (i + 2)) ∨
      (isAt ws (i + 2) sOpen = true ∧ ∃ q, Dp ws en 0 (i + 3) q ∧ (∀ j, q = .bad j → r = .bad j) ∧ (∀ ns ts j, q = .ok ns ts j → (∃ k, typF ws j = .bad k ∧ r = .bad k) ∨ ∃ t, typF ws j = .ok t ∧
        ((∃ k, Ds ws en (.block (j + 2)) (.bad k) ∧ r = .bad k) ∨ ∃ l k, Ds ws en (.block (j + 2)) (.sts l k) ∧ r = .fn ⟨textAt ws (i + 1), ns, ts, t, l, posAt ws i en⟩ k))))))) := by
  cases h with
  | noFun g => exact .inl ⟨g, rfl⟩
  | noName g g1 => exact .inr ⟨g, .inl ⟨g1, rfl⟩⟩
  | noOpen g g1 g2 => exact .inr ⟨g, .inr ⟨g1, .inl ⟨g2, rfl⟩⟩⟩
  | par g g1 g2 g3 => exact .inr ⟨g, .inr ⟨g1, .inr ⟨g2, _, g3, fun j e => (by injection e with e; rw [e]), fun ns ts j e => by cases e⟩⟩⟩
  | typ g g1 g2 g3 g4 => exact .inr ⟨g, .inr ⟨g1, .inr ⟨g2, _, g3, fun j e => (by cases e), fun ns ts j e => (by injection e with e1 e2 e3; subst e1; subst e2; subst e3; exact .inl ⟨_, g4, rfl⟩)⟩⟩⟩
  | body g g1 g2 g3 g4 g5 => exact .inr ⟨g, .inr ⟨g1, .inr ⟨g2, _, g3, fun j e => (by cases e), fun ns ts j e => (by injection e with e1 e2 e3; subst e1; subst e2; subst e3; exact .inr ⟨_, g4, .inl ⟨_, g5, rfl⟩⟩)⟩⟩⟩
  | fn g g1 g2 g3 g4 g5 => exact .inr ⟨g, .inr ⟨g1, .inr ⟨g2, _, g3, fun j e => (by cases e), fun ns ts j e => (by injection e with e1 e2 e3; subst e1; subst e2; subst e3; exact .inr ⟨_, g4, .inr ⟨_, _, g5, rfl⟩⟩)⟩⟩⟩
end
end Go.Proofs.YtmngofgminlloaaGreatDoor
