/-
  Precedence climbing (Dc) makes of words what levels make (De), in plain Lean.
  The frame of the program's reader's methods for expressions, and what they answer (ExR, ExprC, UnC, AtomC, ArgsP).
  The program's level(s): how strongly an operator binds.
  The program's unary() and atom(), of whatever their callees answer by contract.
-/
import Derived.Test.YtmngofgminlloaaGreatDoorPT08
import Derived.Outline
namespace Go.Proofs.YtmngofgminlloaaGreatDoor
open Go.RowKit Tw

/-- What an expression is, by climbing: lvl m stands for 'operators that bind more strongly than m'. -/
inductive Dc (ws : List Wd) (en : Nat) : Qe → Re → Prop
  | ex {m i j : Nat} {a : Ex} {r : Re} : Dc ws en (.one i) (.ex a j) → Dc ws en (.rest m a j) r → Dc ws en (.lvl m i) r
  | exB {m i j : Nat} : Dc ws en (.one i) (.bad j) → Dc ws en (.lvl m i) (.bad j)
  | stop {m j : Nat} {a : Ex} : lvAt ws j ≤ m → Dc ws en (.rest m a j) (.ex a j)
  | go {m j j' : Nat} {a b : Ex} {r : Re} : m < lvAt ws j → Dc ws en (.lvl (lvAt ws j) (j + 1)) (.ex b j') → ¬ (lvAt ws j = 3 ∧ lvAt ws j' = 3) → Dc ws en (.rest m (twoEx ws en j a b) j') r → Dc ws en (.rest m a j) r
  | goB {m j j' : Nat} {a : Ex} : m < lvAt ws j → Dc ws en (.lvl (lvAt ws j) (j + 1)) (.bad j') → Dc ws en (.rest m a j) (.bad j')
  | cmpB {m j j' : Nat} {a b : Ex} : m < lvAt ws j → lvAt ws j = 3 → Dc ws en (.lvl (lvAt ws j) (j + 1)) (.ex b j') → lvAt ws j' = 3 → Dc ws en (.rest m a j) (.bad j')
  | neg {i j : Nat} {y : Ex} : headQ ws i = 1 → Dc ws en (.one (i + 1)) (.ex y j) → Dc ws en (.one i) (.ex (.mk 4 0 sNone [y] (posAt ws i en)) j)
  | negB {i j : Nat} : headQ ws i = 1 → Dc ws en (.one (i + 1)) (.bad j) → Dc ws en (.one i) (.bad j)
  | not {i j : Nat} {y : Ex} : headQ ws i = 2 → Dc ws en (.one (i + 1)) (.ex y j) → Dc ws en (.one i) (.ex (.mk 5 0 sNone [y] (posAt ws i en)) j)
  | notB {i j : Nat} : headQ ws i = 2 → Dc ws en (.one (i + 1)) (.bad j) → Dc ws en (.one i) (.bad j)
  | par {i j : Nat} {x : Ex} : headQ ws i = 3 → Dc ws en (.lvl 0 (i + 1)) (.ex x j) → isAt ws j sClose = true → Dc ws en (.one i) (.ex x (j + 1))
  | parB {i j : Nat} : headQ ws i = 3 → Dc ws en (.lvl 0 (i + 1)) (.bad j) → Dc ws en (.one i) (.bad j)
  | parC {i j : Nat} {x : Ex} : headQ ws i = 3 → Dc ws en (.lvl 0 (i + 1)) (.ex x j) → isAt ws j sClose = false → Dc ws en (.one i) (.bad j)
  | tru {i : Nat} : headQ ws i = 4 → Dc ws en (.one i) (.ex (.mk 2 1 sNone [] (posAt ws i en)) (i + 1))
  | fls {i : Nat} : headQ ws i = 5 → Dc ws en (.one i) (.ex (.mk 2 0 sNone [] (posAt ws i en)) (i + 1))
  | host {i j : Nat} {l : List Ex} : headQ ws i = 6 → kindAt ws (i + 1) = 1 → isAt ws (i + 2) sOpen = true → Dc ws en (.args 0 (i + 3)) (.exs l j) → Dc ws en (.one i) (.ex (.mk 8 (numV (textAt ws (i + 1))) sNone l (posAt ws i en)) j)
  | hostB {i j : Nat} : headQ ws i = 6 → kindAt ws (i + 1) = 1 → isAt ws (i + 2) sOpen = true → Dc ws en (.args 0 (i + 3)) (.bad j) → Dc ws en (.one i) (.bad j)
  | hostC {i : Nat} : headQ ws i = 6 → kindAt ws (i + 1) = 1 → isAt ws (i + 2) sOpen = false → Dc ws en (.one i) (.bad (i + 2))
  | hostD {i : Nat} : headQ ws i = 6 → kindAt ws (i + 1) ≠ 1 → Dc ws en (.one i) (.bad (i + 1))
  | num {i : Nat} : headQ ws i = 7 → Dc ws en (.one i) (.ex (.mk 1 (numV (textAt ws i)) sNone [] (posAt ws i en)) (i + 1))
  | var {i : Nat} : headQ ws i = 8 → isAt ws (i + 1) sOpen = false → Dc ws en (.one i) (.ex (.mk 3 0 (textAt ws i) [] (posAt ws i en)) (i + 1))
  | call {i j : Nat} {l : List Ex} : headQ ws i = 8 → isAt ws (i + 1) sOpen = true → Dc ws en (.args 0 (i + 2)) (.exs l j) → Dc ws en (.one i) (.ex (.mk 7 0 (textAt ws i) l (posAt ws i en)) j)
  | callB {i j : Nat} : headQ ws i = 8 → isAt ws (i + 1) sOpen = true → Dc ws en (.args 0 (i + 2)) (.bad j) → Dc ws en (.one i) (.bad j)
  | nobody {i : Nat} : headQ ws i = 0 → Dc ws en (.one i) (.bad i)
  | close {k i : Nat} : isAt ws i sClose = true → Dc ws en (.args k i) (.exs [] (i + 1))
  | first {i j j' : Nat} {x : Ex} {l : List Ex} : isAt ws i sClose = false → Dc ws en (.lvl 0 i) (.ex x j) → Dc ws en (.args 1 j) (.exs l j') → Dc ws en (.args 0 i) (.exs (x :: l) j')
  | firstR {i j j' : Nat} {x : Ex} : isAt ws i sClose = false → Dc ws en (.lvl 0 i) (.ex x j) → Dc ws en (.args 1 j) (.bad j') → Dc ws en (.args 0 i) (.bad j')
  | firstB {i j : Nat} : isAt ws i sClose = false → Dc ws en (.lvl 0 i) (.bad j) → Dc ws en (.args 0 i) (.bad j)
  | next {k i j j' : Nat} {x : Ex} {l : List Ex} : isAt ws i sClose = false → isAt ws i sComma = true → Dc ws en (.lvl 0 (i + 1)) (.ex x j) → Dc ws en (.args (k + 2) j) (.exs l j') → Dc ws en (.args (k + 1) i) (.exs (x :: l) j')
  | nextR {k i j j' : Nat} {x : Ex} : isAt ws i sClose = false → isAt ws i sComma = true → Dc ws en (.lvl 0 (i + 1)) (.ex x j) → Dc ws en (.args (k + 2) j) (.bad j') → Dc ws en (.args (k + 1) i) (.bad j')
  | nextB {k i j : Nat} : isAt ws i sClose = false → isAt ws i sComma = true → Dc ws en (.lvl 0 (i + 1)) (.bad j) → Dc ws en (.args (k + 1) i) (.bad j)
  | nextC {k i : Nat} : isAt ws i sClose = false → isAt ws i sComma = false → Dc ws en (.args (k + 1) i) (.bad i)

theorem lv_le (s : Bs) : lv s ≤ 5 := by unfold lv; repeat' (first | omega | split)
theorem lvAt_le (ws : List Wd) (i : Nat) : lvAt ws i ≤ 5 := by unfold lvAt; split <;> first | exact lv_le _ | omega

/-- Behind an operand of level n stands no sign of its level. -/
def lvlStops (ws : List Wd) : Qe → Re → Prop
  | .lvl n _, .ex _ j => 1 ≤ n → n ≤ 6 → lvAt ws j < n
  | .rest n _ j0, .ex _ j => lvAt ws j0 ≤ n → lvAt ws j < n
  | _, _ => True
theorem De.stops {ws : List Wd} {en : Nat} {q : Qe} {r : Re} (h : De ws en q r) : lvlStops ws q r := by
  induction h with
  | @lvl6 i r _ ih => cases r <;> first | trivial | (intro _ _; have := lvAt_le ws ‹Nat›; omega)
  | @lvl n i j a r hn _ _ ih1 ih2 =>
    cases r with
    | ex b k => intro g1 g2; exact ih2 (by have := ih1 (by omega) (by omega); omega)
    | exs => trivial
    | bad => trivial
  | stop h0 => intro g; omega
  | @go n j j' a b r h3 h0 _ _ ih1 ih2 =>
    cases r with
    | ex c k => intro g; exact ih2 (by have := lvAt_le ws j; have := ih1 (by omega) (by omega); omega)
    | exs => trivial
    | bad => trivial
  | cmp h0 _ hx ih => intro g; have := ih (by omega) (by omega); omega
  | _ => trivial

/-- Where the climb over stronger operators stopped, the climb over weaker ones goes on. -/
theorem Dc.glueR {ws : List Wd} {en : Nat} {q : Qe} {r0 : Re} (h : Dc ws en q r0) : ∀ n a0 j0 a j, q = .rest n a0 j0 → r0 = .ex a j → ∀ m, m ≤ n → ∀ r, Dc ws en (.rest m a j) r → Dc ws en (.rest m a0 j0) r := by
  induction h with
  | stop h0 => rintro n a0 j0 a j e1 e2 m hm r hr; cases e1; cases e2; exact hr
  | go h0 h1 hc _ _ ih2 => rintro n a0 j0 a j e1 e2 m hm r hr; cases e1; subst e2; exact .go (by omega) h1 hc (ih2 _ _ _ _ _ rfl rfl m hm r hr)
  | goB => rintro n a0 j0 a j e1 e2; cases e2
  | cmpB => rintro n a0 j0 a j e1 e2; cases e2
  | _ => intros; rename_i e1 _ _ _ _ _; cases e1
theorem Dc.glueRB {ws : List Wd} {en : Nat} {q : Qe} {r0 : Re} (h : Dc ws en q r0) : ∀ n a0 j0 j, q = .rest n a0 j0 → r0 = .bad j → ∀ m, m ≤ n → Dc ws en (.rest m a0 j0) (.bad j) := by
  induction h with
  | stop h0 => rintro n a0 j0 j e1 e2 m hm; cases e2
  | go h0 h1 hc _ _ ih2 => rintro n a0 j0 j e1 e2 m hm; cases e1; subst e2; exact .go (by omega) h1 hc (ih2 _ _ _ _ rfl rfl m hm)
  | goB h0 h1 => rintro n a0 j0 j e1 e2 m hm; cases e1; cases e2; exact .goB (by omega) h1
  | cmpB h0 h3 h1 hc => rintro n a0 j0 j e1 e2 m hm; cases e1; cases e2; exact .cmpB (by omega) h3 h1 hc
  | _ => intros; rename_i e1 _ _ _; cases e1
theorem Dc.glue {ws : List Wd} {en n i j m : Nat} {a : Ex} {r : Re} (h : Dc ws en (.lvl n i) (.ex a j)) (hm : m ≤ n) (hr : Dc ws en (.rest m a j) r) : Dc ws en (.lvl m i) r := by
  cases h with
  | ex h1 h2 => exact .ex h1 (h2.glueR _ _ _ _ _ rfl rfl m hm r hr)
theorem Dc.glueB {ws : List Wd} {en n i j m : Nat} (h : Dc ws en (.lvl n i) (.bad j)) (hm : m ≤ n) : Dc ws en (.lvl m i) (.bad j) := by
  cases h with
  | ex h1 h2 => exact .ex h1 (h2.glueRB _ _ _ _ rfl rfl m hm)
  | exB h1 => exact .exB h1

/-- The question of the climb that answers the levels' question. -/
def climbs (ws : List Wd) (en : Nat) : Qe → Re → Prop
  | .lvl n i, r => 1 ≤ n → n ≤ 6 → Dc ws en (.lvl (n - 1) i) r
  | .rest n a j, r => 1 ≤ n → n ≤ 5 → lvAt ws j ≤ n → Dc ws en (.rest (n - 1) a j) r
  | .one i, r => Dc ws en (.one i) r
  | .args k i, r => Dc ws en (.args k i) r
theorem De.climb {ws : List Wd} {en : Nat} {q : Qe} {r : Re} (h : De ws en q r) : climbs ws en q r := by
  induction h with
  | @lvl6 i r _ ih =>
    intro _ _
    cases r with
    | ex a j => exact .ex ih (.stop (lvAt_le ws j))
    | exs l j => exact (by have ih' : Dc ws en (.one i) (.exs l j) := ih; cases ih')
    | bad j => exact .exB ih
  | @lvl n i j a r hn h1 _ ih1 ih2 =>
    intro g1 g2
    have hs := h1.stops (by omega) (by omega)
    exact (ih1 (by omega) (by omega)).glue (by omega) (ih2 g1 (by omega) (by omega))
  | lvlB hn _ ih1 => intro g1 g2; exact (ih1 (by omega) (by omega)).glueB (by omega)
  | stop h0 => intro g1 g2 g3; exact .stop (by omega)
  | @go n j j' a b r h3 h0 h1 _ ih1 ih2 =>
    intro g1 g2 g3
    have hs := h1.stops (by omega) (by omega)
    have i1 := ih1 (by omega) (by omega)
    exact .go (by omega) (by rw [h0]; exact i1) (by omega) (ih2 g1 g2 (by omega))
  | @goB n j j' a h0 h1 ih1 =>
    intro g1 g2 g3
    have i1 := ih1 (by omega) (by omega)
    exact .goB (by omega) (by rw [h0]; exact i1)
  | @cmp j j' a b h0 h1 hx ih1 =>
    intro g1 g2 g3
    have hs := h1.stops (by omega) (by omega)
    have i1 := ih1 (by omega) (by omega)
    exact .go (by omega) (by rw [h0]; exact i1) (by omega) (.stop (by omega))
  | @cmpB j j' a b h0 h1 hx ih1 =>
    intro g1 g2 g3
    have i1 := ih1 (by omega) (by omega)
    exact .cmpB (by omega) h0 (by rw [h0]; exact i1) hx
  | neg h0 _ ih => exact .neg h0 ih
  | negB h0 _ ih => exact .negB h0 ih
  | not h0 _ ih => exact .not h0 ih
  | notB h0 _ ih => exact .notB h0 ih
  | par h0 _ hc ih => exact .par h0 (ih (by omega) (by omega)) hc
  | parB h0 _ ih => exact .parB h0 (ih (by omega) (by omega))
  | parC h0 _ hc ih => exact .parC h0 (ih (by omega) (by omega)) hc
  | tru h0 => exact .tru h0
  | fls h0 => exact .fls h0
  | host h0 h1 h2 _ ih => exact .host h0 h1 h2 ih
  | hostB h0 h1 h2 _ ih => exact .hostB h0 h1 h2 ih
  | hostC h0 h1 h2 => exact .hostC h0 h1 h2
  | hostD h0 h1 => exact .hostD h0 h1
  | num h0 => exact .num h0
  | var h0 h1 => exact .var h0 h1
  | call h0 h1 _ ih => exact .call h0 h1 ih
  | callB h0 h1 _ ih => exact .callB h0 h1 ih
  | nobody h0 => exact .nobody h0
  | close hc => exact .close hc
  | first hc _ _ ih1 ih2 => exact .first hc (ih1 (by omega) (by omega)) ih2
  | firstR hc _ _ ih1 ih2 => exact .firstR hc (ih1 (by omega) (by omega)) ih2
  | firstB hc _ ih1 => exact .firstB hc (ih1 (by omega) (by omega))
  | next hc hd _ _ ih1 ih2 => exact .next hc hd (ih1 (by omega) (by omega)) ih2
  | nextR hc hd _ _ ih1 ih2 => exact .nextR hc hd (ih1 (by omega) (by omega)) ih2
  | nextB hc hd _ ih1 => exact .nextB hc hd (ih1 (by omega) (by omega))
  | nextC hc hd => exact .nextC hc hd
end Go.Proofs.YtmngofgminlloaaGreatDoor

namespace Go.Proofs.YtmngofgminlloaaGreatDoor
open Go.RowKit Tw

structure FrP (w0 w : World) (rb b0 b1 : Nat) (v : Value) (ws : List Wd) (i en : Nat) (u0 u1 u2 u3 u4 : Value) : Prop where
  rd : Rq w rb v ws i en
  res : w.heap[b0]? = some (.cells #[.int .i64 0, .int .i64 0, .string ⟨#[]⟩, .slice none 0 0, .int .i64 0] 186 (0, 0))
  ex : w.heap[b1]? = some (.cells #[u0, u1, u2, u3, u4] 186 (0, 0))
  gr : w0.grownBy w (some rb)
  gl : Glob w
  r0 : 10 < rb
  z0 : rb < w0.heap.size
  z1 : w0.heap.size ≤ b0
  z2 : b0 < b1
  z3 : b1 < w.heap.size
section
variable {w0 w w' : World} {rb b0 b1 : Nat} {v : Value} {ws : List Wd} {i en : Nat} {u0 u1 u2 u3 u4 : Value}
theorem FrP.step {i' : Nat} (h : FrP w0 w rb b0 b1 v ws i en u0 u1 u2 u3 u4) (hr : Rq w' rb v ws i' en) (hg : w.grownBy w' (some rb)) : FrP w0 w' rb b0 b1 v ws i' en u0 u1 u2 u3 u4 := by
  have h0 := h.z0; have h1 := h.z1; have h2 := h.z2; have h3 := h.z3
  exact ⟨hr, (hg.block b0 (by omega) (by simp; omega)).trans h.res, (hg.block b1 h3 (by simp; omega)).trans h.ex, grown_trans h.gr hg, h.gl.of hg h.r0, h.r0, h0, h1, h2, Nat.lt_of_lt_of_le h3 hg.size⟩
theorem FrP.below (h : FrP w0 w rb b0 b1 v ws i en u0 u1 u2 u3 u4) (hb : Below w.heap.size w w') : FrP w0 w' rb b0 b1 v ws i en u0 u1 u2 u3 u4 := h.step (h.rd.keep hb) (grown_of_below hb _)
theorem FrP.set {v0 v1 v2 v3 v4 : Value} (h : FrP w0 w rb b0 b1 v ws i en u0 u1 u2 u3 u4) (hg : w.grownBy w' (some b1)) (he : w'.heap[b1]? = some (.cells #[v0, v1, v2, v3, v4] 186 (0, 0))) : FrP w0 w' rb b0 b1 v ws i en v0 v1 v2 v3 v4 := by
  have h0 := h.z0; have h1 := h.z1; have h2 := h.z2; have h3 := h.z3; have hz := h.gr.size
  exact ⟨h.rd.grown hg (by omega), (hg.block b0 (by omega) (by simp; omega)).trans h.res, he, grown_new h.gr hg (by omega), h.gl.same hg.size (fun g hg' => hg.block g (by have := h.r0; omega) (by simp; have := h.r0; omega)), h.r0, h0, h1, h2, Nat.lt_of_lt_of_le h3 hg.size⟩
theorem FrP.other {k : Nat} (h : FrP w0 w rb b0 b1 v ws i en u0 u1 u2 u3 u4) (hk : b1 < k) (hg : w.grownBy w' (some k)) : FrP w0 w' rb b0 b1 v ws i en u0 u1 u2 u3 u4 := by
  have h0 := h.z0; have h1 := h.z1; have h2 := h.z2; have h3 := h.z3; have hz := h.gr.size
  exact ⟨h.rd.grown hg (by omega), (hg.block b0 (by omega) (by simp; omega)).trans h.res, (hg.block b1 (by omega) (by simp; omega)).trans h.ex, grown_new h.gr hg (by omega), h.gl.same hg.size (fun g hg' => hg.block g (by have := h.r0; omega) (by simp; have := h.r0; omega)), h.r0, h0, h1, h2, Nat.lt_of_lt_of_le h3 hg.size⟩
theorem FrP.s0 (h : FrP w0 w rb b0 b1 v ws i en u0 u1 u2 u3 u4) (x : Value) : FrP w0 (w.setCell ⟨b1, 0, none⟩ x) rb b0 b1 v ws i en x u1 u2 u3 u4 := h.set (grown_set _ _ _ _) (by simpa using heap_setCell_same w b1 0 _ _ x h.ex)
theorem FrP.s1 (h : FrP w0 w rb b0 b1 v ws i en u0 u1 u2 u3 u4) (x : Value) : FrP w0 (w.setCell ⟨b1, 1, none⟩ x) rb b0 b1 v ws i en u0 x u2 u3 u4 := h.set (grown_set _ _ _ _) (by simpa using heap_setCell_same w b1 1 _ _ x h.ex)
theorem FrP.s2 (h : FrP w0 w rb b0 b1 v ws i en u0 u1 u2 u3 u4) (x : Value) : FrP w0 (w.setCell ⟨b1, 2, none⟩ x) rb b0 b1 v ws i en u0 u1 x u3 u4 := h.set (grown_set _ _ _ _) (by simpa using heap_setCell_same w b1 2 _ _ x h.ex)
theorem FrP.s3 (h : FrP w0 w rb b0 b1 v ws i en u0 u1 u2 u3 u4) (x : Value) : FrP w0 (w.setCell ⟨b1, 3, none⟩ x) rb b0 b1 v ws i en u0 u1 u2 x u4 := h.set (grown_set _ _ _ _) (by simpa using heap_setCell_same w b1 3 _ _ x h.ex)
theorem FrP.s4 (h : FrP w0 w rb b0 b1 v ws i en u0 u1 u2 u3 u4) (x : Value) : FrP w0 (w.setCell ⟨b1, 4, none⟩ x) rb b0 b1 v ws i en u0 u1 u2 u3 x := h.set (grown_set _ _ _ _) (by simpa using heap_setCell_same w b1 4 _ _ x h.ex)
theorem FrP.start (hR : Rq w rb v ws i en) (hG : Glob w) (hr : 10 < rb) (hg : w0.grownBy w (some rb)) (h0 : rb < w0.heap.size) (h1 : w0.heap.size ≤ b0) (h2 : b0 < w.heap.size)
    (hz : w.heap[b0]? = some (.cells #[.int .i64 0, .int .i64 0, .string ⟨#[]⟩, .slice none 0 0, .int .i64 0] 186 (0, 0))) (u0 u1 u2 u3 u4 : Value) :
    FrP w0 (w.alloc (.cells #[u0, u1, u2, u3, u4] 186)) rb b0 w.heap.size v ws i en u0 u1 u2 u3 u4 :=
  ⟨hR.keep ((Below.refl _ _).alloc (Nat.le_refl _) _), (heap_alloc_old w _ h2).trans hz, heap_alloc_new w _, grown_trans hg (grown_of_below ((Below.refl _ _).alloc (Nat.le_refl _) _) _), hG.to ((Below.refl _ _).alloc (Nat.le_refl _) _), hr, h0, h1, h2, by simp⟩
end
/-- What a method for expressions answers, by what stands there. -/
def ExR (w : World) (rb : Nat) (v : Value) (ws : List Wd) (en : Nat) (r : Re) (e : Ending) (w' : World) : Prop :=
  match r with
  | .ex x j => ∃ A c, e = .returned (.agg #[.int .i64 x.kind, .int .i64 x.n, .string x.text, .slice A x.args.length c, .int .i64 x.pos]) ∧ ArgsIn w' (fun g => w.heap.size ≤ g) (.slice A x.args.length c) x.args ∧ Rq w' rb v ws j en ∧ w.grownBy w' (some rb)
  | .bad j => e = badP ws en j ∧ w.grownBy w' (some rb)
  | .exs _ _ => False
def ArR (w : World) (rb : Nat) (v : Value) (ws : List Wd) (en : Nat) (r : Re) (e : Ending) (w' : World) : Prop :=
  match r with
  | .exs l j => ∃ A c, e = .returned (.slice A l.length c) ∧ ArgsIn w' (fun g => w.heap.size ≤ g) (.slice A l.length c) l ∧ Rq w' rb v ws j en ∧ w.grownBy w' (some rb)
  | .bad j => e = badP ws en j ∧ w.grownBy w' (some rb)
  | .ex _ _ => False
def ExprC (rb : Nat) (v : Value) (ws : List Wd) (en m i : Nat) : Prop :=
  ∀ r, Dc ws en (.lvl m i) r → ∀ w, Rq w rb v ws i en → Glob w → Calls Tryz.prog 224 #[.pointer (some ⟨rb, 0, none⟩), .int .i64 m] w fun e w' => ExR w rb v ws en r e w'
def UnC (rb : Nat) (v : Value) (ws : List Wd) (en i : Nat) : Prop :=
  ∀ r, Dc ws en (.one i) r → ∀ w, Rq w rb v ws i en → Glob w → Calls Tryz.prog 239 #[.pointer (some ⟨rb, 0, none⟩)] w fun e w' => ExR w rb v ws en r e w'
def AtomC (rb : Nat) (v : Value) (ws : List Wd) (en i : Nat) : Prop :=
  ∀ r, Dc ws en (.one i) r → headQ ws i ≠ 1 → headQ ws i ≠ 2 → ∀ w, Rq w rb v ws i en → Glob w → Calls Tryz.prog 245 #[.pointer (some ⟨rb, 0, none⟩)] w fun e w' => ExR w rb v ws en r e w'
def ArgsP (rb : Nat) (v : Value) (ws : List Wd) (en i : Nat) : Prop :=
  ∀ r, Dc ws en (.args 0 i) r → ∀ w, Rq w rb v ws i en → Glob w → Calls Tryz.prog 248 #[.pointer (some ⟨rb, 0, none⟩)] w fun e w' => ArR w rb v ws en r e w'
theorem ne_of {s : ByteArray} (h : s.data.toList ≠ []) : s.toList ≠ [] := by rw [ByteArray.toList_eq]; exact h
theorem FrP.ret {w0 w : World} {rb b0 b1 : Nat} {v : Value} {ws : List Wd} {i' en : Nat} {x : Ex} {A : Option Addr} {c : Nat} {F : Nat → Prop}
    (h : FrP w0 w rb b0 b1 v ws i' en (.int .i64 x.kind) (.int .i64 x.n) (.string x.text) (.slice A x.args.length c) (.int .i64 x.pos)) (hA : ArgsIn w F (.slice A x.args.length c) x.args) (hF : ∀ g, F g → w0.heap.size ≤ g ∧ g ≠ b0) :
    ExR w0 rb v ws en (.ex x i') (.returned (.agg #[.int .i64 x.kind, .int .i64 x.n, .string x.text, .slice A x.args.length c, .int .i64 x.pos]))
      (((((w.setCell ⟨b0, 0, none⟩ (.int .i64 x.kind)).setCell ⟨b0, 1, none⟩ (.int .i64 x.n)).setCell ⟨b0, 2, none⟩ (.string x.text)).setCell ⟨b0, 3, none⟩ (.slice A x.args.length c)).setCell ⟨b0, 4, none⟩ (.int .i64 x.pos)) := by
  have hg5 := grown5 w b0 (.int .i64 x.kind) (.int .i64 x.n) (.string x.text) (.slice A x.args.length c) (.int .i64 x.pos)
  have h0 := h.z0; have h1 := h.z1
  exact ⟨A, c, rfl, hA.grown hg5 (fun g h => (hF g h).2) (fun g h => (hF g h).1), h.rd.grown hg5 (by omega), grown_new h.gr hg5 h1⟩
set_option maxHeartbeats 1000000 in
theorem number_c (s : ByteArray) (hs : s.size ≤ 18) (w : World) (hG : Glob w) : Calls Tryz.prog 247 #[.string s] w fun e w' => e = .returned (.int .i64 (numV s)) ∧ Below w.heap.size w w' := by
  have HN := Lib.hid (num_c s hs w hG)
  clear hs hG
  go_enter Tryz.func247, Tryz.ntmps247
  go_wp2_with fail
  refine HN.out.mono ?_
  rintro e w1 ⟨⟨er, rfl⟩, hb⟩
  have HB := Lib.hid hb; clear hb
  go_wp2_with fail
  go_ret
  exact ⟨rfl, HB.out⟩
set_option maxHeartbeats 1000000 in
theorem typ_p {w : World} {rb : Nat} {v : Value} {ws : List Wd} {i en : Nat} {t : Int} (h : Rq w rb v ws i en) (ht : typF ws i = .ok t) :
    Calls Tryz.prog 140 #[.pointer (some ⟨rb, 0, none⟩)] w fun e w' => e = .returned (.int .i64 t) ∧ Rq w' rb v ws (i + 2) en ∧ w.grownBy w' (some rb) := by
  unfold typF at ht
  by_cases h1 : isAt ws i tColon = true
  · rw [if_pos h1] at ht
    have HW := Lib.hid (want_p tColon (ne_of (by decide)) h h1)
    obtain ⟨t2, ht2⟩ : ∃ t, isAt ws (i + 1) tInt = t := ⟨_, rfl⟩
    have T2 := Lib.hid ht2
    rw [ht2] at ht
    have HT := Lib.hid ht
    clear h h1 ht ht2
    go_enter Tryz.func140, Tryz.ntmps140
    go_wp2_with fail
    refine HW.out.mono ?_
    rintro e w1 ⟨rfl, hr, hg⟩
    have HR := Lib.hid hr; have HG := Lib.hid hg; clear hr hg
    go_wp2_with fail
    refine (take_p tInt (ne_of (by decide)) t2 HR.out T2.out).mono ?_
    rintro e w2 ⟨rfl, hr, hg⟩
    have HR2 := Lib.hid hr; have HG2 := Lib.hid (grown_trans HG.out hg); clear hr hg
    cases t2 with
    | true =>
      obtain rfl : (1 : Int) = t := by have := HT.out; simpa using this
      go_wp2_with fail
      go_ret
      exact ⟨rfl, by simpa using HR2.out, HG2.out⟩
    | false =>
      have h3 : isAt ws (i + 1) tBool = true ∧ (2 : Int) = t := by
        have := HT.out
        simp only [Bool.false_eq_true, if_false] at this
        split at this
        · rename_i h; exact ⟨h, by injection this⟩
        · cases this
      obtain ⟨h3, rfl⟩ := h3
      have H3 := Lib.hid h3; clear h3
      simp only [Bool.false_eq_true, if_false] at HR2
      go_wp2_with fail
      refine (want_p tBool (ne_of (by decide)) HR2.out H3.out).mono ?_
      rintro e w3 ⟨rfl, hr, hg⟩
      have HR3 := Lib.hid hr; have HG3 := Lib.hid (grown_trans HG2.out hg); clear hr hg
      go_wp2_with fail
      go_ret
      exact ⟨rfl, HR3.out, HG3.out⟩
  · rw [if_neg h1] at ht; cases ht
set_option maxHeartbeats 1000000 in
theorem typ_pb {w : World} {rb : Nat} {v : Value} {ws : List Wd} {i en j : Nat} (h : Rq w rb v ws i en) (ht : typF ws i = .bad j) :
    Calls Tryz.prog 140 #[.pointer (some ⟨rb, 0, none⟩)] w fun e w' => e = badP ws en j ∧ w.grownBy w' (some rb) := by
  unfold typF at ht
  obtain ⟨t1, ht1⟩ : ∃ t, isAt ws i tColon = t := ⟨_, rfl⟩
  cases t1 with
  | false =>
    rw [if_neg (by rw [ht1]; decide)] at ht
    obtain rfl : i = j := by injection ht
    have HW := Lib.hid (want_pb tColon (ne_of (by decide)) h ht1)
    clear h ht ht1
    go_enter Tryz.func140, Tryz.ntmps140
    go_wp2_with fail
    refine HW.out.mono ?_
    rintro e w1 ⟨rfl, hg⟩
    have HG := Lib.hid hg; clear hg
    unfold badP
    go_wp2_with fail
    exact ⟨rfl, rfl, HG.out⟩
  | true =>
    rw [if_pos ht1] at ht
    have HW := Lib.hid (want_p tColon (ne_of (by decide)) h ht1)
    have h2 : isAt ws (i + 1) tInt = false ∧ isAt ws (i + 1) tBool = false ∧ i + 1 = j := by
      split at ht
      · cases ht
      · rename_i h2
        split at ht
        · cases ht
        · rename_i h3
          exact ⟨by simpa using h2, by simpa using h3, by injection ht⟩
    obtain ⟨h2, h3, rfl⟩ := h2
    have H2 := Lib.hid h2; have H3 := Lib.hid h3
    clear h ht ht1 h2 h3
    go_enter Tryz.func140, Tryz.ntmps140
    go_wp2_with fail
    refine HW.out.mono ?_
    rintro e w1 ⟨rfl, hr, hg⟩
    have HR := Lib.hid hr; have HG := Lib.hid hg; clear hr hg
    go_wp2_with fail
    refine (take_p tInt (ne_of (by decide)) false HR.out H2.out).mono ?_
    rintro e w2 ⟨rfl, hr, hg⟩
    have HR2 := Lib.hid hr; have HG2 := Lib.hid (grown_trans HG.out hg); clear hr hg
    simp only [Bool.false_eq_true, if_false] at HR2
    go_wp2_with fail
    refine (want_pb tBool (ne_of (by decide)) HR2.out H3.out).mono ?_
    rintro e w3 ⟨rfl, hg⟩
    have HG3 := Lib.hid (grown_trans HG2.out hg); clear hg
    unfold badP
    go_wp2_with fail
    exact ⟨rfl, rfl, HG3.out⟩
end Go.Proofs.YtmngofgminlloaaGreatDoor

namespace Go.Proofs.YtmngofgminlloaaGreatDoor
open Go.RowKit Tw

theorem of_list {s : ByteArray} {l : List UInt8} (h : s.data.toList = l) : s = ⟨l.toArray⟩ := by
  cases s with | mk d => subst h; simp
set_option maxHeartbeats 4000000 in
theorem level_p (s : ByteArray) (w : World) : Calls Tryz.prog 162 #[.string s] w fun e w' => e = .returned (.int .i64 (lv s.data.toList)) ∧ w = w' := by
  by_cases h0 : s.data.toList = [124, 124]
  · have e := of_list h0
    subst e
    clear h0
    go_enter Tryz.func162, Tryz.ntmps162
    go_wp2_with fail
    go_ret
    exact ⟨rfl, rfl⟩
  by_cases h1 : s.data.toList = [38, 38]
  · have e := of_list h1
    subst e
    clear h0 h1
    go_enter Tryz.func162, Tryz.ntmps162
    go_wp2_with fail
    go_ret
    exact ⟨rfl, rfl⟩
  by_cases h2 : s.data.toList = [60]
  · have e := of_list h2
    subst e
    clear h0 h1 h2
    go_enter Tryz.func162, Tryz.ntmps162
    go_wp2_with fail
    go_ret
    exact ⟨rfl, rfl⟩
  by_cases h3 : s.data.toList = [60, 61]
  · have e := of_list h3
    subst e
    clear h0 h1 h2 h3
    go_enter Tryz.func162, Tryz.ntmps162
    go_wp2_with fail
    go_ret
    exact ⟨rfl, rfl⟩
  by_cases h4 : s.data.toList = [62]
  · have e := of_list h4
    subst e
    clear h0 h1 h2 h3 h4
    go_enter Tryz.func162, Tryz.ntmps162
    go_wp2_with fail
    go_ret
    exact ⟨rfl, rfl⟩
  by_cases h5 : s.data.toList = [62, 61]
  · have e := of_list h5
    subst e
    clear h0 h1 h2 h3 h4 h5
    go_enter Tryz.func162, Tryz.ntmps162
    go_wp2_with fail
    go_ret
    exact ⟨rfl, rfl⟩
  by_cases h6 : s.data.toList = [61, 61]
  · have e := of_list h6
    subst e
    clear h0 h1 h2 h3 h4 h5 h6
    go_enter Tryz.func162, Tryz.ntmps162
    go_wp2_with fail
    go_ret
    exact ⟨rfl, rfl⟩
  by_cases h7 : s.data.toList = [33, 61]
  · have e := of_list h7
    subst e
    clear h0 h1 h2 h3 h4 h5 h6 h7
    go_enter Tryz.func162, Tryz.ntmps162
    go_wp2_with fail
    go_ret
    exact ⟨rfl, rfl⟩
  by_cases h8 : s.data.toList = [43]
  · have e := of_list h8
    subst e
    clear h0 h1 h2 h3 h4 h5 h6 h7 h8
    go_enter Tryz.func162, Tryz.ntmps162
    go_wp2_with fail
    go_ret
    exact ⟨rfl, rfl⟩
  by_cases h9 : s.data.toList = [45]
  · have e := of_list h9
    subst e
    clear h0 h1 h2 h3 h4 h5 h6 h7 h8 h9
    go_enter Tryz.func162, Tryz.ntmps162
    go_wp2_with fail
    go_ret
    exact ⟨rfl, rfl⟩
  by_cases h10 : s.data.toList = [42]
  · have e := of_list h10
    subst e
    clear h0 h1 h2 h3 h4 h5 h6 h7 h8 h9 h10
    go_enter Tryz.func162, Tryz.ntmps162
    go_wp2_with fail
    go_ret
    exact ⟨rfl, rfl⟩
  by_cases h11 : s.data.toList = [47]
  · have e := of_list h11
    subst e
    clear h0 h1 h2 h3 h4 h5 h6 h7 h8 h9 h10 h11
    go_enter Tryz.func162, Tryz.ntmps162
    go_wp2_with fail
    go_ret
    exact ⟨rfl, rfl⟩
  by_cases h12 : s.data.toList = [37]
  · have e := of_list h12
    subst e
    clear h0 h1 h2 h3 h4 h5 h6 h7 h8 h9 h10 h11 h12
    go_enter Tryz.func162, Tryz.ntmps162
    go_wp2_with fail
    go_ret
    exact ⟨rfl, rfl⟩
  have hl : lv s.data.toList = 0 := by unfold lv; simp [h0, h1, h2, h3, h4, h5, h6, h7, h8, h9, h10, h11, h12]
  have e0 : (s.toList == [124, 124]) = false := by rw [beq_eq_false_iff_ne, ByteArray.toList_eq]; exact h0
  have e1 : (s.toList == [38, 38]) = false := by rw [beq_eq_false_iff_ne, ByteArray.toList_eq]; exact h1
  have e2 : (s.toList == [60]) = false := by rw [beq_eq_false_iff_ne, ByteArray.toList_eq]; exact h2
  have e3 : (s.toList == [60, 61]) = false := by rw [beq_eq_false_iff_ne, ByteArray.toList_eq]; exact h3
  have e4 : (s.toList == [62]) = false := by rw [beq_eq_false_iff_ne, ByteArray.toList_eq]; exact h4
  have e5 : (s.toList == [62, 61]) = false := by rw [beq_eq_false_iff_ne, ByteArray.toList_eq]; exact h5
  have e6 : (s.toList == [61, 61]) = false := by rw [beq_eq_false_iff_ne, ByteArray.toList_eq]; exact h6
  have e7 : (s.toList == [33, 61]) = false := by rw [beq_eq_false_iff_ne, ByteArray.toList_eq]; exact h7
  have e8 : (s.toList == [43]) = false := by rw [beq_eq_false_iff_ne, ByteArray.toList_eq]; exact h8
  have e9 : (s.toList == [45]) = false := by rw [beq_eq_false_iff_ne, ByteArray.toList_eq]; exact h9
  have e10 : (s.toList == [42]) = false := by rw [beq_eq_false_iff_ne, ByteArray.toList_eq]; exact h10
  have e11 : (s.toList == [47]) = false := by rw [beq_eq_false_iff_ne, ByteArray.toList_eq]; exact h11
  have e12 : (s.toList == [37]) = false := by rw [beq_eq_false_iff_ne, ByteArray.toList_eq]; exact h12
  have HL := Lib.hid hl
  clear hl h0 h1 h2 h3 h4 h5 h6 h7 h8 h9 h10 h11 h12
  go_enter Tryz.func162, Tryz.ntmps162
  go_wp2_with fail
  go_ret
  exact ⟨by rw [HL.out]; rfl, rfl⟩
end Go.Proofs.YtmngofgminlloaaGreatDoor

namespace Go.Proofs.YtmngofgminlloaaGreatDoor
open Go.RowKit Tw

section
variable {ws : List Wd} {i : Nat}
theorem hq_Minus  (h : headQ ws i = 1) : isAt ws i sMinus = true := by
  unfold headQ at *; repeat' (first | assumption | (exfalso; omega) | (split at h))
theorem hq_Minus'  (h : headQ ws i ≠ 1) : isAt ws i sMinus = false := by
  cases hb : isAt ws i sMinus with
  | false => rfl
  | true => exact absurd (by unfold headQ; simp [hb]) h
theorem hq_Bang (n0 : headQ ws i ≠ 1) (h : headQ ws i = 2) : isAt ws i sBang = true := by
  unfold headQ at *; repeat' (first | assumption | (exfalso; omega) | (split at h))
theorem hq_Bang' (n0 : headQ ws i ≠ 1) (h : headQ ws i ≠ 2) : isAt ws i sBang = false := by
  have e0 := hq_Minus'  n0
  cases hb : isAt ws i sBang with
  | false => rfl
  | true => exact absurd (by unfold headQ; simp [hb, e0]) h
theorem hq_Open (n0 : headQ ws i ≠ 1) (n1 : headQ ws i ≠ 2) (h : headQ ws i = 3) : isAt ws i sOpen = true := by
  unfold headQ at *; repeat' (first | assumption | (exfalso; omega) | (split at h))
theorem hq_Open' (n0 : headQ ws i ≠ 1) (n1 : headQ ws i ≠ 2) (h : headQ ws i ≠ 3) : isAt ws i sOpen = false := by
  have e0 := hq_Minus'  n0
  have e1 := hq_Bang' n0 n1
  cases hb : isAt ws i sOpen with
  | false => rfl
  | true => exact absurd (by unfold headQ; simp [hb, e0, e1]) h
theorem hq_True (n0 : headQ ws i ≠ 1) (n1 : headQ ws i ≠ 2) (n2 : headQ ws i ≠ 3) (h : headQ ws i = 4) : isAt ws i sTrue = true := by
  unfold headQ at *; repeat' (first | assumption | (exfalso; omega) | (split at h))
theorem hq_True' (n0 : headQ ws i ≠ 1) (n1 : headQ ws i ≠ 2) (n2 : headQ ws i ≠ 3) (h : headQ ws i ≠ 4) : isAt ws i sTrue = false := by
  have e0 := hq_Minus'  n0
  have e1 := hq_Bang' n0 n1
  have e2 := hq_Open' n0 n1 n2
  cases hb : isAt ws i sTrue with
  | false => rfl
  | true => exact absurd (by unfold headQ; simp [hb, e0, e1, e2]) h
theorem hq_False (n0 : headQ ws i ≠ 1) (n1 : headQ ws i ≠ 2) (n2 : headQ ws i ≠ 3) (n3 : headQ ws i ≠ 4) (h : headQ ws i = 5) : isAt ws i sFalse = true := by
  unfold headQ at *; repeat' (first | assumption | (exfalso; omega) | (split at h))
theorem hq_False' (n0 : headQ ws i ≠ 1) (n1 : headQ ws i ≠ 2) (n2 : headQ ws i ≠ 3) (n3 : headQ ws i ≠ 4) (h : headQ ws i ≠ 5) : isAt ws i sFalse = false := by
  have e0 := hq_Minus'  n0
  have e1 := hq_Bang' n0 n1
  have e2 := hq_Open' n0 n1 n2
  have e3 := hq_True' n0 n1 n2 n3
  cases hb : isAt ws i sFalse with
  | false => rfl
  | true => exact absurd (by unfold headQ; simp [hb, e0, e1, e2, e3]) h
theorem hq_Host (n0 : headQ ws i ≠ 1) (n1 : headQ ws i ≠ 2) (n2 : headQ ws i ≠ 3) (n3 : headQ ws i ≠ 4) (n4 : headQ ws i ≠ 5) (h : headQ ws i = 6) : isAt ws i sHost = true := by
  unfold headQ at *; repeat' (first | assumption | (exfalso; omega) | (split at h))
theorem hq_Host' (n0 : headQ ws i ≠ 1) (n1 : headQ ws i ≠ 2) (n2 : headQ ws i ≠ 3) (n3 : headQ ws i ≠ 4) (n4 : headQ ws i ≠ 5) (h : headQ ws i ≠ 6) : isAt ws i sHost = false := by
  have e0 := hq_Minus'  n0
  have e1 := hq_Bang' n0 n1
  have e2 := hq_Open' n0 n1 n2
  have e3 := hq_True' n0 n1 n2 n3
  have e4 := hq_False' n0 n1 n2 n3 n4
  cases hb : isAt ws i sHost with
  | false => rfl
  | true => exact absurd (by unfold headQ; simp [hb, e0, e1, e2, e3, e4]) h
theorem hq_tail (n0 : headQ ws i ≠ 1) (n1 : headQ ws i ≠ 2) (n2 : headQ ws i ≠ 3) (n3 : headQ ws i ≠ 4) (n4 : headQ ws i ≠ 5) (n5 : headQ ws i ≠ 6) : headQ ws i = if kindAt ws i = 1 then 7 else if kindAt ws i = 2 then 8 else 0 := by
  have e0 := hq_Minus' n0; have e1 := hq_Bang' n0 n1; have e2 := hq_Open' n0 n1 n2; have e3 := hq_True' n0 n1 n2 n3; have e4 := hq_False' n0 n1 n2 n3 n4; have e5 := hq_Host' n0 n1 n2 n3 n4 n5
  unfold headQ; simp [e0, e1, e2, e3, e4, e5]
end
theorem ret5p {w W : World} {rb b0 : Nat} {v : Value} {ws : List Wd} {i' en : Nat} {x : Ex} {A : Option Addr} {c : Nat} {F : Nat → Prop} (hA : ArgsIn W F (.slice A x.args.length c) x.args) (hF : ∀ g, F g → w.heap.size ≤ g ∧ g ≠ b0)
    (hR : Rq W rb v ws i' en) (hG : w.grownBy W (some rb)) (h0 : w.heap.size ≤ b0) (hr : rb < b0) :
    ExR w rb v ws en (.ex x i') (.returned (.agg #[.int .i64 x.kind, .int .i64 x.n, .string x.text, .slice A x.args.length c, .int .i64 x.pos]))
      (((((W.setCell ⟨b0, 0, none⟩ (.int .i64 x.kind)).setCell ⟨b0, 1, none⟩ (.int .i64 x.n)).setCell ⟨b0, 2, none⟩ (.string x.text)).setCell ⟨b0, 3, none⟩ (.slice A x.args.length c)).setCell ⟨b0, 4, none⟩ (.int .i64 x.pos)) := by
  have hg5 := grown5 W b0 (.int .i64 x.kind) (.int .i64 x.n) (.string x.text) (.slice A x.args.length c) (.int .i64 x.pos)
  exact ⟨A, c, rfl, hA.grown hg5 (fun g h => (hF g h).2) (fun g h => (hF g h).1), hR.grown hg5 hr, grown_new hG hg5 h0⟩

set_option maxRecDepth 100000 in
set_option maxHeartbeats 8000000 in
theorem un_c (rb : Nat) (v : Value) (ws : List Wd) (en i : Nat) (hr : 10 < rb) (h1 : UnC rb v ws en (i + 1)) (h2 : AtomC rb v ws en i) : UnC rb v ws en i := by
  intro r hd w h hG
  have H1 := Lib.hid h1; have H2 := Lib.hid h2; have HR := Lib.hid h; have HG := Lib.hid hG; have HD := Lib.hid hd
  have hrl := h.lt
  clear h1 h2 h hG hd
  go_enter Tryz.func239, Tryz.ntmps239
  go_wp2_with fail
  refine (at_p (HR.out.keep ((Below.refl _ _).alloc (Nat.le_refl _) _))).mono ?_
  rintro e w1 ⟨rfl, hb⟩
  have HB0 : Hid (w1.heap[w.heap.size]? = some (.cells #[.int .i64 0, .int .i64 0, .string ⟨#[]⟩, .slice none 0 0, .int .i64 0] 186 (0, 0))) := Lib.hid ((hb.block _ (by simp)).trans (heap_alloc_new w _))
  have hbb : Below w.heap.size w w1 := ((Below.refl _ _).alloc (Nat.le_refl _) _).trans (hb.mono (by simp))
  have HR1 := Lib.hid (HR.out.keep hbb)
  have HG1 := Lib.hid (grown_of_below hbb (some rb))
  clear hb hbb
  obtain ⟨t1, ht1⟩ : ∃ t, isAt ws i sMinus = t := ⟨_, rfl⟩
  have T1 := Lib.hid ht1; clear ht1
  go_wp2_with fail
  refine (take_p sMinus (ne_of (by decide)) t1 HR1.out T1.out).mono ?_
  rintro e w2 ⟨rfl, hr2, hg⟩
  have HR2 := Lib.hid hr2
  have HG2 := Lib.hid (grown_trans HG1.out hg)
  have HB2 := Lib.hid ((hg.block w.heap.size (lt_of_some HB0.out) (by simp; omega)).trans HB0.out)
  clear hr2 hg HR1 HG1 HB0
  cases t1 with
  | true =>
    have hq := head1 T1.out
    have HQ := Lib.hid hq; clear hq
    simp only [if_true] at HR2
    cases r with
    | ex x j =>
      have hx : ∃ y, x = .mk 4 0 sNone [y] (posAt ws i en) ∧ Dc ws en (.one (i + 1)) (.ex y j) := by
        have h := HD.out
        cases h with
        | neg _ h => exact ⟨_, rfl, h⟩
        | _ => exfalso; have := HQ.out; omega
      obtain ⟨y, rfl, hy⟩ := hx
      have HY := Lib.hid hy; clear hy
      go_wp2_with fail
      refine (H1.out _ HY.out w2 HR2.out (HG.out.of HG2.out hr)).mono ?_
      rintro e w4 ⟨A, c, rfl, hA, hR, hg⟩
      have HAx := Lib.hid hA; have HR4 := Lib.hid hR
      have hz2 := lt_of_some HB2.out; have hs4 := hg.size
      replace HB2 := Lib.hid ((hg.block w.heap.size hz2 (by simp; omega)).trans HB2.out)
      replace HG2 := Lib.hid (grown_trans HG2.out hg)
      clear hA hR hg
      have hz4 := lt_of_some HB2.out
      have h5 := grown5 w4 w.heap.size (.int .i64 4) (.int .i64 0) (.string ⟨#[]⟩) (.slice (some ⟨w4.heap.size, 0, none⟩) 1 1) (.int .i64 (posAt ws i en))
      have hsz : (((((w4.setCell ⟨w.heap.size, 0, none⟩ (.int .i64 4)).setCell ⟨w.heap.size, 1, none⟩ (.int .i64 0)).setCell ⟨w.heap.size, 2, none⟩ (.string ⟨#[]⟩)).setCell ⟨w.heap.size, 3, none⟩ (.slice (some ⟨w4.heap.size, 0, none⟩) 1 1)).setCell ⟨w.heap.size, 4, none⟩ (.int .i64 (posAt ws i en))).heap.size = w4.heap.size := by simp
      have HX := Lib.hid (args_one (W := (((((w4.setCell ⟨w.heap.size, 0, none⟩ (.int .i64 4)).setCell ⟨w.heap.size, 1, none⟩ (.int .i64 0)).setCell ⟨w.heap.size, 2, none⟩ (.string ⟨#[]⟩)).setCell ⟨w.heap.size, 3, none⟩ (.slice (some ⟨w4.heap.size, 0, none⟩) 1 1)).setCell ⟨w.heap.size, 4, none⟩ (.int .i64 (posAt ws i en)))) (b1 := w.heap.size) (cap := 1) (T := 186) (F := fun g => w.heap.size ≤ g) HAx.out h5 (fun g (h : w2.heap.size ≤ g) => ⟨by omega, by omega⟩) hsz (by omega))
      have HW := Lib.hid ((heap_alloc_old (((((w4.setCell ⟨w.heap.size, 0, none⟩ (.int .i64 4)).setCell ⟨w.heap.size, 1, none⟩ (.int .i64 0)).setCell ⟨w.heap.size, 2, none⟩ (.string ⟨#[]⟩)).setCell ⟨w.heap.size, 3, none⟩ (.slice (some ⟨w4.heap.size, 0, none⟩) 1 1)).setCell ⟨w.heap.size, 4, none⟩ (.int .i64 (posAt ws i en))) (.cells #[.int .i64 y.kind, .int .i64 y.n, .string y.text, .slice A y.args.length c, .int .i64 y.pos] 186) (by rw [hsz]; exact hz4)).trans (set5 (.int .i64 4) (.int .i64 0) (.string ⟨#[]⟩) (.slice (some ⟨w4.heap.size, 0, none⟩) 1 1) (.int .i64 (posAt ws i en)) HB2.out))
      have hal : Below (((((w4.setCell ⟨w.heap.size, 0, none⟩ (.int .i64 4)).setCell ⟨w.heap.size, 1, none⟩ (.int .i64 0)).setCell ⟨w.heap.size, 2, none⟩ (.string ⟨#[]⟩)).setCell ⟨w.heap.size, 3, none⟩ (.slice (some ⟨w4.heap.size, 0, none⟩) 1 1)).setCell ⟨w.heap.size, 4, none⟩ (.int .i64 (posAt ws i en))).heap.size (((((w4.setCell ⟨w.heap.size, 0, none⟩ (.int .i64 4)).setCell ⟨w.heap.size, 1, none⟩ (.int .i64 0)).setCell ⟨w.heap.size, 2, none⟩ (.string ⟨#[]⟩)).setCell ⟨w.heap.size, 3, none⟩ (.slice (some ⟨w4.heap.size, 0, none⟩) 1 1)).setCell ⟨w.heap.size, 4, none⟩ (.int .i64 (posAt ws i en))) ((((((w4.setCell ⟨w.heap.size, 0, none⟩ (.int .i64 4)).setCell ⟨w.heap.size, 1, none⟩ (.int .i64 0)).setCell ⟨w.heap.size, 2, none⟩ (.string ⟨#[]⟩)).setCell ⟨w.heap.size, 3, none⟩ (.slice (some ⟨w4.heap.size, 0, none⟩) 1 1)).setCell ⟨w.heap.size, 4, none⟩ (.int .i64 (posAt ws i en))).alloc (.cells #[.int .i64 y.kind, .int .i64 y.n, .string y.text, .slice A y.args.length c, .int .i64 y.pos] 186)) := (Below.refl _ _).alloc (Nat.le_refl _) _
      have HRx := Lib.hid ((HR4.out.grown h5 hrl).keep hal)
      have HGx := Lib.hid (grown_trans (grown_new HG2.out h5 (Nat.le_refl _)) (grown_of_below hal (some rb)))
      clear h5 hal hsz
      obtain ⟨⟨d0, d1, d2, d3, d4⟩, g0, g1, g2, g3, g4⟩ := facts5 HB2.out
      go_wp2_with fail
      (try simp only [Exit.inBlock, Exit.then])
      refine bodyPost_ret (results_cell_row rfl _ _ w.heap.size _ _ _ _ rfl HW.out Tryz.underlying186 rfl exInfo) rfl ?_
      exact ⟨some ⟨w4.heap.size, 0, none⟩, 1, rfl, HX.out, HRx.out, HGx.out⟩
    | bad j =>
      have hx : Dc ws en (.one (i + 1)) (.bad j) := by
        have h := HD.out
        cases h with
        | negB _ h => exact h
        | _ => exfalso; have := HQ.out; omega
      have HY := Lib.hid hx; clear hx
      go_wp2_with fail
      refine (H1.out _ HY.out w2 HR2.out (HG.out.of HG2.out hr)).mono ?_
      rintro e w4 ⟨rfl, hg⟩
      have HG4 := Lib.hid (grown_trans HG2.out hg); clear hg
      unfold badP
      go_wp2_with fail
      exact ⟨rfl, rfl, HG4.out⟩
    | exs l j => have h := HD.out; cases h
  | false =>
    simp only [Bool.false_eq_true, if_false] at HR2
    obtain ⟨t2, ht2⟩ : ∃ t, isAt ws i sBang = t := ⟨_, rfl⟩
    have T2 := Lib.hid ht2; clear ht2
    go_wp2_with fail
    refine (take_p sBang (ne_of (by decide)) t2 HR2.out T2.out).mono ?_
    rintro e w3 ⟨rfl, hr2, hg⟩
    replace HR2 := Lib.hid hr2
    replace HB2 := Lib.hid ((hg.block w.heap.size (lt_of_some HB2.out) (by simp; omega)).trans HB2.out)
    replace HG2 := Lib.hid (grown_trans HG2.out hg)
    clear hr2 hg
    obtain ⟨w2, rfl⟩ : ∃ wo : World, wo = w3 := ⟨_, rfl⟩
    cases t2 with
    | true =>
      have hq := head2 T1.out T2.out
      have HQ := Lib.hid hq; clear hq
      simp only [if_true] at HR2
      cases r with
      | ex x j =>
        have hx : ∃ y, x = .mk 5 0 sNone [y] (posAt ws i en) ∧ Dc ws en (.one (i + 1)) (.ex y j) := by
          have h := HD.out
          cases h with
          | not _ h => exact ⟨_, rfl, h⟩
          | _ => exfalso; have := HQ.out; omega
        obtain ⟨y, rfl, hy⟩ := hx
        have HY := Lib.hid hy; clear hy
        go_wp2_with fail
        refine (H1.out _ HY.out w2 HR2.out (HG.out.of HG2.out hr)).mono ?_
        rintro e w4 ⟨A, c, rfl, hA, hR, hg⟩
        have HAx := Lib.hid hA; have HR4 := Lib.hid hR
        have hz2 := lt_of_some HB2.out; have hs4 := hg.size
        replace HB2 := Lib.hid ((hg.block w.heap.size hz2 (by simp; omega)).trans HB2.out)
        replace HG2 := Lib.hid (grown_trans HG2.out hg)
        clear hA hR hg
        have hz4 := lt_of_some HB2.out
        have h5 := grown5 w4 w.heap.size (.int .i64 5) (.int .i64 0) (.string ⟨#[]⟩) (.slice (some ⟨w4.heap.size, 0, none⟩) 1 1) (.int .i64 (posAt ws i en))
        have hsz : (((((w4.setCell ⟨w.heap.size, 0, none⟩ (.int .i64 5)).setCell ⟨w.heap.size, 1, none⟩ (.int .i64 0)).setCell ⟨w.heap.size, 2, none⟩ (.string ⟨#[]⟩)).setCell ⟨w.heap.size, 3, none⟩ (.slice (some ⟨w4.heap.size, 0, none⟩) 1 1)).setCell ⟨w.heap.size, 4, none⟩ (.int .i64 (posAt ws i en))).heap.size = w4.heap.size := by simp
        have HX := Lib.hid (args_one (W := (((((w4.setCell ⟨w.heap.size, 0, none⟩ (.int .i64 5)).setCell ⟨w.heap.size, 1, none⟩ (.int .i64 0)).setCell ⟨w.heap.size, 2, none⟩ (.string ⟨#[]⟩)).setCell ⟨w.heap.size, 3, none⟩ (.slice (some ⟨w4.heap.size, 0, none⟩) 1 1)).setCell ⟨w.heap.size, 4, none⟩ (.int .i64 (posAt ws i en)))) (b1 := w.heap.size) (cap := 1) (T := 186) (F := fun g => w.heap.size ≤ g) HAx.out h5 (fun g (h : w2.heap.size ≤ g) => ⟨by omega, by omega⟩) hsz (by omega))
        have HW := Lib.hid ((heap_alloc_old (((((w4.setCell ⟨w.heap.size, 0, none⟩ (.int .i64 5)).setCell ⟨w.heap.size, 1, none⟩ (.int .i64 0)).setCell ⟨w.heap.size, 2, none⟩ (.string ⟨#[]⟩)).setCell ⟨w.heap.size, 3, none⟩ (.slice (some ⟨w4.heap.size, 0, none⟩) 1 1)).setCell ⟨w.heap.size, 4, none⟩ (.int .i64 (posAt ws i en))) (.cells #[.int .i64 y.kind, .int .i64 y.n, .string y.text, .slice A y.args.length c, .int .i64 y.pos] 186) (by rw [hsz]; exact hz4)).trans (set5 (.int .i64 5) (.int .i64 0) (.string ⟨#[]⟩) (.slice (some ⟨w4.heap.size, 0, none⟩) 1 1) (.int .i64 (posAt ws i en)) HB2.out))
        have hal : Below (((((w4.setCell ⟨w.heap.size, 0, none⟩ (.int .i64 5)).setCell ⟨w.heap.size, 1, none⟩ (.int .i64 0)).setCell ⟨w.heap.size, 2, none⟩ (.string ⟨#[]⟩)).setCell ⟨w.heap.size, 3, none⟩ (.slice (some ⟨w4.heap.size, 0, none⟩) 1 1)).setCell ⟨w.heap.size, 4, none⟩ (.int .i64 (posAt ws i en))).heap.size (((((w4.setCell ⟨w.heap.size, 0, none⟩ (.int .i64 5)).setCell ⟨w.heap.size, 1, none⟩ (.int .i64 0)).setCell ⟨w.heap.size, 2, none⟩ (.string ⟨#[]⟩)).setCell ⟨w.heap.size, 3, none⟩ (.slice (some ⟨w4.heap.size, 0, none⟩) 1 1)).setCell ⟨w.heap.size, 4, none⟩ (.int .i64 (posAt ws i en))) ((((((w4.setCell ⟨w.heap.size, 0, none⟩ (.int .i64 5)).setCell ⟨w.heap.size, 1, none⟩ (.int .i64 0)).setCell ⟨w.heap.size, 2, none⟩ (.string ⟨#[]⟩)).setCell ⟨w.heap.size, 3, none⟩ (.slice (some ⟨w4.heap.size, 0, none⟩) 1 1)).setCell ⟨w.heap.size, 4, none⟩ (.int .i64 (posAt ws i en))).alloc (.cells #[.int .i64 y.kind, .int .i64 y.n, .string y.text, .slice A y.args.length c, .int .i64 y.pos] 186)) := (Below.refl _ _).alloc (Nat.le_refl _) _
        have HRx := Lib.hid ((HR4.out.grown h5 hrl).keep hal)
        have HGx := Lib.hid (grown_trans (grown_new HG2.out h5 (Nat.le_refl _)) (grown_of_below hal (some rb)))
        clear h5 hal hsz
        obtain ⟨⟨d0, d1, d2, d3, d4⟩, g0, g1, g2, g3, g4⟩ := facts5 HB2.out
        go_wp2_with fail
        (try simp only [Exit.inBlock, Exit.then])
        refine bodyPost_ret (results_cell_row rfl _ _ w.heap.size _ _ _ _ rfl HW.out Tryz.underlying186 rfl exInfo) rfl ?_
        exact ⟨some ⟨w4.heap.size, 0, none⟩, 1, rfl, HX.out, HRx.out, HGx.out⟩
      | bad j =>
        have hx : Dc ws en (.one (i + 1)) (.bad j) := by
          have h := HD.out
          cases h with
          | notB _ h => exact h
          | _ => exfalso; have := HQ.out; omega
        have HY := Lib.hid hx; clear hx
        go_wp2_with fail
        refine (H1.out _ HY.out w2 HR2.out (HG.out.of HG2.out hr)).mono ?_
        rintro e w4 ⟨rfl, hg⟩
        have HG4 := Lib.hid (grown_trans HG2.out hg); clear hg
        unfold badP
        go_wp2_with fail
        exact ⟨rfl, rfl, HG4.out⟩
      | exs l j => have h := HD.out; cases h
    | false =>
      simp only [Bool.false_eq_true, if_false] at HR2
      have hq1 : headQ ws i ≠ 1 := fun e => by rw [hq_Minus e] at T1; exact absurd T1.out (by decide)
      have hq2 : headQ ws i ≠ 2 := fun e => by rw [hq_Bang hq1 e] at T2; exact absurd T2.out (by decide)
      have HA := Lib.hid (H2.out r HD.out hq1 hq2 w2 HR2.out (HG.out.of HG2.out hr))
      clear hq1 hq2
      go_wp2_with fail
      cases r with
      | ex x j =>
        refine HA.out.mono ?_
        rintro e w4 ⟨A, c, rfl, hA, hR, hg⟩
        have HAx := Lib.hid hA; have HR4 := Lib.hid hR
        have hz2 := lt_of_some HB2.out
        replace HB2 := Lib.hid ((hg.block w.heap.size hz2 (by simp; omega)).trans HB2.out)
        replace HG2 := Lib.hid (grown_trans HG2.out hg)
        clear hA hR hg
        obtain ⟨⟨d0, d1, d2, d3, d4⟩, g0, g1, g2, g3, g4⟩ := facts5 HB2.out
        have HW := Lib.hid (set5 (.int .i64 x.kind) (.int .i64 x.n) (.string x.text) (.slice A x.args.length c) (.int .i64 x.pos) HB2.out)
        go_wp2_with fail
        (try simp only [Exit.inBlock, Exit.then])
        refine bodyPost_ret (results_cell_row rfl _ _ w.heap.size _ _ _ _ rfl HW.out Tryz.underlying186 rfl exInfo) rfl ?_
        exact ret5p HAx.out (fun g (h : w2.heap.size ≤ g) => ⟨by omega, by omega⟩) HR4.out HG2.out (Nat.le_refl _) hrl
      | bad j =>
        refine HA.out.mono ?_
        rintro e w4 ⟨rfl, hg⟩
        have HG4 := Lib.hid (grown_trans HG2.out hg); clear hg
        unfold badP
        go_wp2_with fail
        exact ⟨rfl, rfl, HG4.out⟩
      | exs l j => have h := HD.out; cases h
end Go.Proofs.YtmngofgminlloaaGreatDoor
