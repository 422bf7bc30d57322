/-
  The derivations of made scripts, with any names of variables. No program in sight.
  Made scripts: the variables and functions that they name; how many variables they make. No program in sight.
  What is wrong with the names and types of a script, in plain Lean. No program in sight.
  Statements one after the other: what the loops of the two checkers go by. No program in sight.
  Made scripts have right types, with any names of variables. No program in sight.
-/
import Derived.Test.YtmngofgminlloaaGreatDoorTN16
import Derived.Test.YtmngofgminlloaaGreatDoorTN09
set_option linter.unusedSimpArgs false
set_option linter.unusedVariables false
namespace Go.Proofs.YtmngofgminlloaaGreatDoor
open Go.RowKit Tw

def tP : ByteArray := ⟨#[112]⟩
def tQ : ByteArray := ⟨#[113]⟩
/-- What a function's body is: the statements and what it returns. -/
def bodyG (g : GL) (x : GE) : GL := g.app (.ret x .nil)
theorem GL.pcsR_app {ρ : ByteArray → ByteArray} (a b : GL) : (a.app b).pcsR ρ = a.pcsR ρ ++ b.pcsR ρ := by
  induction a <;> simp only [GL.app, GL.pcsR, List.append_assoc, List.nil_append, *]
theorem GL.okR_app {ρ : ByteArray → ByteArray} (a b : GL) (ha : a.okR ρ) (hb : b.okR ρ) : (a.app b).okR ρ := by
  induction a with
  | nil => exact hb
  | set s x r ih => exact ⟨ha.1, ha.2.1, ih ha.2.2⟩
  | yield x r ih => exact ⟨ha.1, ih ha.2⟩
  | ite c a b r _ _ ih => exact ⟨ha.1, ha.2.1, ha.2.2.1, ih ha.2.2.2⟩
  | loop i n l r _ ih => exact ⟨ha.1, ha.2.1, ha.2.2.1, ih ha.2.2.2⟩
  | run x r ih => exact ⟨ha.1, ih ha.2⟩
  | ret x r ih => exact ⟨ha.1, ih ha.2⟩
  | bind i x r ih => exact ⟨ha.1, ha.2.1, ih ha.2.2⟩
def funR (ρ : ByteArray → ByteArray) (j : Nat) (g : GL) (x : GE) : List Pc := [.w 3 [102, 117, 110], .sp 32] ++ [.w 2 (fL j)] ++ [.w 4 [40], .w 2 (ρ tP).data.toList, .w 4 [58], .sp 32, .w 3 [105, 110, 116], .w 4 [44], .sp 32, .w 2 (ρ tQ).data.toList, .w 4 [58], .sp 32, .w 3 [105, 110, 116], .w 4 [41], .w 4 [58], .sp 32, .w 3 [105, 110, 116], .sp 32, .w 4 [123], .sp 32] ++ (bodyG g x).pcsR ρ ++ [.w 4 [125], .sp 10]
def funsR (ρ : ByteArray → ByteArray) : Nat → List (GL × GE) → List Pc
  | _, [] => []
  | j, (g, x) :: r => funR ρ j g x ++ funsR ρ (j + 1) r
def mainR (ρ : ByteArray → ByteArray) (g : GL) (x : GE) : List Pc := [.w 3 [102, 117, 110], .sp 32, .w 2 [109, 97, 105, 110], .w 4 [40], .w 4 [41], .w 4 [58], .sp 32, .w 3 [105, 110, 116], .sp 32, .w 4 [123], .sp 32] ++ (bodyG g x).pcsR ρ ++ [.w 4 [125]]
def scriptR (ρ : ByteArray → ByteArray) (fs : List (GL × GE)) (g : GL) (x : GE) : List Pc := funsR ρ 0 fs ++ mainR ρ g x
theorem scriptR_id (fs : List (GL × GE)) (g : GL) (x : GE) : scriptR id fs g x = scriptW fs g x := by
  have h : ∀ (fs : List (GL × GE)) (j : Nat), funsR id j fs = funsW j fs := by
    intro fs
    induction fs with
    | nil => intro j; rfl
    | cons f fs ih =>
      intro j
      obtain ⟨g, x⟩ := f
      simp only [funsR, funsW, ih, funR, funW, bodyG, GL.pcsR_app, GL.pcsR_id, GL.pcsR, GE.ren_id, id, List.append_assoc, List.cons_append, List.nil_append, List.append_nil]
      rfl
  simp only [scriptR, scriptW, h, mainR, mainW, bodyG, GL.pcsR_app, GL.pcsR_id, GL.pcsR, GE.ren_id, List.append_assoc, List.cons_append, List.nil_append, List.append_nil]
/-- The trees of functions, whatever the places. -/
def TrF (ρ : ByteArray → ByteArray) (j : Nat) (g : GL) (x : GE) (f : Fn) : Prop := f.name = ⟨(fL j).toArray⟩ ∧ f.names = [ρ tP, ρ tQ] ∧ f.types = [1, 1] ∧ f.out = 1 ∧ TrL ρ (bodyG g x) f.body
def TrM (ρ : ByteArray → ByteArray) (g : GL) (x : GE) (f : Fn) : Prop := f.name = ⟨#[109, 97, 105, 110]⟩ ∧ f.names = [] ∧ f.types = [] ∧ f.out = 1 ∧ TrL ρ (bodyG g x) f.body
inductive TrFs (ρ : ByteArray → ByteArray) : Nat → List (GL × GE) → List Fn → Prop
  | nil {j : Nat} : TrFs ρ j [] []
  | cons {j : Nat} {g : GL} {x : GE} {r : List (GL × GE)} {f : Fn} {l : List Fn} : TrF ρ j g x f → TrFs ρ (j + 1) r l → TrFs ρ j ((g, x) :: r) (f :: l)
section
variable {ws : List Wd} {en : Nat} {ρ : ByteArray → ByteArray}
theorem body_d {g : GL} {x : GE} (hg : g.okR ρ) (hx : (x.ren ρ).okW) (hgT : g.isT) (hxT : x.isN) {i : Nat} {rest : List Pc} (h : AtP ws i (.w 4 [123] :: .sp 32 :: ((bodyG g x).pcsR ρ ++ .w 4 [125] :: rest))) :
    ∃ l, TrL ρ (bodyG g x) l ∧ Ds ws en (.block i) (.sts l (i + 1 + nW ((bodyG g x).pcsR ρ) + 1)) ∧ AtP ws (i + 1 + nW ((bodyG g x).pcsR ρ) + 1) rest := by
  obtain ⟨⟨k, hk⟩, h1⟩ := h.w
  obtain ⟨⟨k2, hk2⟩, h2⟩ := (AtP.skip ((bodyG g x).pcsR ρ) h1.sp).w
  obtain ⟨l, hl, hd⟩ := (bodyG g x).der (ρ := ρ) (en := en) (GL.okR_app _ _ hg ⟨hx, trivial⟩) (GL.isT_app _ _ hgT ⟨hxT, trivial⟩) (i + 1) _ _ [] h1.sp (.done (is_yes (t := [125]) hk2))
  rw [List.append_nil] at hd
  exact ⟨l, hl, .block (is_yes (t := [123]) hk) hd, h2⟩
theorem typ_d {i : Nat} {k k' : Nat} (h : ws[i]? = some ⟨4, ⟨([58] : Bs).toArray⟩, k⟩) (h' : ws[i + 1]? = some ⟨3, ⟨([105, 110, 116] : Bs).toArray⟩, k'⟩) : typF ws i = .ok 1 := by
  unfold typF
  rw [if_pos (show isAt ws i tColon = true from is_yes (t := [58]) h), if_pos (show isAt ws (i + 1) tInt = true from is_yes (t := [105, 110, 116]) h')]
theorem fun_d {j : Nat} {g : GL} {x : GE} (hj : j < 100) (hP : isName (ρ tP).data.toList = true) (hQ : isName (ρ tQ).data.toList = true) (hg : g.okR ρ) (hx : (x.ren ρ).okW) (hgT : g.isT) (hxT : x.isN) {i : Nat} {rest : List Pc} (h : AtP ws i (funR ρ j g x ++ rest)) :
    ∃ f, TrF ρ j g x f ∧ Df ws en i (.fn f (i + nW (funR ρ j g x))) ∧ i < ws.length ∧ AtP ws (i + nW (funR ρ j g x)) rest := by
  simp only [funR, List.append_assoc, List.cons_append, List.nil_append] at h
  obtain ⟨⟨k, hk⟩, h1⟩ := h.w
  obtain ⟨⟨k1, hk1⟩, h2⟩ := h1.sp.w
  obtain ⟨⟨k2, hk2⟩, h3⟩ := h2.w
  obtain ⟨⟨k3, hk3⟩, h4⟩ := h3.w
  obtain ⟨⟨k4, hk4⟩, h5⟩ := h4.w
  obtain ⟨⟨k5, hk5⟩, h6⟩ := h5.sp.w
  obtain ⟨⟨k6, hk6⟩, h7⟩ := h6.w
  obtain ⟨⟨k7, hk7⟩, h8⟩ := h7.sp.w
  obtain ⟨⟨k8, hk8⟩, h9⟩ := h8.w
  obtain ⟨⟨k9, hk9⟩, h10⟩ := h9.sp.w
  obtain ⟨⟨k10, hk10⟩, h11⟩ := h10.w
  obtain ⟨⟨k11, hk11⟩, h12⟩ := h11.w
  obtain ⟨⟨k12, hk12⟩, h13⟩ := h12.sp.w
  obtain ⟨l, hl, hd, h14⟩ := body_d (en := en) hg hx hgT hxT h13.sp
  have e : i + nW (funR ρ j g x) = i + 1 + 1 + 1 + 1 + 1 + 1 + 1 + 1 + 1 + 1 + 1 + 1 + 1 + 1 + nW ((bodyG g x).pcsR ρ) + 1 := by simp only [funR, nW_app, nW, List.cons_append, List.nil_append]; omega
  have hp : Dp ws en 0 (i + 1 + 1 + 1) (.ok [ρ tP, ρ tQ] [1, 1] (i + 1 + 1 + 1 + 1 + 1 + 1 + 1 + 1 + 1 + 1 + 1)) := by
    have e1 : Dp ws en 2 (i + 1 + 1 + 1 + 1 + 1 + 1 + 1 + 1 + 1 + 1) (.ok [] [] (i + 1 + 1 + 1 + 1 + 1 + 1 + 1 + 1 + 1 + 1 + 1)) := .close (is_yes (t := [41]) hk10)
    have e2 : Dp ws en 1 (i + 1 + 1 + 1 + 1 + 1 + 1) (.ok [ρ tQ] [1] (i + 1 + 1 + 1 + 1 + 1 + 1 + 1 + 1 + 1 + 1 + 1)) := by
      have := Dp.next (ws := ws) (en := en) (k := 1) (i := i + 1 + 1 + 1 + 1 + 1 + 1) (is_no (s := [41]) hk6 (by decide)) (fun _ => is_yes (t := [44]) hk6) (at_kind hk7) (typ_d hk8 hk9) e1
      rw [show parAt 1 (i + 1 + 1 + 1 + 1 + 1 + 1) = i + 1 + 1 + 1 + 1 + 1 + 1 + 1 from rfl, at_text hk7, bs_mk] at this
      exact this
    have := Dp.next (ws := ws) (en := en) (k := 0) (i := i + 1 + 1 + 1) (is_no (s := [41]) hk3 (name_no hP 41 (by decide))) (fun h => absurd rfl h) (at_kind hk3) (typ_d hk4 hk5) e2
    rw [show parAt 0 (i + 1 + 1 + 1) = i + 1 + 1 + 1 from rfl, at_text hk3, bs_mk] at this
    exact this
  have hdf := Df.fn (is_yes (t := [102, 117, 110]) hk) (at_kind hk1) (is_yes (t := [40]) hk2) hp (typ_d hk11 hk12) hd
  rw [at_text hk1] at hdf
  rw [e]
  exact ⟨_, ⟨rfl, rfl, rfl, rfl, hl⟩, hdf, (List.getElem?_eq_some_iff.1 hk).1, h14.sp⟩
theorem main_d {g : GL} {x : GE} (hg : g.okR ρ) (hx : (x.ren ρ).okW) (hgT : g.isT) (hxT : x.isN) {i : Nat} (h : AtP ws i (mainR ρ g x)) :
    ∃ f, TrM ρ g x f ∧ Df ws en i (.fn f (i + nW (mainR ρ g x))) ∧ i < ws.length ∧ ws.length ≤ i + nW (mainR ρ g x) := by
  simp only [mainR, List.append_assoc, List.cons_append, List.nil_append] at h
  obtain ⟨⟨k, hk⟩, h1⟩ := h.w
  obtain ⟨⟨k1, hk1⟩, h2⟩ := h1.sp.w
  obtain ⟨⟨k2, hk2⟩, h3⟩ := h2.w
  obtain ⟨⟨k3, hk3⟩, h4⟩ := h3.w
  obtain ⟨⟨k11, hk11⟩, h12⟩ := h4.w
  obtain ⟨⟨k12, hk12⟩, h13⟩ := h12.sp.w
  obtain ⟨l, hl, hd, h14⟩ := body_d (en := en) hg hx hgT hxT h13.sp
  have e : i + nW (mainR ρ g x) = i + 1 + 1 + 1 + 1 + 1 + 1 + 1 + nW ((bodyG g x).pcsR ρ) + 1 := by simp only [mainR, nW_app, nW, List.cons_append, List.nil_append]; omega
  have hp : Dp ws en 0 (i + 1 + 1 + 1) (.ok [] [] (i + 1 + 1 + 1 + 1)) := .close (is_yes (t := [41]) hk3)
  have hdf := Df.fn (is_yes (t := [102, 117, 110]) hk) (at_kind hk1) (is_yes (t := [40]) hk2) hp (typ_d hk11 hk12) hd
  rw [at_text hk1] at hdf
  rw [e]
  refine ⟨_, ⟨rfl, rfl, rfl, rfl, hl⟩, hdf, (List.getElem?_eq_some_iff.1 hk).1, ?_⟩
  have := h14
  unfold AtP ktW at this
  have h0 := congrArg List.length this
  simp [ktP] at h0
  omega
theorem funs_d (hP : isName (ρ tP).data.toList = true) (hQ : isName (ρ tQ).data.toList = true) : ∀ (fs : List (GL × GE)) (j i : Nat) (rest : List Pc), j + fs.length ≤ 100 → (∀ f ∈ fs, f.1.okR ρ ∧ (f.2.ren ρ).okW ∧ f.1.isT ∧ f.2.isN) → AtP ws i (funsR ρ j fs ++ rest) →
    ∃ l, TrFs ρ j fs l ∧ (∀ m, Du ws en (i + nW (funsR ρ j fs)) (.fns m) → Du ws en i (.fns (l ++ m))) ∧ AtP ws (i + nW (funsR ρ j fs)) rest
  | [], j, i, rest, _, _, h => ⟨[], .nil, fun _ h => h, h⟩
  | (g, x) :: r, j, i, rest, hl, hf, h => by
    simp only [funsR, List.append_assoc] at h
    simp only [List.length_cons] at hl
    obtain ⟨h1, h2, h3, h4⟩ := hf (g, x) (List.mem_cons_self ..)
    obtain ⟨f, hF, hd, hlt, h5⟩ := fun_d (en := en) (by omega) hP hQ h1 h2 h3 h4 h
    obtain ⟨l, hL, hD, h6⟩ := funs_d hP hQ r (j + 1) _ rest (by omega) (fun f hf' => hf f (List.mem_cons_of_mem _ hf')) h5
    have e : i + nW (funsR ρ j ((g, x) :: r)) = i + nW (funR ρ j g x) + nW (funsR ρ (j + 1) r) := by simp only [funsR, nW_app]; omega
    rw [e]
    exact ⟨f :: l, .cons hF hL, fun m hm => .more hlt hd (hD m hm), h6⟩
/-- The derivation of a made script. -/
theorem script_d {fs : List (GL × GE)} {g : GL} {x : GE} (hP : isName (ρ tP).data.toList = true) (hQ : isName (ρ tQ).data.toList = true) (hn : fs.length ≤ 100) (hf : ∀ f ∈ fs, f.1.okR ρ ∧ (f.2.ren ρ).okW ∧ f.1.isT ∧ f.2.isN) (hg : g.okR ρ) (hx : (x.ren ρ).okW) (hgT : g.isT) (hxT : x.isN) (h : AtP ws 0 (scriptR ρ fs g x)) :
    ∃ l f, TrFs ρ 0 fs l ∧ TrM ρ g x f ∧ Du ws en 0 (.fns (l ++ [f])) := by
  obtain ⟨l, hL, hD, h1⟩ := funs_d (en := en) hP hQ fs 0 0 _ (by omega) hf h
  obtain ⟨f, hF, hd, hlt, hle⟩ := main_d (en := en) hg hx hgT hxT h1
  exact ⟨l, f, hL, hF, hD _ (.more hlt hd (.done hle))⟩
end
end Go.Proofs.YtmngofgminlloaaGreatDoor

namespace Go.Proofs.YtmngofgminlloaaGreatDoor
open Go.RowKit Tw

/-- The variables are of ns, the functions below low. -/
def GE.okV (ns : List ByteArray) (low : Nat) : GE → Prop
  | .var s => s ∈ ns
  | .lit _ => True
  | .neg x => x.okV ns low
  | .call f x y => f < low ∧ x.okV ns low ∧ y.okV ns low
  | .host _ x => x.okV ns low
  | .bin _ x y => x.okV ns low ∧ y.okV ns low
  | .not x => x.okV ns low
  | .and x y => x.okV ns low ∧ y.okV ns low
  | .or x y => x.okV ns low ∧ y.okV ns low
  | .tf _ => True
  | .cmp _ x y => x.okV ns low ∧ y.okV ns low
theorem GNum.okV {N : Nat} {ns : List ByteArray} {low d i i' : Nat} {x : GE} (h : GNum N ns low d i x i') : x.okV ns low := by
  induction h with
  | var _ _ hs => exact List.mem_of_getElem? hs
  | lit _ _ => trivial
  | neg _ _ ih => exact ih
  | call _ hf _ _ ih1 ih2 => exact ⟨hf.1, ih1, ih2⟩
  | host _ _ _ ih => exact ih
  | bin _ _ _ _ ih1 ih2 => exact ⟨ih1, ih2⟩
theorem GFlag.okV {N : Nat} {ns : List ByteArray} {low d i i' : Nat} {x : GE} (h : GFlag N ns low d i x i') : x.okV ns low := by
  induction h with
  | not _ _ ih => exact ih
  | and _ _ _ ih1 ih2 => exact ⟨ih1, ih2⟩
  | or _ _ _ ih1 ih2 => exact ⟨ih1, ih2⟩
  | tf _ _ => trivial
  | cmp _ h1 _ h2 => exact ⟨h1.okV, h2.okV⟩
/-- How many variables statements make; the names that can be seen behind them. -/
def GL.made : GL → Nat
  | .nil => 0
  | .set _ _ r => r.made
  | .yield _ r => r.made
  | .ite _ a b r => a.made + b.made + r.made
  | .loop _ _ l r => 1 + l.made + r.made
  | .run _ r => r.made
  | .ret _ r => r.made
  | .bind _ _ r => 1 + r.made
def GL.nsA : GL → List ByteArray → List ByteArray
  | .nil, ns => ns
  | .set _ _ r, ns => r.nsA ns
  | .yield _ r, ns => r.nsA ns
  | .ite _ _ _ r, ns => r.nsA ns
  | .loop _ _ _ r, ns => r.nsA ns
  | .run _ r, ns => r.nsA ns
  | .ret _ r, ns => r.nsA ns
  | .bind i _ r, ns => r.nsA (ns ++ [vT i])
def GL.okV (low : Nat) : GL → List ByteArray → Nat → Prop
  | .nil, _, _ => True
  | .set s x r, ns, m => s ∈ ns ∧ x.okV ns low ∧ r.okV low ns m
  | .yield x r, ns, m => x.okV ns low ∧ r.okV low ns m
  | .ite c a b r, ns, m => c.okV ns low ∧ a.okV low ns m ∧ b.okV low ns (m + a.made) ∧ r.okV low ns (m + a.made + b.made)
  | .loop i _ l r, ns, m => i = m + 1 ∧ l.okV low ns (m + 1) ∧ r.okV low ns (m + 1 + l.made)
  | .run x r, ns, m => x.okV ns low ∧ r.okV low ns m
  | .ret x r, ns, m => x.okV ns low ∧ r.okV low ns m
  | .bind i x r, ns, m => i = m + 1 ∧ x.okV ns low ∧ r.okV low (ns ++ [vT i]) (m + 1)
theorem GL.made_app (a b : GL) : (a.app b).made = a.made + b.made := by
  induction a <;> simp only [GL.app, GL.made, Nat.add_assoc, Nat.zero_add, *]
theorem GL.nsA_app (a b : GL) : ∀ ns, (a.app b).nsA ns = b.nsA (a.nsA ns) := by
  induction a <;> intro ns <;> simp only [GL.app, GL.nsA, *]
theorem GL.okV_app (low : Nat) (a b : GL) : ∀ ns m, a.okV low ns m → b.okV low (a.nsA ns) (m + a.made) → (a.app b).okV low ns m := by
  induction a with
  | nil => intro ns m _ h; exact h
  | set s x r ih => intro ns m h h'; exact ⟨h.1, h.2.1, ih _ _ h.2.2 h'⟩
  | yield x r ih => intro ns m h h'; exact ⟨h.1, ih _ _ h.2 h'⟩
  | ite c a b r _ _ ih =>
    intro ns m h h'
    refine ⟨h.1, h.2.1, h.2.2.1, ih _ _ h.2.2.2 ?_⟩
    simp only [GL.made, GL.nsA] at h'
    rwa [show m + a.made + b.made + r.made = m + (a.made + b.made + r.made) by omega]
  | loop i n l r _ ih =>
    intro ns m h h'
    refine ⟨h.1, h.2.1, ih _ _ h.2.2 ?_⟩
    simp only [GL.made, GL.nsA] at h'
    rwa [show m + 1 + l.made + r.made = m + (1 + l.made + r.made) by omega]
  | run x r ih => intro ns m h h'; exact ⟨h.1, ih _ _ h.2 h'⟩
  | ret x r ih => intro ns m h h'; exact ⟨h.1, ih _ _ h.2 h'⟩
  | bind i x r ih =>
    intro ns m h h'
    refine ⟨h.1, h.2.1, ih _ _ h.2.2 ?_⟩
    simp only [GL.made, GL.nsA] at h'
    rwa [show m + 1 + r.made = m + (1 + r.made) by omega]
/-- What a step keeps, told of names. -/
def VarS (low : Nat) (s : Ms) (g : GL) (s' : Ms) : Prop := g.okV low s.ns s.m ∧ s'.m = s.m + g.made ∧ s'.ns = g.nsA s.ns
def VarB (low : Nat) (s : Ms) (g : GL) (s' : Ms) : Prop := g.okV low s.ns s.m ∧ s'.m = s.m + g.made ∧ s'.ns = s.ns
theorem Stm.varS {N low : Nat} {B : Ms → GL → Ms → Prop} (hB : ∀ s g s', B s g s' → VarB low s g s') {s : Ms} {g : GL} {s' : Ms} (h : Stm N low B s g s') : VarS low s g s' := by
  cases h with
  | set _ _ hs hx => exact ⟨⟨List.mem_of_getElem? hs, hx.okV, trivial⟩, rfl, rfl⟩
  | yield _ hx => exact ⟨⟨hx.okV, trivial⟩, rfl, rfl⟩
  | @ite ns m i i2 c a b s1 s2 _ hc ha hb =>
    obtain ⟨a1, a2, a3⟩ := hB _ _ _ ha
    obtain ⟨b1, b2, b3⟩ := hB _ _ _ hb
    simp only at a1 a2 a3
    rw [a2, a3] at b1
    rw [a2] at b2
    exact ⟨⟨hc.okV, a1, b1, trivial⟩, by simp only [GL.made]; omega, by rw [b3, a3]; rfl⟩
  | @loop ns m i i2 n l s2 _ _ hl =>
    obtain ⟨a1, a2, a3⟩ := hB _ _ _ hl
    simp only at a1 a2 a3
    exact ⟨⟨rfl, a1, trivial⟩, by simp only [GL.made]; omega, a3⟩
  | run _ hx => exact ⟨⟨hx.okV, trivial⟩, rfl, rfl⟩
  | ret _ _ hx => exact ⟨⟨hx.okV, trivial⟩, rfl, rfl⟩
  | bind _ hx => exact ⟨⟨rfl, hx.okV, trivial⟩, rfl, rfl⟩
theorem Run.varS {low : Nat} {S : Ms → GL → Ms → Prop} (hS : ∀ s g s', S s g s' → VarS low s g s') {j : Nat} {s : Ms} {g : GL} {s' : Ms} (h : Run S j s g s') : VarS low s g s' := by
  induction h with
  | nil => exact ⟨trivial, rfl, rfl⟩
  | snoc _ h2 ih =>
    obtain ⟨a1, a2, a3⟩ := ih
    obtain ⟨b1, b2, b3⟩ := hS _ _ _ h2
    rw [a2, a3] at b1
    exact ⟨GL.okV_app _ _ _ _ _ a1 b1, by rw [b2, a2, GL.made_app]; omega, by rw [b3, a3, GL.nsA_app]⟩
theorem Blk.varB {N low : Nat} : ∀ (d : Nat) (s : Ms) (g : GL) (s' : Ms), Blk N low d s g s' → VarB low s g s' := by
  have key : ∀ (S : Ms → GL → Ms → Prop), (∀ s g s', S s g s' → VarS low s g s') → ∀ s g s', BlkOf N S s g s' → VarB low s g s' := by
    rintro S hS s g s' ⟨j, i1, s2, hj, hr, rfl⟩
    obtain ⟨a1, a2, a3⟩ := hr.varS hS
    exact ⟨a1, a2, rfl⟩
  intro d
  induction d with
  | zero => exact key _ fun s g s' h => Stm.varS (fun _ _ _ h => h.elim) h
  | succ d ih => exact key _ fun s g s' h => Stm.varS ih h

/-- What a step keeps, told of the numbers that it took: two for each variable, but for a few at the source's end. -/
structure CntB (N S : Nat) (s : Ms) (g : GL) (s' : Ms) : Prop where
  le : s.i ≤ s'.i
  top : s'.i ≤ N
  few : s'.i < N → 2 * g.made ≤ s'.i - s.i
  all : 2 * g.made ≤ s'.i - s.i + S
theorem GNum.mv {N : Nat} {ns : List ByteArray} {low d i i' : Nat} {x : GE} (h : GNum N ns low d i x i') : i ≤ i' ∧ i' ≤ N ∧ (i < N → i < i') := by
  induction h with
  | var h1 h2 hs => have := h1.le; have := h2.le; have := h1.2; omega
  | lit h1 h => have := h1.le; have := h.le; have := h1.2; omega
  | neg h1 _ ih => omega
  | call h1 hf _ _ ih1 ih2 => have := hf.le; omega
  | host h1 hf _ ih => have := hf.le; omega
  | bin h1 _ ho _ ih1 ih2 => have := ho.le; omega
theorem GFlag.mv {N : Nat} {ns : List ByteArray} {low d i i' : Nat} {x : GE} (h : GFlag N ns low d i x i') : i ≤ i' ∧ i' ≤ N := by
  induction h with
  | not h1 _ ih => have := h1.le; omega
  | and h1 _ _ ih1 ih2 => omega
  | or h1 _ _ ih1 ih2 => omega
  | tf h1 h2 => have := h2.le; omega
  | cmp h0 h1 ho h2 => have := h0.le; have := h1.mv; have := ho.le; have := h2.mv; omega
theorem Stm.cnt {N low R : Nat} (hR : 2 ≤ R) {B : Ms → GL → Ms → Prop} (hB : ∀ s g s', B s g s' → s.i ≤ N → CntB N R s g s' ∧ (s.i = N → g.made = 0)) {s : Ms} {g : GL} {s' : Ms} (h : Stm N low B s g s') (hi : s.i ≤ N) : CntB N R s g s' ∧ (s.i = N → g.made ≤ 1) := by
  cases h with
  | set h0 h1 hs hx => have := h0.le; have := h1.le; have := hx.mv; exact ⟨⟨by simp only; omega, by simp only; omega, by simp [GL.made], by simp [GL.made]⟩, by simp [GL.made]⟩
  | yield h0 hx => have := hx.mv; exact ⟨⟨by simp only; omega, by simp only; omega, by simp [GL.made], by simp [GL.made]⟩, by simp [GL.made]⟩
  | run h0 hx => have := hx.mv; exact ⟨⟨by simp only; omega, by simp only; omega, by simp [GL.made], by simp [GL.made]⟩, by simp [GL.made]⟩
  | ret h0 h1 hx => have := h1.le; have := hx.mv; exact ⟨⟨by simp only; omega, by simp only; omega, by simp [GL.made], by simp [GL.made]⟩, by simp [GL.made]⟩
  | bind h0 hx =>
    have := hx.mv
    exact ⟨⟨by simp only; omega, by simp only; omega, by simp only [GL.made]; omega, by simp only [GL.made]; omega⟩, by simp [GL.made]⟩
  | @ite ns m i i2 c a b s1 s2 h0 hc ha hb =>
    have hcm := hc.mv
    obtain ⟨⟨a1, a2, a3, a4⟩, a5⟩ := hB _ _ _ ha (by simp only; omega)
    obtain ⟨⟨b1, b2, b3, b4⟩, b5⟩ := hB _ _ _ hb a2
    simp only at a1 a3 a4 a5
    refine ⟨⟨by simp only; omega, b2, fun h => ?_, ?_⟩, fun h => by simp only at h; omega⟩
    · simp only [GL.made]
      have := b3 h; have := a3 (by omega); omega
    · simp only [GL.made]
      by_cases h : s1.i = N
      · have := b5 h; omega
      · have := a3 (by omega); omega
  | @loop ns m i i2 n l s2 h0 hk hl =>
    have hkl := hk.le
    obtain ⟨⟨a1, a2, a3, a4⟩, a5⟩ := hB _ _ _ hl (by simp only; omega)
    simp only at a1 a3 a4 a5
    have hk2 := hk.2
    refine ⟨⟨by simp only; omega, a2, fun h => ?_, ?_⟩, fun h => by simp only at h; omega⟩
    · simp only [GL.made]
      have := a3 h; omega
    · simp only [GL.made]
      by_cases h : i2 = N
      · have := a5 h; omega
      · omega
theorem Run.cnt {N R : Nat} {S : Ms → GL → Ms → Prop} (hS : ∀ s g s', S s g s' → s.i ≤ N → CntB N R s g s' ∧ (s.i = N → g.made ≤ 1)) {j : Nat} {s : Ms} {g : GL} {s' : Ms} (h : Run S j s g s') (hi : s.i ≤ N) : CntB N (R + 2 * j) s g s' := by
  induction h with
  | nil => exact ⟨Nat.le_refl _, hi, by simp [GL.made], by simp [GL.made]⟩
  | @snoc j s s1 s2 g x h1 h2 ih =>
    obtain ⟨a1, a2, a3, a4⟩ := ih hi
    obtain ⟨⟨b1, b2, b3, b4⟩, b5⟩ := hS _ _ _ h2 a2
    refine ⟨by omega, b2, fun h => ?_, ?_⟩
    · rw [GL.made_app]; have := b3 h; have := a3 (by omega); omega
    · rw [GL.made_app]
      by_cases h : s1.i = N
      · have := b5 h; omega
      · have := a3 (by omega); omega
def slk : Nat → Nat
  | 0 => 8
  | d + 1 => slk d + 6
theorem Blk.cnt {N low : Nat} : ∀ (d : Nat) (s : Ms) (g : GL) (s' : Ms), Blk N low d s g s' → s.i ≤ N → CntB N (slk d) s g s' ∧ (s.i = N → g.made = 0) := by
  have key : ∀ (R : Nat) (S : Ms → GL → Ms → Prop), (∀ s g s', S s g s' → s.i ≤ N → CntB N R s g s' ∧ (s.i = N → g.made ≤ 1)) → ∀ s g s', BlkOf N S s g s' → s.i ≤ N → CntB N (R + 6) s g s' ∧ (s.i = N → g.made = 0) := by
    rintro R S hS s g s' ⟨j, i1, s2, hj, hr, rfl⟩ hi
    have hjl := hj.le
    have hj4 := hj.1
    have hj2 := hj.2
    obtain ⟨a1, a2, a3, a4⟩ := hr.cnt hS (by simp only; omega)
    simp only at a1 a2 a3 a4
    refine ⟨⟨by simp only; omega, a2, fun h => ?_, ?_⟩, fun h => ?_⟩
    · have := a3 h; simp only; omega
    · simp only; omega
    · have : j = 0 := by omega
      subst this
      cases hr
      rfl
  have h2 : ∀ d, 2 ≤ slk d := by intro d; induction d with
    | zero => decide
    | succ d ih => simp only [slk]; omega
  intro d
  induction d with
  | zero => exact key 2 _ fun s g s' h hi => Stm.cnt (Nat.le_refl _) (fun _ _ _ h => h.elim) h hi
  | succ d ih => exact key (slk d) _ fun s g s' h hi => Stm.cnt (h2 d) ih h hi
end Go.Proofs.YtmngofgminlloaaGreatDoor

namespace Go.Proofs.YtmngofgminlloaaGreatDoor
open Go.RowKit Tw

/-- The variables that can be seen, the newest first, with their types. -/
abbrev Env : Type := List (ByteArray × Int)
def lookE : Env → ByteArray → Int
  | [], _ => 0
  | (n, t) :: r, s => if n = s then t else lookE r s
/-- An answer, or the place and the number of an error. -/
inductive TyR (α : Type) where
  | ok (a : α) | bad (p e : Int)
def TyR.bind {α β : Type} : TyR α → (α → TyR β) → TyR β
  | .ok a, f => f a
  | .bad p e, _ => .bad p e
def findF (us : List Fn) (s : ByteArray) : Option Fn := us.find? (fun f => f.name = s)
mutual
def exT (us : List Fn) (env : Env) : Ex → TyR Int
  | .mk k _ t xs p =>
    if k = 1 then .ok 1
    else if k = 2 then .ok 2
    else if k = 3 then (if lookE env t = 0 then .bad p 16 else .ok (lookE env t))
    else if k = 5 then (match wantsT us env xs [2] with | .ok _ => .ok 2 | .bad q e => .bad q e)
    else if k = 7 then
      match findF us t with
      | none => .bad p 16
      | some f => if f.types.length ≠ xs.length then .bad p 8 else (match wantsT us env xs f.types with | .ok _ => .ok f.out | .bad q e => .bad q e)
    else if k = 6 ∧ lv t.data.toList ≤ 2 then (match wantsT us env xs [2, 2] with | .ok _ => .ok 2 | .bad q e => .bad q e)
    else if k = 6 ∧ (t = ⟨#[61, 61]⟩ ∨ t = ⟨#[33, 61]⟩) then
      (match headT us env xs with | .ok ta => (match wantsT us env xs [ta, ta] with | .ok _ => .ok 2 | .bad q e => .bad q e) | .bad q e => .bad q e)
    else (match wantsT us env xs [] with | .ok _ => .ok (if k = 6 ∧ lv t.data.toList = 3 then 2 else 1) | .bad q e => .bad q e)
def headT (us : List Fn) (env : Env) : List Ex → TyR Int
  | [] => .ok 0
  | a :: _ => exT us env a
def wantsT (us : List Fn) (env : Env) : List Ex → List Int → TyR Unit
  | [], _ => .ok ()
  | a :: l, ws => match exT us env a with
    | .ok t => if t = ws.headD 1 then wantsT us env l ws.tail else .bad a.pos 8
    | .bad q e => .bad q e
end
/-- One variable more. -/
def letT (env : Env) (m : Nat) (p : Int) (nm : ByteArray) (t : Int) : TyR (Env × Nat) :=
  if lookE env nm ≠ 0 then .bad p 5 else if 64 ≤ m then .bad p 2 else .ok ((nm, t) :: env, m + 1)
mutual
def smT (us : List Fn) (out : Int) : Sm → Env → Nat → TyR (Env × Nat × Bool)
  | .mk k nm a body els p, env, m =>
    if k = 2 ∧ lookE env nm = 0 then .bad p 16
    else match exT us env a with
    | .bad q e => .bad q e
    | .ok t =>
      if k = 1 then (match letT env m p nm t with | .ok (env', m') => .ok (env', m', false) | .bad q e => .bad q e)
      else if k = 2 then (if t ≠ lookE env nm then .bad a.pos 8 else .ok (env, m, false))
      else if k = 3 then
        (if t ≠ 2 then .bad a.pos 8 else match blT us out body env m with
          | .bad q e => .bad q e
          | .ok (m1, r1) => match blT us out els env m1 with
            | .bad q e => .bad q e
            | .ok (m2, r2) => .ok (env, m2, r1 && r2))
      else if k = 4 then
        (if t ≠ 2 then .bad a.pos 8 else match blT us out body env m with
          | .bad q e => .bad q e
          | .ok (m1, _) => .ok (env, m1, false))
      else if k = 5 then (if t ≠ out then .bad a.pos 8 else .ok (env, m, true))
      else if k = 6 then (if t ≠ 1 then .bad a.pos 8 else .ok (env, m, false))
      else .ok (env, m, false)
def blT (us : List Fn) (out : Int) : List Sm → Env → Nat → TyR (Nat × Bool)
  | [], _, m => .ok (m, false)
  | s :: l, env, m => match smT us out s env m with
    | .bad q e => .bad q e
    | .ok (env', m', r) => match blT us out l env' m' with
      | .bad q e => .bad q e
      | .ok (m2, r2) => .ok (m2, r || r2)
end
def parT (p : Int) : List ByteArray → List Int → Env → Nat → TyR (Env × Nat)
  | n :: ns, t :: ts, env, m => match letT env m p n t with
    | .ok (env', m') => parT p ns ts env' m'
    | .bad q e => .bad q e
  | _, _, env, m => .ok (env, m)
def fnT (us : List Fn) (f : Fn) : TyR Unit :=
  match parT f.pos f.names f.types [] 0 with
  | .bad q e => .bad q e
  | .ok (env, m) => match blT us f.out f.body env m with
    | .bad q e => .bad q e
    | .ok (_, r) => if r then .ok () else .bad f.pos 3
def fnsT (us : List Fn) : List Fn → TyR Unit
  | [] => .ok ()
  | f :: l => match fnT us f with | .ok _ => fnsT us l | .bad q e => .bad q e
/-- The first function whose name an earlier one has. -/
def dupF : List ByteArray → List Fn → Option Int
  | _, [] => none
  | seen, f :: l => if seen.any (fun n => decide (n = f.name)) then some f.pos else dupF (f.name :: seen) l
def mainT : ByteArray := ⟨#[109, 97, 105, 110]⟩
def isMain (f : Fn) : Bool := decide (f.name = mainT) && decide (f.names.length = 0) && decide (f.out = 1)
/-- The place and the number of the first error; 0, 0: none. -/
def unitT (l : List Fn) : Int × Int :=
  if unitF l ≠ 0 then (0, unitF l)
  else match dupF [] l with
    | some p => (p, 5)
    | none => if l.any isMain = false then (0, 16) else match fnsT l l with
      | .ok _ => (0, 0)
      | .bad p e => (p, e)
end Go.Proofs.YtmngofgminlloaaGreatDoor

namespace Go.Proofs.YtmngofgminlloaaGreatDoor
open Go.RowKit Tw

/-- Statements from a state on: the variables, how many there were, whether one has returned. -/
def runT (us : List Fn) (out : Int) : List Sm → Env → Nat → Bool → TyR (Env × Nat × Bool)
  | [], env, m, r => .ok (env, m, r)
  | s :: l, env, m, r => match smT us out s env m with
    | .bad q e => .bad q e
    | .ok (env', m', r') => runT us out l env' m' (r || r')
theorem blT_run (us : List Fn) (out : Int) : ∀ (l : List Sm) (env : Env) (m : Nat) (r : Bool), runT us out l env m r = match runT us out l env m false with
    | .bad q e => .bad q e
    | .ok (env', m', r') => .ok (env', m', r || r') := by
  intro l
  induction l with
  | nil => intro env m r; simp [runT]
  | cons s l ih =>
    intro env m r
    simp only [runT]
    cases smT us out s env m with
    | bad q e => rfl
    | ok z =>
      obtain ⟨env', m', r'⟩ := z
      simp only [Bool.false_or]
      rw [ih env' m' (r || r'), ih env' m' r']
      cases runT us out l env' m' false with
      | bad q e => rfl
      | ok z => simp [Bool.or_assoc]
theorem blT_eq (us : List Fn) (out : Int) : ∀ (l : List Sm) (env : Env) (m : Nat), blT us out l env m = match runT us out l env m false with
    | .bad q e => .bad q e
    | .ok (_, m', r') => .ok (m', r') := by
  intro l
  induction l with
  | nil => intro env m; simp [runT, blT]
  | cons s l ih =>
    intro env m
    rw [blT, runT]
    cases smT us out s env m with
    | bad q e => rfl
    | ok z =>
      obtain ⟨env', m', r'⟩ := z
      simp only [Bool.false_or]
      rw [ih env' m', blT_run us out l env' m' r']
      cases runT us out l env' m' false <;> rfl
theorem runT_snoc (us : List Fn) (out : Int) (s : Sm) : ∀ (l : List Sm) (env : Env) (m : Nat) (r : Bool), runT us out (l ++ [s]) env m r = match runT us out l env m r with
    | .bad q e => .bad q e
    | .ok (env', m', r') => (match smT us out s env' m' with | .bad q e => .bad q e | .ok (env2, m2, r2) => .ok (env2, m2, r' || r2)) := by
  intro l
  induction l with
  | nil =>
    intro env m r
    simp only [List.nil_append, runT]
  | cons a l ih =>
    intro env m r
    simp only [List.cons_append, runT]
    cases smT us out a env m with
    | bad q e => rfl
    | ok z => exact ih _ _ _
theorem runT_bad (us : List Fn) (out : Int) : ∀ (l l' : List Sm) (env : Env) (m : Nat) (r : Bool) {q e : Int}, runT us out l env m r = .bad q e → runT us out (l ++ l') env m r = .bad q e := by
  intro l
  induction l with
  | nil => intro l' env m r q e h; simp [runT] at h
  | cons a l ih =>
    intro l' env m r q e h
    simp only [List.cons_append, runT] at h ⊢
    cases hs : smT us out a env m with
    | bad q' e' => rw [hs] at h; exact h
    | ok z => rw [hs] at h; exact ih _ _ _ _ h
theorem take_snoc_at {α : Type} {l : List α} {i : Nat} {x : α} (hx : l[i]? = some x) : l.take (i + 1) = l.take i ++ [x] := by
  have hi : i < l.length := by rcases Nat.lt_or_ge i l.length with h | h; exact h; rw [List.getElem?_eq_none h] at hx; cases hx
  rw [List.take_succ_eq_append_getElem hi]
  have : l[i] = x := by rw [List.getElem?_eq_getElem hi] at hx; exact Option.some.inj hx
  rw [this]
/-- A fault at statement i is the block's. -/
theorem blT_hit {us : List Fn} {out : Int} {l : List Sm} {env : Env} {m i : Nat} {s : Sm} {env' : Env} {m' : Nat} {r' : Bool} {q e : Int} (hs : l[i]? = some s) (h : runT us out (l.take i) env m false = .ok (env', m', r')) (hb : smT us out s env' m' = .bad q e) : blT us out l env m = .bad q e := by
  have h1 : runT us out (l.take (i + 1)) env m false = .bad q e := by rw [take_snoc_at hs, runT_snoc, h]; simp only [hb]
  have h2 := runT_bad us out (l.take (i + 1)) (l.drop (i + 1)) env m false h1
  rw [List.take_append_drop] at h2
  rw [blT_eq, h2]
/-- Variables are bounded. -/
theorem letT_le {env env' : Env} {m m' : Nat} {p : Int} {nm : ByteArray} {t : Int} (h : letT env m p nm t = .ok (env', m')) : m' = m + 1 ∧ m < 64 ∧ env' = (nm, t) :: env ∧ lookE env nm = 0 := by
  unfold letT at h
  split at h
  · cases h
  · split at h
    · cases h
    · injection h with h; injection h with h1 h2
      exact ⟨h2.symm, by omega, h1.symm, by omega⟩
mutual
theorem smT_le (us : List Fn) (out : Int) : ∀ (s : Sm) (env : Env) (m : Nat) (env' : Env) (m' : Nat) (r : Bool), smT us out s env m = .ok (env', m', r) → m ≤ m' ∧ (m ≤ 64 → m' ≤ 64) ∧ (env.length ≤ m → env'.length ≤ m')
  | .mk k nm a body els p, env, m, env', m', r, h => by
    rw [smT] at h
    split at h
    · cases h
    cases hx : exT us env a with
    | bad q e => rw [hx] at h; cases h
    | ok t =>
      rw [hx] at h
      simp only at h
      by_cases h1 : k = 1
      · rw [if_pos h1] at h
        cases hl : letT env m p nm t with
        | bad q e => rw [hl] at h; cases h
        | ok z =>
          obtain ⟨e1, m1⟩ := z
          rw [hl] at h
          injection h with h; injection h with h2 h3; injection h3 with h3 h4
          obtain ⟨a1, a2, a3, a4⟩ := letT_le hl
          subst h2 h3
          exact ⟨by omega, by omega, by rw [a3]; simp; omega⟩
      rw [if_neg h1] at h
      by_cases h2 : k = 2
      · rw [if_pos h2] at h
        split at h
        · cases h
        · injection h with h; injection h with h2 h3; injection h3 with h3 h4; subst h2 h3; exact ⟨by omega, by omega, by omega⟩
      rw [if_neg h2] at h
      by_cases h3 : k = 3
      · rw [if_pos h3] at h
        split at h
        · cases h
        cases hb : blT us out body env m with
        | bad q e => rw [hb] at h; cases h
        | ok z =>
          obtain ⟨m1, r1⟩ := z
          rw [hb] at h
          simp only at h
          have hb1 := blT_le us out body env m m1 r1 hb
          cases he : blT us out els env m1 with
          | bad q e => rw [he] at h; cases h
          | ok z =>
            obtain ⟨m2, r2⟩ := z
            rw [he] at h
            injection h with h; injection h with h2 h3; injection h3 with h3 h4; subst h2 h3
            have he1 := blT_le us out els env m1 m2 r2 he
            exact ⟨by omega, by omega, by omega⟩
      rw [if_neg h3] at h
      by_cases h4 : k = 4
      · rw [if_pos h4] at h
        split at h
        · cases h
        cases hb : blT us out body env m with
        | bad q e => rw [hb] at h; cases h
        | ok z =>
          obtain ⟨m1, r1⟩ := z
          rw [hb] at h
          injection h with h; injection h with h2 h3; injection h3 with h3 h4; subst h2 h3
          have hb1 := blT_le us out body env m m1 r1 hb
          exact ⟨by omega, by omega, by omega⟩
      rw [if_neg h4] at h
      split at h
      · split at h
        · cases h
        · injection h with h; injection h with h2 h3; injection h3 with h3 h4; subst h2 h3; exact ⟨by omega, by omega, by omega⟩
      · split at h
        · split at h
          · cases h
          · injection h with h; injection h with h2 h3; injection h3 with h3 h4; subst h2 h3; exact ⟨by omega, by omega, by omega⟩
        · injection h with h; injection h with h2 h3; injection h3 with h3 h4; subst h2 h3; exact ⟨by omega, by omega, by omega⟩
theorem blT_le (us : List Fn) (out : Int) : ∀ (l : List Sm) (env : Env) (m m' : Nat) (r : Bool), blT us out l env m = .ok (m', r) → m ≤ m' ∧ (m ≤ 64 → m' ≤ 64)
  | [], env, m, m', r, h => by rw [blT] at h; injection h with h; injection h with h1 h2; omega
  | s :: l, env, m, m', r, h => by
    rw [blT] at h
    cases hs : smT us out s env m with
    | bad q e => rw [hs] at h; cases h
    | ok z =>
      obtain ⟨e1, m1, r1⟩ := z
      rw [hs] at h
      simp only at h
      have h1 := smT_le us out s env m e1 m1 r1 hs
      cases hl : blT us out l e1 m1 with
      | bad q e => rw [hl] at h; cases h
      | ok z =>
        obtain ⟨m2, r2⟩ := z
        rw [hl] at h
        injection h with h; injection h with h2 h3
        have h4 := blT_le us out l e1 m1 m2 r2 hl
        subst h2
        exact ⟨by omega, by omega⟩
end
end Go.Proofs.YtmngofgminlloaaGreatDoor

namespace Go.Proofs.YtmngofgminlloaaGreatDoor
open Go.RowKit Tw

theorem dig_inj {a b : Nat} (ha : a < 10) (hb : b < 10) (h : UInt8.ofNat (48 + a) = UInt8.ofNat (48 + b)) : a = b := by
  have := congrArg UInt8.toNat h
  simp at this
  omega
theorem decDigits_inj : ∀ a b : Nat, Lib.decDigits a = Lib.decDigits b → a = b := by
  intro a
  induction a using Nat.strongRecOn with
  | _ a ih =>
    intro b h
    have hl := congrArg List.length h
    rw [Lib.decDigits_length, Lib.decDigits_length] at hl
    by_cases ha : a < 10
    · by_cases hb : b < 10
      · rw [Lib.decDigits_one ha, Lib.decDigits_one hb] at h
        injection h with h
        exact dig_inj ha hb h
      · rw [Lib.nDigits_small ha, Lib.nDigits_big hb] at hl
        have := Lib.nDigits_pos (b / 10)
        omega
    · by_cases hb : b < 10
      · rw [Lib.nDigits_small hb, Lib.nDigits_big ha] at hl
        have := Lib.nDigits_pos (a / 10)
        omega
      · rw [Lib.decDigits, Lib.decDigits.eq_1 b, dif_neg ha, dif_neg hb] at h
        obtain ⟨h1, h2⟩ := List.append_inj' h rfl
        injection h2 with h2
        have e1 := ih (a / 10) (by omega) (b / 10) h1
        have e2 := dig_inj (by omega) (by omega) h2
        omega
theorem numL_inj {a b : Nat} (h : numL a = numL b) : a = b := by
  have e : ∀ n : Nat, numL n = Lib.decDigits n := by intro n; unfold numL Lib.itoa; rw [if_neg (by omega)]; simp
  rw [e, e] at h
  exact decDigits_inj a b h
theorem ba_l {a b : ByteArray} (h : a = b) : a.data.toList = b.data.toList := by rw [h]
theorem vT_inj {a b : Nat} (h : vT a = vT b) : a = b := by
  have := ba_l h
  rw [vT_l, vT_l] at this
  injection this with _ this
  exact numL_inj this
theorem iT_inj {a b : Nat} (h : iT a = iT b) : a = b := by
  have := ba_l h
  rw [iT_l, iT_l] at this
  injection this with _ this
  exact numL_inj this
theorem vi_ne (a b : Nat) : vT a ≠ iT b := by
  intro h
  have := ba_l h
  rw [vT_l, iT_l] at this
  injection this with this _
  revert this; decide
theorem p_ne {s : ByteArray} (hs : s ∈ pq) (a : Nat) : s ≠ vT a ∧ s ≠ iT a := by
  simp only [pq, List.mem_cons, List.mem_nil_iff, or_false] at hs
  refine ⟨fun h => ?_, fun h => ?_⟩
  all_goals
    have := ba_l h
    first | rw [vT_l] at this | rw [iT_l] at this
    rcases hs with rfl | rfl <;> (injection this with this _; revert this; decide)

section
variable {us : List Fn} {env : Env} {n p : Int} {a b : Ex} {t : ByteArray}
theorem exT_neg (ha : exT us env a = .ok 1) : exT us env (.mk 4 n t [a] p) = .ok 1 := by rw [exT]; simp [wantsT, ha]
theorem exT_host (ha : exT us env a = .ok 1) : exT us env (.mk 8 n t [a] p) = .ok 1 := by rw [exT]; simp [wantsT, ha]
theorem exT_not (ha : exT us env a = .ok 2) : exT us env (.mk 5 n t [a] p) = .ok 2 := by rw [exT]; simp [wantsT, ha]
theorem exT_call {f : Fn} (hf : findF us t = some f) (ht : f.types = [1, 1]) (ho : f.out = 1) (ha : exT us env a = .ok 1) (hb : exT us env b = .ok 1) : exT us env (.mk 7 n t [a, b] p) = .ok 1 := by rw [exT, hf]; simp [wantsT, ha, hb, ht, ho]
theorem exT_log (h : lv t.data.toList ≤ 2) (ha : exT us env a = .ok 2) (hb : exT us env b = .ok 2) : exT us env (.mk 6 n t [a, b] p) = .ok 2 := by rw [exT]; simp [wantsT, ha, hb, h]
theorem exT_bin (h1 : 3 < lv t.data.toList) (ha : exT us env a = .ok 1) (hb : exT us env b = .ok 1) : exT us env (.mk 6 n t [a, b] p) = .ok 1 := by
  have h2 : ¬ (t = ⟨#[61, 61]⟩ ∨ t = ⟨#[33, 61]⟩) := by rintro (rfl | rfl) <;> revert h1 <;> decide
  rw [exT, if_neg (by decide), if_neg (by decide), if_neg (by decide), if_neg (by decide), if_neg (by decide), if_neg (by omega), if_neg (fun e => h2 e.2)]
  simp [wantsT, ha, hb]
  omega
theorem exT_cmp (h1 : lv t.data.toList = 3) (ha : exT us env a = .ok 1) (hb : exT us env b = .ok 1) : exT us env (.mk 6 n t [a, b] p) = .ok 2 := by
  rw [exT, if_neg (by decide), if_neg (by decide), if_neg (by decide), if_neg (by decide), if_neg (by decide), if_neg (by omega)]
  by_cases h2 : t = ⟨#[61, 61]⟩ ∨ t = ⟨#[33, 61]⟩
  · rw [if_pos ⟨rfl, h2⟩]
    simp [wantsT, headT, ha, hb]
  · rw [if_neg (fun e => h2 e.2)]
    simp [wantsT, ha, hb, h1]
end
/-- The variables are ints that can be seen, the functions below low. -/
def GE.okE (env : Env) (low : Nat) : GE → Prop
  | .var s => lookE env s = 1
  | .lit _ => True
  | .neg x => x.okE env low
  | .call f x y => f < low ∧ x.okE env low ∧ y.okE env low
  | .host _ x => x.okE env low
  | .bin _ x y => x.okE env low ∧ y.okE env low
  | .not x => x.okE env low
  | .and x y => x.okE env low ∧ y.okE env low
  | .or x y => x.okE env low ∧ y.okE env low
  | .tf _ => True
  | .cmp _ x y => x.okE env low ∧ y.okE env low
theorem GE.okV_E {ρ : ByteArray → ByteArray} {env : Env} {ns : List ByteArray} {low : Nat} (hv : ∀ s ∈ ns, lookE env (ρ s) = 1) : ∀ (x : GE), x.okV ns low → (x.ren ρ).okE env low
  | .var s, h => hv s h
  | .lit _, _ => trivial
  | .neg x, h => GE.okV_E hv x h
  | .call _ x y, h => ⟨h.1, GE.okV_E hv x h.2.1, GE.okV_E hv y h.2.2⟩
  | .host _ x, h => GE.okV_E hv x h
  | .bin _ x y, h => ⟨GE.okV_E hv x h.1, GE.okV_E hv y h.2⟩
  | .not x, h => GE.okV_E hv x h
  | .and x y, h => ⟨GE.okV_E hv x h.1, GE.okV_E hv y h.2⟩
  | .or x y, h => ⟨GE.okV_E hv x h.1, GE.okV_E hv y h.2⟩
  | .tf _, _ => trivial
  | .cmp _ x y, h => ⟨GE.okV_E hv x h.1, GE.okV_E hv y h.2⟩
/-- The functions below low can be called with two ints. -/
def FunsG (us : List Fn) (low : Nat) : Prop := ∀ f, f < low → ∃ fn, findF us ⟨(fL f).toArray⟩ = some fn ∧ fn.types = [1, 1] ∧ fn.out = 1
theorem TrE.typN {us : List Fn} {env : Env} {low : Nat} (hU : FunsG us low) (x : GE) : ∀ y, TrE x y → x.isN → x.okE env low → exT us env y = .ok 1 := by
  induction x with
  | var s => intro y h _ hv; cases h; rw [exT]; have : lookE env s = 1 := hv; simp [this]
  | lit n => intro y h _ _; cases h; rw [exT]; simp
  | neg x ih => intro y h hN hv; cases h with | neg h => exact exT_neg (ih _ h hN hv)
  | call f x z ihx ihz => intro y h hN hv; cases h with | call h1 h2 =>
      obtain ⟨fn, h3, h4, h5⟩ := hU f hv.1
      exact exT_call h3 h4 h5 (ihx _ h1 hN.1 hv.2.1) (ihz _ h2 hN.2 hv.2.2)
  | host k x ih => intro y h hN hv; cases h with | host h => exact exT_host (ih _ h hN hv)
  | bin o x z ihx ihz => intro y h hN hv; cases h with | bin h1 h2 =>
      exact exT_bin (by rw [mk_l]; have := bin_lv o; omega) (ihx _ h1 hN.1 hv.1) (ihz _ h2 hN.2 hv.2)
  | _ => intro y h hN; exact hN.elim
theorem TrE.typF {us : List Fn} {env : Env} {low : Nat} (hU : FunsG us low) (x : GE) : ∀ y, TrE x y → x.isF → x.okE env low → exT us env y = .ok 2 := by
  induction x with
  | tf k => intro y h _ _; cases h; rw [exT]; simp
  | not x ih => intro y h hN hv; cases h with | not h => exact exT_not (ih _ h hN hv)
  | and x z ihx ihz => intro y h hN hv; cases h with | and h1 h2 => exact exT_log (by decide) (ihx _ h1 hN.1 hv.1) (ihz _ h2 hN.2 hv.2)
  | or x z ihx ihz => intro y h hN hv; cases h with | or h1 h2 => exact exT_log (by decide) (ihx _ h1 hN.1 hv.1) (ihz _ h2 hN.2 hv.2)
  | cmp o x z _ _ => intro y h hN hv; cases h with | cmp h1 h2 => exact exT_cmp (by rw [mk_l]; exact cmp_lv o) (TrE.typN hU x _ h1 hN.1 hv.1) (TrE.typN hU z _ h2 hN.2 hv.2)
  | _ => intro y h hN; exact hN.elim

/-- The variables ns are ints that can be seen; those that are yet to be made are new. -/
structure EnvG (ρ : ByteArray → ByteArray) (ns : List ByteArray) (m : Nat) (env : Env) : Prop where
  vis : ∀ s ∈ ns, lookE env (ρ s) = 1
  new : ∀ k, m < k → lookE env (ρ (vT k)) = 0 ∧ lookE env (ρ (iT k)) = 0
section
variable {ρ : ByteArray → ByteArray} {ns : List ByteArray} {m : Nat} {env : Env}
theorem EnvG.mono (h : EnvG ρ ns m env) {m' : Nat} (hm : m ≤ m') : EnvG ρ ns m' env := ⟨h.vis, fun k hk => h.new k (by omega)⟩
theorem EnvG.bind (hρ : ∀ s t, ρ s = ρ t → s = t) (h : EnvG ρ ns m env) : EnvG ρ (ns ++ [vT (m + 1)]) (m + 1) ((ρ (vT (m + 1)), 1) :: env) := by
  refine ⟨fun s hs => ?_, fun k hk => ?_⟩
  · rw [lookE]
    by_cases e : ρ (vT (m + 1)) = ρ s
    · rw [if_pos e]
    · rw [if_neg e]
      rcases List.mem_append.1 hs with hs | hs
      · exact h.vis s hs
      · simp at hs; subst hs; exact absurd rfl e
  · obtain ⟨h1, h2⟩ := h.new k (by omega)
    refine ⟨?_, ?_⟩
    · rw [lookE, if_neg (fun e => by have := vT_inj (hρ _ _ e); omega)]; exact h1
    · rw [lookE, if_neg (fun e => vi_ne _ _ (hρ _ _ e))]; exact h2
theorem EnvG.loop (hρ : ∀ s t, ρ s = ρ t → s = t) (h : EnvG ρ ns m env) : EnvG ρ ns (m + 1) ((ρ (iT (m + 1)), 1) :: env) := by
  refine ⟨fun s hs => ?_, fun k hk => ?_⟩
  · rw [lookE]
    by_cases e : ρ (iT (m + 1)) = ρ s
    · rw [if_pos e]
    · rw [if_neg e]; exact h.vis s hs
  · obtain ⟨h1, h2⟩ := h.new k (by omega)
    refine ⟨?_, ?_⟩
    · rw [lookE, if_neg (fun e => vi_ne _ _ (hρ _ _ e).symm)]; exact h1
    · rw [lookE, if_neg (fun e => by have := iT_inj (hρ _ _ e); omega)]; exact h2
end
/-- What can be seen keeps its type. -/
def KeepE (env env' : Env) : Prop := ∀ s, lookE env s ≠ 0 → lookE env' s = lookE env s
theorem KeepE.rfl' (env : Env) : KeepE env env := fun _ _ => rfl
theorem KeepE.trans {a b c : Env} (h : KeepE a b) (h' : KeepE b c) : KeepE a c := fun s hs => (h' s (by rw [h s hs]; exact hs)).trans (h s hs)
theorem KeepE.cons {env : Env} {nm : ByteArray} {t : Int} (h : lookE env nm = 0) : KeepE env ((nm, t) :: env) := fun s hs => by
  rw [lookE, if_neg (fun e => hs (by rw [← e]; exact h))]
section
variable {us : List Fn} {env : Env} {c : Nat} {nm : ByteArray} {y : Ex} {body els : List Sm} {p : Int}
theorem smT_let (hy : exT us env y = .ok 1) (h0 : lookE env nm = 0) (hc : c < 64) : smT us 1 (.mk 1 nm y body els p) env c = .ok ((nm, 1) :: env, c + 1, false) := by
  rw [smT, if_neg (by rintro ⟨h, -⟩; exact absurd h (by decide)), hy]
  simp only
  rw [if_pos trivial]
  unfold letT
  rw [if_neg (by rw [h0]; simp), if_neg (by omega)]
theorem smT_set (hy : exT us env y = .ok 1) (h0 : lookE env nm = 1) : smT us 1 (.mk 2 nm y body els p) env c = .ok (env, c, false) := by rw [smT]; simp [hy, h0]
theorem smT_yield (hy : exT us env y = .ok 1) : smT us 1 (.mk 6 nm y body els p) env c = .ok (env, c, false) := by rw [smT]; simp [hy]
theorem smT_ret (hy : exT us env y = .ok 1) : smT us 1 (.mk 5 nm y body els p) env c = .ok (env, c, true) := by rw [smT]; simp [hy]
theorem smT_run {t : Int} (hy : exT us env y = .ok t) : smT us 1 (.mk 7 nm y body els p) env c = .ok (env, c, false) := by rw [smT]; simp [hy]
theorem smT_ite {c1 c2 : Nat} {r1 r2 : Bool} (hy : exT us env y = .ok 2) (hb : blT us 1 body env c = .ok (c1, r1)) (he : blT us 1 els env c1 = .ok (c2, r2)) : smT us 1 (.mk 3 nm y body els p) env c = .ok (env, c2, r1 && r2) := by rw [smT]; simp [hy, hb, he]
theorem smT_loop {c1 : Nat} {r1 : Bool} (hy : exT us env y = .ok 2) (hb : blT us 1 body env c = .ok (c1, r1)) : smT us 1 (.mk 4 nm y body els p) env c = .ok (env, c1, false) := by rw [smT]; simp [hy, hb]
theorem runT_one {s : Sm} {l : List Sm} {env' : Env} {c' : Nat} {r r' : Bool} (h : smT us 1 s env c = .ok (env', c', r')) : runT us 1 (s :: l) env c r = runT us 1 l env' c' (r || r') := by rw [runT, h]
end
/-- Is there a return among the statements themselves? -/
def GL.hasRet : GL → Prop
  | .nil => False
  | .set _ _ r => r.hasRet
  | .yield _ r => r.hasRet
  | .ite _ _ _ r => r.hasRet
  | .loop _ _ _ r => r.hasRet
  | .run _ r => r.hasRet
  | .ret _ _ => True
  | .bind _ _ r => r.hasRet
theorem bodyG_ret (g : GL) (x : GE) : (bodyG g x).hasRet := by
  unfold bodyG
  induction g <;> simp_all [GL.app, GL.hasRet]
set_option maxHeartbeats 1000000 in
theorem TrL.typ {us : List Fn} {ρ : ByteArray → ByteArray} {low : Nat} (hρ : ∀ s t, ρ s = ρ t → s = t) (hU : FunsG us low) (g : GL) : ∀ (l : List Sm), TrL ρ g l → g.isT → ∀ (ns : List ByteArray) (m : Nat) (env : Env) (c : Nat) (r : Bool), g.okV low ns m → EnvG ρ ns m env → c + g.made ≤ 64 →
    ∃ env' r', runT us 1 l env c r = .ok (env', c + g.made, r') ∧ KeepE env env' ∧ (r = true ∨ g.hasRet → r' = true) := by
  induction g with
  | nil => intro l h _ ns m env c r _ hE _; cases h; exact ⟨env, r, rfl, .rfl' _, fun h => h.elim id False.elim⟩
  | set s x q ih =>
    intro l h hT ns m env c r hv hE hc
    cases h with | set hx hl =>
    have hy := TrE.typN hU _ _ hx (x.ren_isN hT.1) (x.okV_E hE.vis hv.2.1)
    rw [runT_one (smT_set hy (hE.vis s hv.1))]
    obtain ⟨e', r', h1, h2, h3⟩ := ih _ hl hT.2 ns m env c (r || false) hv.2.2 hE hc
    exact ⟨e', r', h1, h2, fun h => h3 (by simpa [GL.hasRet] using h)⟩
  | yield x q ih =>
    intro l h hT ns m env c r hv hE hc
    cases h with | yield hx hl =>
    have hy := TrE.typN hU _ _ hx (x.ren_isN hT.1) (x.okV_E hE.vis hv.1)
    rw [runT_one (smT_yield hy)]
    obtain ⟨e', r', h1, h2, h3⟩ := ih _ hl hT.2 ns m env c (r || false) hv.2 hE hc
    exact ⟨e', r', h1, h2, fun h => h3 (by simpa [GL.hasRet] using h)⟩
  | run x q ih =>
    intro l h hT ns m env c r hv hE hc
    cases h with | run hx hl =>
    have hy := TrE.typN hU _ _ hx (x.ren_isN hT.1) (x.okV_E hE.vis hv.1)
    rw [runT_one (smT_run hy)]
    obtain ⟨e', r', h1, h2, h3⟩ := ih _ hl hT.2 ns m env c (r || false) hv.2 hE hc
    exact ⟨e', r', h1, h2, fun h => h3 (by simpa [GL.hasRet] using h)⟩
  | ret x q ih =>
    intro l h hT ns m env c r hv hE hc
    cases h with | ret hx hl =>
    have hy := TrE.typN hU _ _ hx (x.ren_isN hT.1) (x.okV_E hE.vis hv.1)
    rw [runT_one (smT_ret hy)]
    obtain ⟨e', r', h1, h2, h3⟩ := ih _ hl hT.2 ns m env c (r || true) hv.2 hE hc
    exact ⟨e', r', h1, h2, fun _ => h3 (.inl (by simp))⟩
  | bind i x q ih =>
    intro l h hT ns m env c r hv hE hc
    obtain ⟨rfl, hv2, hv3⟩ := hv
    cases h with | bind hx hl =>
    have hy := TrE.typN hU _ _ hx (x.ren_isN hT.1) (x.okV_E hE.vis hv2)
    have h0 := (hE.new (m + 1) (by omega)).1
    simp only [GL.made] at hc
    rw [runT_one (smT_let hy h0 (by omega))]
    obtain ⟨e', r', h1, h2, h3⟩ := ih _ hl hT.2 _ _ _ (c + 1) (r || false) hv3 (hE.bind hρ) (by omega)
    exact ⟨e', r', by rw [h1]; simp only [GL.made]; congr 2; congr 1; omega, (KeepE.cons h0).trans h2, fun h => h3 (by simpa [GL.hasRet] using h)⟩
  | ite d a b q iha ihb ih =>
    intro l h hT ns m env c r hv hE hc
    cases h with | ite hx ha hb hl =>
    have hy := TrE.typF hU _ _ hx (d.ren_isF hT.1) (d.okV_E hE.vis hv.1)
    simp only [GL.made] at hc
    obtain ⟨ea, ra, a1, a2, a3⟩ := iha _ ha hT.2.1 ns m env c false hv.2.1 hE (by omega)
    obtain ⟨eb, rb, b1, b2, b3⟩ := ihb _ hb hT.2.2.1 ns (m + a.made) env (c + a.made) false hv.2.2.1 (hE.mono (by omega)) (by omega)
    rw [runT_one (smT_ite hy (by rw [blT_eq, a1]) (by rw [blT_eq, b1]))]
    obtain ⟨e', r', h1, h2, h3⟩ := ih _ hl hT.2.2.2 ns (m + a.made + b.made) env (c + a.made + b.made) (r || (ra && rb)) hv.2.2.2 (hE.mono (by omega)) (by omega)
    exact ⟨e', r', by rw [h1]; simp only [GL.made]; congr 2; congr 1; omega, h2, fun h => h3 (by rcases h with h | h; exact .inl (by simp [h]); exact .inr h)⟩
  | loop i n b q ihb ih =>
    intro l h hT ns m env c r hv hE hc
    obtain ⟨rfl, hv2, hv3⟩ := hv
    cases h with | loop h0 hcn h1 hb hl =>
    simp only [GL.made] at hc
    have z0 := (hE.new (m + 1) (by omega)).2
    have hy0 := TrE.typN (env := env) hU _ _ h0 trivial trivial
    have hv1 : lookE ((ρ (iT (m + 1)), 1) :: env) (ρ (iT (m + 1))) = 1 := by rw [lookE, if_pos rfl]
    have hyc := TrE.typF (env := (ρ (iT (m + 1)), 1) :: env) hU _ _ hcn ⟨trivial, trivial⟩ ⟨hv1, trivial⟩
    obtain ⟨eb, rb, b1, b2, b3⟩ := ihb _ hb hT.1 ns (m + 1) _ (c + 1) false hv2 (hE.loop hρ) (by omega)
    have hvb : lookE eb (ρ (iT (m + 1))) = 1 := (b2 _ (by rw [hv1]; decide)).trans hv1
    have hy1 := TrE.typN (env := eb) hU _ _ h1 ⟨trivial, trivial⟩ ⟨hvb, trivial⟩
    rw [runT_one (smT_let hy0 z0 (by omega)), runT_one (smT_loop (c1 := c + 1 + b.made) (r1 := rb || false) hyc (by rw [blT_eq, runT_snoc, b1]; simp only [smT_set hy1 hvb]))]
    obtain ⟨e', r', g1, g2, g3⟩ := ih _ hl hT.2 ns (m + 1 + b.made) _ (c + 1 + b.made) (r || false || false) hv3 ((hE.loop hρ).mono (by omega)) (by omega)
    exact ⟨e', r', by rw [g1]; simp only [GL.made]; congr 2; congr 1; omega, (KeepE.cons z0).trans g2, fun h => g3 (by simpa [GL.hasRet] using h)⟩
end Go.Proofs.YtmngofgminlloaaGreatDoor
