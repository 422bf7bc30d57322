/-
  Made scripts are well formed, with any names of variables. No program in sight.
  Made scripts: with any names of variables they are read, they are well formed, their names and types are right. No program in sight.
  The words of a made script whose variables have other names. No program in sight.
  The words of a made script whose variables have other names: statements, functions, the whole. No program in sight.
  The scanner takes the words of a made script, each followed by a blank, as they stand. No program in sight.
  A made script, and the same with other names of variables: both are read, well formed and right. No program in sight.
-/
import Derived.Test.YtmngofgminlloaaGreatDoorTN17
import Derived.Test.YtmngofgminlloaaGreatDoorTN09
set_option linter.unusedSimpArgs false
set_option linter.unusedVariables false
namespace Go.Proofs.YtmngofgminlloaaGreatDoor
open Go.RowKit Tw

/-- So deep at most; numbers of functions of the host that are allowed. -/
def GE.okD : GE → Nat → Prop
  | .var _, d => 1 ≤ d
  | .lit _, d => 1 ≤ d
  | .neg x, d => 1 ≤ d ∧ x.okD (d - 1)
  | .call _ x y, d => 1 ≤ d ∧ x.okD (d - 1) ∧ y.okD (d - 1)
  | .host k x, d => 1 ≤ d ∧ k ≤ 15 ∧ x.okD (d - 1)
  | .bin _ x y, d => 1 ≤ d ∧ x.okD (d - 1) ∧ y.okD (d - 1)
  | .not x, d => 1 ≤ d ∧ x.okD (d - 1)
  | .and x y, d => 1 ≤ d ∧ x.okD (d - 1) ∧ y.okD (d - 1)
  | .or x y, d => 1 ≤ d ∧ x.okD (d - 1) ∧ y.okD (d - 1)
  | .tf _, d => 1 ≤ d
  | .cmp _ x y, d => 1 ≤ d ∧ x.okD (d - 1) ∧ y.okD (d - 1)
theorem GE.okD_mono (x : GE) : ∀ {d e : Nat}, d ≤ e → x.okD d → x.okD e := by
  induction x with
  | var s => intro d e h hx; simp only [GE.okD] at *; omega
  | lit n => intro d e h hx; simp only [GE.okD] at *; omega
  | tf n => intro d e h hx; simp only [GE.okD] at *; omega
  | neg x ih => intro d e h hx; have h1 := hx.1; exact ⟨by omega, ih (by omega) hx.2⟩
  | not x ih => intro d e h hx; have h1 := hx.1; exact ⟨by omega, ih (by omega) hx.2⟩
  | host k x ih => intro d e h hx; have h1 := hx.1; exact ⟨by omega, hx.2.1, ih (by omega) hx.2.2⟩
  | call _ x y ih1 ih2 => intro d e h hx; have h1 := hx.1; exact ⟨by omega, ih1 (by omega) hx.2.1, ih2 (by omega) hx.2.2⟩
  | bin _ x y ih1 ih2 => intro d e h hx; have h1 := hx.1; exact ⟨by omega, ih1 (by omega) hx.2.1, ih2 (by omega) hx.2.2⟩
  | and x y ih1 ih2 => intro d e h hx; have h1 := hx.1; exact ⟨by omega, ih1 (by omega) hx.2.1, ih2 (by omega) hx.2.2⟩
  | or x y ih1 ih2 => intro d e h hx; have h1 := hx.1; exact ⟨by omega, ih1 (by omega) hx.2.1, ih2 (by omega) hx.2.2⟩
  | cmp _ x y ih1 ih2 => intro d e h hx; have h1 := hx.1; exact ⟨by omega, ih1 (by omega) hx.2.1, ih2 (by omega) hx.2.2⟩
theorem GE.okD_ren {ρ : ByteArray → ByteArray} (x : GE) : ∀ {d : Nat}, x.okD d → (x.ren ρ).okD d := by
  induction x with
  | var s => exact id
  | lit n => exact id
  | tf n => exact id
  | neg x ih => intro d hx; exact ⟨hx.1, ih hx.2⟩
  | not x ih => intro d hx; exact ⟨hx.1, ih hx.2⟩
  | host k x ih => intro d hx; exact ⟨hx.1, hx.2.1, ih hx.2.2⟩
  | call _ x y ih1 ih2 => intro d hx; exact ⟨hx.1, ih1 hx.2.1, ih2 hx.2.2⟩
  | bin _ x y ih1 ih2 => intro d hx; exact ⟨hx.1, ih1 hx.2.1, ih2 hx.2.2⟩
  | and x y ih1 ih2 => intro d hx; exact ⟨hx.1, ih1 hx.2.1, ih2 hx.2.2⟩
  | or x y ih1 ih2 => intro d hx; exact ⟨hx.1, ih1 hx.2.1, ih2 hx.2.2⟩
  | cmp _ x y ih1 ih2 => intro d hx; exact ⟨hx.1, ih1 hx.2.1, ih2 hx.2.2⟩
theorem GNum.okD {N : Nat} {ns : List ByteArray} {low d i i' : Nat} {x : GE} (h : GNum N ns low d i x i') : x.okD (d + 1) := by
  induction h with
  | var _ _ _ => show 1 ≤ _; omega
  | lit _ _ => show 1 ≤ _; omega
  | neg _ _ ih => exact ⟨by omega, ih⟩
  | call _ _ _ _ ih1 ih2 => exact ⟨by omega, ih1, ih2⟩
  | host _ hf _ ih => exact ⟨by omega, by have := hf.1; omega, ih⟩
  | bin _ _ _ _ ih1 ih2 => exact ⟨by omega, ih1, ih2⟩
theorem GFlag.okD {N : Nat} {ns : List ByteArray} {low d i i' : Nat} {x : GE} (h : GFlag N ns low d i x i') : x.okD (d + 3) := by
  induction h with
  | not _ _ ih => exact ⟨by omega, ih⟩
  | and _ _ _ ih1 ih2 => exact ⟨by omega, ih1, ih2⟩
  | or _ _ _ ih1 ih2 => exact ⟨by omega, ih1, ih2⟩
  | tf _ _ => show 1 ≤ _; omega
  | cmp _ h1 _ h2 => exact ⟨by omega, GE.okD_mono _ (by omega) h1.okD, GE.okD_mono _ (by omega) h2.okD⟩
def GL.okD : GL → Nat → Prop
  | .nil, _ => True
  | .set _ x r, d => 1 ≤ d ∧ x.okD (d - 1) ∧ r.okD d
  | .yield x r, d => 1 ≤ d ∧ x.okD (d - 1) ∧ r.okD d
  | .ite c a b r, d => 1 ≤ d ∧ c.okD (d - 1) ∧ a.okD (d - 1) ∧ b.okD (d - 1) ∧ r.okD d
  | .loop _ _ l r, d => 4 ≤ d ∧ l.okD (d - 1) ∧ r.okD d
  | .run x r, d => 1 ≤ d ∧ x.okD (d - 1) ∧ r.okD d
  | .ret x r, d => 1 ≤ d ∧ x.okD (d - 1) ∧ r.okD d
  | .bind _ x r, d => 1 ≤ d ∧ x.okD (d - 1) ∧ r.okD d
theorem GL.okD_app (a b : GL) {d : Nat} (ha : a.okD d) (hb : b.okD d) : (a.app b).okD d := by
  induction a with
  | nil => exact hb
  | set s x r ih => exact ⟨ha.1, ha.2.1, ih ha.2.2⟩
  | yield x r ih => exact ⟨ha.1, ha.2.1, ih ha.2.2⟩
  | ite c a b r _ _ ih => exact ⟨ha.1, ha.2.1, ha.2.2.1, ha.2.2.2.1, ih ha.2.2.2.2⟩
  | loop i n l r _ ih => exact ⟨ha.1, ha.2.1, ih ha.2.2⟩
  | run x r ih => exact ⟨ha.1, ha.2.1, ih ha.2.2⟩
  | ret x r ih => exact ⟨ha.1, ha.2.1, ih ha.2.2⟩
  | bind i x r ih => exact ⟨ha.1, ha.2.1, ih ha.2.2⟩
theorem Stm.okD {N low D : Nat} (hD : 6 ≤ D) {B : Ms → GL → Ms → Prop} (hB : ∀ s g s', B s g s' → g.okD (D - 1)) {s : Ms} {g : GL} {s' : Ms} (h : Stm N low B s g s') : g.okD D := by
  cases h with
  | set _ _ _ hx => exact ⟨by omega, GE.okD_mono _ (by omega) hx.okD, trivial⟩
  | yield _ hx => exact ⟨by omega, GE.okD_mono _ (by omega) hx.okD, trivial⟩
  | ite _ hc ha hb => exact ⟨by omega, GE.okD_mono _ (by omega) hc.okD, hB _ _ _ ha, hB _ _ _ hb, trivial⟩
  | loop _ _ hl => exact ⟨by omega, hB _ _ _ hl, trivial⟩
  | run _ hx => exact ⟨by omega, GE.okD_mono _ (by omega) hx.okD, trivial⟩
  | ret _ _ hx => exact ⟨by omega, GE.okD_mono _ (by omega) hx.okD, trivial⟩
  | bind _ hx => exact ⟨by omega, GE.okD_mono _ (by omega) hx.okD, trivial⟩
theorem Run.okD {D : Nat} {S : Ms → GL → Ms → Prop} (hS : ∀ s g s', S s g s' → g.okD D) {j : Nat} {s : Ms} {g : GL} {s' : Ms} (h : Run S j s g s') : g.okD D := by
  induction h with
  | nil => trivial
  | snoc _ h2 ih => exact GL.okD_app _ _ ih (hS _ _ _ h2)
theorem Blk.okD {N low : Nat} : ∀ (d : Nat) (s : Ms) (g : GL) (s' : Ms), Blk N low d s g s' → g.okD (d + 6) := by
  intro d
  induction d with
  | zero => intro s g s' ⟨_, _, _, _, h, _⟩; exact h.okD fun _ _ _ h => Stm.okD (by omega) (fun _ _ _ h => h.elim) h
  | succ d ih => intro s g s' ⟨_, _, _, _, h, _⟩; exact h.okD fun _ _ _ h => Stm.okD (by omega) (fun s g s' h => by have := ih s g s' h; rwa [show d + 1 + 6 - 1 = d + 6 by omega]) h
theorem exF_ok {k n : Int} {t : ByteArray} {xs : List Ex} {p : Int} {left : Nat} (h1 : 1 ≤ left) (ho : okEx k n t xs.length = true) (hb : ¬ (6 < xs.length ∨ (k = 8 ∧ 15 < n))) (hx : exsF xs (left - 1) = 0) : exF (.mk k n t xs p) left = 0 := by
  rw [exF, headF_0 h1 ho hb]; exact hx
theorem exsF_1 {a : Ex} {left : Nat} (h : exF a left = 0) : exsF [a] left = 0 := by rw [exsF, if_pos h, exsF]
theorem exsF_2 {a b : Ex} {left : Nat} (h : exF a left = 0) (h' : exF b left = 0) : exsF [a, b] left = 0 := by rw [exsF, if_pos h, exsF, if_pos h', exsF]
theorem TrE.ok (x : GE) : ∀ (y : Ex) (d : Nat), TrE x y → x.okW → x.okD d → exF y d = 0 := by
  induction x with
  | var s => intro y d h hw hd; cases h; exact exF_ok hd (by rw [ok3]; simp [nameB, show isName s.data.toList = true from hw]) (by simp) (by rw [exsF])
  | lit n =>
    intro y d h hw hd; cases h
    have hn : n < 100 := hw
    exact exF_ok hd (by rw [ok1]; simp; omega) (by simp) (by rw [exsF])
  | tf k => intro y d h hw hd; cases h; exact exF_ok hd (by rw [ok2]; split <;> simp) (by simp) (by rw [exsF])
  | neg x ih => intro y d h hw hd; cases h with | neg h => exact exF_ok hd.1 (by rw [ok4]; simp) (by simp) (exsF_1 (ih _ _ h hw hd.2))
  | not x ih => intro y d h hw hd; cases h with | not h => exact exF_ok hd.1 (by simp [okEx]) (by simp) (exsF_1 (ih _ _ h hw hd.2))
  | host k x ih => intro y d h hw hd; cases h with | host h => exact exF_ok hd.1 (by rw [ok8]; simp) (by have := hd.2.1; simp; omega) (exsF_1 (ih _ _ h hw.2 hd.2.2))
  | call f x z ihx ihz => intro y d h hw hd; cases h with | call h1 h2 => exact exF_ok hd.1 (by rw [ok7]; unfold nameB; rw [mk_l]; exact name_num (c := 102) (by decide) f (by have := hw.1; omega)) (by simp) (exsF_2 (ihx _ _ h1 hw.2.1 hd.2.1) (ihz _ _ h2 hw.2.2 hd.2.2))
  | bin o x z ihx ihz => intro y d h hw hd; cases h with | bin h1 h2 => exact exF_ok hd.1 (by rw [ok6, mk_l]; have := bin_lv o; simp; omega) (by simp) (exsF_2 (ihx _ _ h1 hw.1 hd.2.1) (ihz _ _ h2 hw.2 hd.2.2))
  | and x z ihx ihz => intro y d h hw hd; cases h with | and h1 h2 => exact exF_ok hd.1 (by rw [ok6]; rfl) (by simp) (exsF_2 (ihx _ _ h1 hw.1 hd.2.1) (ihz _ _ h2 hw.2 hd.2.2))
  | or x z ihx ihz => intro y d h hw hd; cases h with | or h1 h2 => exact exF_ok hd.1 (by rw [ok6]; rfl) (by simp) (exsF_2 (ihx _ _ h1 hw.1 hd.2.1) (ihz _ _ h2 hw.2 hd.2.2))
  | cmp o x z ihx ihz => intro y d h hw hd; cases h with | cmp h1 h2 => exact exF_ok hd.1 (by rw [ok6, mk_l, cmp_lv o]; simp) (by simp) (exsF_2 (ihx _ _ h1 hw.1 hd.2.1) (ihz _ _ h2 hw.2 hd.2.2))
theorem smF_ok {k : Int} {nm : ByteArray} {a : Ex} {body els : List Sm} {p : Int} {left : Nat} (h1 : 1 ≤ left) (hk : 1 ≤ k ∧ k ≤ 7) (hn : k ≤ 2 → nameB nm = true) (ha : exF a (left - 1) = 0) (hb : smsF body (left - 1) = 0) (he : smsF els (left - 1) = 0) : smF (.mk k nm a body els p) left = 0 := by
  rw [smF, if_neg (by omega), if_neg (by rintro (h | h | ⟨h, h'⟩); omega; omega; rw [hn h] at h'; cases h'), if_neg (by simp [ha]), if_neg (by simp [hb])]
  split
  · exact he
  · rfl
theorem smsF_cons {s : Sm} {l : List Sm} {left : Nat} (h : smF s left = 0) (h' : smsF l left = 0) : smsF (s :: l) left = 0 := by rw [smsF, if_pos h]; exact h'
theorem smsF_app {a b : List Sm} {left : Nat} (h : smsF a left = 0) (h' : smsF b left = 0) : smsF (a ++ b) left = 0 := by
  induction a with
  | nil => exact h'
  | cons s a ih =>
    rw [smsF] at h
    split at h
    · rename_i h0; exact smsF_cons h0 (ih h)
    · rename_i h0; exact absurd h h0
theorem smsF_nil (left : Nat) : smsF [] left = 0 := by rw [smsF]
theorem TrL.ok {ρ : ByteArray → ByteArray} (g : GL) : ∀ (l : List Sm) (d : Nat), TrL ρ g l → g.okR ρ → g.okD d → smsF l d = 0 := by
  induction g with
  | nil => intro l d h _ _; cases h; exact smsF_nil _
  | set s x r ih => intro l d h hw hd; cases h with | set hx hl => exact smsF_cons (smF_ok hd.1 (by decide) (fun _ => hw.1) (TrE.ok _ _ _ hx hw.2.1 (x.okD_ren hd.2.1)) (smsF_nil _) (smsF_nil _)) (ih _ _ hl hw.2.2 hd.2.2)
  | yield x r ih => intro l d h hw hd; cases h with | yield hx hl => exact smsF_cons (smF_ok hd.1 (by decide) (fun h => absurd h (by decide)) (TrE.ok _ _ _ hx hw.1 (x.okD_ren hd.2.1)) (smsF_nil _) (smsF_nil _)) (ih _ _ hl hw.2 hd.2.2)
  | run x r ih => intro l d h hw hd; cases h with | run hx hl => exact smsF_cons (smF_ok hd.1 (by decide) (fun h => absurd h (by decide)) (TrE.ok _ _ _ hx hw.1 (x.okD_ren hd.2.1)) (smsF_nil _) (smsF_nil _)) (ih _ _ hl hw.2 hd.2.2)
  | ret x r ih => intro l d h hw hd; cases h with | ret hx hl => exact smsF_cons (smF_ok hd.1 (by decide) (fun h => absurd h (by decide)) (TrE.ok _ _ _ hx hw.1 (x.okD_ren hd.2.1)) (smsF_nil _) (smsF_nil _)) (ih _ _ hl hw.2 hd.2.2)
  | bind i x r ih => intro l d h hw hd; cases h with | bind hx hl => exact smsF_cons (smF_ok hd.1 (by decide) (fun _ => hw.1) (TrE.ok _ _ _ hx hw.2.1 (x.okD_ren hd.2.1)) (smsF_nil _) (smsF_nil _)) (ih _ _ hl hw.2.2 hd.2.2)
  | ite c a b r iha ihb ih =>
    intro l d h hw hd
    cases h with | ite hx ha hb hl =>
    exact smsF_cons (smF_ok hd.1 (by decide) (fun h => absurd h (by decide)) (TrE.ok _ _ _ hx hw.1 (c.okD_ren hd.2.1)) (iha _ _ ha hw.2.1 hd.2.2.1) (ihb _ _ hb hw.2.2.1 hd.2.2.2.1)) (ih _ _ hl hw.2.2.2 hd.2.2.2.2)
  | loop i n b r ihb ih =>
    intro l d h hw hd
    cases h with | loop h0 hc h1 hb hl =>
    have hd1 := hd.1
    have e0 := TrE.ok _ _ (d - 1) h0 (show 0 < 100 by decide) (show 1 ≤ d - 1 by omega)
    have ec := TrE.ok _ _ (d - 1) hc ⟨hw.1, hw.2.1⟩ ⟨by omega, show 1 ≤ _ by omega, show 1 ≤ _ by omega⟩
    have e1 := TrE.ok _ _ (d - 1 - 1) h1 ⟨hw.1, show 1 < 100 by decide⟩ ⟨by omega, show 1 ≤ _ by omega, show 1 ≤ _ by omega⟩
    exact smsF_cons (smF_ok (by omega) (by decide) (fun _ => hw.1) e0 (smsF_nil _) (smsF_nil _))
      (smsF_cons (smF_ok (by omega) (by decide) (fun h => absurd h (by decide)) ec (smsF_app (ihb _ _ hb hw.2.2.1 hd.2.1) (smsF_cons (smF_ok (by omega) (by decide) (fun _ => hw.1) e1 (smsF_nil _) (smsF_nil _)) (smsF_nil _))) (smsF_nil _)) (ih _ _ hl hw.2.2.2 hd.2.2))
end Go.Proofs.YtmngofgminlloaaGreatDoor

namespace Go.Proofs.YtmngofgminlloaaGreatDoor
open Go.RowKit Tw

def fN (j : Nat) : ByteArray := ⟨(fL j).toArray⟩
theorem fN_inj {a b : Nat} (h : fN a = fN b) : a = b := by
  have := ba_l h
  unfold fN at this
  rw [mk_l, mk_l] at this
  injection this with _ this
  exact numL_inj this
theorem fN_main (a : Nat) : fN a ≠ mainT := by
  intro h
  have := ba_l h
  unfold fN at this
  rw [mk_l] at this
  injection this with this _
  revert this; decide
theorem dupF_none : ∀ (l : List Fn) (seen : List ByteArray), (l.map Fn.name).Nodup → (∀ f ∈ l, f.name ∉ seen) → dupF seen l = none
  | [], _, _, _ => rfl
  | f :: l, seen, hn, hs => by
    simp only [List.map_cons, List.nodup_cons] at hn
    rw [dupF, if_neg]
    · refine dupF_none l _ hn.2 fun g hg => ?_
      intro hm
      rcases List.mem_cons.1 hm with e | hm
      · exact hn.1 (by rw [← e]; exact List.mem_map_of_mem hg)
      · exact hs g (List.mem_cons_of_mem _ hg) hm
    · intro ha
      obtain ⟨n, h1, h2⟩ := List.any_eq_true.1 ha
      simp at h2
      subst h2
      exact hs f (List.mem_cons_self ..) h1
theorem findF_in : ∀ {us : List Fn} {f : Fn}, (us.map Fn.name).Nodup → f ∈ us → findF us f.name = some f
  | [], _, _, h => by cases h
  | g :: l, f, hn, h => by
    simp only [List.map_cons, List.nodup_cons] at hn
    unfold findF
    rw [List.find?_cons]
    rcases List.mem_cons.1 h with rfl | h
    · simp
    · have : decide (g.name = f.name) = false := by simp; intro e; exact hn.1 (by rw [e]; exact List.mem_map_of_mem h)
      rw [this]
      exact findF_in hn.2 h
section
variable {ρ : ByteArray → ByteArray}
theorem TrFs.at {j : Nat} {fs : List (GL × GE)} {l : List Fn} (h : TrFs ρ j fs l) : ∀ f ∈ l, ∃ q p, fs[q]? = some p ∧ TrF ρ (j + q) p.1 p.2 f := by
  induction h with
  | nil => intro f hf; cases hf
  | @cons j g x r f l h1 h2 ih =>
    intro f' hf
    rcases List.mem_cons.1 hf with rfl | hf
    · exact ⟨0, (g, x), rfl, h1⟩
    · obtain ⟨q, p, a, b⟩ := ih f' hf
      exact ⟨q + 1, p, by simpa using a, by rwa [show j + (q + 1) = j + 1 + q by omega]⟩
theorem TrFs.get {j : Nat} {fs : List (GL × GE)} {l : List Fn} (h : TrFs ρ j fs l) : ∀ q, q < fs.length → ∃ f ∈ l, f.name = fN (j + q) ∧ f.types = [1, 1] ∧ f.out = 1 := by
  induction h with
  | nil => intro q hq; simp at hq
  | @cons j g x r f l h1 h2 ih =>
    intro q hq
    cases q with
    | zero => exact ⟨f, List.mem_cons_self .., h1.1, h1.2.2.1, h1.2.2.2.1⟩
    | succ q =>
      obtain ⟨f', a, b, c, d⟩ := ih q (by simpa using hq)
      exact ⟨f', List.mem_cons_of_mem _ a, by rwa [show j + (q + 1) = j + 1 + q by omega], c, d⟩
theorem TrFs.nodup {j : Nat} {fs : List (GL × GE)} {l : List Fn} (h : TrFs ρ j fs l) : (l.map Fn.name).Nodup := by
  induction h with
  | nil => exact List.nodup_nil
  | @cons j g x r f l h1 h2 ih =>
    simp only [List.map_cons, List.nodup_cons]
    refine ⟨fun hm => ?_, ih⟩
    obtain ⟨f', hf', e⟩ := List.mem_map.1 hm
    obtain ⟨q, p, a, b⟩ := h2.at f' hf'
    have : fN (j + 1 + q) = fN j := (show f'.name = fN (j + 1 + q) from b.1).symm.trans (e.trans h1.1)
    have := fN_inj this
    omega
theorem TrFs.len {j : Nat} {fs : List (GL × GE)} {l : List Fn} (h : TrFs ρ j fs l) : l.length = fs.length := by
  induction h with
  | nil => rfl
  | cons _ _ ih => simp [ih]
/-- What a function of a made script has. -/
def GoodF (ρ : ByteArray → ByteArray) (j : Nat) (ns : List ByteArray) (g : GL) (x : GE) : Prop :=
  (g.okR ρ ∧ (x.ren ρ).okW ∧ g.isT ∧ x.isN) ∧ (bodyG g x).okD 40 ∧ ∃ m, (bodyG g x).okV j ns m ∧ (bodyG g x).made ≤ 60
theorem GL.nsA_sub (g : GL) : ∀ (ns : List ByteArray) (s : ByteArray), s ∈ ns → s ∈ g.nsA ns := by
  induction g with
  | nil => intro ns s h; exact h
  | bind i x r ih => intro ns s h; exact ih _ _ (List.mem_append_left _ h)
  | set _ _ r ih => exact fun ns s h => ih ns s h
  | yield _ r ih => exact fun ns s h => ih ns s h
  | ite _ _ _ r _ _ ih => exact fun ns s h => ih ns s h
  | loop _ _ _ r _ ih => exact fun ns s h => ih ns s h
  | run _ r ih => exact fun ns s h => ih ns s h
  | ret _ r ih => exact fun ns s h => ih ns s h
theorem GE.okV_mono {ns ns' : List ByteArray} {low : Nat} (h : ∀ s ∈ ns, s ∈ ns') : ∀ (x : GE), x.okV ns low → x.okV ns' low
  | .var s, hx => h s hx
  | .lit _, _ => trivial
  | .neg x, hx => GE.okV_mono h x hx
  | .call _ x y, hx => ⟨hx.1, GE.okV_mono h x hx.2.1, GE.okV_mono h y hx.2.2⟩
  | .host _ x, hx => GE.okV_mono h x hx
  | .bin _ x y, hx => ⟨GE.okV_mono h x hx.1, GE.okV_mono h y hx.2⟩
  | .not x, hx => GE.okV_mono h x hx
  | .and x y, hx => ⟨GE.okV_mono h x hx.1, GE.okV_mono h y hx.2⟩
  | .or x y, hx => ⟨GE.okV_mono h x hx.1, GE.okV_mono h y hx.2⟩
  | .tf _, _ => trivial
  | .cmp _ x y, hx => ⟨GE.okV_mono h x hx.1, GE.okV_mono h y hx.2⟩
def NsR (ρ : ByteArray → ByteArray) (ns : List ByteArray) : Prop := ∀ s ∈ ns, isName (ρ s).data.toList = true
theorem GNum.okR {N : Nat} {ns : List ByteArray} {low d i i' : Nat} {x : GE} (hns : NsR ρ ns) (hl : low ≤ 2) (h : GNum N ns low d i x i') : (x.ren ρ).okW := by
  induction h with
  | var _ _ hs => exact hns _ (List.mem_of_getElem? hs)
  | lit _ h => show _ < 100; have := h.1; omega
  | neg _ _ ih => exact ih
  | call _ hf _ _ ih1 ih2 => exact ⟨by have := hf.1; omega, ih1, ih2⟩
  | host _ hf _ ih => exact ⟨by have := hf.1; omega, ih⟩
  | bin _ _ _ _ ih1 ih2 => exact ⟨ih1, ih2⟩
theorem GFlag.okR {N : Nat} {ns : List ByteArray} {low d i i' : Nat} {x : GE} (hns : NsR ρ ns) (hl : low ≤ 2) (h : GFlag N ns low d i x i') : (x.ren ρ).okW := by
  induction h with
  | not _ _ ih => exact ih
  | and _ _ _ ih1 ih2 => exact ⟨ih1, ih2⟩
  | or _ _ _ ih1 ih2 => exact ⟨ih1, ih2⟩
  | tf _ _ => trivial
  | cmp _ h1 _ h2 => exact ⟨h1.okR hns hl, h2.okR hns hl⟩
/-- The names that the maker makes are names still. -/
def NewR (ρ : ByteArray → ByteArray) : Prop := ∀ k, k ≤ 9998 → isName (ρ (vT k)).data.toList = true ∧ isName (ρ (iT k)).data.toList = true
def OkR (ρ : ByteArray → ByteArray) (s : Ms) (g : GL) (s' : Ms) : Prop := s.m ≤ s'.m ∧ (NsR ρ s.ns → s'.m ≤ 9998 → g.okR ρ ∧ NsR ρ s'.ns)
theorem Stm.okR {N low : Nat} (hv : NewR ρ) {B : Ms → GL → Ms → Prop} (hl : low ≤ 2) (hB : ∀ s g s', B s g s' → OkR ρ s g s' ∧ s'.ns = s.ns) {s : Ms} {g : GL} {s' : Ms} (h : Stm N low B s g s') : OkR ρ s g s' := by
  refine ⟨?_, ?_⟩
  · cases h with
    | ite _ _ ha hb => have h1 := (hB _ _ _ ha).1.1; have h2 := (hB _ _ _ hb).1.1; exact Nat.le_trans h1 h2
    | loop _ _ hb => have h1 := (hB _ _ _ hb).1.1; simp only at h1 ⊢; omega
    | bind _ _ => exact Nat.le_succ _
    | _ => exact Nat.le_refl _
  cases h with
  | set h0 h1 hs hx => intro hn hm; exact ⟨⟨hn _ (List.mem_of_getElem? hs), hx.okR hn hl, trivial⟩, hn⟩
  | yield h0 hx => intro hn hm; exact ⟨⟨hx.okR hn hl, trivial⟩, hn⟩
  | @ite ns m i i2 c a b s1 s2 h0 hc ha hb =>
    intro hn hm
    obtain ⟨h1, h2⟩ := hB _ _ _ ha
    obtain ⟨h3, h4⟩ := hB _ _ _ hb
    obtain ⟨b1, b2⟩ := h3.2 (by rw [h2]; exact hn) hm
    obtain ⟨a1, a2⟩ := h1.2 hn (by have := h3.1; omega)
    exact ⟨⟨hc.okR hn hl, a1, b1, trivial⟩, b2⟩
  | @loop ns m i i2 n l s2 h0 hk hl' =>
    intro hn hm
    obtain ⟨h1, h2⟩ := hB _ _ _ hl'
    obtain ⟨a1, a2⟩ := h1.2 hn hm
    have a3 := h1.1
    simp only at a3
    exact ⟨⟨(hv _ (by omega)).2, by have := hk.1; omega, a1, trivial⟩, a2⟩
  | run h0 hx => intro hn hm; exact ⟨⟨hx.okR hn hl, trivial⟩, hn⟩
  | ret h0 h1 hx => intro hn hm; exact ⟨⟨hx.okR hn hl, trivial⟩, hn⟩
  | @bind ns m i i1 i2 x h0 hx =>
    intro hn hm
    refine ⟨⟨(hv _ hm).1, hx.okR hn hl, trivial⟩, ?_⟩
    intro s hs
    rcases List.mem_append.1 hs with h | h
    · exact hn s h
    · simp at h; subst h; exact (hv _ hm).1
theorem Run.okR {S : Ms → GL → Ms → Prop} (hS : ∀ s g s', S s g s' → OkR ρ s g s') {j : Nat} {s : Ms} {g : GL} {s' : Ms} (h : Run S j s g s') : OkR ρ s g s' := by
  induction h with
  | nil => exact ⟨Nat.le_refl _, fun hn _ => ⟨trivial, hn⟩⟩
  | @snoc j s s1 s2 g x h1 h2 ih =>
    have h3 := hS _ _ _ h2
    refine ⟨Nat.le_trans ih.1 h3.1, fun hn hm => ?_⟩
    obtain ⟨a1, a2⟩ := ih.2 hn (by have := h3.1; omega)
    obtain ⟨b1, b2⟩ := h3.2 a2 hm
    exact ⟨GL.okR_app _ _ a1 b1, b2⟩
theorem Blk.okR {N low : Nat} (hv : NewR ρ) (hl : low ≤ 2) : ∀ (d : Nat) (s : Ms) (g : GL) (s' : Ms), Blk N low d s g s' → OkR ρ s g s' ∧ s'.ns = s.ns := by
  have key : ∀ (S : Ms → GL → Ms → Prop), (∀ s g s', S s g s' → OkR ρ s g s') → ∀ s g s', BlkOf N S s g s' → OkR ρ s g s' ∧ s'.ns = s.ns := by
    rintro S hS s g s' ⟨j, i1, s2, hj, hr, rfl⟩
    have h0 := hr.okR hS
    exact ⟨⟨h0.1, fun hn hm => ⟨(h0.2 hn hm).1, hn⟩⟩, rfl⟩
  intro d
  induction d with
  | zero => exact key _ fun s g s' h => Stm.okR hv hl (fun _ _ _ h => h.elim) h
  | succ d ih => exact key _ fun s g s' h => Stm.okR hv hl ih h
theorem goodF {N low d m1 i1 m2 i2 i3 : Nat} {ns : List ByteArray} {g : GL} {x : GE} (hv : NewR ρ) (hl : low ≤ 2) (hd : d ≤ 3) (hN : N ≤ 60) (hi : i1 ≤ N) (hm : m2 ≤ 9998) (hns : NsR ρ ns) (hg : Blk N low d ⟨ns, m1, i1⟩ g ⟨ns, m2, i2⟩) (hx : GNum N ns low 2 i2 x i3) : GoodF ρ low ns g x := by
  have h1 := ((Blk.okR hv hl d _ _ _ hg).1.2 hns hm).1
  obtain ⟨v1, v2, -⟩ := Blk.varB d _ _ _ hg
  have c1 := (Blk.cnt d _ _ _ hg hi).1.all
  have ht := (Blk.cnt d _ _ _ hg hi).1.top
  simp only at v1 c1 ht
  have hs : slk d ≤ 26 := by
    have hc : d = 0 ∨ d = 1 ∨ d = 2 ∨ d = 3 := by omega
    rcases hc with rfl | rfl | rfl | rfl <;> decide
  have hdD : ∀ (g : GL) (d e : Nat), d ≤ e → g.okD d → g.okD e := by
    intro g
    induction g with
    | nil => intro d e _ _; trivial
    | set _ x r ih => intro d e h hx; have h1 := hx.1; exact ⟨by omega, GE.okD_mono _ (by omega) hx.2.1, ih _ _ h hx.2.2⟩
    | yield x r ih => intro d e h hx; have h1 := hx.1; exact ⟨by omega, GE.okD_mono _ (by omega) hx.2.1, ih _ _ h hx.2.2⟩
    | run x r ih => intro d e h hx; have h1 := hx.1; exact ⟨by omega, GE.okD_mono _ (by omega) hx.2.1, ih _ _ h hx.2.2⟩
    | ret x r ih => intro d e h hx; have h1 := hx.1; exact ⟨by omega, GE.okD_mono _ (by omega) hx.2.1, ih _ _ h hx.2.2⟩
    | bind _ x r ih => intro d e h hx; have h1 := hx.1; exact ⟨by omega, GE.okD_mono _ (by omega) hx.2.1, ih _ _ h hx.2.2⟩
    | ite c a b r iha ihb ih => intro d e h hx; have h1 := hx.1; exact ⟨by omega, GE.okD_mono _ (by omega) hx.2.1, iha _ _ (by omega) hx.2.2.1, ihb _ _ (by omega) hx.2.2.2.1, ih _ _ h hx.2.2.2.2⟩
    | loop _ _ l r ihl ih => intro d e h hx; have h1 := hx.1; exact ⟨by omega, ihl _ _ (by omega) hx.2.1, ih _ _ h hx.2.2⟩
  refine ⟨⟨h1, hx.okR hns hl, Blk.isT d _ _ _ hg, hx.isN⟩, ?_, m1, ?_, ?_⟩
  · exact GL.okD_app _ _ (hdD _ _ _ (by omega) (Blk.okD d _ _ _ hg)) ⟨by omega, GE.okD_mono _ (by omega) hx.okD, trivial⟩
  · exact GL.okV_app _ _ _ _ _ v1 ⟨GE.okV_mono (fun s hs => g.nsA_sub _ s hs) _ hx.okV, trivial⟩
  · unfold bodyG
    rw [GL.made_app]
    simp only [GL.made]
    omega
theorem GFuns.good {N j i m i' : Nat} {fs : List (GL × GE)} (hv : NewR ρ) (hp : NsR ρ pq) (hN : N ≤ 60) (hj : j ≤ 2) (hi : i ≤ N) (h : GFuns N j i fs m i') : ∀ q p, fs[q]? = some p → GoodF ρ q pq p.1 p.2 := by
  induction h with
  | nil => intro q p h; simp at h
  | @snoc j i m1 i1 m2 i2 i3 fs g x h1 h2 h3 ih =>
    intro q p hq
    rw [List.getElem?_append] at hq
    split at hq
    · exact ih (by omega) hi q p hq
    · rename_i hlt
      have hq0 : q = fs.length := by
        have := (List.getElem?_eq_some_iff.1 hq).1
        simp at this; omega
      subst hq0
      simp at hq; subst hq
      have hml := (GFuns.mono hj hi (.snoc h1 h2 h3)).1
      have hi1 := (h1.mono (by omega) hi).2.2.1
      rw [h1.len]
      exact goodF (d := 2) hv (by omega) (by decide) hN hi1 (by omega) hp h2 h3
theorem parT_pq (hρ : ∀ s t, ρ s = ρ t → s = t) (p : Int) : parT p [ρ tP, ρ tQ] [1, 1] [] 0 = .ok ([(ρ tQ, 1), (ρ tP, 1)], 2) := by
  have hne : ρ tP ≠ ρ tQ := fun e => by have := hρ _ _ e; revert this; decide
  simp [parT, letT, lookE, hne]
theorem env_pq (hρ : ∀ s t, ρ s = ρ t → s = t) (m : Nat) : EnvG ρ pq m [(ρ tQ, 1), (ρ tP, 1)] := by
  refine ⟨fun s hs => ?_, fun k _ => ?_⟩
  · simp only [pq, List.mem_cons, List.mem_nil_iff, or_false] at hs
    rw [lookE, lookE]
    rcases hs with rfl | rfl
    · split
      · rfl
      · exact if_pos rfl
    · exact if_pos rfl
  · have h1 : tP ∈ pq := by simp [pq, tP]
    have h2 : tQ ∈ pq := by simp [pq, tQ]
    refine ⟨?_, ?_⟩
    · rw [lookE, lookE, if_neg (fun e => (p_ne h2 k).1 (hρ _ _ e)), if_neg (fun e => (p_ne h1 k).1 (hρ _ _ e))]; rfl
    · rw [lookE, lookE, if_neg (fun e => (p_ne h2 k).2 (hρ _ _ e)), if_neg (fun e => (p_ne h1 k).2 (hρ _ _ e))]; rfl
theorem TrF.typ {us : List Fn} {j : Nat} {g : GL} {x : GE} {f : Fn} (hρ : ∀ s t, ρ s = ρ t → s = t) (hU : FunsG us j) (hG : GoodF ρ j pq g x) (h : TrF ρ j g x f) : fnT us f = .ok () := by
  obtain ⟨h1, h2, h3, h4, h5⟩ := h
  obtain ⟨⟨a1, a2, a3, a4⟩, b, m, c1, c2⟩ := hG
  obtain ⟨e', r', t1, t2, t3⟩ := TrL.typ hρ hU _ _ h5 (GL.isT_app _ _ a3 ⟨a4, trivial⟩) pq m _ 2 false c1 (env_pq hρ m) (by omega)
  unfold fnT
  rw [h2, h3, parT_pq hρ, h4]
  simp only [blT_eq, t1, t3 (.inr (bodyG_ret g x)), if_true]
theorem TrM.typ {us : List Fn} {j : Nat} {g : GL} {x : GE} {f : Fn} (hρ : ∀ s t, ρ s = ρ t → s = t) (hU : FunsG us j) (hG : GoodF ρ j [] g x) (h : TrM ρ g x f) : fnT us f = .ok () := by
  obtain ⟨h1, h2, h3, h4, h5⟩ := h
  obtain ⟨⟨a1, a2, a3, a4⟩, b, m, c1, c2⟩ := hG
  obtain ⟨e', r', t1, t2, t3⟩ := TrL.typ hρ hU _ _ h5 (GL.isT_app _ _ a3 ⟨a4, trivial⟩) [] m [] 0 false c1 ⟨(fun _ h => by cases h), fun _ _ => ⟨rfl, rfl⟩⟩ (by omega)
  unfold fnT
  rw [h2, h3, h4]
  simp only [parT, blT_eq, t1, t3 (.inr (bodyG_ret g x)), if_true]
theorem fnsT_all (us : List Fn) : ∀ l : List Fn, (∀ f ∈ l, fnT us f = .ok ()) → fnsT us l = .ok ()
  | [], _ => rfl
  | f :: l, h => by rw [fnsT, h f (List.mem_cons_self ..)]; exact fnsT_all us l fun g hg => h g (List.mem_cons_of_mem _ hg)
theorem fnsF_all : ∀ l : List Fn, (∀ f ∈ l, fnF f = 0) → fnsF l = 0
  | [], _ => by rw [fnsF]
  | f :: l, h => by rw [fnsF, if_pos (h f (List.mem_cons_self ..))]; exact fnsF_all l fun g hg => h g (List.mem_cons_of_mem _ hg)
theorem TrF.ok {j : Nat} {ns : List ByteArray} {g : GL} {x : GE} {f : Fn} (hj : j < 10 ^ 10) (hp : NsR ρ pq) (hG : GoodF ρ j ns g x) (h : TrF ρ j g x f) : fnF f = 0 := by
  obtain ⟨h1, h2, h3, h4, h5⟩ := h
  obtain ⟨⟨a1, a2, a3, a4⟩, b, -⟩ := hG
  have hb := TrL.ok _ _ 40 h5 (GL.okR_app _ _ a1 ⟨a2, trivial⟩) b
  have e1 : nameB f.name = true := by rw [h1]; unfold nameB; rw [mk_l]; exact name_num (c := 102) (by decide) j hj
  have e2 : nameB (ρ tP) = true := hp tP (by simp [pq, tP])
  have e3 : nameB (ρ tQ) = true := hp tQ (by simp [pq, tQ])
  unfold fnF
  rw [h2, h3, h4]
  simp [e1, e2, e3, typB, hb]
theorem TrM.ok {j : Nat} {ns : List ByteArray} {g : GL} {x : GE} {f : Fn} (hG : GoodF ρ j ns g x) (h : TrM ρ g x f) : fnF f = 0 := by
  obtain ⟨h1, h2, h3, h4, h5⟩ := h
  obtain ⟨⟨a1, a2, a3, a4⟩, b, -⟩ := hG
  have hb := TrL.ok _ _ 40 h5 (GL.okR_app _ _ a1 ⟨a2, trivial⟩) b
  have e1 : nameB f.name = true := by rw [h1]; decide
  unfold fnF
  rw [h2, h3, h4]
  simp [e1, typB, hb]
end
/-- A made script, with any names of variables: it is read, it is well formed, its names and types are right. -/
theorem GScript.right {N : Nat} {t : ByteArray} (h : GScript N t) : ∃ (k : Nat) (fs : List (GL × GE)) (g : GL) (x : GE), k ≤ 2 ∧ fs.length = k ∧ t.data.toList = pcsT (scriptW fs g x) ∧ PcsOK (scriptW fs g x) ∧
    ∀ ρ : ByteArray → ByteArray, (∀ s t, ρ s = ρ t → s = t) → NsR ρ pq → NewR ρ → (∀ q p, fs[q]? = some p → GoodF ρ q pq p.1 p.2) ∧ GoodF ρ k [] g x ∧ ∀ (ws : List Wd) (en : Nat), AtP ws 0 (scriptR ρ fs g x) → ∃ l f, TrFs ρ 0 fs l ∧ TrM ρ g x f ∧ Du ws en 0 (.fns (l ++ [f])) ∧ unitF (l ++ [f]) = 0 ∧ unitT (l ++ [f]) = (0, 0) := by
  obtain ⟨k, fs, g, x, i0, m1, i1, m2, i2, i3, h0, hf, hg, hx, ht, hok⟩ := h.pieces
  obtain ⟨_, _, _, _, _, _, _, _, _, _, hN, _⟩ := h
  have hk : k ≤ 2 := by have := h0.1; omega
  have hi := h0.le
  have hlen := hf.len
  refine ⟨k, fs, g, x, hk, hlen, ht, hok, fun ρ hρ hp hv => ?_⟩
  have hF := hf.good hv hp hN hk hi.2.1
  have a1 := hf.mono hk hi.2.1
  have hb := (Blk.bound (low := k) hk 3 _ _ _ hg).1 (by intro s hs; simp at hs) (by simp only; have : mkB 3 = 777 := rfl; omega)
  have hm := hb.2.1
  simp only at hm
  have : mkB 3 = 777 := rfl
  have hM : GoodF ρ k [] g x := goodF (d := 3) hv hk (by decide) hN a1.2.2.1 (by omega) (by intro s hs; cases hs) hg hx
  refine ⟨hF, hM, fun ws en hat => ?_⟩
  obtain ⟨l, f, hL, hTM, hD⟩ := script_d (en := en) (hp tP (by simp [pq, tP])) (hp tQ (by simp [pq, tQ])) (by omega) (fun p hp' => by
    obtain ⟨q, hq⟩ := List.mem_iff_getElem?.1 hp'
    exact (hF q p hq).1) hM.1.1 hM.1.2.1 hM.1.2.2.1 hM.1.2.2.2 hat
  have hnd : ((l ++ [f]).map Fn.name).Nodup := by
    rw [List.map_append, List.nodup_append]
    refine ⟨hL.nodup, by simp, fun a ha b hb => ?_⟩
    obtain ⟨f', hf', rfl⟩ := List.mem_map.1 ha
    obtain ⟨q, p, _, h2⟩ := hL.at f' hf'
    simp only [List.map_cons, List.map_nil, List.mem_cons, List.mem_nil_iff, or_false] at hb
    subst hb
    intro e
    exact fN_main (0 + q) ((show f'.name = fN (0 + q) from h2.1).symm.trans (e.trans hTM.1))
  have hU : ∀ j, j ≤ k → FunsG (l ++ [f]) j := by
    intro j hj q hq
    obtain ⟨f', h1, h2, h3, h4⟩ := hL.get q (by omega)
    refine ⟨f', ?_, h3, h4⟩
    have := findF_in hnd (List.mem_append_left _ h1)
    rw [h2, Nat.zero_add] at this
    exact this
  have hUF : unitF (l ++ [f]) = 0 := by
    unfold unitF
    rw [if_neg (by simp only [List.length_append, List.length_cons, List.length_nil]; rw [hL.len]; omega)]
    refine fnsF_all _ fun f' hf' => ?_
    rcases List.mem_append.1 hf' with h | h
    · obtain ⟨q, p, h1, h2⟩ := hL.at f' h
      have hq := (List.getElem?_eq_some_iff.1 h1).1
      rw [Nat.zero_add] at h2
      exact h2.ok (by omega) hp (hF q p h1)
    · simp at h; subst h; exact hTM.ok hM
  refine ⟨l, f, hL, hTM, hD, hUF, ?_⟩
  unfold unitT
  rw [if_neg (by rw [hUF]; decide), dupF_none _ _ hnd (fun _ _ h => by cases h)]
  simp only
  rw [if_neg]
  · rw [fnsT_all]
    intro f' hf'
    rcases List.mem_append.1 hf' with h | h
    · obtain ⟨q, p, h1, h2⟩ := hL.at f' h
      have hq := (List.getElem?_eq_some_iff.1 h1).1
      rw [Nat.zero_add] at h2
      exact h2.typ hρ (hU q (by omega)) (hF q p h1)
    · simp at h; subst h; exact hTM.typ hρ (hU k (Nat.le_refl _)) hM
  · have e1 : isMain f = true := by
      obtain ⟨h1, h2, _, h4, _⟩ := hTM
      unfold isMain
      rw [h1, h2, h4]
      decide
    simp [List.any_append, e1]
end Go.Proofs.YtmngofgminlloaaGreatDoor

namespace Go.Proofs.YtmngofgminlloaaGreatDoor
open Go.RowKit Tw

/-- The words of pieces: kinds and bytes. -/
def ktB : List Pc → List (Nat × Bs)
  | [] => []
  | .sp _ :: l => ktB l
  | .w c t :: l => (c, t) :: ktB l
theorem ktB_app : ∀ (a b : List Pc), ktB (a ++ b) = ktB a ++ ktB b
  | [], _ => rfl
  | .sp _ :: a, b => ktB_app a b
  | .w c t :: a, b => congrArg (List.cons (c, t)) (ktB_app a b)
theorem ktP_B : ∀ l : List Pc, ktP l = (ktB l).map fun x => (x.1, ⟨x.2.toArray⟩)
  | [] => rfl
  | .sp _ :: l => ktP_B l
  | .w c t :: l => congrArg (List.cons (c, (⟨t.toArray⟩ : ByteArray))) (ktP_B l)
def zB : Bs := [122, 95]
def zN (s : ByteArray) : ByteArray := ⟨#[122, 95]⟩ ++ s
theorem zN_l (s : ByteArray) : (zN s).data.toList = zB ++ s.data.toList := app_l _ _
def funB : Bs := [102, 117, 110]
def HdW (r : List (Nat × Bs)) : Prop := r.head?.map Prod.snd ≠ some [40]
instance (r : List (Nat × Bs)) : Decidable (HdW r) := inferInstanceAs (Decidable (_ ≠ _))
/-- The law's words: a name that is no function's has another name; b: the word ahead is 'fun'. -/
def rn : Bool → List (Nat × Bs) → List (Nat × Bs)
  | _, [] => []
  | b, (k, t) :: r => (k, if k = 2 ∧ b = false ∧ HdW r then zB ++ t else t) :: rn (t == funB) r
theorem hd4 {k : Nat} {t : Bs} {r : List (Nat × Bs)} (h : (t == [40]) = false) : HdW ((k, t) :: r) := by
  intro e
  simp at e
  subst e
  cases h
theorem rn_nil {b : Bool} : rn b [] = [] := rfl
theorem rn_other {k : Nat} {t : Bs} {r : List (Nat × Bs)} {b : Bool} (hk : (k == 2) = false) (ht : (t == funB) = false) : rn b ((k, t) :: r) = (k, t) :: rn false r := by
  have : k ≠ 2 := by simpa using hk
  simp [rn, this, ht]
theorem rn_var {t : Bs} {r : List (Nat × Bs)} (ht : (t == funB) = false) (hr : HdW r) : rn false ((2, t) :: r) = (2, zB ++ t) :: rn false r := by
  simp [rn, hr, ht]
theorem rn_fn {t : Bs} {r : List (Nat × Bs)} {b : Bool} (ht : (t == funB) = false) : rn b ((2, t) :: (4, [40]) :: r) = (2, t) :: (4, [40]) :: rn false r := by
  have h : ¬ HdW ((4, [40]) :: r) := fun h => h rfl
  rw [rn, if_neg (fun h' => h h'.2.2), rn_other rfl (by decide)]
theorem rn_fun {t : Bs} {r : List (Nat × Bs)} {b : Bool} (ht : (t == funB) = false) : rn b ((3, funB) :: (2, t) :: r) = (3, funB) :: (2, t) :: rn false r := by
  simp [rn, ht]
theorem name_nf {t : Bs} (h : isName t = true) : (t == funB) = false := by
  cases e : t == funB with
  | false => rfl
  | true => rw [eq_of_beq e] at h; revert h; decide
theorem num_nf (n : Nat) : (numL n == funB) = false := by
  cases e : numL n == funB with
  | false => rfl
  | true =>
    have h := name_num (c := 118) (by decide) n
    have e' := eq_of_beq e
    have hd : ∀ c ∈ numL n, isD c = true := numL_D n
    rw [e'] at hd
    exact absurd (hd 102 (by simp [funB])) (by decide)
theorem f_nf {n : Nat} (h : n < 100) : (fL n == funB) = false := name_nf (name_num (c := 102) (by decide) n (by omega))
theorem bin_nf (o : Nat) : (binL o == funB) = false := by rcases o with _ | _ | _ | _ | _ <;> rfl
theorem bin_nh (o : Nat) : (binL o == [40]) = false := by rcases o with _ | _ | _ | _ | _ <;> rfl
theorem cmp_nf (o : Nat) : (cmpL o == funB) = false := by rcases o with _ | _ | _ | _ | _ | _ <;> rfl
theorem cmp_nh (o : Nat) : (cmpL o == [40]) = false := by rcases o with _ | _ | _ | _ | _ | _ <;> rfl
theorem tf_nf (o : Nat) : (tfL o == funB) = false := by rcases o with _ | _ <;> rfl
theorem GE.rn : ∀ (x : GE), x.okW → ∀ r, HdW r → rn false (ktB x.pcs ++ r) = ktB (x.ren zN).pcs ++ Go.Proofs.YtmngofgminlloaaGreatDoor.rn false r := by
  intro x
  induction x with
  | var s =>
    intro h r hr
    simp only [GE.pcs, GE.ren, ktB, List.cons_append, List.nil_append, zN_l]
    exact rn_var (name_nf h) hr
  | lit n =>
    intro h r hr
    simp only [GE.pcs, GE.ren, ktB, List.cons_append, List.nil_append]
    exact rn_other rfl (num_nf n)
  | neg x ih =>
    intro h r hr
    have ih := ih h
    simp (disch := first | assumption | decide | exact rfl | (apply hd4; decide)) only [GE.pcs, GE.ren, ktB, ktB_app, List.append_assoc, List.cons_append, List.nil_append, rn_other, ih]
  | call f x y ihx ihy =>
    intro h r hr
    have ihx := ihx h.2.1; have ihy := ihy h.2.2
    have hf := f_nf h.1
    simp (disch := first | assumption | decide | exact rfl | (apply hd4; decide)) only [GE.pcs, GE.ren, ktB, ktB_app, List.append_assoc, List.cons_append, List.nil_append, rn_fn, rn_other, ihx, ihy]
  | host k x ih =>
    intro h r hr
    have ih := ih h.2
    have hk := num_nf k
    simp (disch := first | assumption | decide | exact rfl | (apply hd4; decide)) only [GE.pcs, GE.ren, ktB, ktB_app, List.append_assoc, List.cons_append, List.nil_append, rn_other, ih]
  | bin o x y ihx ihy =>
    intro h r hr
    have ihx := ihx h.1; have ihy := ihy h.2
    have ho := bin_nf o
    simp (disch := first | assumption | decide | exact rfl | (apply hd4; decide) | (apply hd4; exact bin_nh _)) only [GE.pcs, GE.ren, ktB, ktB_app, List.append_assoc, List.cons_append, List.nil_append, rn_other, ihx, ihy]
  | not x ih =>
    intro h r hr
    have ih := ih h
    simp (disch := first | assumption | decide | exact rfl | (apply hd4; decide)) only [GE.pcs, GE.ren, ktB, ktB_app, List.append_assoc, List.cons_append, List.nil_append, rn_other, ih]
  | and x y ihx ihy =>
    intro h r hr
    have ihx := ihx h.1; have ihy := ihy h.2
    simp (disch := first | assumption | decide | exact rfl | (apply hd4; decide)) only [GE.pcs, GE.ren, ktB, ktB_app, List.append_assoc, List.cons_append, List.nil_append, rn_other, ihx, ihy]
  | or x y ihx ihy =>
    intro h r hr
    have ihx := ihx h.1; have ihy := ihy h.2
    simp (disch := first | assumption | decide | exact rfl | (apply hd4; decide)) only [GE.pcs, GE.ren, ktB, ktB_app, List.append_assoc, List.cons_append, List.nil_append, rn_other, ihx, ihy]
  | tf k =>
    intro h r hr
    simp only [GE.pcs, GE.ren, ktB, List.cons_append, List.nil_append]
    exact rn_other rfl (tf_nf k)
  | cmp o x y ihx ihy =>
    intro h r hr
    have ihx := ihx h.1; have ihy := ihy h.2
    have ho := cmp_nf o
    simp (disch := first | assumption | decide | exact rfl | (apply hd4; decide) | (apply hd4; exact cmp_nh _)) only [GE.pcs, GE.ren, ktB, ktB_app, List.append_assoc, List.cons_append, List.nil_append, rn_other, ihx, ihy]
end Go.Proofs.YtmngofgminlloaaGreatDoor

namespace Go.Proofs.YtmngofgminlloaaGreatDoor
open Go.RowKit Tw

theorem GE.rnid (x : GE) (h : (x.ren id).okW) : ∀ r, HdW r → Go.Proofs.YtmngofgminlloaaGreatDoor.rn false (ktB (x.ren id).pcs ++ r) = ktB (x.ren zN).pcs ++ Go.Proofs.YtmngofgminlloaaGreatDoor.rn false r := by
  rw [GE.ren_id] at h ⊢
  exact x.rn h
theorem GL.rn : ∀ (g : GL), g.okR id → ∀ r, Go.Proofs.YtmngofgminlloaaGreatDoor.rn false (ktB (g.pcsR id) ++ r) = ktB (g.pcsR zN) ++ Go.Proofs.YtmngofgminlloaaGreatDoor.rn false r := by
  intro g
  induction g with
  | nil => intro _ r; rfl
  | set s x r ih =>
    intro h q
    have h1 := name_nf h.1
    have h2 := x.rnid h.2.1
    have ih := ih h.2.2
    simp (disch := first | assumption | decide | exact rfl | (apply hd4; decide)) only [GL.pcsR, ktB, ktB_app, zN_l, List.append_assoc, List.cons_append, List.nil_append, rn_var, rn_other, h2, ih]
    rfl
  | yield x r ih =>
    intro h q
    have h2 := x.rnid h.1
    have ih := ih h.2
    simp (disch := first | assumption | decide | exact rfl | (apply hd4; decide)) only [GL.pcsR, ktB, ktB_app, zN_l, List.append_assoc, List.cons_append, List.nil_append, rn_var, rn_other, h2, ih]
  | ite c a b r iha ihb ih =>
    intro h q
    have h2 := c.rnid h.1
    have iha := iha h.2.1; have ihb := ihb h.2.2.1; have ih := ih h.2.2.2
    simp (disch := first | assumption | decide | exact rfl | (apply hd4; decide)) only [GL.pcsR, ktB, ktB_app, zN_l, List.append_assoc, List.cons_append, List.nil_append, rn_var, rn_other, h2, iha, ihb, ih]
  | loop i n l r ihl ih =>
    intro h q
    have h1 := name_nf h.1
    have h2 := num_nf n
    have ihl := ihl h.2.2.1; have ih := ih h.2.2.2
    simp (disch := first | assumption | decide | exact rfl | (apply hd4; decide)) only [GL.pcsR, ktB, ktB_app, zN_l, List.append_assoc, List.cons_append, List.nil_append, rn_var, rn_other, ihl, ih]
    rfl
  | run x r ih =>
    intro h q
    have h2 := x.rnid h.1
    have ih := ih h.2
    simp (disch := first | assumption | decide | exact rfl | (apply hd4; decide)) only [GL.pcsR, ktB, ktB_app, zN_l, List.append_assoc, List.cons_append, List.nil_append, rn_var, rn_other, h2, ih]
  | ret x r ih =>
    intro h q
    have h2 := x.rnid h.1
    have ih := ih h.2
    simp (disch := first | assumption | decide | exact rfl | (apply hd4; decide)) only [GL.pcsR, ktB, ktB_app, zN_l, List.append_assoc, List.cons_append, List.nil_append, rn_var, rn_other, h2, ih]
  | bind i x r ih =>
    intro h q
    have h1 := name_nf h.1
    have h2 := x.rnid h.2.1
    have ih := ih h.2.2
    simp (disch := first | assumption | decide | exact rfl | (apply hd4; decide)) only [GL.pcsR, ktB, ktB_app, zN_l, List.append_assoc, List.cons_append, List.nil_append, rn_var, rn_other, h2, ih]
    rfl
theorem funR_rn {j : Nat} {g : GL} {x : GE} (hj : j < 100) (hg : (bodyG g x).okR id) (r : List (Nat × Bs)) (b : Bool) : rn b (ktB (funR id j g x) ++ r) = ktB (funR zN j g x) ++ rn false r := by
  have hf := f_nf hj
  have h := (bodyG g x).rn hg
  have e : ([102, 117, 110] : Bs) = funB := rfl
  have eP : (id tP).data.toList = [112] := rfl
  have eQ : (id tQ).data.toList = [113] := rfl
  have zP : (zN tP).data.toList = zB ++ [112] := rfl
  have zQ : (zN tQ).data.toList = zB ++ [113] := rfl
  simp only [funR, eP, eQ, zP, zQ, e]
  simp (disch := first | assumption | decide | exact rfl | (apply hd4; decide)) only [ktB, ktB_app, List.append_assoc, List.cons_append, List.nil_append, rn_fun, rn_var, rn_other, h]
theorem mainR_rn {g : GL} {x : GE} (hg : (bodyG g x).okR id) (r : List (Nat × Bs)) (b : Bool) : rn b (ktB (mainR id g x) ++ r) = ktB (mainR zN g x) ++ rn false r := by
  have h := (bodyG g x).rn hg
  have e : ([102, 117, 110] : Bs) = funB := rfl
  simp only [mainR, e]
  simp (disch := first | assumption | decide | exact rfl | (apply hd4; decide)) only [ktB, ktB_app, List.append_assoc, List.cons_append, List.nil_append, rn_fun, rn_var, rn_other, h]
theorem funsR_rn : ∀ (fs : List (GL × GE)) (j : Nat), j + fs.length ≤ 100 → (∀ f ∈ fs, (bodyG f.1 f.2).okR id) → ∀ r, rn false (ktB (funsR id j fs) ++ r) = ktB (funsR zN j fs) ++ rn false r
  | [], _, _, _, _ => rfl
  | (g, x) :: fs, j, hl, h, r => by
    simp only [List.length_cons] at hl
    simp only [funsR, ktB_app, List.append_assoc]
    rw [funR_rn (by omega) (h (g, x) (List.mem_cons_self ..)), funsR_rn fs (j + 1) (by omega) (fun f hf => h f (List.mem_cons_of_mem _ hf))]
/-- The words of the script, renamed as the law does, are those of the script with other names. -/
theorem scriptR_rn {fs : List (GL × GE)} {g : GL} {x : GE} (hl : fs.length ≤ 100) (h : ∀ f ∈ fs, (bodyG f.1 f.2).okR id) (hg : (bodyG g x).okR id) : rn false (ktB (scriptR id fs g x)) = ktB (scriptR zN fs g x) := by
  have := mainR_rn hg [] false
  rw [rn_nil, List.append_nil, List.append_nil] at this
  rw [scriptR, scriptR, ktB_app, ktB_app, funsR_rn fs 0 (by omega) h, this]
end Go.Proofs.YtmngofgminlloaaGreatDoor

namespace Go.Proofs.YtmngofgminlloaaGreatDoor
open Go.RowKit Tw

/-- A word that stands before a blank is taken as it is. -/
def TokB (x : Nat × Bs) : Prop := (∀ l, Tw.tok (x.2 ++ 32 :: l) = .word x.1 x.2.length) ∧ 0 < x.2.length
def AllT (l : List (Nat × Bs)) : Prop := ∀ x ∈ l, TokB x
theorem allT_nil : AllT [] ↔ True := ⟨fun _ => trivial, fun _ x h => by cases h⟩
theorem allT_cons {x : Nat × Bs} {l : List (Nat × Bs)} : AllT (x :: l) ↔ TokB x ∧ AllT l := by
  constructor
  · intro h; exact ⟨h x (List.mem_cons_self ..), fun y hy => h y (List.mem_cons_of_mem _ hy)⟩
  · rintro ⟨h1, h2⟩ y hy
    rcases List.mem_cons.1 hy with rfl | hy
    · exact h1
    · exact h2 y hy
theorem allT_app {a b : List (Nat × Bs)} : AllT (a ++ b) ↔ AllT a ∧ AllT b := by
  constructor
  · intro h; exact ⟨fun x hx => h x (List.mem_append_left _ hx), fun x hx => h x (List.mem_append_right _ hx)⟩
  · rintro ⟨h1, h2⟩ x hx
    rcases List.mem_append.1 hx with h | h
    · exact h1 x h
    · exact h2 x h
theorem notA_b (l : Bs) : NotA (32 :: l) := by intro c hc; simp at hc; subst hc; decide
theorem tb_name {t : Bs} (h : isName t = true) : TokB (2, t) := ⟨fun l => tok_name h (notA_b l), by simp only [isName, Bool.and_eq_true, decide_eq_true_eq] at h; simp only; omega⟩
theorem tb_num {n : Nat} (h : n < 100) : TokB (1, numL n) := ⟨fun l => tok_numeral (num_num n h) (numL_ne n) (notA_b l), List.length_pos_iff.2 (numL_ne n)⟩
theorem tb_key {t : Bs} (h : t ∈ keyTexts) : TokB (3, t) := ⟨fun l => tok_key h (notA_b l), by
  have hs : ∀ w ∈ keyTexts, 0 < w.length := by decide
  exact hs t h⟩
theorem tb_one {c : UInt8} (h : c ∈ ([40, 41, 123, 125, 44, 59, 58, 64, 43, 45, 42, 47, 37] : Bs)) : TokB (4, [c]) := ⟨fun l => tok_one h, by simp⟩
theorem tb_two {t : Bs} (h : t ∈ sign2) : TokB (4, t) := by
  have hs : ∀ w ∈ sign2, w.length = 2 := by decide
  exact ⟨fun l => by rw [show (4, t).2.length = 2 from hs t h]; exact tok_two h, by rw [show (4, t).2.length = 2 from hs t h]; decide⟩
theorem tb_cmp {c : UInt8} (h : c ∈ ([60, 62, 61, 33] : Bs)) : TokB (4, [c]) := ⟨fun l => tok_cmp h (.inl rfl), by simp⟩
theorem tb_bin (o : Nat) : TokB (4, binL o) := by obtain ⟨c, e, h⟩ := bin_sign o; rw [e]; exact tb_one h
theorem tb_cmpL (o : Nat) : TokB (4, cmpL o) := by unfold cmpL; split <;> first | exact tb_cmp (by decide) | exact tb_two (by decide)
theorem tb_tf (k : Nat) : TokB (3, tfL k) := tb_key (tf_key k)
theorem tb_f {n : Nat} (h : n < 100) : TokB (2, fL n) := tb_name (name_num (c := 102) (by decide) n (by omega))
theorem tb_0 : TokB (1, [48]) := ⟨fun l => tok_numeral (by decide) (by decide) (notA_b l), by decide⟩
theorem tb_1 : TokB (1, [49]) := ⟨fun l => tok_numeral (by decide) (by decide) (notA_b l), by decide⟩
theorem tb_main : TokB (2, [109, 97, 105, 110]) := tb_name (by decide)
theorem GE.allT : ∀ (x : GE), x.okW → AllT (ktB x.pcs) := by
  intro x
  induction x with
  | var s => intro h; simp only [GE.pcs, ktB, allT_cons, allT_nil, and_true]; exact tb_name h
  | lit n => intro h; simp only [GE.pcs, ktB, allT_cons, allT_nil, and_true]; exact tb_num h
  | neg x ih =>
    intro h
    simp only [GE.pcs, ktB, ktB_app, allT_cons, allT_app, allT_nil, and_true, List.cons_append, List.nil_append, List.append_assoc]
    exact ⟨tb_one (by decide), tb_one (by decide), ih h, tb_one (by decide)⟩
  | call f x y ihx ihy =>
    intro h
    simp only [GE.pcs, ktB, ktB_app, allT_cons, allT_app, allT_nil, and_true, List.cons_append, List.nil_append, List.append_assoc]
    exact ⟨tb_f h.1, tb_one (by decide), ihx h.2.1, tb_one (by decide), ihy h.2.2, tb_one (by decide)⟩
  | host k x ih =>
    intro h
    simp only [GE.pcs, ktB, ktB_app, allT_cons, allT_app, allT_nil, and_true, List.cons_append, List.nil_append, List.append_assoc]
    exact ⟨tb_one (by decide), tb_num h.1, tb_one (by decide), ih h.2, tb_one (by decide)⟩
  | bin o x y ihx ihy =>
    intro h
    simp only [GE.pcs, ktB, ktB_app, allT_cons, allT_app, allT_nil, and_true, List.cons_append, List.nil_append, List.append_assoc]
    exact ⟨tb_one (by decide), ihx h.1, tb_bin o, ihy h.2, tb_one (by decide)⟩
  | not x ih =>
    intro h
    simp only [GE.pcs, ktB, ktB_app, allT_cons, allT_app, allT_nil, and_true, List.cons_append, List.nil_append, List.append_assoc]
    exact ⟨tb_cmp (by decide), tb_one (by decide), ih h, tb_one (by decide)⟩
  | and x y ihx ihy =>
    intro h
    simp only [GE.pcs, ktB, ktB_app, allT_cons, allT_app, allT_nil, and_true, List.cons_append, List.nil_append, List.append_assoc]
    exact ⟨tb_one (by decide), ihx h.1, tb_two (by decide), ihy h.2, tb_one (by decide)⟩
  | or x y ihx ihy =>
    intro h
    simp only [GE.pcs, ktB, ktB_app, allT_cons, allT_app, allT_nil, and_true, List.cons_append, List.nil_append, List.append_assoc]
    exact ⟨tb_one (by decide), ihx h.1, tb_two (by decide), ihy h.2, tb_one (by decide)⟩
  | tf k => intro _; simp only [GE.pcs, ktB, allT_cons, allT_nil, and_true]; exact tb_tf k
  | cmp o x y ihx ihy =>
    intro h
    simp only [GE.pcs, ktB, ktB_app, allT_cons, allT_app, allT_nil, and_true, List.cons_append, List.nil_append, List.append_assoc]
    exact ⟨ihx h.1, tb_cmpL o, ihy h.2⟩
section
variable {ρ : ByteArray → ByteArray}
theorem GL.allT : ∀ (g : GL), g.okR ρ → AllT (ktB (g.pcsR ρ)) := by
  intro g
  induction g with
  | nil => intro _; exact allT_nil.2 trivial
  | set s x r ih =>
    intro h
    simp only [GL.pcsR, ktB, ktB_app, allT_cons, allT_app, allT_nil, and_true, List.cons_append, List.nil_append, List.append_assoc]
    exact ⟨tb_name h.1, tb_cmp (by decide), GE.allT _ h.2.1, tb_one (by decide), ih h.2.2⟩
  | yield x r ih =>
    intro h
    simp only [GL.pcsR, ktB, ktB_app, allT_cons, allT_app, allT_nil, and_true, List.cons_append, List.nil_append, List.append_assoc]
    exact ⟨tb_key (by decide), GE.allT _ h.1, tb_one (by decide), ih h.2⟩
  | ite c a b r iha ihb ih =>
    intro h
    simp only [GL.pcsR, ktB, ktB_app, allT_cons, allT_app, allT_nil, and_true, List.cons_append, List.nil_append, List.append_assoc]
    exact ⟨tb_key (by decide), GE.allT _ h.1, tb_one (by decide), iha h.2.1, tb_one (by decide), tb_key (by decide), tb_one (by decide), ihb h.2.2.1, tb_one (by decide), ih h.2.2.2⟩
  | loop i n l r ihl ih =>
    intro h
    simp only [GL.pcsR, ktB, ktB_app, allT_cons, allT_app, allT_nil, and_true, List.cons_append, List.nil_append, List.append_assoc]
    have hi := tb_name h.1
    exact ⟨tb_key (by decide), hi, tb_cmp (by decide), tb_0, tb_one (by decide), tb_key (by decide), hi, tb_cmp (by decide), tb_num h.2.1, tb_one (by decide), ihl h.2.2.1, hi, tb_cmp (by decide), hi, tb_one (by decide), tb_1, tb_one (by decide), tb_one (by decide), ih h.2.2.2⟩
  | run x r ih =>
    intro h
    simp only [GL.pcsR, ktB, ktB_app, allT_cons, allT_app, allT_nil, and_true, List.cons_append, List.nil_append, List.append_assoc]
    exact ⟨GE.allT _ h.1, tb_one (by decide), ih h.2⟩
  | ret x r ih =>
    intro h
    simp only [GL.pcsR, ktB, ktB_app, allT_cons, allT_app, allT_nil, and_true, List.cons_append, List.nil_append, List.append_assoc]
    exact ⟨tb_key (by decide), GE.allT _ h.1, tb_one (by decide), ih h.2⟩
  | bind i x r ih =>
    intro h
    simp only [GL.pcsR, ktB, ktB_app, allT_cons, allT_app, allT_nil, and_true, List.cons_append, List.nil_append, List.append_assoc]
    exact ⟨tb_key (by decide), tb_name h.1, tb_cmp (by decide), GE.allT _ h.2.1, tb_one (by decide), ih h.2.2⟩
theorem funR_allT {j : Nat} {g : GL} {x : GE} (hj : j < 100) (hP : isName (ρ tP).data.toList = true) (hQ : isName (ρ tQ).data.toList = true) (hg : (bodyG g x).okR ρ) : AllT (ktB (funR ρ j g x)) := by
  have h := (bodyG g x).allT hg
  have k1 : TokB (3, [105, 110, 116]) := tb_key (by decide)
  have k2 : TokB (3, [102, 117, 110]) := tb_key (by decide)
  have o1 : TokB (4, [40]) := tb_one (by decide)
  have o2 : TokB (4, [41]) := tb_one (by decide)
  have o3 : TokB (4, [58]) := tb_one (by decide)
  have o4 : TokB (4, [44]) := tb_one (by decide)
  have o5 : TokB (4, [123]) := tb_one (by decide)
  have o6 : TokB (4, [125]) := tb_one (by decide)
  have p1 := tb_name hP; have p2 := tb_name hQ; have p3 := tb_f hj
  simp only [funR, ktB, ktB_app, allT_cons, allT_app, allT_nil, and_true, true_and, List.cons_append, List.nil_append, List.append_assoc, *]
theorem mainR_allT {g : GL} {x : GE} (hg : (bodyG g x).okR ρ) : AllT (ktB (mainR ρ g x)) := by
  have h := (bodyG g x).allT hg
  have k1 : TokB (3, [105, 110, 116]) := tb_key (by decide)
  have k2 : TokB (3, [102, 117, 110]) := tb_key (by decide)
  have o1 : TokB (4, [40]) := tb_one (by decide)
  have o2 : TokB (4, [41]) := tb_one (by decide)
  have o3 : TokB (4, [58]) := tb_one (by decide)
  have o5 : TokB (4, [123]) := tb_one (by decide)
  have o6 : TokB (4, [125]) := tb_one (by decide)
  have p1 := tb_main
  simp only [mainR, ktB, ktB_app, allT_cons, allT_app, allT_nil, and_true, true_and, List.cons_append, List.nil_append, List.append_assoc, *]
theorem funsR_allT (hP : isName (ρ tP).data.toList = true) (hQ : isName (ρ tQ).data.toList = true) : ∀ (fs : List (GL × GE)) (j : Nat), j + fs.length ≤ 100 → (∀ f ∈ fs, (bodyG f.1 f.2).okR ρ) → AllT (ktB (funsR ρ j fs))
  | [], _, _, _ => allT_nil.2 trivial
  | (g, x) :: fs, j, hl, h => by
    simp only [List.length_cons] at hl
    simp only [funsR, ktB_app, allT_app]
    exact ⟨funR_allT (by omega) hP hQ (h (g, x) (List.mem_cons_self ..)), funsR_allT hP hQ fs (j + 1) (by omega) fun f hf => h f (List.mem_cons_of_mem _ hf)⟩
theorem scriptR_allT {fs : List (GL × GE)} {g : GL} {x : GE} (hP : isName (ρ tP).data.toList = true) (hQ : isName (ρ tQ).data.toList = true) (hl : fs.length ≤ 100) (h : ∀ f ∈ fs, (bodyG f.1 f.2).okR ρ) (hg : (bodyG g x).okR ρ) : AllT (ktB (scriptR ρ fs g x)) := by
  rw [scriptR, ktB_app, allT_app]
  exact ⟨funsR_allT hP hQ fs 0 (by omega) h, mainR_allT hg⟩
end
/-- Words, each followed by a blank. -/
def pz (l : List (Nat × Bs)) : List Pc := l.flatMap fun x => [.w x.1 x.2, .sp 32]
theorem pz_cons (x : Nat × Bs) (l : List (Nat × Bs)) : pz (x :: l) = .w x.1 x.2 :: .sp 32 :: pz l := rfl
theorem ktB_pz : ∀ l : List (Nat × Bs), ktB (pz l) = l
  | [] => rfl
  | x :: l => by rw [pz_cons, ktB, ktB, ktB_pz l]
theorem pz_ok : ∀ l : List (Nat × Bs), AllT l → PcsOK (pz l)
  | [], _ => trivial
  | x :: l, h => by
    obtain ⟨h1, h2⟩ := allT_cons.1 h
    exact ⟨h1.1 _, h1.2, by decide, pz_ok l h2⟩
def txB (l : List (Nat × Bs)) : Bs := l.flatMap fun x => x.2 ++ [32]
theorem pz_txt : ∀ l : List (Nat × Bs), pcsT (pz l) = txB l
  | [] => rfl
  | x :: l => by
    rw [pz_cons, pcsT_cons, pcsT_cons, pz_txt l]
    simp [Pc.txt, txB]
/-- The words of the text of words, each followed by a blank. -/
theorem lex_tx {s : ByteArray} {l : List (Nat × Bs)} (h : AllT l) (hs : s.data.toList = txB l) : Lex s 0 [] (none, pcsW (pz l) 0) := by
  have := PcsOK.scan _ 0 (pz_ok l h)
  rw [pz_txt, ← hs] at this
  exact this.whole
end Go.Proofs.YtmngofgminlloaaGreatDoor

namespace Go.Proofs.YtmngofgminlloaaGreatDoor
open Go.RowKit Tw

theorem name_z {t : Bs} (h : isName t = true) (hl : t.length ≤ 14) : isName (zB ++ t) = true := by
  simp only [isName, Bool.and_eq_true, decide_eq_true_eq, Bool.not_eq_true', List.all_eq_true] at h ⊢
  obtain ⟨⟨⟨⟨h1, h2⟩, h3⟩, h4⟩, h5⟩ := h
  refine ⟨⟨⟨⟨by simp [zB], by simp [zB]; omega⟩, by simp [zB]; decide⟩, ?_⟩, ?_⟩
  · unfold isKey
    rw [← Bool.not_eq_true, List.contains_iff_mem]
    intro hm
    have h2 : keyTexts.all (fun w => w.headD 0 != 122) = true := by decide
    have h3 := List.all_eq_true.1 h2 _ hm
    simp [zB] at h3
  · intro x hx
    rcases List.mem_append.1 hx with hx | hx
    · have : zB.all isA = true := by decide
      exact List.all_eq_true.1 this x hx
    · exact h5 x hx
theorem zN_inj (s t : ByteArray) (h : zN s = zN t) : s = t := by
  have := congrArg (fun x => x.data.toList) h
  simp only [zN_l] at this
  have := List.append_cancel_left this
  exact ByteArray.ext (Array.toList_inj.1 this)
theorem zN_name {s : ByteArray} (h : isName s.data.toList = true) (hl : s.size ≤ 14) : isName (zN s).data.toList = true := by
  rw [zN_l]
  exact name_z h (by rw [Array.length_toList]; exact hl)
theorem zN_pq : NsR zN pq := by
  intro s hs
  simp only [pq, List.mem_cons, List.mem_nil_iff, or_false] at hs
  rcases hs with rfl | rfl <;> exact zN_name (by decide) (by decide)
theorem v_name {k : Nat} (hk : k ≤ 9998) : isName (vT k).data.toList = true ∧ isName (iT k).data.toList = true := by
  rw [vT_l, iT_l]
  exact ⟨name_num (c := 118) (by decide) k (by omega), name_num (c := 105) (by decide) k (by omega)⟩
theorem zN_new : NewR zN := fun k hk => ⟨zN_name (v_name hk).1 (by have := vT_le k hk; omega), zN_name (v_name hk).2 (by have := iT_le k hk; omega)⟩
theorem id_new : NewR id := fun _ hk => v_name hk
theorem id_pq : NsR id pq := pq_name
/-- Words: kinds and bytes. -/
def ktN (ws : List Wd) : List (Nat × Bs) := ws.map fun x => (x.kind, x.text.data.toList)
theorem ktN_pcsW : ∀ (l : List Pc) (k : Nat), ktN (pcsW l k) = ktB l
  | [], _ => rfl
  | .sp _ :: l, k => ktN_pcsW l (k + 1)
  | .w c t :: l, k => by
    simp only [pcsW, ktB]
    rw [← ktN_pcsW l (k + t.length)]
    rfl
theorem wres_lex {s : ByteArray} {ws : List Wd} (hs : s.size ≤ 4000) (h : Lex s 0 [] (none, ws)) : WRes s 0 0 ws := .inr ⟨hs, _, h, rfl, rfl, rfl⟩
theorem GoodF.body {ρ : ByteArray → ByteArray} {j : Nat} {ns : List ByteArray} {g : GL} {x : GE} (h : GoodF ρ j ns g x) : (bodyG g x).okR ρ := GL.okR_app _ _ h.1.1 ⟨h.1.2.1, trivial⟩
/-- What is known of a text that is a right script. -/
def Right (s : ByteArray) (ws : List Wd) : Prop := WRes s 0 0 ws ∧ ∃ m, Du ws s.size 0 (.fns m) ∧ m ≠ [] ∧ unitF m = 0 ∧ unitT m = (0, 0)
theorem GScript.names {N : Nat} {t : ByteArray} (h : GScript N t) : ∃ ws, Right t ws ∧ ∀ s : ByteArray, s.size ≤ 4000 → s.data.toList = txB (rn false (ktN ws)) → ∃ ws', Right s ws' := by
  have hsz := h.short
  obtain ⟨k, fs, g, x, hk, hlen, ht, hok, hall⟩ := h.right
  obtain ⟨hF, hM, hD⟩ := hall id (fun _ _ h => h) id_pq id_new
  obtain ⟨hFz, hMz, hDz⟩ := hall zN zN_inj zN_pq zN_new
  have hL : Lex t 0 [] (none, pcsW (scriptW fs g x) 0) := by
    have := PcsOK.scan _ 0 hok
    rw [← ht] at this
    exact this.whole
  have hb : ∀ (ρ : ByteArray → ByteArray), (∀ q p, fs[q]? = some p → GoodF ρ q pq p.1 p.2) → ∀ f ∈ fs, (bodyG f.1 f.2).okR ρ := by
    intro ρ hG f hf
    obtain ⟨q, hq⟩ := List.mem_iff_getElem?.1 hf
    exact (hG q f hq).body
  refine ⟨pcsW (scriptW fs g x) 0, ⟨wres_lex hsz hL, ?_⟩, fun s hs htx => ?_⟩
  · have hat : AtP (pcsW (scriptW fs g x) 0) 0 (scriptR id fs g x) := by rw [scriptR_id]; exact AtP.start _ _
    obtain ⟨l, f, _, _, h1, h2, h3⟩ := hD _ t.size hat
    exact ⟨l ++ [f], h1, by simp, h2, h3⟩
  · rw [ktN_pcsW, ← scriptR_id, scriptR_rn (by omega) (hb id hF) hM.body] at htx
    have hA := scriptR_allT (ρ := zN) (zN_pq _ (by simp [pq, tP])) (zN_pq _ (by simp [pq, tQ])) (fs := fs) (g := g) (x := x) (by omega) (hb zN hFz) hMz.body
    refine ⟨_, wres_lex hs (lex_tx hA htx), ?_⟩
    have hat : AtP (pcsW (pz (ktB (scriptR zN fs g x))) 0) 0 (scriptR zN fs g x) := by
      have := AtP.start (pz (ktB (scriptR zN fs g x))) 0
      unfold AtP at this ⊢
      rw [this, ktP_B, ktP_B, ktB_pz]
    obtain ⟨l, f, _, _, h1, h2, h3⟩ := hDz _ s.size hat
    exact ⟨l ++ [f], h1, by simp, h2, h3⟩
end Go.Proofs.YtmngofgminlloaaGreatDoor
