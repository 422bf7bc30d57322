/-
  The derivations of made expressions. No program in sight.
  Made statements with any names of variables: their pieces, their trees. No program in sight.
  The derivations of made statements. No program in sight.
  Made scripts are words. No program in sight.
  The scanner takes a made script whole: its words are those of its pieces. No program in sight.
-/
import Derived.Test.YtmngofgminlloaaGreatDoorTN15
import Derived.Test.YtmngofgminlloaaGreatDoorTN08
set_option linter.unusedSimpArgs false
set_option linter.unusedVariables false
namespace Go.Proofs.YtmngofgminlloaaGreatDoor
open Go.RowKit Tw

section
variable {ws : List Wd} {en : Nat}
/-- What stands behind an operand: no opening parenthesis, no operator of these levels. -/
theorem lv_sign (c : UInt8) (h : c ∈ ([41, 44, 59, 123] : Bs)) : lv [c] = 0 := by
  have : ∀ c ∈ ([41, 44, 59, 123] : Bs), lv [c] = 0 := by decide
  exact this c h
theorem bin_lv (o : Nat) : lv (binL o) = 4 ∨ lv (binL o) = 5 := by unfold binL; split <;> decide
theorem cmp_lv (o : Nat) : lv (cmpL o) = 3 := by unfold cmpL; split <;> decide
theorem is_no {i c k : Nat} {t : Bs} {s : Bs} (h : ws[i]? = some ⟨c, ⟨t.toArray⟩, k⟩) (hne : (t == s) = false) : isAt ws i ⟨s.toArray⟩ = false := by rw [at_is _ h, hne]
theorem is_yes {i c k : Nat} {t : Bs} (h : ws[i]? = some ⟨c, ⟨t.toArray⟩, k⟩) : isAt ws i ⟨t.toArray⟩ = true := by rw [at_is _ h]; simp
theorem AtP.skip : ∀ (a : List Pc) {b : List Pc} {i : Nat}, AtP ws i (a ++ b) → AtP ws (i + nW a) b
  | [], b, i, h => h
  | .sp _ :: l, b, i, h => AtP.skip l h.sp
  | .w _ _ :: l, b, i, h => by
    have := AtP.skip l h.w.2
    rw [show i + 1 + nW l = i + (nW l + 1) by omega] at this
    exact this
theorem numV_num (n : Nat) (h : n < 100) : numV ⟨(numL n).toArray⟩ = n := by
  have : ∀ n : Nat, n < 100 → numV ⟨(numL n).toArray⟩ = n := by decide +kernel
  exact this n h
/-- An expression in parentheses. -/
theorem par_d {x : Ex} {i j k k' c c' : Nat} (h0 : ws[i]? = some ⟨c, ⟨([40] : Bs).toArray⟩, k⟩) (h : De ws en (.lvl 1 (i + 1)) (.ex x j)) (h1 : ws[j]? = some ⟨c', ⟨([41] : Bs).toArray⟩, k'⟩) : De ws en (.one i) (.ex x (j + 1)) :=
  .par (by rw [at_head h0]; rfl) h (is_yes h1)
theorem name_no {t : Bs} (h : isName t = true) (c : UInt8) (hc : isL c = false) : (t == [c]) = false := by
  rw [beq_eq_false_iff_ne]
  rintro rfl
  simp [isName, hc] at h
theorem num_no (n : Nat) (c : UInt8) (hc : isD c = false) : (numL n == [c]) = false := by
  rw [beq_eq_false_iff_ne]
  intro e
  have := numL_D n c (e ▸ List.mem_cons_self ..)
  rw [hc] at this; cases this
/-- No expression begins with a closing parenthesis. -/
theorem GE.first (x : GE) : x.okW → ∀ (i : Nat) (rest : List Pc), AtP ws i (x.pcs ++ rest) → isAt ws i sClose = false := by
  induction x with
  | var s => intro hw i rest h; obtain ⟨⟨k, hk⟩, _⟩ := h.w; exact is_no (s := [41]) hk (name_no hw 41 (by decide))
  | lit n => intro hw i rest h; obtain ⟨⟨k, hk⟩, _⟩ := h.w; exact is_no (s := [41]) hk (num_no n 41 (by decide))
  | neg x _ => intro hw i rest h; simp only [GE.pcs, List.append_assoc, List.cons_append, List.nil_append] at h; obtain ⟨⟨k, hk⟩, _⟩ := h.w; exact is_no (s := [41]) hk (by decide)
  | call f x y _ _ => intro hw i rest h; simp only [GE.pcs, List.append_assoc, List.cons_append, List.nil_append] at h; obtain ⟨⟨k, hk⟩, _⟩ := h.w; exact is_no (s := [41]) hk (name_no (name_num (c := 102) (by decide) f (by have := hw.1; omega)) 41 (by decide))
  | host k x _ => intro hw i rest h; simp only [GE.pcs, List.append_assoc, List.cons_append, List.nil_append] at h; obtain ⟨⟨k, hk⟩, _⟩ := h.w; exact is_no (s := [41]) hk (by decide)
  | bin o x y _ _ => intro hw i rest h; simp only [GE.pcs, List.append_assoc, List.cons_append, List.nil_append] at h; obtain ⟨⟨k, hk⟩, _⟩ := h.w; exact is_no (s := [41]) hk (by decide)
  | not x _ => intro hw i rest h; simp only [GE.pcs, List.append_assoc, List.cons_append, List.nil_append] at h; obtain ⟨⟨k, hk⟩, _⟩ := h.w; exact is_no (s := [41]) hk (by decide)
  | and x y _ _ => intro hw i rest h; simp only [GE.pcs, List.append_assoc, List.cons_append, List.nil_append] at h; obtain ⟨⟨k, hk⟩, _⟩ := h.w; exact is_no (s := [41]) hk (by decide)
  | or x y _ _ => intro hw i rest h; simp only [GE.pcs, List.append_assoc, List.cons_append, List.nil_append] at h; obtain ⟨⟨k, hk⟩, _⟩ := h.w; exact is_no (s := [41]) hk (by decide)
  | tf k => intro hw i rest h; obtain ⟨⟨k', hk⟩, _⟩ := h.w; exact is_no (s := [41]) hk (by unfold tfL; split <;> decide)
  | cmp o x y ihx _ => intro hw i rest h; simp only [GE.pcs, List.append_assoc] at h; exact ihx hw.1 i _ h
theorem GE.derN (x : GE) : x.isN → x.okW → ∀ (i : Nat) (rest : List Pc), AtP ws i (x.pcs ++ rest) → isAt ws (i + nW x.pcs) sOpen = false →
    ∃ y, TrE x y ∧ De ws en (.one i) (.ex y (i + nW x.pcs)) := by
  induction x with
  | var s =>
    intro _ hw i rest h ho
    obtain ⟨⟨k, hk⟩, h1⟩ := h.w
    have hs : (⟨s.data.toList.toArray⟩ : ByteArray) = s := by cases s; simp
    refine ⟨.mk 3 0 s [] (posAt ws i en), .var, ?_⟩
    have := De.var (en := en) (by rw [at_head hk]; exact hq_name hw) ho
    rw [at_text hk, hs] at this
    exact this
  | lit n =>
    intro _ hw i rest h ho
    obtain ⟨⟨k, hk⟩, h1⟩ := h.w
    have hd := De.num (en := en) (i := i) (by rw [at_head hk]; exact hq_num n)
    rw [at_text hk, numV_num n hw] at hd
    exact ⟨.mk 1 (n : Int) sNone [] (posAt ws i en), .lit, hd⟩
  | neg x ih =>
    intro hN hw i rest h ho
    simp only [GE.pcs, List.append_assoc, List.cons_append, List.nil_append] at h
    obtain ⟨⟨k, hk⟩, h1⟩ := h.w
    obtain ⟨⟨k2, hk2⟩, h2⟩ := h1.w
    obtain ⟨⟨k3, hk3⟩, h3⟩ := (AtP.skip x.pcs h2).w
    have e : i + nW (GE.neg x).pcs = i + 1 + 1 + nW x.pcs + 1 := by simp only [GE.pcs, nW_app, nW, List.cons_append, List.nil_append]; omega
    obtain ⟨y, hy, hd⟩ := ih hN hw (i + 1 + 1) _ h2 (is_no (s := [40]) hk3 (by decide))
    rw [e]
    exact ⟨.mk 4 0 sNone [y] (posAt ws i en), .neg hy, .neg (by rw [at_head hk]; decide) (par_d hk2 (hd.up 1 (by decide) (fun m h1 h2 => by rw [at_lv hk3, lv_sign 41 (by decide)]; omega)) hk3)⟩
  | bin o x y ihx ihy =>
    intro hN hw i rest h ho
    simp only [GE.pcs, List.append_assoc, List.cons_append, List.nil_append] at h
    obtain ⟨⟨k, hk⟩, h1⟩ := h.w
    obtain ⟨⟨k2, hk2⟩, h2⟩ := (AtP.skip x.pcs h1).sp.w
    obtain ⟨⟨k3, hk3⟩, h3⟩ := (AtP.skip y.pcs h2.sp).w
    have e : i + nW (GE.bin o x y).pcs = i + 1 + nW x.pcs + 1 + nW y.pcs + 1 := by simp only [GE.pcs, nW_app, nW, List.cons_append, List.nil_append]; omega
    have hbo : (binL o == [40]) = false := by unfold binL; split <;> decide
    obtain ⟨a, ha, hda⟩ := ihx hN.1 hw.1 (i + 1) _ h1 (is_no (s := [40]) hk2 hbo)
    obtain ⟨b, hb, hdb⟩ := ihy hN.2 hw.2 (i + 1 + nW x.pcs + 1) _ h2.sp (is_no (s := [40]) hk3 (by decide))
    rw [e]
    have hlv := bin_lv o
    have hl2 := at_lv hk2
    have hl3 : lvAt ws (i + 1 + nW x.pcs + 1 + nW y.pcs) = 0 := by rw [at_lv hk3]; exact lv_sign 41 (by decide)
    refine ⟨twoEx ws en (i + 1 + nW x.pcs) a b, ?_, ?_⟩
    · unfold twoEx; rw [at_text hk2]; exact .bin ha hb
    · have h5 : De ws en (.lvl (lv (binL o)) (i + 1)) (.ex (twoEx ws en (i + 1 + nW x.pcs) a b) (i + 1 + nW x.pcs + 1 + nW y.pcs)) :=
        De.two (by omega) (by omega) (hda.up _ (by omega) (fun m h1 h2 => by rw [hl2]; omega)) hl2 (hdb.up _ (by omega) (fun m h1 h2 => by rw [hl3]; omega)) (by rw [hl3]; omega)
      exact par_d hk (h5.down (by omega) 1 (by omega) (fun m h1 h2 => by rw [hl3]; omega)) hk3
  | host k x ih =>
    intro hN hw i rest h ho
    simp only [GE.pcs, List.append_assoc, List.cons_append, List.nil_append] at h
    obtain ⟨⟨k1, hk1⟩, h1⟩ := h.w
    obtain ⟨⟨k2, hk2⟩, h2⟩ := h1.w
    obtain ⟨⟨k3, hk3⟩, h3⟩ := h2.w
    obtain ⟨⟨k4, hk4⟩, h4⟩ := (AtP.skip x.pcs h3).w
    have e : i + nW (GE.host k x).pcs = i + 1 + 1 + 1 + nW x.pcs + 1 := by simp only [GE.pcs, nW_app, nW, List.cons_append, List.nil_append]; omega
    obtain ⟨y, hy, hd⟩ := ih hN hw.2 (i + 1 + 1 + 1) _ h3 (is_no (s := [40]) hk4 (by decide))
    rw [e]
    have hd2 := De.host (en := en) (by rw [at_head hk1]; rfl) (at_kind hk2) (is_yes hk3)
      (.first (x.first hw.2 _ _ h3) (hd.up 1 (by decide) (fun m h1 h2 => by rw [at_lv hk4, lv_sign 41 (by decide)]; omega)) (.close (is_yes hk4)))
    rw [at_text hk2, numV_num k hw.1] at hd2
    exact ⟨.mk 8 (k : Int) sNone [y] (posAt ws i en), .host hy, hd2⟩
  | call f x y ihx ihy =>
    intro hN hw i rest h ho
    simp only [GE.pcs, List.append_assoc, List.cons_append, List.nil_append] at h
    obtain ⟨⟨k1, hk1⟩, h1⟩ := h.w
    obtain ⟨⟨k2, hk2⟩, h2⟩ := h1.w
    obtain ⟨⟨k3, hk3⟩, h3⟩ := (AtP.skip x.pcs h2).w
    obtain ⟨⟨k4, hk4⟩, h4⟩ := (AtP.skip y.pcs h3.sp).w
    have e : i + nW (GE.call f x y).pcs = i + 1 + 1 + nW x.pcs + 1 + nW y.pcs + 1 := by simp only [GE.pcs, nW_app, nW, List.cons_append, List.nil_append]; omega
    obtain ⟨a, ha, hda⟩ := ihx hN.1 hw.2.1 (i + 1 + 1) _ h2 (is_no (s := [40]) hk3 (by decide))
    obtain ⟨b, hb, hdb⟩ := ihy hN.2 hw.2.2 (i + 1 + 1 + nW x.pcs + 1) _ h3.sp (is_no (s := [40]) hk4 (by decide))
    rw [e]
    have hnm := name_num (c := 102) (by decide) f (by have := hw.1; omega)
    have := De.call (en := en) (l := [a, b]) (by rw [at_head hk1]; exact hq_name hnm) (is_yes hk2)
      (.first (x.first hw.2.1 _ _ h2) (hda.up 1 (by decide) (fun m h1 h2 => by rw [at_lv hk3, lv_sign 44 (by decide)]; omega))
        (.next (is_no (s := [41]) hk3 (by decide)) (is_yes hk3) (hdb.up 1 (by decide) (fun m h1 h2 => by rw [at_lv hk4, lv_sign 41 (by decide)]; omega)) (.close (is_yes hk4))))
    rw [at_text hk1] at this
    exact ⟨_, .call ha hb, this⟩
  | _ => intro hN; exact hN.elim
/-- The same of type bool: at level 3, where no operator of that level or higher follows. -/
theorem GE.derF (x : GE) : x.isF → x.okW → ∀ (i : Nat) (rest : List Pc), AtP ws i (x.pcs ++ rest) → isAt ws (i + nW x.pcs) sOpen = false → lvAt ws (i + nW x.pcs) ≤ 2 →
    ∃ y, TrE x y ∧ De ws en (.lvl 3 i) (.ex y (i + nW x.pcs)) := by
  induction x with
  | tf k =>
    intro _ hw i rest h ho hl
    obtain ⟨⟨k1, hk⟩, h1⟩ := h.w
    have hup : ∀ {y : Ex}, De ws en (.one i) (.ex y (i + 1)) → De ws en (.lvl 3 i) (.ex y (i + 1)) := fun hd => hd.up 3 (by decide) (fun m h1 h2 => by have : lvAt ws (i + 1) ≤ 2 := hl; omega)
    have hc : (k = 0 ∧ tfL k = [116, 114, 117, 101]) ∨ (k ≠ 0 ∧ tfL k = [102, 97, 108, 115, 101]) := by cases k <;> simp [tfL]
    rcases hc with ⟨h0, hc⟩ | ⟨h0, hc⟩
    · rw [hc] at hk
      have ht := TrE.tf (k := k) (p := posAt ws i en)
      rw [if_pos h0] at ht
      exact ⟨_, ht, hup (.tru (by rw [at_head hk]; rfl))⟩
    · rw [hc] at hk
      have ht := TrE.tf (k := k) (p := posAt ws i en)
      rw [if_neg h0] at ht
      exact ⟨_, ht, hup (.fls (by rw [at_head hk]; rfl))⟩
  | not x ih =>
    intro hN hw i rest h ho hl
    simp only [GE.pcs, List.append_assoc, List.cons_append, List.nil_append] at h
    obtain ⟨⟨k, hk⟩, h1⟩ := h.w
    obtain ⟨⟨k2, hk2⟩, h2⟩ := h1.w
    obtain ⟨⟨k3, hk3⟩, h3⟩ := (AtP.skip x.pcs h2).w
    have e : i + nW (GE.not x).pcs = i + 1 + 1 + nW x.pcs + 1 := by simp only [GE.pcs, nW_app, nW, List.cons_append, List.nil_append]; omega
    have hz : lvAt ws (i + 1 + 1 + nW x.pcs) = 0 := by rw [at_lv hk3]; exact lv_sign 41 (by decide)
    obtain ⟨y, hy, hd⟩ := ih hN hw (i + 1 + 1) _ h2 (is_no (s := [40]) hk3 (by decide)) (by omega)
    rw [e] at hl ⊢
    have h5 : De ws en (.one i) (.ex (.mk 5 0 sNone [y] (posAt ws i en)) (i + 1 + 1 + nW x.pcs + 1)) := .not (by rw [at_head hk]; rfl) (par_d hk2 (hd.down (by decide) 1 (by decide) (fun m h1 h2 => by omega)) hk3)
    exact ⟨.mk 5 0 sNone [y] (posAt ws i en), .not hy, h5.up 3 (by decide) (fun m h1 h2 => by omega)⟩
  | and x y ihx ihy =>
    intro hN hw i rest h ho hl
    simp only [GE.pcs, List.append_assoc, List.cons_append, List.nil_append] at h
    obtain ⟨⟨k, hk⟩, h1⟩ := h.w
    obtain ⟨⟨k2, hk2⟩, h2⟩ := (AtP.skip x.pcs h1).sp.w
    obtain ⟨⟨k3, hk3⟩, h3⟩ := (AtP.skip y.pcs h2.sp).w
    have e : i + nW (GE.and x y).pcs = i + 1 + nW x.pcs + 1 + nW y.pcs + 1 := by simp only [GE.pcs, nW_app, nW, List.cons_append, List.nil_append]; omega
    have hl2 : lvAt ws (i + 1 + nW x.pcs) = 2 := at_lv hk2
    have hl3 : lvAt ws (i + 1 + nW x.pcs + 1 + nW y.pcs) = 0 := by rw [at_lv hk3]; exact lv_sign 41 (by decide)
    obtain ⟨a, ha, hda⟩ := ihx hN.1 hw.1 (i + 1) _ h1 (is_no (s := [40]) hk2 (by decide)) (by omega)
    obtain ⟨b, hb, hdb⟩ := ihy hN.2 hw.2 (i + 1 + nW x.pcs + 1) _ h2.sp (is_no (s := [40]) hk3 (by decide)) (by omega)
    rw [e] at hl ⊢
    have h5 : De ws en (.lvl 2 (i + 1)) (.ex (twoEx ws en (i + 1 + nW x.pcs) a b) (i + 1 + nW x.pcs + 1 + nW y.pcs)) := De.two (by decide) (by decide) hda hl2 hdb (by omega)
    refine ⟨twoEx ws en (i + 1 + nW x.pcs) a b, ?_, (par_d hk (h5.down (by decide) 1 (by decide) (fun m h1 h2 => by omega)) hk3).up 3 (by decide) (fun m h1 h2 => by omega)⟩
    unfold twoEx; rw [at_text hk2]; exact .and ha hb
  | or x y ihx ihy =>
    intro hN hw i rest h ho hl
    simp only [GE.pcs, List.append_assoc, List.cons_append, List.nil_append] at h
    obtain ⟨⟨k, hk⟩, h1⟩ := h.w
    obtain ⟨⟨k2, hk2⟩, h2⟩ := (AtP.skip x.pcs h1).sp.w
    obtain ⟨⟨k3, hk3⟩, h3⟩ := (AtP.skip y.pcs h2.sp).w
    have e : i + nW (GE.or x y).pcs = i + 1 + nW x.pcs + 1 + nW y.pcs + 1 := by simp only [GE.pcs, nW_app, nW, List.cons_append, List.nil_append]; omega
    have hl2 : lvAt ws (i + 1 + nW x.pcs) = 1 := at_lv hk2
    have hl3 : lvAt ws (i + 1 + nW x.pcs + 1 + nW y.pcs) = 0 := by rw [at_lv hk3]; exact lv_sign 41 (by decide)
    obtain ⟨a, ha, hda⟩ := ihx hN.1 hw.1 (i + 1) _ h1 (is_no (s := [40]) hk2 (by decide)) (by omega)
    obtain ⟨b, hb, hdb⟩ := ihy hN.2 hw.2 (i + 1 + nW x.pcs + 1) _ h2.sp (is_no (s := [40]) hk3 (by decide)) (by omega)
    rw [e] at hl ⊢
    have h5 : De ws en (.lvl 1 (i + 1)) (.ex (twoEx ws en (i + 1 + nW x.pcs) a b) (i + 1 + nW x.pcs + 1 + nW y.pcs)) := De.two (by decide) (by decide) (hda.down (by decide) 2 (by decide) (fun m h1 h2 => by omega)) hl2 (hdb.down (by decide) 2 (by decide) (fun m h1 h2 => by omega)) (by omega)
    refine ⟨twoEx ws en (i + 1 + nW x.pcs) a b, ?_, (par_d hk h5 hk3).up 3 (by decide) (fun m h1 h2 => by omega)⟩
    unfold twoEx; rw [at_text hk2]; exact .or ha hb
  | cmp o x y _ _ =>
    intro hN hw i rest h ho hl
    simp only [GE.pcs, List.append_assoc, List.cons_append, List.nil_append] at h
    obtain ⟨⟨k2, hk2⟩, h2⟩ := (AtP.skip x.pcs h).sp.w
    have e : i + nW (GE.cmp o x y).pcs = i + nW x.pcs + 1 + nW y.pcs := by simp only [GE.pcs, nW_app, nW, List.cons_append, List.nil_append]; omega
    rw [e] at ho hl ⊢
    have hco : (cmpL o == [40]) = false := by unfold cmpL; split <;> decide
    have hl2 : lvAt ws (i + nW x.pcs) = 3 := by rw [at_lv hk2]; exact cmp_lv o
    obtain ⟨a, ha, hda⟩ := x.derN (en := en) hN.1 hw.1 i _ h (is_no (s := [40]) hk2 hco)
    obtain ⟨b, hb, hdb⟩ := y.derN (en := en) hN.2 hw.2 (i + nW x.pcs + 1) _ h2.sp ho
    refine ⟨twoEx ws en (i + nW x.pcs) a b, ?_, De.comp (hda.up 4 (by decide) (fun m h1 h2 => by omega)) hl2 (hdb.up 4 (by decide) (fun m h1 h2 => by omega)) (by omega)⟩
    unfold twoEx; rw [at_text hk2]; exact .cmp ha hb
  | _ => intro hN; exact hN.elim
end
end Go.Proofs.YtmngofgminlloaaGreatDoor

namespace Go.Proofs.YtmngofgminlloaaGreatDoor
open Go.RowKit Tw

/-- The same expression with other names of variables. -/
def GE.ren (ρ : ByteArray → ByteArray) : GE → GE
  | .var s => .var (ρ s)
  | .lit n => .lit n
  | .neg x => .neg (x.ren ρ)
  | .call f x y => .call f (x.ren ρ) (y.ren ρ)
  | .host k x => .host k (x.ren ρ)
  | .bin o x y => .bin o (x.ren ρ) (y.ren ρ)
  | .not x => .not (x.ren ρ)
  | .and x y => .and (x.ren ρ) (y.ren ρ)
  | .or x y => .or (x.ren ρ) (y.ren ρ)
  | .tf k => .tf k
  | .cmp o x y => .cmp o (x.ren ρ) (y.ren ρ)
theorem GE.ren_id (x : GE) : x.ren id = x := by induction x <;> simp_all [GE.ren]
theorem GE.ren_isN {ρ : ByteArray → ByteArray} : ∀ (x : GE), x.isN → (x.ren ρ).isN
  | .var _, _ => trivial
  | .lit _, _ => trivial
  | .neg x, h => GE.ren_isN x h
  | .call _ x y, h => ⟨GE.ren_isN x h.1, GE.ren_isN y h.2⟩
  | .host _ x, h => GE.ren_isN x h
  | .bin _ x y, h => ⟨GE.ren_isN x h.1, GE.ren_isN y h.2⟩
  | .not _, h => h.elim
  | .and _ _, h => h.elim
  | .or _ _, h => h.elim
  | .tf _, h => h.elim
  | .cmp _ _ _, h => h.elim
theorem GE.ren_isF {ρ : ByteArray → ByteArray} : ∀ (x : GE), x.isF → (x.ren ρ).isF
  | .not x, h => GE.ren_isF x h
  | .and x y, h => ⟨GE.ren_isF x h.1, GE.ren_isF y h.2⟩
  | .or x y, h => ⟨GE.ren_isF x h.1, GE.ren_isF y h.2⟩
  | .tf _, _ => trivial
  | .cmp _ x y, h => ⟨GE.ren_isN x h.1, GE.ren_isN y h.2⟩
  | .var _, h => h.elim
  | .lit _, h => h.elim
  | .neg _, h => h.elim
  | .call _ _ _, h => h.elim
  | .host _ _, h => h.elim
  | .bin _ _ _, h => h.elim
def GL.pcsR (ρ : ByteArray → ByteArray) : GL → List Pc
  | .nil => []
  | .set s x r => [.w 2 (ρ s).data.toList] ++ [.sp 32, .w 4 [61], .sp 32] ++ (x.ren ρ).pcs ++ [.w 4 [59], .sp 32] ++ r.pcsR ρ
  | .yield x r => [.w 3 [121, 105, 101, 108, 100], .sp 32] ++ (x.ren ρ).pcs ++ [.w 4 [59], .sp 32] ++ r.pcsR ρ
  | .ite c a b r => [.w 3 [105, 102], .sp 32] ++ (c.ren ρ).pcs ++ [.sp 32, .w 4 [123], .sp 32] ++ a.pcsR ρ ++ [.w 4 [125], .sp 32, .w 3 [101, 108, 115, 101], .sp 32, .w 4 [123], .sp 32] ++ b.pcsR ρ ++ [.w 4 [125], .sp 32] ++ r.pcsR ρ
  | .loop i n l r => [.w 3 [108, 101, 116], .sp 32] ++ [.w 2 (ρ (iT i)).data.toList] ++ [.sp 32, .w 4 [61], .sp 32, .w 1 [48], .w 4 [59], .sp 32, .w 3 [119, 104, 105, 108, 101], .sp 32] ++ [.w 2 (ρ (iT i)).data.toList] ++ [.sp 32, .w 4 [60], .sp 32] ++ [.w 1 (numL n)] ++ [.sp 32, .w 4 [123], .sp 32] ++ l.pcsR ρ ++ [.w 2 (ρ (iT i)).data.toList] ++ [.sp 32, .w 4 [61], .sp 32] ++ [.w 2 (ρ (iT i)).data.toList] ++ [.sp 32, .w 4 [43], .sp 32, .w 1 [49], .w 4 [59], .sp 32, .w 4 [125], .sp 32] ++ r.pcsR ρ
  | .run x r => (x.ren ρ).pcs ++ [.w 4 [59], .sp 32] ++ r.pcsR ρ
  | .ret x r => [.w 3 [114, 101, 116, 117, 114, 110], .sp 32] ++ (x.ren ρ).pcs ++ [.w 4 [59], .sp 32] ++ r.pcsR ρ
  | .bind i x r => [.w 3 [108, 101, 116], .sp 32] ++ [.w 2 (ρ (vT i)).data.toList] ++ [.sp 32, .w 4 [61], .sp 32] ++ (x.ren ρ).pcs ++ [.w 4 [59], .sp 32] ++ r.pcsR ρ
theorem GL.pcsR_id (g : GL) : g.pcsR id = g.pcs := by
  induction g <;> simp only [GL.pcsR, GL.pcs, GE.ren_id, id, iT_l, vT_l, *]
/-- What the pieces of statements want. -/
def GL.okR (ρ : ByteArray → ByteArray) : GL → Prop
  | .nil => True
  | .set s x r => isName (ρ s).data.toList = true ∧ (x.ren ρ).okW ∧ r.okR ρ
  | .yield x r => (x.ren ρ).okW ∧ r.okR ρ
  | .ite c a b r => (c.ren ρ).okW ∧ a.okR ρ ∧ b.okR ρ ∧ r.okR ρ
  | .loop i n l r => isName (ρ (iT i)).data.toList = true ∧ n < 100 ∧ l.okR ρ ∧ r.okR ρ
  | .run x r => (x.ren ρ).okW ∧ r.okR ρ
  | .ret x r => (x.ren ρ).okW ∧ r.okR ρ
  | .bind i x r => isName (ρ (vT i)).data.toList = true ∧ (x.ren ρ).okW ∧ r.okR ρ
/-- Each expression is of the type that its place wants. -/
def GL.isT : GL → Prop
  | .nil => True
  | .set _ x r => x.isN ∧ r.isT
  | .yield x r => x.isN ∧ r.isT
  | .ite c a b r => c.isF ∧ a.isT ∧ b.isT ∧ r.isT
  | .loop _ _ l r => l.isT ∧ r.isT
  | .run x r => x.isN ∧ r.isT
  | .ret x r => x.isN ∧ r.isT
  | .bind _ x r => x.isN ∧ r.isT
theorem GL.isT_app (a b : GL) (ha : a.isT) (hb : b.isT) : (a.app b).isT := by
  induction a with
  | nil => exact hb
  | set s x r ih => exact ⟨ha.1, ih ha.2⟩
  | yield x r ih => exact ⟨ha.1, ih ha.2⟩
  | ite c a b r _ _ ih => exact ⟨ha.1, ha.2.1, ha.2.2.1, ih ha.2.2.2⟩
  | loop i n l r _ ih => exact ⟨ha.1, ih ha.2⟩
  | run x r ih => exact ⟨ha.1, ih ha.2⟩
  | ret x r ih => exact ⟨ha.1, ih ha.2⟩
  | bind i x r ih => exact ⟨ha.1, ih ha.2⟩
theorem Stm.isT {N low : Nat} {B : Ms → GL → Ms → Prop} (hB : ∀ s g s', B s g s' → g.isT) {s : Ms} {g : GL} {s' : Ms} (h : Stm N low B s g s') : g.isT := by
  cases h with
  | set _ _ _ hx => exact ⟨hx.isN, trivial⟩
  | yield _ hx => exact ⟨hx.isN, trivial⟩
  | ite _ hc ha hb => exact ⟨hc.isF, hB _ _ _ ha, hB _ _ _ hb, trivial⟩
  | loop _ _ hl => exact ⟨hB _ _ _ hl, trivial⟩
  | run _ hx => exact ⟨hx.isN, trivial⟩
  | ret _ _ hx => exact ⟨hx.isN, trivial⟩
  | bind _ hx => exact ⟨hx.isN, trivial⟩
theorem Run.isT {S : Ms → GL → Ms → Prop} (hS : ∀ s g s', S s g s' → g.isT) {j : Nat} {s : Ms} {g : GL} {s' : Ms} (h : Run S j s g s') : g.isT := by
  induction h with
  | nil => trivial
  | snoc _ h2 ih => exact GL.isT_app _ _ ih (hS _ _ _ h2)
theorem Blk.isT {N low : Nat} : ∀ (d : Nat) (s : Ms) (g : GL) (s' : Ms), Blk N low d s g s' → g.isT := by
  intro d
  induction d with
  | zero => intro s g s' ⟨_, _, _, _, h, _⟩; exact h.isT fun _ _ _ h => Stm.isT (fun _ _ _ h => h.elim) h
  | succ d ih => intro s g s' ⟨_, _, _, _, h, _⟩; exact h.isT fun _ _ _ h => Stm.isT ih h

/-- The trees of made statements, whatever the places: a loop is two statements. -/
inductive TrL (ρ : ByteArray → ByteArray) : GL → List Sm → Prop
  | nil : TrL ρ .nil []
  | set {s : ByteArray} {x : GE} {r : GL} {y : Ex} {l : List Sm} {p : Int} : TrE (x.ren ρ) y → TrL ρ r l → TrL ρ (.set s x r) (.mk 2 (ρ s) y [] [] p :: l)
  | yield {x : GE} {r : GL} {y : Ex} {l : List Sm} {p : Int} : TrE (x.ren ρ) y → TrL ρ r l → TrL ρ (.yield x r) (.mk 6 sNone y [] [] p :: l)
  | ite {c : GE} {a b r : GL} {y : Ex} {la lb l : List Sm} {p : Int} : TrE (c.ren ρ) y → TrL ρ a la → TrL ρ b lb → TrL ρ r l → TrL ρ (.ite c a b r) (.mk 3 sNone y la lb p :: l)
  | loop {i n : Nat} {b r : GL} {y0 yc y1 : Ex} {lb l : List Sm} {p1 p8 p9 : Int} : TrE (.lit 0) y0 → TrE (.cmp 0 (.var (ρ (iT i))) (.lit n)) yc → TrE (.bin 0 (.var (ρ (iT i))) (.lit 1)) y1 → TrL ρ b lb → TrL ρ r l →
      TrL ρ (.loop i n b r) (.mk 1 (ρ (iT i)) y0 [] [] p1 :: .mk 4 sNone yc (lb ++ [.mk 2 (ρ (iT i)) y1 [] [] p8]) [] p9 :: l)
  | run {x : GE} {r : GL} {y : Ex} {l : List Sm} {p : Int} : TrE (x.ren ρ) y → TrL ρ r l → TrL ρ (.run x r) (.mk 7 sNone y [] [] p :: l)
  | ret {x : GE} {r : GL} {y : Ex} {l : List Sm} {p : Int} : TrE (x.ren ρ) y → TrL ρ r l → TrL ρ (.ret x r) (.mk 5 sNone y [] [] p :: l)
  | bind {i : Nat} {x : GE} {r : GL} {y : Ex} {l : List Sm} {p : Int} : TrE (x.ren ρ) y → TrL ρ r l → TrL ρ (.bind i x r) (.mk 1 (ρ (vT i)) y [] [] p :: l)
end Go.Proofs.YtmngofgminlloaaGreatDoor

namespace Go.Proofs.YtmngofgminlloaaGreatDoor
open Go.RowKit Tw

def hsT (c : Nat) (t : Bs) (e : Bool) : Nat :=
  if t == [108, 101, 116] then 1 else if t == [105, 102] then 3 else if t == [119, 104, 105, 108, 101] then 4 else if t == [114, 101, 116, 117, 114, 110] then 5 else if t == [121, 105, 101, 108, 100] then 6
  else if c = 2 ∧ e = true then 2 else 7
section
variable {ws : List Wd} {en : Nat} {ρ : ByteArray → ByteArray}
theorem at_hs {i c k : Nat} {t : Bs} (h : ws[i]? = some ⟨c, ⟨t.toArray⟩, k⟩) : headS ws i = hsT c t (isAt ws (i + 1) sEq) := by
  unfold headS hsT
  rw [show sLet = ⟨([108, 101, 116] : Bs).toArray⟩ from rfl, show sIf = ⟨([105, 102] : Bs).toArray⟩ from rfl, show sWhile = ⟨([119, 104, 105, 108, 101] : Bs).toArray⟩ from rfl, show sReturn = ⟨([114, 101, 116, 117, 114, 110] : Bs).toArray⟩ from rfl, show sYield = ⟨([121, 105, 101, 108, 100] : Bs).toArray⟩ from rfl]
  rw [at_is _ h, at_is _ h, at_is _ h, at_is _ h, at_is _ h, at_kind h]
theorem hs_name {t : Bs} (h : isName t = true) (e : Bool) : hsT 2 t e = if e = true then 2 else 7 := by
  have h1 : ∀ s : Bs, s ∈ ([[108, 101, 116], [105, 102], [119, 104, 105, 108, 101], [114, 101, 116, 117, 114, 110], [121, 105, 101, 108, 100]] : List Bs) → (t == s) = false := by
    intro s hs
    rw [beq_eq_false_iff_ne]
    rintro rfl
    have : ∀ s : Bs, s ∈ ([[108, 101, 116], [105, 102], [119, 104, 105, 108, 101], [114, 101, 116, 117, 114, 110], [121, 105, 101, 108, 100]] : List Bs) → isName s = false := by decide
    rw [this _ hs] at h; cases h
  unfold hsT
  rw [h1 [108, 101, 116] (by decide), h1 [105, 102] (by decide), h1 [119, 104, 105, 108, 101] (by decide), h1 [114, 101, 116, 117, 114, 110] (by decide), h1 [121, 105, 101, 108, 100] (by decide)]
  simp
theorem hs_num (n : Nat) (e : Bool) : hsT 1 (numL n) e = 7 := by
  have h1 : ∀ s : Bs, s ∈ ([[108, 101, 116], [105, 102], [119, 104, 105, 108, 101], [114, 101, 116, 117, 114, 110], [121, 105, 101, 108, 100]] : List Bs) → (numL n == s) = false := by
    intro s hs
    rw [beq_eq_false_iff_ne]
    intro e
    have h2 : ∀ s : Bs, s ∈ ([[108, 101, 116], [105, 102], [119, 104, 105, 108, 101], [114, 101, 116, 117, 114, 110], [121, 105, 101, 108, 100]] : List Bs) → ¬ ∀ c ∈ s, isD c = true := by decide
    exact h2 s hs (e ▸ numL_D n)
  unfold hsT
  rw [h1 [108, 101, 116] (by decide), h1 [105, 102] (by decide), h1 [119, 104, 105, 108, 101] (by decide), h1 [114, 101, 116, 117, 114, 110] (by decide), h1 [121, 105, 101, 108, 100] (by decide)]
  simp
theorem bs_mk (s : ByteArray) : (⟨s.data.toList.toArray⟩ : ByteArray) = s := by cases s; simp
theorem numL0 : numL 0 = [48] := by unfold numL Lib.itoa; rw [if_neg (by decide)]; exact Lib.decDigits_one (by decide)
theorem numL1 : numL 1 = [49] := by unfold numL Lib.itoa; rw [if_neg (by decide)]; exact Lib.decDigits_one (by decide)
/-- A made number, where a semicolon follows, begins a statement that is an expression; it is no closing brace. -/
theorem GE.head7 (x : GE) (hN : x.isN) (hw : x.okW) {i : Nat} {rest : List Pc} (h : AtP ws i (x.pcs ++ .w 4 [59] :: rest)) : headS ws i = 7 ∧ isAt ws i sKet = false := by
  cases x with
  | var s =>
    obtain ⟨⟨k, hk⟩, h1⟩ := h.w
    obtain ⟨⟨k2, hk2⟩, h2⟩ := h1.w
    exact ⟨by rw [at_hs hk, show isAt ws (i + 1) sEq = false from is_no (s := [61]) hk2 (by decide), hs_name hw]; rfl, is_no (s := [125]) hk (name_no hw 125 (by decide))⟩
  | lit n => obtain ⟨⟨k, hk⟩, h1⟩ := h.w; exact ⟨by rw [at_hs hk, hs_num], is_no (s := [125]) hk (num_no n 125 (by decide))⟩
  | neg x => simp only [GE.pcs, List.append_assoc, List.cons_append, List.nil_append] at h; obtain ⟨⟨k, hk⟩, h1⟩ := h.w; exact ⟨by rw [at_hs hk]; simp [hsT], is_no (s := [125]) hk (by decide)⟩
  | call f x y =>
    simp only [GE.pcs, List.append_assoc, List.cons_append, List.nil_append] at h
    obtain ⟨⟨k, hk⟩, h1⟩ := h.w
    obtain ⟨⟨k2, hk2⟩, h2⟩ := h1.w
    have hnm := name_num (c := 102) (by decide) f (by have := hw.1; omega)
    exact ⟨by rw [at_hs hk, show isAt ws (i + 1) sEq = false from is_no (s := [61]) hk2 (by decide)]; exact hs_name hnm false, is_no (s := [125]) hk (name_no hnm 125 (by decide))⟩
  | host k x => simp only [GE.pcs, List.append_assoc, List.cons_append, List.nil_append] at h; obtain ⟨⟨k, hk⟩, h1⟩ := h.w; exact ⟨by rw [at_hs hk]; simp [hsT], is_no (s := [125]) hk (by decide)⟩
  | bin o x y => simp only [GE.pcs, List.append_assoc, List.cons_append, List.nil_append] at h; obtain ⟨⟨k, hk⟩, h1⟩ := h.w; exact ⟨by rw [at_hs hk]; simp [hsT], is_no (s := [125]) hk (by decide)⟩
  | _ => exact hN.elim
theorem simp_d {i q j k : Nat} {y : Ex} {nm : ByteArray} (hh : headS ws i = k) (h3 : k ≠ 3) (h4 : k ≠ 4) (h1 : k = 1 → kindAt ws (i + 1) = 2 ∧ isAt ws (i + 2) sEq = true) (hq : exprS ws i = q) (hn : nameS ws i = nm) (hd : De ws en (.lvl 1 q) (.ex y j)) (hs : isAt ws j sSemi = true) :
    Ds ws en (.stmt i) (.st (.mk (k : Int) nm y [] [] (posAt ws i en)) (j + 1)) := by
  subst hh hq hn
  exact .simp h3 h4 h1 hd hs
/-- A number ahead of a semicolon. -/
theorem GE.semi (x : GE) (hN : x.isN) (hw : x.okW) {i : Nat} {rest : List Pc} (h : AtP ws i (x.pcs ++ .w 4 [59] :: rest)) : ∃ y, TrE x y ∧ De ws en (.lvl 1 i) (.ex y (i + nW x.pcs)) ∧ isAt ws (i + nW x.pcs) sSemi = true ∧ AtP ws (i + nW x.pcs + 1) rest := by
  obtain ⟨⟨k3, hk3⟩, h3⟩ := (AtP.skip x.pcs h).w
  obtain ⟨y, hy, hd⟩ := x.derN (en := en) hN hw i _ h (is_no (s := [40]) hk3 (by decide))
  exact ⟨y, hy, hd.up 1 (by decide) (fun m h1 h2 => by rw [at_lv hk3, lv_sign 59 (by decide)]; omega), is_yes hk3, h3⟩
/-- A condition ahead of a brace. -/
theorem GE.brace (x : GE) (hF : x.isF) (hw : x.okW) {i : Nat} {rest : List Pc} (h : AtP ws i (x.pcs ++ .sp 32 :: .w 4 [123] :: rest)) : ∃ y, TrE x y ∧ De ws en (.lvl 1 i) (.ex y (i + nW x.pcs)) ∧ isAt ws (i + nW x.pcs) sBra = true ∧ AtP ws (i + nW x.pcs + 1) rest := by
  obtain ⟨⟨k3, hk3⟩, h3⟩ := (AtP.skip x.pcs h).sp.w
  have hz : lvAt ws (i + nW x.pcs) = 0 := by rw [at_lv hk3]; exact lv_sign 123 (by decide)
  obtain ⟨y, hy, hd⟩ := x.derF (en := en) hF hw i _ h (is_no (s := [40]) hk3 (by decide)) (by omega)
  exact ⟨y, hy, hd.down (by decide) 1 (by decide) (fun m h1 h2 => by omega), is_yes hk3, h3⟩
set_option maxHeartbeats 1000000 in
theorem GL.der (g : GL) : g.okR ρ → g.isT → ∀ (i j : Nat) (rest : List Pc) (m : List Sm), AtP ws i (g.pcsR ρ ++ rest) → Ds ws en (.stmts (i + nW (g.pcsR ρ))) (.sts m j) → ∃ l, TrL ρ g l ∧ Ds ws en (.stmts i) (.sts (l ++ m) j) := by
  induction g with
  | nil => intro _ _ i j rest m h hD; exact ⟨[], .nil, hD⟩
  | set s x r ih =>
    intro hw hT i j rest m h hD
    simp only [GL.pcsR, List.append_assoc, List.cons_append, List.nil_append] at h
    obtain ⟨⟨k, hk⟩, h1⟩ := h.w
    obtain ⟨⟨k2, hk2⟩, h2⟩ := h1.sp.w
    obtain ⟨y, hy, hd, hs, h3⟩ := (x.ren ρ).semi (en := en) (x.ren_isN hT.1) hw.2.1 h2.sp
    have e : i + nW ((GL.set s x r).pcsR ρ) = i + 1 + 1 + nW (x.ren ρ).pcs + 1 + nW (r.pcsR ρ) := by simp only [GL.pcsR, nW_app, nW, List.cons_append, List.nil_append]; omega
    obtain ⟨l, hl, hds⟩ := ih hw.2.2 hT.2 _ j rest m h3.sp (by rw [← e]; exact hD)
    have hh : headS ws i = 2 := by rw [at_hs hk, show isAt ws (i + 1) sEq = true from is_yes (t := [61]) hk2, hs_name hw.1]; rfl
    have hst := simp_d (en := en) hh (by decide) (by decide) (fun h => by cases h) (show exprS ws i = i + 1 + 1 by unfold exprS; rw [hh]; rfl) (show nameS ws i = ρ s by unfold nameS; rw [hh, at_text hk, bs_mk]; rfl) hd hs
    exact ⟨_ :: l, .set hy hl, .more (is_no (s := [125]) hk (name_no hw.1 125 (by decide))) hst hds⟩
  | yield x r ih =>
    intro hw hT i j rest m h hD
    simp only [GL.pcsR, List.append_assoc, List.cons_append, List.nil_append] at h
    obtain ⟨⟨k, hk⟩, h1⟩ := h.w
    obtain ⟨y, hy, hd, hs, h3⟩ := (x.ren ρ).semi (en := en) (x.ren_isN hT.1) hw.1 h1.sp
    have e : i + nW ((GL.yield x r).pcsR ρ) = i + 1 + nW (x.ren ρ).pcs + 1 + nW (r.pcsR ρ) := by simp only [GL.pcsR, nW_app, nW, List.cons_append, List.nil_append]; omega
    obtain ⟨l, hl, hds⟩ := ih hw.2 hT.2 _ j rest m h3.sp (by rw [← e]; exact hD)
    have hh : headS ws i = 6 := by rw [at_hs hk]; simp [hsT]
    have hst := simp_d (en := en) hh (by decide) (by decide) (fun h => by cases h) (show exprS ws i = i + 1 by unfold exprS; rw [hh]; rfl) (show nameS ws i = sNone by unfold nameS; rw [hh]; rfl) hd hs
    exact ⟨_ :: l, .yield hy hl, .more (is_no (s := [125]) hk (by decide)) hst hds⟩
  | ret x r ih =>
    intro hw hT i j rest m h hD
    simp only [GL.pcsR, List.append_assoc, List.cons_append, List.nil_append] at h
    obtain ⟨⟨k, hk⟩, h1⟩ := h.w
    obtain ⟨y, hy, hd, hs, h3⟩ := (x.ren ρ).semi (en := en) (x.ren_isN hT.1) hw.1 h1.sp
    have e : i + nW ((GL.ret x r).pcsR ρ) = i + 1 + nW (x.ren ρ).pcs + 1 + nW (r.pcsR ρ) := by simp only [GL.pcsR, nW_app, nW, List.cons_append, List.nil_append]; omega
    obtain ⟨l, hl, hds⟩ := ih hw.2 hT.2 _ j rest m h3.sp (by rw [← e]; exact hD)
    have hh : headS ws i = 5 := by rw [at_hs hk]; simp [hsT]
    have hst := simp_d (en := en) hh (by decide) (by decide) (fun h => by cases h) (show exprS ws i = i + 1 by unfold exprS; rw [hh]; rfl) (show nameS ws i = sNone by unfold nameS; rw [hh]; rfl) hd hs
    exact ⟨_ :: l, .ret hy hl, .more (is_no (s := [125]) hk (by decide)) hst hds⟩
  | run x r ih =>
    intro hw hT i j rest m h hD
    simp only [GL.pcsR, List.append_assoc, List.cons_append, List.nil_append] at h
    obtain ⟨y, hy, hd, hs, h3⟩ := (x.ren ρ).semi (en := en) (x.ren_isN hT.1) hw.1 h
    obtain ⟨hh, hk⟩ := (x.ren ρ).head7 (x.ren_isN hT.1) hw.1 h
    have e : i + nW ((GL.run x r).pcsR ρ) = i + nW (x.ren ρ).pcs + 1 + nW (r.pcsR ρ) := by simp only [GL.pcsR, nW_app, nW, List.cons_append, List.nil_append]; omega
    obtain ⟨l, hl, hds⟩ := ih hw.2 hT.2 _ j rest m h3.sp (by rw [← e]; exact hD)
    have hst := simp_d (en := en) hh (by decide) (by decide) (fun h => by cases h) (show exprS ws i = i by unfold exprS; rw [hh]; rfl) (show nameS ws i = sNone by unfold nameS; rw [hh]; rfl) hd hs
    exact ⟨_ :: l, .run hy hl, .more hk hst hds⟩
  | bind n x r ih =>
    intro hw hT i j rest m h hD
    simp only [GL.pcsR, List.append_assoc, List.cons_append, List.nil_append] at h
    obtain ⟨⟨k, hk⟩, h1⟩ := h.w
    obtain ⟨⟨k2, hk2⟩, h2⟩ := h1.sp.w
    obtain ⟨⟨k3, hk3⟩, h3⟩ := h2.sp.w
    obtain ⟨y, hy, hd, hs, h4⟩ := (x.ren ρ).semi (en := en) (x.ren_isN hT.1) hw.2.1 h3.sp
    have e : i + nW ((GL.bind n x r).pcsR ρ) = i + 1 + 1 + 1 + nW (x.ren ρ).pcs + 1 + nW (r.pcsR ρ) := by simp only [GL.pcsR, nW_app, nW, List.cons_append, List.nil_append]; omega
    obtain ⟨l, hl, hds⟩ := ih hw.2.2 hT.2 _ j rest m h4.sp (by rw [← e]; exact hD)
    have hh : headS ws i = 1 := by rw [at_hs hk]; simp [hsT]
    have hst := simp_d (en := en) hh (by decide) (by decide) (fun _ => ⟨at_kind hk2, is_yes (t := [61]) hk3⟩) (show exprS ws i = i + 1 + 1 + 1 by unfold exprS; rw [hh]; rfl) (show nameS ws i = ρ (vT n) by unfold nameS; rw [hh, at_text hk2, bs_mk]; rfl) hd hs
    exact ⟨_ :: l, .bind hy hl, .more (is_no (s := [125]) hk (by decide)) hst hds⟩
  | ite c a b r iha ihb ih =>
    intro hw hT i j rest m h hD
    simp only [GL.pcsR, List.append_assoc, List.cons_append, List.nil_append] at h
    obtain ⟨⟨k, hk⟩, h1⟩ := h.w
    obtain ⟨y, hy, hd, hb, h2⟩ := (c.ren ρ).brace (en := en) (c.ren_isF hT.1) hw.1 h1.sp
    obtain ⟨⟨k3, hk3⟩, h3⟩ := (AtP.skip (a.pcsR ρ) h2.sp).w
    obtain ⟨⟨k4, hk4⟩, h4⟩ := h3.sp.w
    obtain ⟨⟨k5, hk5⟩, h5⟩ := h4.sp.w
    obtain ⟨⟨k6, hk6⟩, h6⟩ := (AtP.skip (b.pcsR ρ) h5.sp).w
    have e : i + nW ((GL.ite c a b r).pcsR ρ) = i + 1 + nW (c.ren ρ).pcs + 1 + nW (a.pcsR ρ) + 1 + 1 + 1 + nW (b.pcsR ρ) + 1 + nW (r.pcsR ρ) := by simp only [GL.pcsR, nW_app, nW, List.cons_append, List.nil_append]; omega
    obtain ⟨la, hla, hda⟩ := iha hw.2.1 hT.2.1 _ _ _ [] h2.sp (.done (is_yes (t := [125]) hk3))
    obtain ⟨lb, hlb, hdb⟩ := ihb hw.2.2.1 hT.2.2.1 _ _ _ [] h5.sp (.done (is_yes (t := [125]) hk6))
    obtain ⟨l, hl, hds⟩ := ih hw.2.2.2 hT.2.2.2 _ j rest m h6.sp (by rw [← e]; exact hD)
    rw [List.append_nil] at hda hdb
    have hh : headS ws i = 3 := by rw [at_hs hk]; simp [hsT]
    have hst : Ds ws en (.stmt i) (.st (.mk 3 sNone y la lb (posAt ws i en)) _) := .ifE hh hd (.block hb hda) (is_yes (t := [101, 108, 115, 101]) hk4) (is_no (s := [105, 102]) hk5 (by decide)) (.block (is_yes (t := [123]) hk5) hdb)
    exact ⟨_ :: l, .ite hy hla hlb hl, .more (is_no (s := [125]) hk (by decide)) hst hds⟩
  | loop n q b r ihb ih =>
    intro hw hT i j rest m h hD
    simp only [GL.pcsR, List.append_assoc, List.cons_append, List.nil_append] at h
    obtain ⟨⟨k, hk⟩, h1⟩ := h.w
    obtain ⟨⟨k2, hk2⟩, h2⟩ := h1.sp.w
    obtain ⟨⟨k3, hk3⟩, h3⟩ := h2.sp.w
    have hn : isName (ρ (iT n)).data.toList = true := hw.1
    have e0 : (GE.lit 0).pcs = [.w 1 [48]] := by simp only [GE.pcs]; rw [numL0]
    obtain ⟨y0, hy0, hd0, hs0, h4⟩ := (GE.lit 0).semi (en := en) trivial (show 0 < 100 by decide) (i := i + 1 + 1 + 1) (by rw [e0]; exact h3.sp)
    have hv : (GE.var (ρ (iT n))).pcs = [.w 2 (ρ (iT n)).data.toList] := rfl
    obtain ⟨⟨k5, hk5⟩, h5⟩ := h4.sp.w
    obtain ⟨yc, hyc, hdc, hbc, h6⟩ := (GE.cmp 0 (.var (ρ (iT n))) (.lit q)).brace (en := en) ⟨trivial, trivial⟩ ⟨hn, hw.2.1⟩ (show AtP ws _ ((GE.cmp 0 (.var (ρ (iT n))) (.lit q)).pcs ++ .sp 32 :: .w 4 [123] :: _) from h5.sp)
    obtain ⟨⟨k7, hk7⟩, h7⟩ := (AtP.skip (b.pcsR ρ) h6.sp).w
    obtain ⟨⟨k8, hk8⟩, h8⟩ := h7.sp.w
    obtain ⟨⟨k9, hk9⟩, h9⟩ := h8.sp.w
    obtain ⟨⟨k10, hk10⟩, h10⟩ := h9.sp.w
    obtain ⟨⟨k11, hk11⟩, h11⟩ := h10.sp.w
    obtain ⟨⟨k12, hk12⟩, h12⟩ := h11.w
    obtain ⟨⟨k13, hk13⟩, h13⟩ := h12.sp.w
    have n0 : nW (GE.lit 0).pcs = 1 := rfl
    have nc : nW (GE.cmp 0 (.var (ρ (iT n))) (.lit q)).pcs = 3 := rfl
    rw [n0] at hd0 hs0 hk5 h5 hdc hbc h6 hk7 hk8 hk9 hk10 hk11 hk12 hk13 h13
    rw [nc] at hdc hbc h6 hk7 hk8 hk9 hk10 hk11 hk12 hk13 h13
    have e : i + nW ((GL.loop n q b r).pcsR ρ) = i + 1 + 1 + 1 + 1 + 1 + 1 + 3 + 1 + nW (b.pcsR ρ) + 1 + 1 + 1 + 1 + 1 + 1 + 1 + nW (r.pcsR ρ) := by simp only [GL.pcsR, nW_app, nW, List.cons_append, List.nil_append]; omega
    obtain ⟨l, hl, hds⟩ := ih hw.2.2.2 hT.2 _ j rest m h13.sp (by rw [← e]; exact hD)
    generalize hP : i + 1 + 1 + 1 + 1 + 1 + 1 + 3 + 1 + nW (b.pcsR ρ) = P at *
    have l10 : lvAt ws (P + 1 + 1 + 1) = 4 := at_lv hk10
    have l12 : lvAt ws (P + 1 + 1 + 1 + 1 + 1) = 0 := at_lv hk12
    have d1 := De.var (ws := ws) (en := en) (i := P + 1 + 1) (by rw [at_head hk9]; exact hq_name hn) (is_no (s := [40]) hk10 (by decide))
    rw [at_text hk9, bs_mk] at d1
    have d2 := De.num (ws := ws) (en := en) (i := P + 1 + 1 + 1 + 1) (by rw [at_head hk11]; rfl)
    rw [at_text hk11, show numV ⟨([49] : Bs).toArray⟩ = ((1 : Nat) : Int) from by rw [← numL1]; exact numV_num 1 (by decide)] at d2
    have d3 := De.two (L := 4) (by decide) (by decide) (d1.up 5 (by decide) (fun m h1 h2 => by omega)) l10 (d2.up 5 (by decide) (fun m h1 h2 => by omega)) (by omega)
    have d4 := d3.down (by decide) 1 (by decide) (fun m h1 h2 => by omega)
    have hh3 : headS ws P = 2 := by rw [at_hs hk7, show isAt ws (P + 1) sEq = true from is_yes (t := [61]) hk8, hs_name hn]; rfl
    have hst3 := simp_d (en := en) hh3 (by decide) (by decide) (fun h => by cases h) (show exprS ws P = P + 1 + 1 by unfold exprS; rw [hh3]; rfl) (show nameS ws P = ρ (iT n) by unfold nameS; rw [hh3, at_text hk7, bs_mk]; rfl) d4 (is_yes (t := [59]) hk12)
    have hD3 : Ds ws en (.stmts P) (.sts _ _) := .more (is_no (s := [125]) hk7 (name_no hn 125 (by decide))) hst3 (.done (is_yes (t := [125]) hk13))
    obtain ⟨lb, hlb, hdb⟩ := ihb hw.2.2.1 hT.1 _ _ _ _ h6.sp (by rw [hP]; exact hD3)
    have hh : headS ws i = 1 := by rw [at_hs hk]; simp [hsT]
    have hst := simp_d (en := en) hh (by decide) (by decide) (fun _ => ⟨at_kind hk2, is_yes (t := [61]) hk3⟩) (show exprS ws i = i + 1 + 1 + 1 by unfold exprS; rw [hh]; rfl) (show nameS ws i = ρ (iT n) by unfold nameS; rw [hh, at_text hk2, bs_mk]; rfl) hd0 hs0
    have hh2 : headS ws (i + 1 + 1 + 1 + 1 + 1) = 4 := by rw [at_hs hk5]; simp [hsT]
    have hst2 : Ds ws en (.stmt (i + 1 + 1 + 1 + 1 + 1)) (.st (.mk 4 sNone yc _ [] (posAt ws (i + 1 + 1 + 1 + 1 + 1) en)) _) := .whil hh2 hdc (.block hbc hdb)
    have hy1 : TrE (.bin 0 (.var (ρ (iT n))) (.lit 1)) (twoEx ws en (P + 1 + 1 + 1) (.mk 3 0 (ρ (iT n)) [] (posAt ws (P + 1 + 1) en)) (.mk 1 ((1 : Nat) : Int) sNone [] (posAt ws (P + 1 + 1 + 1 + 1) en))) := by
      unfold twoEx; rw [at_text hk10]; exact .bin .var .lit
    exact ⟨_ :: _ :: l, .loop hy0 hyc hy1 hlb hl, .more (is_no (s := [125]) hk (by decide)) hst (.more (is_no (s := [125]) hk5 (by decide)) hst2 hds)⟩
end
end Go.Proofs.YtmngofgminlloaaGreatDoor

namespace Go.Proofs.YtmngofgminlloaaGreatDoor
open Go.RowKit Tw

def NsN (ns : List ByteArray) : Prop := ∀ s ∈ ns, isName s.data.toList = true
theorem GNum.okW {N : Nat} {ns : List ByteArray} {low d i i' : Nat} {x : GE} (hns : NsN ns) (hl : low ≤ 2) (h : GNum N ns low d i x i') : x.okW := by
  induction h with
  | var _ _ hs => exact hns _ (List.mem_of_getElem? hs)
  | lit _ h => show _ < 100; have := h.1; omega
  | neg _ _ ih => exact ih
  | call _ hf _ _ ih1 ih2 => exact ⟨by have := hf.1; omega, ih1, ih2⟩
  | host _ hf _ ih => exact ⟨by have := hf.1; omega, ih⟩
  | bin _ _ _ _ ih1 ih2 => exact ⟨ih1, ih2⟩
theorem GFlag.okW {N : Nat} {ns : List ByteArray} {low d i i' : Nat} {x : GE} (hns : NsN ns) (hl : low ≤ 2) (h : GFlag N ns low d i x i') : x.okW := by
  induction h with
  | not _ _ ih => exact ih
  | and _ _ _ ih1 ih2 => exact ⟨ih1, ih2⟩
  | or _ _ _ ih1 ih2 => exact ⟨ih1, ih2⟩
  | tf _ _ => trivial
  | cmp _ h1 _ h2 => exact ⟨h1.okW hns hl, h2.okW hns hl⟩
theorem GL.okW_app (a b : GL) (ha : a.okW) (hb : b.okW) : (a.app b).okW := by
  induction a with
  | nil => exact hb
  | set s x r ih => exact ⟨ha.1, ha.2.1, ih ha.2.2⟩
  | yield x r ih => exact ⟨ha.1, ih ha.2⟩
  | ite c a b r _ _ ih => exact ⟨ha.1, ha.2.1, ha.2.2.1, ih ha.2.2.2⟩
  | loop i n l r _ ih => exact ⟨ha.1, ha.2.1, ha.2.2.1, ih ha.2.2.2⟩
  | run x r ih => exact ⟨ha.1, ih ha.2⟩
  | ret x r ih => exact ⟨ha.1, ih ha.2⟩
  | bind i x r ih => exact ⟨ha.1, ha.2.1, ih ha.2.2⟩
/-- What a step keeps, told of names. -/
def OkS (s : Ms) (g : GL) (s' : Ms) : Prop := s.m ≤ s'.m ∧ (NsN s.ns → s'.m < 10 ^ 10 → g.okW ∧ NsN s'.ns)
theorem Stm.okS {N low : Nat} {B : Ms → GL → Ms → Prop} (hl : low ≤ 2) (hB : ∀ s g s', B s g s' → OkS s g s' ∧ s'.ns = s.ns) {s : Ms} {g : GL} {s' : Ms} (h : Stm N low B s g s') : OkS s g s' := by
  refine ⟨?_, ?_⟩
  · cases h with
    | ite _ _ ha hb => have h1 := (hB _ _ _ ha).1.1; have h2 := (hB _ _ _ hb).1.1; exact Nat.le_trans h1 h2
    | loop _ _ hb => have h1 := (hB _ _ _ hb).1.1; simp only at h1 ⊢; omega
    | bind _ _ => exact Nat.le_succ _
    | _ => exact Nat.le_refl _
  cases h with
  | set h0 h1 hs hx => intro hn hm; exact ⟨⟨hn _ (List.mem_of_getElem? hs), hx.okW hn hl, trivial⟩, hn⟩
  | yield h0 hx => intro hn hm; exact ⟨⟨hx.okW hn hl, trivial⟩, hn⟩
  | @ite ns m i i2 c a b s1 s2 h0 hc ha hb =>
    intro hn hm
    obtain ⟨h1, h2⟩ := hB _ _ _ ha
    obtain ⟨h3, h4⟩ := hB _ _ _ hb
    obtain ⟨b1, b2⟩ := h3.2 (by rw [h2]; exact hn) hm
    obtain ⟨a1, a2⟩ := h1.2 hn (by have := h3.1; omega)
    exact ⟨⟨hc.okW hn hl, a1, b1, trivial⟩, b2⟩
  | @loop ns m i i2 n l s2 h0 hk hl' =>
    intro hn hm
    obtain ⟨h1, h2⟩ := hB _ _ _ hl'
    obtain ⟨a1, a2⟩ := h1.2 hn hm
    have a3 := h1.1
    simp only at a3
    exact ⟨⟨by omega, by have := hk.1; omega, a1, trivial⟩, a2⟩
  | run h0 hx => intro hn hm; exact ⟨⟨hx.okW hn hl, trivial⟩, hn⟩
  | ret h0 h1 hx => intro hn hm; exact ⟨⟨hx.okW hn hl, trivial⟩, hn⟩
  | @bind ns m i i1 i2 x h0 hx =>
    intro hn hm
    refine ⟨⟨hm, hx.okW hn hl, trivial⟩, ?_⟩
    intro s hs
    rcases List.mem_append.1 hs with h | h
    · exact hn s h
    · simp at h; subst h; rw [vT_l]; exact name_num (c := 118) (by decide) _ hm
theorem Run.okS {S : Ms → GL → Ms → Prop} (hS : ∀ s g s', S s g s' → OkS s g s') {j : Nat} {s : Ms} {g : GL} {s' : Ms} (h : Run S j s g s') : OkS s g s' := by
  induction h with
  | nil => exact ⟨Nat.le_refl _, fun hn _ => ⟨trivial, hn⟩⟩
  | @snoc j s s1 s2 g x h1 h2 ih =>
    have h3 := hS _ _ _ h2
    refine ⟨Nat.le_trans ih.1 h3.1, fun hn hm => ?_⟩
    obtain ⟨a1, a2⟩ := ih.2 hn (by have := h3.1; omega)
    obtain ⟨b1, b2⟩ := h3.2 a2 hm
    exact ⟨GL.okW_app _ _ a1 b1, b2⟩
theorem BlkOf.okS {N : Nat} {S : Ms → GL → Ms → Prop} (hS : ∀ s g s', S s g s' → OkS s g s') {s : Ms} {g : GL} {s' : Ms} (h : BlkOf N S s g s') : OkS s g s' ∧ s'.ns = s.ns := by
  obtain ⟨j, i1, s2, hj, hr, rfl⟩ := h
  have h0 := hr.okS hS
  exact ⟨⟨h0.1, fun hn hm => ⟨(h0.2 hn hm).1, hn⟩⟩, rfl⟩
theorem Blk.okS {N low : Nat} (hl : low ≤ 2) : ∀ (d : Nat) (s : Ms) (g : GL) (s' : Ms), Blk N low d s g s' → OkS s g s' ∧ s'.ns = s.ns := by
  intro d
  induction d with
  | zero => intro s g s' h; exact BlkOf.okS (fun s g s' h => Stm.okS hl (fun _ _ _ h => h.elim) h) h
  | succ d ih => intro s g s' h; exact BlkOf.okS (fun s g s' h => Stm.okS hl ih h) h
def funW (j : Nat) (g : GL) (x : GE) : List Pc := [.w 3 [102, 117, 110], .sp 32] ++ [.w 2 (fL j)] ++ [.w 4 [40], .w 2 [112], .w 4 [58], .sp 32, .w 3 [105, 110, 116], .w 4 [44], .sp 32, .w 2 [113], .w 4 [58], .sp 32, .w 3 [105, 110, 116], .w 4 [41], .w 4 [58], .sp 32, .w 3 [105, 110, 116], .sp 32, .w 4 [123], .sp 32] ++ g.pcs ++ [.w 3 [114, 101, 116, 117, 114, 110], .sp 32] ++ x.pcs ++ [.w 4 [59], .sp 32, .w 4 [125], .sp 10]
def funsW : Nat → List (GL × GE) → List Pc
  | _, [] => []
  | j, (g, x) :: r => funW j g x ++ funsW (j + 1) r
def mainW (g : GL) (x : GE) : List Pc := [.w 3 [102, 117, 110], .sp 32, .w 2 [109, 97, 105, 110], .w 4 [40], .w 4 [41], .w 4 [58], .sp 32, .w 3 [105, 110, 116], .sp 32, .w 4 [123], .sp 32] ++ g.pcs ++ [.w 3 [114, 101, 116, 117, 114, 110], .sp 32] ++ x.pcs ++ [.w 4 [59], .sp 32, .w 4 [125]]
def scriptW (fs : List (GL × GE)) (g : GL) (x : GE) : List Pc := funsW 0 fs ++ mainW g x
theorem funT_l (j : Nat) (g : GL) (x : GE) : (funT j g x).data.toList = pcsT (funW j g x) := by
  simp only [funT, funW, app_l, pcsT_app, pcsT_cons, pcsT_nil, Pc.txt, numT_l, GL.txt_l, GE.txt_l, fL]; simp
theorem funsT_l : ∀ (fs : List (GL × GE)) (j : Nat), (funsT j fs).data.toList = pcsT (funsW j fs)
  | [], _ => rfl
  | (g, x) :: r, j => by simp only [funsT, funsW, app_l, pcsT_app, funT_l, funsT_l r (j + 1)]
theorem scriptT_l (fs : List (GL × GE)) (g : GL) (x : GE) : (scriptT fs g x).data.toList = pcsT (scriptW fs g x) := by
  simp only [scriptT, scriptW, mainW, app_l, pcsT_app, pcsT_cons, pcsT_nil, Pc.txt, GL.txt_l, GE.txt_l, funsT_l]; simp
end Go.Proofs.YtmngofgminlloaaGreatDoor

namespace Go.Proofs.YtmngofgminlloaaGreatDoor
open Go.RowKit Tw

theorem ok_nl {l : List Pc} (h : PcsOK l) : PcsOK (.sp 10 :: l) := ⟨by decide, h⟩
theorem fun_good {j : Nat} {g : GL} {x : GE} (hj : j < 100) (hg : g.okW) (hx : x.okW) (rest : List Pc) (hr : PcsOK rest) : PcsOK (funW j g x ++ rest) := by
  simp only [funW, List.append_assoc, List.cons_append, List.nil_append]
  have t1 := ok_one (c := 59) (by decide) (ok_sp (ok_one (c := 125) (by decide) (ok_nl hr)))
  have t2 := ok_key (w := [114, 101, 116, 117, 114, 110]) (by decide) (notA_sp _) (ok_sp (x.good _ hx t1 (notA_sg (by decide) _ _ _)))
  have t3 := ok_one (c := 123) (by decide) (ok_sp (g.good _ hg t2))
  have t4 := ok_one (c := 41) (by decide) (ok_one (c := 58) (by decide) (ok_sp (ok_key (w := [105, 110, 116]) (by decide) (notA_sp _) (ok_sp t3))))
  have t5 := ok_one (c := 58) (by decide) (ok_sp (ok_key (w := [105, 110, 116]) (by decide) (notA_sg (by decide) _ _ _) t4))
  have t6 := ok_one (c := 44) (by decide) (ok_sp (ok_name (w := [113]) (by decide) (notA_sg (by decide) _ _ _) t5))
  have t7 := ok_one (c := 58) (by decide) (ok_sp (ok_key (w := [105, 110, 116]) (by decide) (notA_sg (by decide) _ _ _) t6))
  have t8 := ok_one (c := 40) (by decide) (ok_name (w := [112]) (by decide) (notA_sg (by decide) _ _ _) t7)
  exact ok_key (by decide) (notA_sp _) (ok_sp (ok_name (name_num (c := 102) (by decide) j (by omega)) (notA_sg (by decide) _ _ _) t8))
theorem main_good {g : GL} {x : GE} (hg : g.okW) (hx : x.okW) : PcsOK (mainW g x) := by
  simp only [mainW, List.append_assoc, List.cons_append, List.nil_append]
  have t1 := ok_one (c := 59) (by decide) (ok_sp (ok_one (c := 125) (l := []) (by decide) trivial))
  have t2 := ok_key (w := [114, 101, 116, 117, 114, 110]) (by decide) (notA_sp _) (ok_sp (x.good _ hx t1 (notA_sg (by decide) _ _ _)))
  have t3 := ok_one (c := 123) (by decide) (ok_sp (g.good _ hg t2))
  have t4 := ok_one (c := 41) (by decide) (ok_one (c := 58) (by decide) (ok_sp (ok_key (w := [105, 110, 116]) (by decide) (notA_sp _) (ok_sp t3))))
  exact ok_key (by decide) (notA_sp _) (ok_sp (ok_name (w := [109, 97, 105, 110]) (by decide) (notA_sg (by decide) _ _ _) (ok_one (c := 40) (by decide) t4)))
theorem funs_good : ∀ (fs : List (GL × GE)) (j : Nat), j + fs.length ≤ 100 → (∀ f ∈ fs, f.1.okW ∧ f.2.okW) → ∀ rest, PcsOK rest → PcsOK (funsW j fs ++ rest)
  | [], _, _, _, _, hr => hr
  | (g, x) :: r, j, hl, h, rest, hr => by
    simp only [funsW, List.append_assoc]
    simp only [List.length_cons] at hl
    have h0 := h (g, x) (List.mem_cons_self ..)
    exact fun_good (by omega) h0.1 h0.2 _ (funs_good r (j + 1) (by omega) (fun f hf => h f (List.mem_cons_of_mem _ hf)) rest hr)
theorem pq_name : NsN pq := by intro s hs; simp only [pq, List.mem_cons, List.mem_nil_iff, or_false] at hs; rcases hs with rfl | rfl <;> decide
theorem GFuns.okW {N j i m i' : Nat} {fs : List (GL × GE)} (hj : j ≤ 2) (hi : i ≤ N) (h : GFuns N j i fs m i') : ∀ f ∈ fs, f.1.okW ∧ f.2.okW := by
  induction h with
  | nil => intro f hf; cases hf
  | @snoc j i m1 i1 m2 i2 i3 fs g x h1 h2 h3 ih =>
    intro f hf
    rcases List.mem_append.1 hf with hf | hf
    · exact ih (by omega) hi f hf
    · simp at hf; subst hf
      have a1 := (h1.mono (by omega) hi).1
      have hb := (Blk.bound (low := j) (by omega) 2 _ _ _ h2).1 pq_ok (by simp only; have : mkB 2 = 129 := rfl; omega)
      have hm := hb.2.1
      simp only at hm
      have : mkB 2 = 129 := rfl
      exact ⟨((Blk.okS (low := j) (by omega) 2 _ _ _ h2).1.2 pq_name (by simp only; omega)).1, h3.okW pq_name (by omega)⟩
/-- A made script is the text of pieces that the scanner takes as they stand. -/
theorem GScript.pieces {N : Nat} {t : ByteArray} (h : GScript N t) : ∃ (k : Nat) (fs : List (GL × GE)) (g : GL) (x : GE) (i0 m1 i1 m2 i2 i3 : Nat), Nx N 3 0 k i0 ∧ GFuns N k i0 fs m1 i1 ∧ Blk N k 3 ⟨[], m1, i1⟩ g ⟨[], m2, i2⟩ ∧ GNum N [] k 2 i2 x i3 ∧ t.data.toList = pcsT (scriptW fs g x) ∧ PcsOK (scriptW fs g x) := by
  obtain ⟨k, fs, g, x, i0, m1, i1, m2, i2, i3, hN, h0, hf, hg, hx, rfl⟩ := h
  have hk : k ≤ 2 := by have := h0.1; omega
  have hi := h0.le
  have a1 := (hf.mono hk hi.2.1).1
  have hb := (Blk.bound (low := k) hk 3 _ _ _ hg).1 (by intro s hs; simp at hs) (by simp only; have : mkB 3 = 777 := rfl; omega)
  have hm := hb.2.1
  simp only at hm
  have : mkB 3 = 777 := rfl
  have hnil : NsN [] := by intro s hs; cases hs
  have hgo := ((Blk.okS (low := k) hk 3 _ _ _ hg).1.2 hnil (by simp only; omega)).1
  exact ⟨k, fs, g, x, i0, m1, i1, m2, i2, i3, h0, hf, hg, hx, scriptT_l fs g x, funs_good fs 0 (by have := hf.len; omega) (hf.okW hk hi.2.1) _ (main_good hgo (hx.okW hnil hk))⟩
end Go.Proofs.YtmngofgminlloaaGreatDoor
