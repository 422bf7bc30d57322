/-
  Printed statements and functions: their pieces, their derivations. No program in sight.
  The scanner takes the pieces of a printed script as they stand; what is right of a script is right of each like it. No program in sight.
  What statements, parameters, functions and scripts are is one thing, in plain Lean.
  How many parts a script has: no more than the words that it has been read out of. No program in sight.
-/
import Derived.Test.YtmngofgminlloaaGreatDoorPP02
import Derived.Test.YtmngofgminlloaaGreatDoorPP01
import Derived.Test.YtmngofgminlloaaGreatDoorTT09
import Derived.Test.YtmngofgminlloaaGreatDoorTT14
import Derived.Test.YtmngofgminlloaaGreatDoorTT15
set_option linter.all false
namespace Go.Proofs.YtmngofgminlloaaGreatDoor
open Go.RowKit Tw

/-! ### no word of an expression is '=' -/
theorem lv_ne {t : Bs} (h : lv t ≠ 0) (s : Bs) (hs : lv s = 0) : (t == s) = false := by
  rw [beq_eq_false_iff_ne]; rintro rfl; exact h hs
def NoEq (l : List Pc) : Prop := ∀ c t, Pc.w c t ∈ l → (t == [61]) = false
theorem NoEq.nil : NoEq [] := fun _ _ h => by cases h
theorem NoEq.sp {b : UInt8} {l : List Pc} (h : NoEq l) : NoEq (.sp b :: l) := fun c t hm => by
  rcases List.mem_cons.1 hm with h1 | h1
  · cases h1
  · exact h c t h1
theorem NoEq.w {c : Nat} {t : Bs} {l : List Pc} (h0 : (t == [61]) = false) (h : NoEq l) : NoEq (.w c t :: l) := fun c t hm => by
  rcases List.mem_cons.1 hm with h1 | h1
  · cases h1; exact h0
  · exact h c t h1
theorem NoEq.app {a b : List Pc} (h : NoEq a) (h' : NoEq b) : NoEq (a ++ b) := fun c t hm => by
  rcases List.mem_append.1 hm with h1 | h1
  · exact h c t h1
  · exact h' c t h1
theorem num_noeq (n : Nat) : (numL n == [61]) = false := num_no n 61 (by decide)
theorem name_noeq {t : Bs} (h : isName t = true) : (t == [61]) = false := name_no h 61 (by decide)
theorem ex_noeq : ∀ (left : Nat) (x : Ex) (least : Nat), exF x left = 0 → NoEq (exPc least x) := by
  intro left
  induction left with
  | zero => intro x least h; obtain ⟨l, h0, _⟩ := exV h; omega
  | succ left ih =>
    intro x least h
    obtain ⟨l, h0, hv⟩ := exV h
    obtain rfl : left = l := by omega
    have hmo : ∀ xs : List Ex, (∀ a ∈ xs, exF a left = 0) → NoEq (moPc xs) := by
      intro xs
      induction xs with
      | nil => intro _; rw [moPc]; exact .nil
      | cons a l ihl => intro ha; rw [moPc]; exact .w (by decide) (.sp ((ih a 0 (ha a (List.mem_cons_self ..))).app (ihl fun b hb => ha b (List.mem_cons_of_mem _ hb))))
    have hls : ∀ xs : List Ex, (∀ a ∈ xs, exF a left = 0) → NoEq (lsPc xs) := by
      intro xs ha
      cases xs with
      | nil => rw [lsPc]; exact .nil
      | cons a l => rw [lsPc]; exact (ih a 0 (ha a (List.mem_cons_self ..))).app (hmo l fun b hb => ha b (List.mem_cons_of_mem _ hb))
    cases hv with
    | num _ _ => rw [exPc1]; exact .w (num_noeq _) .nil
    | flag _ => rw [exPc2]; exact .w (by unfold tfP; split <;> decide) .nil
    | var hn => rw [exPc3]; exact .w (name_noeq hn) .nil
    | neg ha => rw [exPc4]; exact .w (by decide) (ih _ 5 ha)
    | not ha => rw [exPc5]; exact .w (by decide) (ih _ 5 ha)
    | two h1 ha hb =>
      rename_i n t p a b
      rw [exPc6]
      have hi : NoEq (exPc (leftP (lv t.data.toList)) a ++ (.sp 32 :: .w 4 t.data.toList :: .sp 32 :: exPc (lv t.data.toList) b)) := (ih _ _ ha).app (.sp (.w (lv_ne h1 [61] (by decide)) (.sp (ih _ _ hb))))
      unfold parP
      split
      · exact .w (by decide) (hi.app (.w (by decide) .nil))
      · exact hi
    | call hn _ ha => rw [exPc7]; exact .w (name_noeq hn) (.w (by decide) ((hls _ ha).app (.w (by decide) .nil)))
    | host _ _ _ ha => rw [exPc8]; exact .w (by decide) (.w (num_noeq _) (.w (by decide) ((hls _ ha).app (.w (by decide) .nil))))

/-! ### pieces -/
def brP (l : List Pc) : List Pc := .w 4 [123] :: (l ++ [.sp 32, .w 4 [125]])
/-- What stands ahead of a plain statement's expression. -/
def preP (k : Int) (nm : ByteArray) : List Pc :=
  if k = 1 then [.w 3 [108, 101, 116], .sp 32, .w 2 nm.data.toList, .sp 32, .w 4 [61], .sp 32]
  else if k = 2 then [.w 2 nm.data.toList, .sp 32, .w 4 [61], .sp 32]
  else if k = 5 then [.w 3 [114, 101, 116, 117, 114, 110], .sp 32]
  else if k = 6 then [.w 3 [121, 105, 101, 108, 100], .sp 32] else []
mutual
def smPc : Sm → List Pc
  | .mk k nm a body els _ =>
    if k = 3 then .w 3 [105, 102] :: .sp 32 :: (exPc 0 a ++ (.sp 32 :: (brP (stPc body) ++ (if els.isEmpty then [] else .sp 32 :: .w 3 [101, 108, 115, 101] :: .sp 32 :: brP (stPc els)))))
    else if k = 4 then .w 3 [119, 104, 105, 108, 101] :: .sp 32 :: (exPc 0 a ++ (.sp 32 :: brP (stPc body)))
    else preP k nm ++ (exPc 0 a ++ [.w 4 [59]])
def stPc : List Sm → List Pc
  | [] => []
  | s :: l => .sp 32 :: (smPc s ++ stPc l)
end
inductive SmV (l : Nat) : Sm → Prop
  | simp {k : Int} {nm : ByteArray} {a : Ex} {body els : List Sm} {p : Int} : k = 1 ∨ k = 2 ∨ k = 5 ∨ k = 6 ∨ k = 7 → (k ≤ 2 → isName nm.data.toList = true) → exF a l = 0 → SmV l (.mk k nm a body els p)
  | ife {nm : ByteArray} {a : Ex} {body els : List Sm} {p : Int} : exF a l = 0 → smsF body l = 0 → smsF els l = 0 → SmV l (.mk 3 nm a body els p)
  | whil {nm : ByteArray} {a : Ex} {body els : List Sm} {p : Int} : exF a l = 0 → smsF body l = 0 → SmV l (.mk 4 nm a body els p)
theorem smV {s : Sm} {left : Nat} (h : smF s left = 0) : ∃ l, left = l + 1 ∧ SmV l s := by
  cases s with | mk k nm a body els p =>
  obtain ⟨h1, ⟨hk1, hk7⟩, ha, hb, he⟩ := smF_each h
  refine ⟨left - 1, by omega, ?_⟩
  by_cases h3 : k = 3
  · subst h3; exact .ife ha (hb (.inl rfl)) (he rfl)
  by_cases h4 : k = 4
  · subst h4; exact .whil ha (hb (.inr rfl))
  refine .simp (by omega) (fun h2 => ?_) ha
  rw [smF, if_neg (by omega)] at h
  by_cases hn : k < 1 ∨ 7 < k ∨ (k ≤ 2 ∧ nameB nm = false)
  · rw [if_pos hn] at h; cases h
  · cases hb : nameB nm with
    | true => exact hb
    | false => exact absurd (.inr (.inr ⟨h2, hb⟩)) hn
theorem smPc3 {nm : ByteArray} {a : Ex} {body els : List Sm} {p : Int} : smPc (.mk 3 nm a body els p) = .w 3 [105, 102] :: .sp 32 :: (exPc 0 a ++ (.sp 32 :: (brP (stPc body) ++ (if els.isEmpty then [] else .sp 32 :: .w 3 [101, 108, 115, 101] :: .sp 32 :: brP (stPc els))))) := by rw [smPc]; simp
theorem smPc4 {nm : ByteArray} {a : Ex} {body els : List Sm} {p : Int} : smPc (.mk 4 nm a body els p) = .w 3 [119, 104, 105, 108, 101] :: .sp 32 :: (exPc 0 a ++ (.sp 32 :: brP (stPc body))) := by rw [smPc]; simp
theorem smPc0 {k : Int} {nm : ByteArray} {a : Ex} {body els : List Sm} {p : Int} (h3 : k ≠ 3) (h4 : k ≠ 4) : smPc (.mk k nm a body els p) = preP k nm ++ (exPc 0 a ++ [.w 4 [59]]) := by rw [smPc, if_neg h3, if_neg h4]
/-- With what word a statement may begin. -/
def FirstS (t : Bs) : Prop := (t == [125]) = false ∧ (t == [101, 108, 115, 101]) = false
theorem name_first {t : Bs} (h : isName t = true) : FirstS t := by
  have hh : HeadOK 2 t := .inr (.inl ⟨rfl, h⟩)
  exact ⟨hh.ne _ (by simp), hh.ne _ (by simp)⟩
theorem sm_head {s : Sm} {left : Nat} (h : smF s left = 0) : ∃ c t l, smPc s = .w c t :: l ∧ FirstS t := by
  obtain ⟨l, rfl, hv⟩ := smV h
  cases hv with
  | ife _ _ _ => rw [smPc3]; exact ⟨_, _, _, rfl, by constructor <;> decide⟩
  | whil _ _ => rw [smPc4]; exact ⟨_, _, _, rfl, by constructor <;> decide⟩
  | simp hk hn ha =>
    rw [smPc0 (by omega) (by omega)]
    obtain rfl | rfl | rfl | rfl | rfl := hk
    · exact ⟨_, _, _, rfl, by constructor <;> decide⟩
    · exact ⟨_, _, _, rfl, name_first (hn (by decide))⟩
    · exact ⟨_, _, _, rfl, by constructor <;> decide⟩
    · exact ⟨_, _, _, rfl, by constructor <;> decide⟩
    · obtain ⟨c, t, q, e, hc⟩ := ex_head _ _ 0 ha
      rw [e]
      exact ⟨c, t, _, rfl, hc.ne _ (by simp), hc.ne _ (by simp)⟩

/-! ### derivations -/
section
variable {ws : List Wd} {en : Nat}
theorem at_not {c0 : Nat} {t0 s : Bs} {rest : List Pc} (h0 : (t0 == s) = false) : ∀ (l : List Pc) {i : Nat}, (∀ c t, Pc.w c t ∈ l → (t == s) = false) → AtP ws i (l ++ .w c0 t0 :: rest) → isAt ws i ⟨s.toArray⟩ = false
  | [], i, _, h => by obtain ⟨⟨k, hk⟩, _⟩ := h.w; exact is_no hk h0
  | .sp _ :: l, i, hl, h => at_not h0 l (fun c t hm => hl c t (List.mem_cons_of_mem _ hm)) h.sp
  | .w c t :: l, i, hl, h => by obtain ⟨⟨k, hk⟩, _⟩ := h.w; exact is_no hk (hl c t (List.mem_cons_self ..))
/-- An expression ahead of a semicolon. -/
theorem ex_semi {x : Ex} {left i : Nat} {rest : List Pc} (hx : exF x left = 0) (h : AtP ws i (exPc 0 x ++ .w 4 [59] :: rest)) : ∃ y, SameE false x y ∧ De ws en (.lvl 1 i) (.ex y (i + nW (exPc 0 x))) ∧ isAt ws (i + nW (exPc 0 x)) sSemi = true ∧ AtP ws (i + nW (exPc 0 x) + 1) rest := by
  obtain ⟨⟨k, hk⟩, h1⟩ := (AtP.skip _ h).w
  obtain ⟨y, s, d⟩ := (ex_pr (en := en) left).closed (s := 59) hx (by simp) h hk
  exact ⟨y, s, d, is_yes (t := [59]) hk, h1⟩
/-- An expression ahead of a brace. -/
theorem ex_brace {x : Ex} {left i : Nat} {l rest : List Pc} (hx : exF x left = 0) (h : AtP ws i (exPc 0 x ++ .sp 32 :: (brP l ++ rest))) : ∃ y, SameE false x y ∧ De ws en (.lvl 1 i) (.ex y (i + nW (exPc 0 x))) ∧ AtP ws (i + nW (exPc 0 x)) (brP l ++ rest) := by
  have h2 := (AtP.skip _ h).sp
  obtain ⟨⟨k, hk⟩, h1⟩ := AtP.w (c := 4) (t := [123]) (by simpa [brP] using h2)
  obtain ⟨y, s, d⟩ := (ex_pr (en := en) left).closed (s := 123) hx (by simp) h hk
  exact ⟨y, s, d, h2⟩
theorem nW_brP (l : List Pc) : nW (brP l) = nW l + 2 := by simp only [brP, nW, nW_app]
def StOK (ws : List Wd) (en left : Nat) : Prop := ∀ (l : List Sm) (i j : Nat) (rest : List Pc) (m : List Sm), smsF l left = 0 → AtP ws i (stPc l ++ rest) → isAt ws (i + nW (stPc l)) sElse = false → Ds ws en (.stmts (i + nW (stPc l))) (.sts m j) → ∃ ys, SameL false l ys ∧ Ds ws en (.stmts i) (.sts (ys ++ m) j)
def SmOK (ws : List Wd) (en left : Nat) : Prop := ∀ (s : Sm) (i : Nat) (rest : List Pc), smF s left = 0 → AtP ws i (smPc s ++ rest) → isAt ws (i + nW (smPc s)) sElse = false → ∃ y, SameS false s y ∧ Ds ws en (.stmt i) (.st y (i + nW (smPc s)))
theorem SameL.nil : SameL false [] [] := ⟨rfl, fun k x y h => by simp at h⟩
theorem SameL.cons {x y : Sm} {l m : List Sm} (h : SameS false x y) (hs : SameL false l m) : SameL false (x :: l) (y :: m) := by
  refine ⟨by simp [hs.1], fun k a b ha hb => ?_⟩
  cases k with
  | zero => simp at ha hb; subst ha hb; exact h
  | succ k => exact hs.2 k a b (by simpa using ha) (by simpa using hb)
theorem st_d {left : Nat} (hS : SmOK ws en left) : StOK ws en left := by
  intro l
  induction l with
  | nil => intro i j rest m _ _ _ hD; rw [stPc] at hD; exact ⟨[], .nil, hD⟩
  | cons s l ih =>
    intro i j rest m hf hat he hD
    rw [stPc] at hat he hD
    simp only [List.cons_append, List.append_assoc] at hat
    have hfs := smsF_each hf
    have hs := hfs s (List.mem_cons_self ..)
    have hl : smsF l left = 0 := by rw [smsF, if_pos hs] at hf; exact hf
    have h1 := hat.sp
    have h2 := AtP.skip (smPc s) h1
    rw [show i + nW (.sp 32 :: (smPc s ++ stPc l)) = i + nW (smPc s) + nW (stPc l) by simp only [nW, nW_app]; omega] at he hD
    obtain ⟨ys, sl, dl⟩ := ih (i + nW (smPc s)) j rest m hl h2 he hD
    have hel : isAt ws (i + nW (smPc s)) sElse = false := by
      cases l with
      | nil => rw [stPc] at he; exact he
      | cons s2 l2 =>
        obtain ⟨c, t, q, e, hc⟩ := sm_head (hfs s2 (by simp))
        rw [stPc, e] at h2
        obtain ⟨⟨k, hk⟩, _⟩ := AtP.w (c := c) (t := t) (by simpa using h2.sp)
        exact is_no (s := [101, 108, 115, 101]) hk hc.2
    obtain ⟨y, sy, dy⟩ := hS s i _ hs h1 hel
    obtain ⟨c, t, q, e, hc⟩ := sm_head hs
    rw [e] at h1
    obtain ⟨⟨k, hk⟩, _⟩ := AtP.w (c := c) (t := t) (by simpa using h1)
    exact ⟨y :: ys, .cons sy sl, .more (is_no (s := [125]) hk hc.1) dy dl⟩
theorem br_d {left : Nat} (hS : StOK ws en left) {l : List Sm} {i : Nat} {rest : List Pc} (hf : smsF l left = 0) (h : AtP ws i (brP (stPc l) ++ rest)) :
    ∃ ys, SameL false l ys ∧ Ds ws en (.block i) (.sts ys (i + nW (brP (stPc l)))) ∧ AtP ws (i + nW (brP (stPc l))) rest := by
  have h9 := AtP.skip _ h
  simp only [brP, List.cons_append, List.append_assoc, List.nil_append] at h
  obtain ⟨⟨k, hk⟩, h1⟩ := h.w
  obtain ⟨⟨k2, hk2⟩, h2⟩ := (AtP.skip _ h1).sp.w
  obtain ⟨ys, sl, dl⟩ := hS l (i + 1) _ _ [] hf h1 (is_no (s := [101, 108, 115, 101]) hk2 (by decide)) (.done (is_yes (t := [125]) hk2))
  rw [List.append_nil] at dl
  refine ⟨ys, sl, ?_, h9⟩
  rw [nW_brP, show i + (nW (stPc l) + 2) = i + 1 + nW (stPc l) + 1 by omega]
  exact .block (is_yes (t := [123]) hk) dl
theorem simp_s {k : Nat} {nm nm' : ByteArray} {a y : Ex} {body els : List Sm} {p p' : Int} (hk : k = 1 ∨ k = 2 ∨ k = 5 ∨ k = 6 ∨ k = 7) (hn : k ≤ 2 → nm = nm') (h : SameE false a y) : SameS false (.mk (k : Int) nm a body els p) (.mk (k : Int) nm' y [] [] p') := by
  refine .mk rfl (fun h => by cases h) h (fun h => ?_) (fun h => ?_) (fun h => ?_) (fun h => ?_) (fun h => ?_)
  · simp only [Sm.kind] at h; exact hn (by omega)
  all_goals (simp only [Sm.kind] at h; omega)
theorem sm_pr : ∀ left, SmOK ws en left := by
  intro left
  induction left with
  | zero => intro s i rest h; obtain ⟨l, h0, _⟩ := smV h; omega
  | succ left ih =>
    have hS := st_d ih
    intro s i rest h hat hel
    obtain ⟨l, h0, hv⟩ := smV h
    obtain rfl : left = l := by omega
    cases hv with
    | whil ha hb =>
      rename_i nm a body els p
      rw [smPc4] at *
      simp only [List.cons_append, List.append_assoc] at hat
      obtain ⟨⟨k, hk⟩, h1⟩ := hat.w
      obtain ⟨y, sy, dy, h2⟩ := ex_brace (en := en) ha h1.sp
      obtain ⟨ys, sl, dl, h3⟩ := br_d hS hb h2
      have hh : headS ws i = 4 := by rw [at_hs hk]; simp [hsT]
      have e : i + nW (.w 3 [119, 104, 105, 108, 101] :: .sp 32 :: (exPc 0 a ++ (.sp 32 :: brP (stPc body)))) = i + 1 + nW (exPc 0 a) + nW (brP (stPc body)) := by simp only [nW, nW_app]; omega
      rw [e]
      refine ⟨_, ?_, .whil hh dy dl⟩
      refine .mk rfl (fun h => by cases h) sy (fun h => ?_) (fun _ => sl.1) (fun _ => sl.2) (fun h => ?_) (fun h => ?_)
      all_goals (simp only [Sm.kind] at h; omega)
    | ife ha hb he =>
      rename_i nm a body els p
      rw [smPc3] at *
      simp only [List.cons_append, List.append_assoc] at hat
      obtain ⟨⟨k, hk⟩, h1⟩ := hat.w
      obtain ⟨y, sy, dy, h2⟩ := ex_brace (en := en) ha h1.sp
      obtain ⟨ys, sl, dl, h3⟩ := br_d hS hb h2
      have hh : headS ws i = 3 := by rw [at_hs hk]; simp [hsT]
      cases els with
      | nil =>
        simp only [List.isEmpty_nil, if_true, List.append_nil, List.nil_append] at *
        have e : i + nW (.w 3 [105, 102] :: .sp 32 :: (exPc 0 a ++ (.sp 32 :: brP (stPc body)))) = i + 1 + nW (exPc 0 a) + nW (brP (stPc body)) := by simp only [nW, nW_app]; omega
        rw [e] at hel ⊢
        refine ⟨_, ?_, .if0 hh dy dl hel⟩
        refine .mk rfl (fun h => by cases h) sy (fun h => ?_) (fun _ => sl.1) (fun _ => sl.2) (fun h => rfl) (fun h k x y hx => by simp [Sm.els] at hx)
        simp only [Sm.kind] at h; omega
      | cons s2 l2 =>
        simp only [List.isEmpty_cons, Bool.false_eq_true, if_false, List.cons_append] at *
        obtain ⟨⟨k4, hk4⟩, h4⟩ := h3.sp.w
        obtain ⟨zs, sz, dz, h5⟩ := br_d hS he h4.sp
        obtain ⟨⟨k5, hk5⟩, _⟩ := AtP.w (c := 4) (t := [123]) (by simpa [brP] using h4.sp)
        have e : i + nW (.w 3 [105, 102] :: .sp 32 :: (exPc 0 a ++ (.sp 32 :: (brP (stPc body) ++ (.sp 32 :: .w 3 [101, 108, 115, 101] :: .sp 32 :: brP (stPc (s2 :: l2))))))) = i + 1 + nW (exPc 0 a) + nW (brP (stPc body)) + 1 + nW (brP (stPc (s2 :: l2))) := by simp only [nW, nW_app]; omega
        rw [e]
        refine ⟨_, ?_, .ifE hh dy dl (is_yes (t := [101, 108, 115, 101]) hk4) (is_no (s := [105, 102]) hk5 (by decide)) dz⟩
        refine .mk rfl (fun h => by cases h) sy (fun h => ?_) (fun _ => sl.1) (fun _ => sl.2) (fun h => sz.1) (fun h => sz.2)
        simp only [Sm.kind] at h; omega
    | simp hk hn ha =>
      rename_i k nm a body els p
      rw [smPc0 (by omega) (by omega)] at *
      obtain rfl | rfl | rfl | rfl | rfl := hk
      · have hN := hn (by decide)
        rw [show preP 1 nm = [.w 3 [108, 101, 116], .sp 32, .w 2 nm.data.toList, .sp 32, .w 4 [61], .sp 32] from rfl] at *
        simp only [List.cons_append, List.append_assoc, List.nil_append] at hat
        obtain ⟨⟨k, hk⟩, h1⟩ := hat.w
        obtain ⟨⟨k2, hk2⟩, h2⟩ := h1.sp.w
        obtain ⟨⟨k3, hk3⟩, h3⟩ := h2.sp.w
        obtain ⟨y, sy, dy, hs, h4⟩ := ex_semi (en := en) ha h3.sp
        have hh : headS ws i = 1 := by rw [at_hs hk]; simp [hsT]
        have hst := simp_d (en := en) hh (by decide) (by decide) (fun _ => ⟨at_kind hk2, is_yes (t := [61]) hk3⟩) (show exprS ws i = i + 1 + 1 + 1 by unfold exprS; rw [hh]; rfl) (show nameS ws i = nm by unfold nameS; rw [hh, at_text hk2, bs_mk]; rfl) dy hs
        have e : i + nW ([.w 3 [108, 101, 116], .sp 32, .w 2 nm.data.toList, .sp 32, .w 4 [61], .sp 32] ++ (exPc 0 a ++ [.w 4 [59]])) = i + 1 + 1 + 1 + nW (exPc 0 a) + 1 := by simp only [nW, nW_app, List.cons_append, List.nil_append]; omega
        rw [e]
        exact ⟨_, simp_s (.inl rfl) (fun _ => rfl) sy, hst⟩
      · have hN := hn (by decide)
        rw [show preP 2 nm = [.w 2 nm.data.toList, .sp 32, .w 4 [61], .sp 32] from rfl] at *
        simp only [List.cons_append, List.append_assoc, List.nil_append] at hat
        obtain ⟨⟨k, hk⟩, h1⟩ := hat.w
        obtain ⟨⟨k2, hk2⟩, h2⟩ := h1.sp.w
        obtain ⟨y, sy, dy, hs, h4⟩ := ex_semi (en := en) ha h2.sp
        have hh : headS ws i = 2 := by rw [at_hs hk, show isAt ws (i + 1) sEq = true from is_yes (t := [61]) hk2, hs_name hN]; rfl
        have hst := simp_d (en := en) hh (by decide) (by decide) (fun h => by cases h) (show exprS ws i = i + 1 + 1 by unfold exprS; rw [hh]; rfl) (show nameS ws i = nm by unfold nameS; rw [hh, at_text hk, bs_mk]; rfl) dy hs
        have e : i + nW ([.w 2 nm.data.toList, .sp 32, .w 4 [61], .sp 32] ++ (exPc 0 a ++ [.w 4 [59]])) = i + 1 + 1 + nW (exPc 0 a) + 1 := by simp only [nW, nW_app, List.cons_append, List.nil_append]; omega
        rw [e]
        exact ⟨_, simp_s (.inr (.inl rfl)) (fun _ => rfl) sy, hst⟩
      · rw [show preP 5 nm = [.w 3 [114, 101, 116, 117, 114, 110], .sp 32] from rfl] at *
        simp only [List.cons_append, List.append_assoc, List.nil_append] at hat
        obtain ⟨⟨k, hk⟩, h1⟩ := hat.w
        obtain ⟨y, sy, dy, hs, h4⟩ := ex_semi (en := en) ha h1.sp
        have hh : headS ws i = 5 := by rw [at_hs hk]; simp [hsT]
        have hst := simp_d (en := en) hh (by decide) (by decide) (fun h => by cases h) (show exprS ws i = i + 1 by unfold exprS; rw [hh]; rfl) (show nameS ws i = sNone by unfold nameS; rw [hh]; rfl) dy hs
        have e : i + nW ([.w 3 [114, 101, 116, 117, 114, 110], .sp 32] ++ (exPc 0 a ++ [.w 4 [59]])) = i + 1 + nW (exPc 0 a) + 1 := by simp only [nW, nW_app, List.cons_append, List.nil_append]; omega
        rw [e]
        exact ⟨_, simp_s (.inr (.inr (.inl rfl))) (fun h => absurd h (by decide)) sy, hst⟩
      · rw [show preP 6 nm = [.w 3 [121, 105, 101, 108, 100], .sp 32] from rfl] at *
        simp only [List.cons_append, List.append_assoc, List.nil_append] at hat
        obtain ⟨⟨k, hk⟩, h1⟩ := hat.w
        obtain ⟨y, sy, dy, hs, h4⟩ := ex_semi (en := en) ha h1.sp
        have hh : headS ws i = 6 := by rw [at_hs hk]; simp [hsT]
        have hst := simp_d (en := en) hh (by decide) (by decide) (fun h => by cases h) (show exprS ws i = i + 1 by unfold exprS; rw [hh]; rfl) (show nameS ws i = sNone by unfold nameS; rw [hh]; rfl) dy hs
        have e : i + nW ([.w 3 [121, 105, 101, 108, 100], .sp 32] ++ (exPc 0 a ++ [.w 4 [59]])) = i + 1 + nW (exPc 0 a) + 1 := by simp only [nW, nW_app, List.cons_append, List.nil_append]; omega
        rw [e]
        exact ⟨_, simp_s (.inr (.inr (.inr (.inl rfl)))) (fun h => absurd h (by decide)) sy, hst⟩
      · rw [show preP 7 nm = [] from rfl] at *
        simp only [List.append_assoc, List.nil_append, List.cons_append] at hat
        obtain ⟨y, sy, dy, hs, h4⟩ := ex_semi (en := en) ha hat
        obtain ⟨c, t, q, eq, hc⟩ := ex_head _ _ 0 ha
        have hat2 := hat
        rw [eq] at hat2
        obtain ⟨⟨k, hk⟩, h1⟩ := AtP.w (c := c) (t := t) (by simpa using hat2)
        have hne : isAt ws (i + 1) sEq = false := at_not (s := [61]) (c0 := 4) (t0 := [59]) (by decide) q (fun c' t' hm => ex_noeq _ _ 0 ha c' t' (by rw [eq]; exact List.mem_cons_of_mem _ hm)) (by simpa using h1)
        have hh : headS ws i = 7 := by rw [at_hs hk, hne]; exact hc.hs false (fun _ => rfl)
        have hst := simp_d (en := en) hh (by decide) (by decide) (fun h => by cases h) (show exprS ws i = i by unfold exprS; rw [hh]; rfl) (show nameS ws i = sNone by unfold nameS; rw [hh]; rfl) dy hs
        have e : i + nW ([] ++ (exPc 0 a ++ [.w 4 [59]])) = i + nW (exPc 0 a) + 1 := by simp only [nW, nW_app, List.nil_append]; omega
        rw [e]
        exact ⟨_, simp_s (.inr (.inr (.inr (.inr rfl)))) (fun h => absurd h (by decide)) sy, hst⟩

/-! ### functions -/
end
def tyP (t : Int) : Bs := if t = 1 then [105, 110, 116] else [98, 111, 111, 108]
def paM : List ByteArray → List Int → List Pc
  | n :: ns, t :: ts => .w 4 [44] :: .sp 32 :: .w 2 n.data.toList :: .w 4 [58] :: .sp 32 :: .w 3 (tyP t) :: paM ns ts
  | _, _ => []
def paPc : List ByteArray → List Int → List Pc
  | n :: ns, t :: ts => .w 2 n.data.toList :: .w 4 [58] :: .sp 32 :: .w 3 (tyP t) :: paM ns ts
  | _, _ => []
def fnPc (f : Fn) : List Pc := .w 3 [102, 117, 110] :: .sp 32 :: .w 2 f.name.data.toList :: .w 4 [40] :: (paPc f.names f.types ++ (.w 4 [41] :: .w 4 [58] :: .sp 32 :: .w 3 (tyP f.out) :: .sp 32 :: (brP (stPc f.body) ++ [.sp 10])))
def unPc : List Fn → List Pc
  | [] => []
  | f :: l => fnPc f ++ unPc l
structure FnV (f : Fn) : Prop where
  six : f.names.length ≤ 6
  len : f.names.length = f.types.length
  name : isName f.name.data.toList = true
  out : f.out = 1 ∨ f.out = 2
  names : ∀ n ∈ f.names, isName n.data.toList = true
  types : ∀ t ∈ f.types, t = 1 ∨ t = 2
  body : smsF f.body 40 = 0
theorem fnV {f : Fn} (h : fnF f = 0) : FnV f := by
  unfold fnF at h
  by_cases h6 : 6 < f.names.length
  · rw [if_pos h6] at h; cases h
  rw [if_neg h6] at h
  by_cases hb : (decide (f.names.length = f.types.length) && nameB f.name && typB f.out && f.names.all nameB && f.types.all typB) = false
  · rw [if_pos hb] at h; cases h
  rw [if_neg hb] at h
  simp only [Bool.not_eq_false, Bool.and_eq_true, decide_eq_true_eq, List.all_eq_true] at hb
  obtain ⟨⟨⟨⟨b1, b2⟩, b3⟩, b4⟩, b5⟩ := hb
  have ht : ∀ t, typB t = true → t = 1 ∨ t = 2 := fun t h => by simpa [typB] using h
  exact ⟨by omega, b1, b2, ht _ b3, b4, fun t h => ht t (b5 t h), h⟩
section
variable {ws : List Wd} {en : Nat}
theorem ty_d {t : Int} (ht : t = 1 ∨ t = 2) {i k k' : Nat} (h : ws[i]? = some ⟨4, ⟨([58] : Bs).toArray⟩, k⟩) (h' : ws[i + 1]? = some ⟨3, ⟨(tyP t).toArray⟩, k'⟩) : typF ws i = .ok t := by
  unfold typF
  rw [if_pos (show isAt ws i tColon = true from is_yes (t := [58]) h)]
  rcases ht with rfl | rfl
  · rw [if_pos (show isAt ws (i + 1) tInt = true from is_yes (t := [105, 110, 116]) h')]
  · rw [if_neg (by rw [show isAt ws (i + 1) tInt = false from is_no (s := [105, 110, 116]) h' (by decide)]; decide), if_pos (show isAt ws (i + 1) tBool = true from is_yes (t := [98, 111, 111, 108]) h')]
theorem paM_d : ∀ (ns : List ByteArray) (ts : List Int) (q i : Nat) (rest : List Pc), ns.length = ts.length → (∀ n ∈ ns, isName n.data.toList = true) → (∀ t ∈ ts, t = 1 ∨ t = 2) → AtP ws i (paM ns ts ++ .w 4 [41] :: rest) →
    Dp ws en (q + 1) i (.ok ns ts (i + nW (paM ns ts) + 1))
  | [], [], q, i, rest, _, _, _, h => by
    rw [show paM [] [] = [] from rfl] at h ⊢
    obtain ⟨⟨k, hk⟩, _⟩ := h.w
    exact .close (is_yes (t := [41]) hk)
  | [], _ :: _, _, _, _, h, _, _, _ => by cases h
  | _ :: _, [], _, _, _, h, _, _, _ => by cases h
  | n :: ns, t :: ts, q, i, rest, hl, hn, ht, h => by
    rw [paM] at h ⊢
    simp only [List.cons_append] at h
    obtain ⟨⟨k, hk⟩, h1⟩ := h.w
    obtain ⟨⟨k2, hk2⟩, h2⟩ := h1.sp.w
    obtain ⟨⟨k3, hk3⟩, h3⟩ := h2.w
    obtain ⟨⟨k4, hk4⟩, h4⟩ := h3.sp.w
    have hd := paM_d ns ts (q + 1) _ rest (by simpa using hl) (fun m hm => hn m (List.mem_cons_of_mem _ hm)) (fun m hm => ht m (List.mem_cons_of_mem _ hm)) h4
    have := Dp.next (ws := ws) (en := en) (k := q + 1) (i := i) (is_no (s := [41]) hk (by decide)) (fun _ => is_yes (t := [44]) hk) (at_kind hk2) (ty_d (ht t (List.mem_cons_self ..)) hk3 hk4) hd
    rw [show parAt (q + 1) i = i + 1 from rfl, at_text hk2, bs_mk] at this
    rw [show i + nW (.w 4 [44] :: .sp 32 :: .w 2 n.data.toList :: .w 4 [58] :: .sp 32 :: .w 3 (tyP t) :: paM ns ts) + 1 = i + 1 + 1 + 1 + 1 + nW (paM ns ts) + 1 by simp only [nW]; omega]
    exact this
theorem paPc_d (ns : List ByteArray) (ts : List Int) (i : Nat) (rest : List Pc) (hl : ns.length = ts.length) (hn : ∀ n ∈ ns, isName n.data.toList = true) (ht : ∀ t ∈ ts, t = 1 ∨ t = 2) (h : AtP ws i (paPc ns ts ++ .w 4 [41] :: rest)) :
    Dp ws en 0 i (.ok ns ts (i + nW (paPc ns ts) + 1)) := by
  match ns, ts, hl with
  | [], [], _ =>
    rw [show paPc [] [] = [] from rfl] at h ⊢
    obtain ⟨⟨k, hk⟩, _⟩ := h.w
    exact .close (is_yes (t := [41]) hk)
  | n :: ns, t :: ts, hl =>
    rw [paPc] at h ⊢
    simp only [List.cons_append] at h
    obtain ⟨⟨k2, hk2⟩, h2⟩ := h.w
    obtain ⟨⟨k3, hk3⟩, h3⟩ := h2.w
    obtain ⟨⟨k4, hk4⟩, h4⟩ := h3.sp.w
    have hd := paM_d (en := en) ns ts 0 _ rest (by simpa using hl) (fun m hm => hn m (List.mem_cons_of_mem _ hm)) (fun m hm => ht m (List.mem_cons_of_mem _ hm)) h4
    have := Dp.next (ws := ws) (en := en) (k := 0) (i := i) (is_no (s := [41]) hk2 (name_no (hn n (List.mem_cons_self ..)) 41 (by decide))) (fun h => absurd rfl h) (at_kind hk2) (ty_d (ht t (List.mem_cons_self ..)) hk3 hk4) hd
    rw [show parAt 0 i = i from rfl, at_text hk2, bs_mk] at this
    rw [show i + nW (.w 2 n.data.toList :: .w 4 [58] :: .sp 32 :: .w 3 (tyP t) :: paM ns ts) + 1 = i + 1 + 1 + 1 + nW (paM ns ts) + 1 by simp only [nW]; omega]
    exact this
theorem fn_pr {f : Fn} (hf : FnV f) {i : Nat} {rest : List Pc} (h : AtP ws i (fnPc f ++ rest)) : ∃ g, SameF false f g ∧ Df ws en i (.fn g (i + nW (fnPc f))) ∧ i < ws.length := by
  simp only [fnPc, List.append_assoc, List.cons_append, List.nil_append] at h
  obtain ⟨⟨k, hk⟩, h1⟩ := h.w
  obtain ⟨⟨k1, hk1⟩, h2⟩ := h1.sp.w
  obtain ⟨⟨k2, hk2⟩, h3⟩ := h2.w
  have hp := paPc_d (en := en) f.names f.types _ _ hf.len hf.names hf.types h3
  obtain ⟨⟨k4, hk4⟩, h4⟩ := (AtP.skip _ h3).w
  obtain ⟨⟨k5, hk5⟩, h5⟩ := h4.w
  obtain ⟨⟨k6, hk6⟩, h6⟩ := h5.sp.w
  obtain ⟨ys, sl, dl, h7⟩ := br_d (en := en) (st_d (sm_pr 40)) hf.body h6.sp
  have hdf := Df.fn (is_yes (t := [102, 117, 110]) hk) (at_kind hk1) (is_yes (t := [40]) hk2) hp (ty_d hf.out hk5 hk6) dl
  rw [at_text hk1, bs_mk] at hdf
  have e : i + nW (fnPc f) = i + 1 + 1 + 1 + nW (paPc f.names f.types) + 1 + 1 + 1 + nW (brP (stPc f.body)) := by simp only [fnPc, nW, nW_app]; omega
  rw [e]
  refine ⟨_, ?_, hdf, (List.getElem?_eq_some_iff.1 hk).1⟩
  exact ⟨rfl, rfl, rfl, rfl, fun h => (by cases h), sl⟩
theorem un_pr : ∀ (us : List Fn) (i : Nat), (∀ f ∈ us, FnV f) → AtP ws i (unPc us) → ∃ vs, SameU false us vs ∧ Du ws en i (.fns vs)
  | [], i, _, h => by
    refine ⟨[], ⟨rfl, fun k x y h => by simp at h⟩, .done ?_⟩
    unfold AtP ktW at h
    have h0 := congrArg List.length h
    simp [unPc, ktP] at h0
    omega
  | f :: l, i, hf, h => by
    rw [unPc] at h
    obtain ⟨g, sg, dg, hlt⟩ := fn_pr (en := en) (hf f (List.mem_cons_self ..)) h
    obtain ⟨vs, sv, dv⟩ := un_pr l _ (fun q hq => hf q (List.mem_cons_of_mem _ hq)) (AtP.skip _ h)
    refine ⟨g :: vs, ⟨by simp [sv.1], fun k a b ha hb => ?_⟩, .more hlt dg dv⟩
    cases k with
    | zero => simp at ha hb; subst ha hb; exact sg
    | succ k => exact sv.2 k a b (by simpa using ha) (by simpa using hb)
end
end Go.Proofs.YtmngofgminlloaaGreatDoor

namespace Go.Proofs.YtmngofgminlloaaGreatDoor
open Go.RowKit Tw

theorem tok_bang {d : UInt8} {l : Bs} (hd : d ≠ 61) : Tw.tok (33 :: d :: l) = .word 4 1 := by
  have h8 : signLen (33 :: d :: l) = 1 := by
    unfold signLen
    have e : (33 :: d :: l).take 2 = [33, d] := rfl
    have hc : sign2.contains [33, d] = false := by
      rw [← Bool.not_eq_true, List.contains_iff_mem]
      intro hm
      simp only [sign2, List.mem_cons, List.mem_nil_iff, or_false] at hm
      rcases hm with h | h | h | h | h | h <;> first | (injection h with h1 h2; exact absurd h1 (by decide)) | (injection h with h1 h2; injection h2 with h3 _; exact hd h3)
    rw [e, hc]
    have h2 : sign1.contains (33 : UInt8) = true := by decide
    simp only [List.headD_cons, h2, List.length_cons]; simp
  have h1 : isSp 33 = false ∧ ((33 : UInt8) == 35) = false ∧ isD 33 = false ∧ isL 33 = false := by decide
  unfold Tw.tok
  simp only [List.headD_cons, h1.1, h1.2.1, h1.2.2.1, h1.2.2.2, h8, Bool.false_eq_true, if_false]
theorem HeadOK.char {c : Nat} {t : Bs} (h : HeadOK c t) : ∃ d r, t = d :: r ∧ d ≠ 61 := by
  rcases h with ⟨_, n, rfl⟩ | ⟨_, hn⟩ | ⟨_, rfl | rfl⟩ | ⟨_, rfl | rfl | rfl | rfl⟩
  · cases h : numL n with
    | nil => exact absurd h (numL_ne n)
    | cons d r =>
      refine ⟨d, r, rfl, ?_⟩
      rintro rfl
      have := numL_D n 61 (by rw [h]; exact List.mem_cons_self ..)
      revert this; decide
  · cases t with
    | nil => simp [isName] at hn
    | cons d r =>
      refine ⟨d, r, rfl, ?_⟩
      rintro rfl
      simp only [isName, Bool.and_eq_true, List.headD_cons] at hn
      have := hn.1.1.2
      revert this; decide
  all_goals exact ⟨_, _, rfl, by decide⟩
theorem ok_numB {n : Nat} {l : List Pc} (hn : n ≤ 999999999999) (hl : NotA (pcsT l)) (h : PcsOK l) : PcsOK (.w 1 (numL n) :: l) := ⟨tok_numeral (num_isNum n hn) (numL_ne n) hl, List.length_pos_iff.2 (numL_ne n), h⟩
theorem ok_op {t : Bs} (ht : lv t ≠ 0) {l : List Pc} (h : PcsOK (.sp 32 :: l)) : PcsOK (.w 4 t :: .sp 32 :: l) := by
  unfold lv at ht
  split at ht
  · rename_i e; subst e; exact ok_two (by decide) h
  split at ht
  · rename_i e; subst e; exact ok_two (by decide) h
  split at ht
  · rename_i e
    rcases e with rfl | rfl | rfl | rfl | rfl | rfl
    · exact ok_eq (by decide) h
    · exact ok_two (by decide) h
    · exact ok_eq (by decide) h
    · exact ok_two (by decide) h
    · exact ok_two (by decide) h
    · exact ok_two (by decide) h
  split at ht
  · rename_i e; rcases e with rfl | rfl <;> exact ok_one (by decide) h
  split at ht
  · rename_i e; rcases e with rfl | rfl | rfl <;> exact ok_one (by decide) h
  · exact absurd rfl ht
theorem tfP_key (n : Int) : tfP n ∈ keyTexts := by unfold tfP; split <;> decide
theorem ex_ok : ∀ (left : Nat) (x : Ex) (least : Nat) (rest : List Pc), exF x left = 0 → PcsOK rest → NotA (pcsT rest) → PcsOK (exPc least x ++ rest) := by
  intro left
  induction left with
  | zero => intro x least rest h; obtain ⟨l, h0, _⟩ := exV h; omega
  | succ left ih =>
    intro x least rest h hr hn
    obtain ⟨l, h0, hv⟩ := exV h
    obtain rfl : left = l := by omega
    have hmo : ∀ (xs : List Ex) (rest : List Pc), (∀ a ∈ xs, exF a left = 0) → PcsOK rest → PcsOK (moPc xs ++ .w 4 [41] :: rest) := by
      intro xs
      induction xs with
      | nil => intro rest _ hr; rw [moPc]; exact ok_one (by decide) hr
      | cons a l ihl =>
        intro rest ha hr
        rw [moPc]
        simp only [List.cons_append, List.append_assoc]
        refine ok_one (by decide) (ok_sp (ih a 0 _ (ha a (List.mem_cons_self ..)) (ihl rest (fun b hb => ha b (List.mem_cons_of_mem _ hb)) hr) ?_))
        cases l with
        | nil => rw [moPc]; exact notA_sg (by decide) _ _ _
        | cons b l2 => rw [moPc]; exact notA_sg (by decide) _ _ _
    have hls : ∀ (xs : List Ex) (rest : List Pc), (∀ a ∈ xs, exF a left = 0) → PcsOK rest → PcsOK (lsPc xs ++ .w 4 [41] :: rest) := by
      intro xs rest ha hr
      cases xs with
      | nil => rw [lsPc]; exact ok_one (by decide) hr
      | cons a l =>
        rw [lsPc, List.append_assoc]
        refine ih a 0 _ (ha a (List.mem_cons_self ..)) (hmo l rest (fun b hb => ha b (List.mem_cons_of_mem _ hb)) hr) ?_
        cases l with
        | nil => rw [moPc]; exact notA_sg (by decide) _ _ _
        | cons b l2 => rw [moPc]; exact notA_sg (by decide) _ _ _
    cases hv with
    | num n0 n1 => rw [exPc1]; exact ok_numB (by omega) hn hr
    | flag _ => rw [exPc2]; exact ok_key (tfP_key _) hn hr
    | var hm => rw [exPc3]; exact ok_name hm hn hr
    | neg ha => rw [exPc4]; exact ok_one (by decide) (ih _ 5 _ ha hr hn)
    | not ha =>
      rw [exPc5]
      obtain ⟨c, t, q, e, hc⟩ := ex_head _ _ 5 ha
      obtain ⟨d, r, rfl, hd⟩ := hc.char
      refine ⟨?_, by decide, ih _ 5 _ ha hr hn⟩
      rw [e]
      exact tok_bang hd
    | two h1 ha hb =>
      rw [exPc6]
      have hi : ∀ rest : List Pc, PcsOK rest → NotA (pcsT rest) → ∀ (n : Nat), PcsOK (exPc (leftP n) _ ++ (.sp 32 :: .w 4 _ :: .sp 32 :: (exPc n _ ++ rest))) := fun rest hr hn n => ih _ (leftP n) _ ha (ok_sp (ok_op h1 (ok_sp (ih _ n _ hb hr hn)))) (notA_sp _)
      unfold parP
      split
      · simp only [List.cons_append, List.append_assoc, List.nil_append]
        exact ok_one (by decide) (hi _ (ok_one (by decide) hr) (notA_sg (by decide) _ _ _) _)
      · simp only [List.cons_append, List.append_assoc]
        exact hi _ hr hn _
    | call hm _ ha =>
      rw [exPc7]
      simp only [List.cons_append, List.append_assoc, List.nil_append]
      exact ok_name hm (notA_sg (by decide) _ _ _) (ok_one (by decide) (hls _ _ ha hr))
    | host n0 n1 _ ha =>
      rw [exPc8]
      simp only [List.cons_append, List.append_assoc, List.nil_append]
      exact ok_one (by decide) (ok_numB (by omega) (notA_sg (by decide) _ _ _) (ok_one (by decide) (hls _ _ ha hr)))
theorem br_ok {l : List Pc} {rest : List Pc} (hl : ∀ rest, PcsOK rest → PcsOK (l ++ rest)) (hr : PcsOK rest) : PcsOK (brP l ++ rest) := by
  simp only [brP, List.cons_append, List.append_assoc, List.nil_append]
  exact ok_one (by decide) (hl _ (ok_sp (ok_one (by decide) hr)))
theorem sm_ok : ∀ (left : Nat) (s : Sm) (rest : List Pc), smF s left = 0 → PcsOK rest → PcsOK (smPc s ++ rest) := by
  intro left
  induction left with
  | zero => intro s rest h; obtain ⟨l, h0, _⟩ := smV h; omega
  | succ left ih =>
    have hst : ∀ (l : List Sm), smsF l left = 0 → ∀ rest, PcsOK rest → PcsOK (stPc l ++ rest) := by
      intro l
      induction l with
      | nil => intro _ rest hr; rw [stPc]; exact hr
      | cons s l ihl =>
        intro hf rest hr
        have hs := smsF_each hf s (List.mem_cons_self ..)
        have hl : smsF l left = 0 := by rw [smsF, if_pos hs] at hf; exact hf
        rw [stPc]
        simp only [List.cons_append, List.append_assoc]
        exact ok_sp (ih s _ hs (ihl hl rest hr))
    intro s rest h hr
    obtain ⟨l, h0, hv⟩ := smV h
    obtain rfl : left = l := by omega
    cases hv with
    | whil ha hb =>
      rw [smPc4]
      simp only [List.cons_append, List.append_assoc]
      exact ok_key (by decide) (notA_sp _) (ok_sp (ex_ok _ _ 0 _ ha (ok_sp (br_ok (hst _ hb) hr)) (notA_sp _)))
    | ife ha hb he =>
      rw [smPc3]
      simp only [List.cons_append, List.append_assoc]
      refine ok_key (by decide) (notA_sp _) (ok_sp (ex_ok _ _ 0 _ ha (ok_sp (br_ok (hst _ hb) ?_)) (notA_sp _)))
      split
      · exact hr
      · simp only [List.cons_append]
        exact ok_sp (ok_key (by decide) (notA_sp _) (ok_sp (br_ok (hst _ he) hr)))
    | simp hk hn ha =>
      rw [smPc0 (by omega) (by omega)]
      have ht : PcsOK (exPc 0 _ ++ (.w 4 [59] :: rest)) := ex_ok _ _ 0 _ ha (ok_one (by decide) hr) (notA_sg (by decide) _ _ _)
      simp only [List.append_assoc, List.cons_append, List.nil_append]
      obtain rfl | rfl | rfl | rfl | rfl := hk
      · exact ok_key (by decide) (notA_sp _) (ok_sp (ok_name (hn (by decide)) (notA_sp _) (ok_sp (ok_eq (by decide) (ok_sp ht)))))
      · exact ok_name (hn (by decide)) (notA_sp _) (ok_sp (ok_eq (by decide) (ok_sp ht)))
      · exact ok_key (by decide) (notA_sp _) (ok_sp ht)
      · exact ok_key (by decide) (notA_sp _) (ok_sp ht)
      · exact ht
theorem st_ok {l : List Sm} {left : Nat} (hf : smsF l left = 0) : ∀ rest, PcsOK rest → PcsOK (stPc l ++ rest) := by
  induction l with
  | nil => intro rest hr; rw [stPc]; exact hr
  | cons s l ihl =>
    intro rest hr
    have hs := smsF_each hf s (List.mem_cons_self ..)
    have hl : smsF l left = 0 := by rw [smsF, if_pos hs] at hf; exact hf
    rw [stPc]
    simp only [List.cons_append, List.append_assoc]
    exact ok_sp (sm_ok left s _ hs (ihl hl rest hr))
theorem tyP_key (t : Int) : tyP t ∈ keyTexts := by unfold tyP; split <;> decide
theorem ty_ok {t : Int} {l : List Pc} (h : PcsOK l) (hn : NotA (pcsT l)) : PcsOK (.w 4 [58] :: .sp 32 :: .w 3 (tyP t) :: l) := ok_one (by decide) (ok_sp (ok_key (tyP_key t) hn h))
theorem paM_ok : ∀ (ns : List ByteArray) (ts : List Int) (rest : List Pc), (∀ n ∈ ns, isName n.data.toList = true) → PcsOK rest → NotA (pcsT rest) → PcsOK (paM ns ts ++ rest) ∧ NotA (pcsT (paM ns ts ++ rest))
  | [], [], rest, _, hr, hn => ⟨hr, hn⟩
  | [], _ :: _, rest, _, hr, hn => ⟨hr, hn⟩
  | _ :: _, [], rest, _, hr, hn => ⟨hr, hn⟩
  | n :: ns, t :: ts, rest, hm, hr, hn => by
    have h := paM_ok ns ts rest (fun q hq => hm q (List.mem_cons_of_mem _ hq)) hr hn
    rw [paM]
    simp only [List.cons_append]
    exact ⟨ok_one (by decide) (ok_sp (ok_name (hm n (List.mem_cons_self ..)) (notA_sg (by decide) _ _ _) (ty_ok h.1 h.2))), notA_sg (by decide) _ _ _⟩
theorem fn_ok {f : Fn} (hf : FnV f) {rest : List Pc} (hr : PcsOK rest) : PcsOK (fnPc f ++ rest) := by
  simp only [fnPc, List.append_assoc, List.cons_append, List.nil_append]
  have t1 : PcsOK (.w 4 [41] :: .w 4 [58] :: .sp 32 :: .w 3 (tyP f.out) :: .sp 32 :: (brP (stPc f.body) ++ .sp 10 :: rest)) := ok_one (by decide) (ty_ok (ok_sp (br_ok (st_ok hf.body) (ok_nl hr))) (notA_sp _))
  refine ok_key (by decide) (notA_sp _) (ok_sp (ok_name hf.name (notA_sg (by decide) _ _ _) (ok_one (by decide) ?_)))
  have hn := hf.names
  revert hn
  cases f.names with
  | nil => intro _; cases f.types <;> exact t1
  | cons n ns =>
    intro hn
    cases f.types with
    | nil => exact t1
    | cons t ts =>
      rw [paPc]
      simp only [List.cons_append]
      have h := paM_ok ns ts _ (fun q hq => hn q (List.mem_cons_of_mem _ hq)) t1 (notA_sg (by decide) _ _ _)
      exact ok_name (hn n (List.mem_cons_self ..)) (notA_sg (by decide) _ _ _) (ty_ok h.1 h.2)
theorem un_ok : ∀ (us : List Fn), (∀ f ∈ us, FnV f) → PcsOK (unPc us)
  | [], _ => trivial
  | f :: l, hf => by rw [unPc]; exact fn_ok (hf f (List.mem_cons_self ..)) (un_ok l fun q hq => hf q (List.mem_cons_of_mem _ hq))

/-! ### like scripts are right together -/
theorem exF_same : ∀ (left : Nat) (x y : Ex), SameE false x y → exF x left = 0 → exF y left = 0 := by
  intro left
  induction left with
  | zero => intro x y _ h; obtain ⟨l, h0, _⟩ := exV h; omega
  | succ left ih =>
    intro x y hs h
    cases x with | mk k n t xs p =>
    cases y with | mk k' n' t' ys p' =>
    cases hs with | mk hk hp hl hn ht hr =>
    simp only [Ex.kind, Ex.args, Ex.n, Ex.text] at hk hl hn ht hr
    subst hk
    obtain ⟨h1, ho, h6, h8, ha⟩ := exF_each h
    have hys : ∀ (q : Nat) (b : Ex), ys[q]? = some b → exF b left = 0 := fun q b hb => by
      have hq : q < xs.length := by rw [hl]; exact (List.getElem?_eq_some_iff.1 hb).1
      exact ih _ _ (hr q xs[q] b (List.getElem?_eq_getElem hq) hb) (ha _ (List.getElem_mem hq))
    have hall : exsF ys left = 0 := by
      have : ∀ l : List Ex, (∀ b ∈ l, exF b left = 0) → exsF l left = 0 := by
        intro l
        induction l with
        | nil => intro _; rw [exsF]
        | cons b l ihl => intro hb; rw [exsF, if_pos (hb b (List.mem_cons_self ..))]; exact ihl fun c hc => hb c (List.mem_cons_of_mem _ hc)
      exact this ys fun b hb => by obtain ⟨q, hq⟩ := List.mem_iff_getElem?.1 hb; exact hys q b hq
    have ho' : okEx k n' t' ys.length = true := by
      rw [← hl]
      have hk8 : 1 ≤ k ∧ k ≤ 8 := by
        apply Decidable.byContradiction
        intro hn
        rw [oko (by omega)] at ho; cases ho
      obtain rfl | rfl | rfl | rfl | rfl | rfl | rfl | rfl : k = 1 ∨ k = 2 ∨ k = 3 ∨ k = 4 ∨ k = 5 ∨ k = 6 ∨ k = 7 ∨ k = 8 := by omega
      · rw [ok1] at ho ⊢; rw [← hn (.inl rfl)]; exact ho
      · rw [ok2] at ho ⊢; rw [← hn (.inr (.inl rfl))]; exact ho
      · rw [ok3] at ho ⊢; rw [← ht (.inl rfl)]; exact ho
      · rw [ok4] at ho ⊢; exact ho
      · rw [ok5] at ho ⊢; exact ho
      · rw [ok6] at ho ⊢; rw [← ht (.inr (.inr rfl))]; exact ho
      · rw [ok7] at ho ⊢; rw [← ht (.inr (.inl rfl))]; exact ho
      · rw [ok8] at ho ⊢; rw [← hn (.inr (.inr rfl))]; exact ho
    have h8' : ¬ (6 < ys.length ∨ (k = 8 ∧ 15 < n')) := by
      rintro (h | ⟨h, h'⟩)
      · omega
      · have := h8 h; have := hn (.inr (.inr h)); omega
    rw [exF, headF_0 (by omega) ho' h8']
    exact hall
theorem smsF_allP {left : Nat} : ∀ l : List Sm, (∀ b ∈ l, smF b left = 0) → smsF l left = 0
  | [], _ => by rw [smsF]
  | b :: l, h => by rw [smsF, if_pos (h b (List.mem_cons_self ..))]; exact smsF_allP l fun c hc => h c (List.mem_cons_of_mem _ hc)
theorem smsF_like {left : Nat} (ih : ∀ (x y : Sm), SameS false x y → smF x left = 0 → smF y left = 0) {l m : List Sm} (h : SameL false l m) (hf : smsF l left = 0) : smsF m left = 0 := by
  refine smsF_allP m fun b hb => ?_
  obtain ⟨q, hq⟩ := List.mem_iff_getElem?.1 hb
  have hlt : q < l.length := by rw [h.1]; exact (List.getElem?_eq_some_iff.1 hq).1
  exact ih _ _ (h.2 q l[q] b (List.getElem?_eq_getElem hlt) hq) (smsF_each hf _ (List.getElem_mem hlt))
theorem smF_same : ∀ (left : Nat) (x y : Sm), SameS false x y → smF x left = 0 → smF y left = 0 := by
  intro left
  induction left with
  | zero => intro x y _ h; obtain ⟨l, h0, _⟩ := smV h; omega
  | succ left ih =>
    intro x y hs h
    obtain ⟨l, h0, hv⟩ := smV h
    obtain rfl : left = l := by omega
    cases y with | mk k' nm' a' body' els' p' =>
    cases hs with | mk hk hp he hn hb hb2 hl hl2 =>
    simp only [Sm.kind, Sm.name, Sm.a, Sm.body, Sm.els] at hk hn he hb hb2 hl hl2
    rw [smF, if_neg (by omega)]
    cases hv with
    | whil ha hb' =>
      simp only at hk; subst hk
      have a' := exF_same _ _ _ he ha
      have b' := smsF_like ih ⟨hb (.inr rfl), hb2 (.inr rfl)⟩ hb'
      rw [if_neg (by omega)]
      simp [a', b']
    | ife ha hb' he' =>
      simp only at hk; subst hk
      have a' := exF_same _ _ _ he ha
      have b' := smsF_like ih ⟨hb (.inl rfl), hb2 (.inl rfl)⟩ hb'
      have c' := smsF_like ih ⟨hl rfl, hl2 rfl⟩ he'
      rw [if_neg (by omega)]
      simp [a', b', c']
    | simp hk' hnm ha =>
      simp only at hk; subst hk
      have a' := exF_same _ _ _ he ha
      rw [if_neg, if_neg (by simpa using a'), if_neg (by omega), if_neg (by omega)]
      rintro (h | h | ⟨h2, h3⟩)
      · omega
      · omega
      · rw [← hn h2] at h3
        rw [show nameB _ = true from hnm h2] at h3; cases h3
theorem fnF_same {f g : Fn} (hs : SameF false f g) (h : fnF f = 0) : fnF g = 0 := by
  have hv := fnV h
  unfold fnF at h ⊢
  rw [← hs.name, ← hs.names, ← hs.types, ← hs.out]
  by_cases h6 : 6 < f.names.length
  · rw [if_pos h6] at h; cases h
  rw [if_neg h6] at h ⊢
  by_cases hb : (decide (f.names.length = f.types.length) && nameB f.name && typB f.out && f.names.all nameB && f.types.all typB) = false
  · rw [if_pos hb] at h; cases h
  rw [if_neg hb] at h ⊢
  exact smsF_like (fun x y => smF_same 40 x y) hs.body h
theorem fnsF_allP : ∀ l : List Fn, (∀ f ∈ l, fnF f = 0) → fnsF l = 0
  | [], _ => by rw [fnsF]
  | f :: l, h => by rw [fnsF, if_pos (h f (List.mem_cons_self ..))]; exact fnsF_allP l fun g hg => h g (List.mem_cons_of_mem _ hg)
theorem fnsF_each : ∀ {l : List Fn}, fnsF l = 0 → ∀ f ∈ l, fnF f = 0
  | [], _, f, hf => by cases hf
  | a :: l, h, f, hf => by
    rw [fnsF] at h
    split at h
    · rename_i h0
      rcases List.mem_cons.1 hf with rfl | hf
      · exact h0
      · exact fnsF_each h f hf
    · rename_i h0; exact absurd h h0
theorem unitF_each {us : List Fn} (h : unitF us = 0) : us.length ≤ 16 ∧ ∀ f ∈ us, FnV f := by
  unfold unitF at h
  by_cases h16 : 16 < us.length
  · rw [if_pos h16] at h; cases h
  · rw [if_neg h16] at h
    exact ⟨by omega, fun f hf => fnV (fnsF_each h f hf)⟩
theorem unitF_same {us vs : List Fn} (hs : SameU false us vs) (h : unitF us = 0) : unitF vs = 0 := by
  have hl := (unitF_each h).1
  unfold unitF at h ⊢
  rw [if_neg (by omega)] at h
  rw [if_neg (by rw [← hs.1]; omega)]
  refine fnsF_allP vs fun g hg => ?_
  obtain ⟨q, hq⟩ := List.mem_iff_getElem?.1 hg
  have hlt : q < us.length := by rw [hs.1]; exact (List.getElem?_eq_some_iff.1 hq).1
  exact fnF_same (hs.2 q us[q] g (List.getElem?_eq_getElem hlt) hq) (fnsF_each h _ (List.getElem_mem hlt))
/-- A printed script of at most 4000 bytes is read as it was. -/
theorem printed {us : List Fn} (h : unitF us = 0) {s : ByteArray} (hs : s.data.toList = pcsT (unPc us)) : ∃ ws vs, Lex s 0 [] (none, ws) ∧ SameU false us vs ∧ Du ws s.size 0 (.fns vs) ∧ unitF vs = 0 := by
  have hv := (unitF_each h).2
  have hsc := PcsOK.scan _ 0 (un_ok us hv)
  rw [← hs] at hsc
  obtain ⟨vs, sv, dv⟩ := un_pr (en := s.size) us 0 hv (AtP.start (unPc us) 0)
  exact ⟨_, vs, hsc.whole, sv, dv, unitF_same sv h⟩
end Go.Proofs.YtmngofgminlloaaGreatDoor

namespace Go.Proofs.YtmngofgminlloaaGreatDoor
open Go.RowKit Tw

theorem Ds.det {ws : List Wd} {en : Nat} {q : Qs} {r : Rs} (h : Ds ws en q r) : ∀ r', Ds ws en q r' → r = r' := by
  induction h with
  | letN h0 h1 => intro r' h'; cases h' <;> first | rfl | (exfalso; omega) | contradiction | (rename_i g _; exact absurd (g h0).1 h1) | (rename_i g _ _; exact absurd (g h0).1 h1)
  | letE h0 h1 h2 =>
    intro r' h'
    cases h' <;> first
      | rfl
      | (exfalso; omega)
      | contradiction
      | (rename_i g _; have := (g h0).2; rw [h2] at this; cases this; done)
      | (rename_i g _ _; have := (g h0).2; rw [h2] at this; cases this; done)
  | simpB h3 h4 hl h1 =>
    intro r' h'
    cases h' with
    | letN g0 g1 => exact absurd (hl g0).1 g1
    | letE g0 g1 g2 => have := (hl g0).2; rw [g2] at this; cases this
    | simpB _ _ _ g1 => have e := h1.det _ g1; injection e with e; subst e; rfl
    | simpC _ _ _ g1 => have e := h1.det _ g1; cases e
    | simp _ _ _ g1 => have e := h1.det _ g1; cases e
    | _ => exfalso; omega
  | simpC h3 h4 hl h1 hc =>
    intro r' h'
    cases h' with
    | letN g0 g1 => exact absurd (hl g0).1 g1
    | letE g0 g1 g2 => have := (hl g0).2; rw [g2] at this; cases this
    | simpB _ _ _ g1 => have e := h1.det _ g1; cases e
    | simpC _ _ _ g1 => have e := h1.det _ g1; injection e with e1 e2; subst e1; subst e2; rfl
    | simp _ _ _ g1 gc => have e := h1.det _ g1; injection e with e1 e2; subst e1; subst e2; rw [hc] at gc; cases gc
    | _ => exfalso; omega
  | simp h3 h4 hl h1 hc =>
    intro r' h'
    cases h' with
    | letN g0 g1 => exact absurd (hl g0).1 g1
    | letE g0 g1 g2 => have := (hl g0).2; rw [g2] at this; cases this
    | simpB _ _ _ g1 => have e := h1.det _ g1; cases e
    | simpC _ _ _ g1 gc => have e := h1.det _ g1; injection e with e1 e2; subst e1; subst e2; rw [hc] at gc; cases gc
    | simp _ _ _ g1 gc => have e := h1.det _ g1; injection e with e1 e2; subst e1; subst e2; rfl
    | _ => exfalso; omega
  | condB h0 h1 =>
    intro r' h'
    cases h' <;> first
      | (exfalso; omega)
      | (have e := h1.det _ (by assumption); first | (cases e; done) | (injection e with e; subst e; rfl))
  | condD h0 h1 _ ih =>
    intro r' h'
    cases h' with
    | condB _ g1 => have e := h1.det _ g1; cases e
    | condD _ g1 g2 => have e := h1.det _ g1; injection e with e1 e2; subst e1; subst e2; exact ih _ g2
    | whil _ g1 g2 | if0 _ g1 g2 | ifE _ g1 g2 | ifEB _ g1 g2 | ifI _ g1 g2 | ifIB _ g1 g2 => have e := h1.det _ g1; injection e with e1 e2; subst e1; subst e2; have e := ih _ g2; cases e
    | _ => exfalso; omega
  | whil h0 h1 _ ih =>
    intro r' h'
    cases h' with
    | condB _ g1 => have e := h1.det _ g1; cases e
    | condD _ g1 g2 => have e := h1.det _ g1; injection e with e1 e2; subst e1; subst e2; have e := ih _ g2; cases e
    | whil _ g1 g2 => have e := h1.det _ g1; injection e with e1 e2; subst e1; subst e2; have e := ih _ g2; injection e with e1 e2; subst e1; subst e2; rfl
    | _ => exfalso; omega
  | if0 h0 h1 _ hc ih =>
    intro r' h'
    cases h' with
    | condB _ g1 => have e := h1.det _ g1; cases e
    | condD _ g1 g2 => have e := h1.det _ g1; injection e with e1 e2; subst e1; subst e2; have e := ih _ g2; cases e
    | if0 _ g1 g2 => have e := h1.det _ g1; injection e with e1 e2; subst e1; subst e2; have e := ih _ g2; injection e with e1 e2; subst e1; subst e2; rfl
    | ifE _ g1 g2 gc | ifEB _ g1 g2 gc | ifI _ g1 g2 gc | ifIB _ g1 g2 gc => have e := h1.det _ g1; injection e with e1 e2; subst e1; subst e2; have e := ih _ g2; injection e with e1 e2; subst e1; subst e2; rw [hc] at gc; cases gc
    | _ => exfalso; omega
  | ifE h0 h1 _ hc hd _ ih ih2 | ifEB h0 h1 _ hc hd _ ih ih2 =>
    intro r' h'
    cases h' with
    | condB _ g1 => have e := h1.det _ g1; cases e
    | condD _ g1 g2 => have e := h1.det _ g1; injection e with e1 e2; subst e1; subst e2; have e := ih _ g2; cases e
    | if0 _ g1 g2 gc => have e := h1.det _ g1; injection e with e1 e2; subst e1; subst e2; have e := ih _ g2; injection e with e1 e2; subst e1; subst e2; rw [hc] at gc; cases gc
    | ifE _ g1 g2 gc gd g3 | ifEB _ g1 g2 gc gd g3 =>
      have e := h1.det _ g1; injection e with e1 e2; subst e1; subst e2; have e := ih _ g2; injection e with e1 e2; subst e1; subst e2
      have e := ih2 _ g3; first | (cases e; done) | (injection e with e1 e2; subst e1; subst e2; rfl) | (injection e with e1; subst e1; rfl)
    | ifI _ g1 g2 gc gd | ifIB _ g1 g2 gc gd => have e := h1.det _ g1; injection e with e1 e2; subst e1; subst e2; have e := ih _ g2; injection e with e1 e2; subst e1; subst e2; rw [hd] at gd; cases gd
    | _ => exfalso; omega
  | ifI h0 h1 _ hc hd _ ih ih2 | ifIB h0 h1 _ hc hd _ ih ih2 =>
    intro r' h'
    cases h' with
    | condB _ g1 => have e := h1.det _ g1; cases e
    | condD _ g1 g2 => have e := h1.det _ g1; injection e with e1 e2; subst e1; subst e2; have e := ih _ g2; cases e
    | if0 _ g1 g2 gc => have e := h1.det _ g1; injection e with e1 e2; subst e1; subst e2; have e := ih _ g2; injection e with e1 e2; subst e1; subst e2; rw [hc] at gc; cases gc
    | ifI _ g1 g2 gc gd g3 | ifIB _ g1 g2 gc gd g3 =>
      have e := h1.det _ g1; injection e with e1 e2; subst e1; subst e2; have e := ih _ g2; injection e with e1 e2; subst e1; subst e2
      have e := ih2 _ g3; first | (cases e; done) | (injection e with e1 e2; subst e1; subst e2; rfl) | (injection e with e1; subst e1; rfl)
    | ifE _ g1 g2 gc gd | ifEB _ g1 g2 gc gd => have e := h1.det _ g1; injection e with e1 e2; subst e1; subst e2; have e := ih _ g2; injection e with e1 e2; subst e1; subst e2; rw [hd] at gd; cases gd
    | _ => exfalso; omega
  | blockB h0 => intro r' h'; cases h' <;> first | rfl | (rename_i g _; rw [h0] at g; cases g)
  | block h0 _ ih =>
    intro r' h'
    cases h' with
    | blockB g => rw [h0] at g; cases g
    | block _ g => exact ih _ g
  | done h0 =>
    intro r' h'
    cases h' with
    | done => rfl
    | more g | moreR g | moreB g => rw [h0] at g; cases g
  | more h0 _ _ ih1 ih2 | moreR h0 _ _ ih1 ih2 =>
    intro r' h'
    cases h' with
    | done g => rw [h0] at g; cases g
    | more _ g1 g2 | moreR _ g1 g2 =>
      have e := ih1 _ g1; injection e with e1 e2; subst e1; subst e2
      have e := ih2 _ g2; first | (cases e; done) | (injection e with e1 e2; subst e1; subst e2; rfl) | (injection e with e1; subst e1; rfl)
    | moreB _ g1 => have e := ih1 _ g1; cases e
  | moreB h0 _ ih1 =>
    intro r' h'
    cases h' with
    | done g => rw [h0] at g; cases g
    | more _ g1 _ | moreR _ g1 _ => have e := ih1 _ g1; cases e
    | moreB _ g1 => have e := ih1 _ g1; injection e with e1; subst e1; rfl

theorem Dp.det {ws : List Wd} {en k i : Nat} {r : Rp} (h : Dp ws en k i r) : ∀ r', Dp ws en k i r' → r = r' := by
  induction h with
  | close h0 =>
    intro r' h'
    cases h' with
    | close => rfl
    | comma g | name g | typ g | next g | nextR g => rw [h0] at g; cases g
  | comma h0 h1 h2 =>
    intro r' h'
    cases h' with
    | close g => rw [h0] at g; cases g
    | comma => rfl
    | name _ g | typ _ g | next _ g | nextR _ g => have := g h1; rw [h2] at this; cases this
  | name h0 h1 h2 =>
    intro r' h'
    cases h' with
    | close g => rw [h0] at g; cases g
    | comma _ g1 g2 => have := h1 g1; rw [g2] at this; cases this
    | name => rfl
    | typ _ _ g | next _ _ g | nextR _ _ g => contradiction
  | typ h0 h1 h2 h3 =>
    intro r' h'
    cases h' with
    | close g => rw [h0] at g; cases g
    | comma _ g1 g2 => have := h1 g1; rw [g2] at this; cases this
    | name _ _ g => contradiction
    | typ _ _ _ g => rw [h3] at g; cases g; rfl
    | next _ _ _ g | nextR _ _ _ g => rw [h3] at g; cases g
  | next h0 h1 h2 h3 _ ih | nextR h0 h1 h2 h3 _ ih =>
    intro r' h'
    cases h' with
    | close g => rw [h0] at g; cases g
    | comma _ g1 g2 => have := h1 g1; rw [g2] at this; cases this
    | name _ _ g => contradiction
    | typ _ _ _ g => rw [h3] at g; cases g
    | next _ _ _ g g2 | nextR _ _ _ g g2 =>
      rw [h3] at g; cases g
      have e := ih _ g2; first | (cases e; done) | (injection e with e1 e2 e3; subst e1; subst e2; subst e3; rfl) | (injection e with e1; subst e1; rfl)

theorem Df.det {ws : List Wd} {en i : Nat} {r : Rf} (h : Df ws en i r) : ∀ r', Df ws en i r' → r = r' := by
  intro r' h'
  cases h with
  | noFun h0 => cases h' <;> first | rfl | (rw [h0] at *; contradiction)
  | noName h0 h1 => cases h' <;> first | rfl | contradiction | (rw [h0] at *; contradiction)
  | noOpen h0 h1 h2 => cases h' <;> first | rfl | contradiction | (rw [h0] at *; contradiction) | (rw [h2] at *; contradiction)
  | par h0 h1 h2 h3 =>
    cases h' with
    | noFun g => rw [h0] at g; cases g
    | noName _ g => contradiction
    | noOpen _ _ g => rw [h2] at g; cases g
    | par _ _ _ g => have e := h3.det _ g; injection e with e; subst e; rfl
    | typ _ _ _ g | body _ _ _ g | fn _ _ _ g => have e := h3.det _ g; cases e
  | typ h0 h1 h2 h3 h4 =>
    cases h' with
    | noFun g => rw [h0] at g; cases g
    | noName _ g => contradiction
    | noOpen _ _ g => rw [h2] at g; cases g
    | par _ _ _ g => have e := h3.det _ g; cases e
    | typ _ _ _ g g4 => have e := h3.det _ g; injection e with e1 e2 e3; subst e3; rw [h4] at g4; cases g4; rfl
    | body _ _ _ g g4 | fn _ _ _ g g4 => have e := h3.det _ g; injection e with e1 e2 e3; subst e3; rw [h4] at g4; cases g4
  | body h0 h1 h2 h3 h4 h5 =>
    cases h' with
    | noFun g => rw [h0] at g; cases g
    | noName _ g => contradiction
    | noOpen _ _ g => rw [h2] at g; cases g
    | par _ _ _ g => have e := h3.det _ g; cases e
    | typ _ _ _ g g4 => have e := h3.det _ g; injection e with e1 e2 e3; subst e3; rw [h4] at g4; cases g4
    | body _ _ _ g g4 g5 => have e := h3.det _ g; injection e with e1 e2 e3; subst e3; have e := h5.det _ g5; injection e with e; subst e; rfl
    | fn _ _ _ g g4 g5 => have e := h3.det _ g; injection e with e1 e2 e3; subst e3; have e := h5.det _ g5; cases e
  | fn h0 h1 h2 h3 h4 h5 =>
    cases h' with
    | noFun g => rw [h0] at g; cases g
    | noName _ g => contradiction
    | noOpen _ _ g => rw [h2] at g; cases g
    | par _ _ _ g => have e := h3.det _ g; cases e
    | typ _ _ _ g g4 => have e := h3.det _ g; injection e with e1 e2 e3; subst e3; rw [h4] at g4; cases g4
    | body _ _ _ g g4 g5 => have e := h3.det _ g; injection e with e1 e2 e3; subst e3; have e := h5.det _ g5; cases e
    | fn _ _ _ g g4 g5 => have e := h3.det _ g; injection e with e1 e2 e3; subst e1; subst e2; subst e3; rw [h4] at g4; injection g4 with g4; subst g4; have e := h5.det _ g5; injection e with e1 e2; subst e1; subst e2; rfl

theorem Du.det {ws : List Wd} {en i : Nat} {r : Ru} (h : Du ws en i r) : ∀ r', Du ws en i r' → r = r' := by
  induction h with
  | done h0 => intro r' h'; cases h' <;> first | rfl | (exfalso; omega)
  | more h0 h1 _ ih | moreR h0 h1 _ ih =>
    intro r' h'
    cases h' with
    | done g => exfalso; omega
    | more _ g1 g2 | moreR _ g1 g2 =>
      have e := h1.det _ g1; injection e with e1 e2; subst e1; subst e2
      have e := ih _ g2; first | (cases e; done) | (injection e with e; subst e; rfl)
    | moreB _ g1 => have e := h1.det _ g1; cases e
  | moreB h0 h1 =>
    intro r' h'
    cases h' with
    | done g => exfalso; omega
    | more _ g1 _ | moreR _ g1 _ => have e := h1.det _ g1; cases e
    | moreB _ g1 => have e := h1.det _ g1; injection e with e; subst e; rfl
end Go.Proofs.YtmngofgminlloaaGreatDoor

namespace Go.Proofs.YtmngofgminlloaaGreatDoor
open Go.RowKit Tw

mutual
/-- How many parts an expression has. -/
def exN : Ex → Nat
  | .mk _ _ _ xs _ => exsN xs + 1
def exsN : List Ex → Nat
  | [] => 0
  | a :: l => exN a + exsN l
end
mutual
def smN : Sm → Nat
  | .mk _ _ a b e _ => exN a + smsN b + smsN e + 1
def smsN : List Sm → Nat
  | [] => 0
  | s :: l => smN s + smsN l
end
def fnN (f : Fn) : Nat := f.names.length + smsN f.body + 1
def fnsN : List Fn → Nat
  | [] => 0
  | f :: l => fnN f + fnsN l
end Go.Proofs.YtmngofgminlloaaGreatDoor
