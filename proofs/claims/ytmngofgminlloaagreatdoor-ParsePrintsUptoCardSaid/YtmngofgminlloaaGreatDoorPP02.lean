/-
  Printed expressions: their pieces, their derivations. No program in sight.
  Made scripts are words. No program in sight.
  The scanner takes a made script whole: its words are those of its pieces. No program in sight.
  The derivations of made scripts, with any names of variables. No program in sight.
  Compiled scripts are sound, in plain Lean: statements, functions. No program in sight.
-/
import Derived.Test.YtmngofgminlloaaGreatDoorPP01
import Derived.Test.YtmngofgminlloaaGreatDoorTS03
set_option linter.all false
namespace Go.Proofs.YtmngofgminlloaaGreatDoor
open Go.RowKit Tw

/-! ### numerals -/
theorem decFrom_app (c : UInt8) : ∀ (l : Bs) (acc : Nat), Lib.decFrom acc (l ++ [c]) = (Lib.decFrom acc l).bind (fun n => (Lib.digitVal c).map (fun d => n * 10 + d))
  | [], acc => by simp only [List.nil_append, Lib.decFrom, Option.bind_some]; cases Lib.digitVal c <;> rfl
  | b :: l, acc => by
    simp only [List.cons_append, Lib.decFrom]
    cases Lib.digitVal b with
    | none => rfl
    | some d => exact decFrom_app c l _
theorem dec_dec : ∀ (m n : Nat), n ≤ m → Lib.decFrom 0 (Lib.decDigits n) = some n := by
  have h1 : ∀ n : Fin 10, Lib.decFrom 0 [UInt8.ofNat (48 + n.val)] = some n.val := by decide
  have h2 : ∀ q : Fin 10, Lib.digitVal (UInt8.ofNat (48 + q.val)) = some q.val := by decide
  intro m
  induction m with
  | zero => intro n hn; obtain rfl : n = 0 := by omega
            rw [Lib.decDigits_one (by decide)]; exact h1 ⟨0, by decide⟩
  | succ m ih =>
    intro n hn
    by_cases h : n < 10
    · rw [Lib.decDigits_one h]; exact h1 ⟨n, h⟩
    · rw [Lib.decDigits, dif_neg h, decFrom_app, ih (n / 10) (by omega)]
      have hq := h2 ⟨n % 10, by omega⟩
      simp only at hq
      rw [hq]
      simp only [Option.bind_some, Option.map_some]
      congr 1; omega
theorem numV_dec (n : Nat) : numV ⟨(numL n).toArray⟩ = n := by
  have key : Lib.atoi (numL n) = some (n : Int) := by
    have hd : Lib.decFrom 0 (numL n) = some n := by rw [numL_dec]; exact dec_dec n n (Nat.le_refl _)
    cases h : numL n with
    | nil => exact absurd h (numL_ne n)
    | cons b r =>
      have hb := numL_D n b (by rw [h]; exact List.mem_cons_self ..)
      have h45 : (b == 45) = false := by rw [beq_eq_false_iff_ne]; rintro rfl; revert hb; decide
      have h43 : (b == 43) = false := by rw [beq_eq_false_iff_ne]; rintro rfl; revert hb; decide
      rw [h] at hd
      simp only [Lib.atoi, h45, h43, Bool.false_eq_true, if_false, Lib.decNat, List.isEmpty_cons, hd, Option.map_some]
  unfold numV
  rw [mk_l, key]; rfl
theorem dec_head : ∀ (m n : Nat), n ≤ m → 1 ≤ n → (Lib.decDigits n).headD 0 ≠ 48 := by
  have h1 : ∀ n : Fin 10, 1 ≤ n.val → ([UInt8.ofNat (48 + n.val)] : Bs).headD 0 ≠ 48 := by decide
  intro m
  induction m with
  | zero => intro n h1 h2; omega
  | succ m ih =>
    intro n hn h0
    by_cases h : n < 10
    · rw [Lib.decDigits_one h]; exact h1 ⟨n, h⟩ h0
    · rw [Lib.decDigits, dif_neg h]
      have hi := ih (n / 10) (by omega) (by omega)
      cases hd : Lib.decDigits (n / 10) with
      | nil => have h2 := Lib.decDigits_length (n / 10); rw [hd] at h2; have := Lib.nDigits_pos (n / 10); simp at h2; omega
      | cons b r => rw [hd] at hi; exact hi
theorem num_isNum (n : Nat) (h : n ≤ 999999999999) : isNum (numL n) = true := by
  have hl : (numL n).length ≤ 12 := by rw [numL_len]; exact nDigits_le 11 n (by omega)
  have hz : (decide (1 < (numL n).length) && (numL n).headD 0 == 48) = false := by
    by_cases h1 : n < 10
    · have : (numL n).length = 1 := by rw [numL_dec, Lib.decDigits_one h1]; rfl
      rw [this]; rfl
    · have := dec_head n n (Nat.le_refl _) (by omega)
      rw [← numL_dec] at this
      rw [beq_eq_false_iff_ne.2 this, Bool.and_false]
  unfold isNum
  rw [hz]
  simp only [Bool.not_false, Bool.and_true, Bool.and_eq_true, decide_eq_true_eq, List.all_eq_true]
  exact ⟨hl, numL_D n⟩

/-! ### pieces -/
def tfP (n : Int) : Bs := if n = 0 then [102, 97, 108, 115, 101] else [116, 114, 117, 101]
def parP (b : Bool) (l : List Pc) : List Pc := if b then .w 4 [40] :: (l ++ [.w 4 [41]]) else l
/-- How weakly the first operand's operator may bind. -/
def leftP (n : Nat) : Nat := if n = 3 then 3 else n - 1
mutual
def exPc (least : Nat) : Ex → List Pc
  | .mk k n t xs _ =>
    if k = 1 then [.w 1 (numL n.toNat)]
    else if k = 2 then [.w 3 (tfP n)]
    else if k = 3 then [.w 2 t.data.toList]
    else if k = 4 then .w 4 [45] :: hdPc 5 xs
    else if k = 5 then .w 4 [33] :: hdPc 5 xs
    else if k = 6 then parP (decide (lv t.data.toList ≤ least)) (hdPc (leftP (lv t.data.toList)) xs ++ (.sp 32 :: .w 4 t.data.toList :: .sp 32 :: sdPc (lv t.data.toList) xs))
    else if k = 7 then .w 2 t.data.toList :: .w 4 [40] :: (lsPc xs ++ [.w 4 [41]])
    else .w 4 [64] :: .w 1 (numL n.toNat) :: .w 4 [40] :: (lsPc xs ++ [.w 4 [41]])
def hdPc (least : Nat) : List Ex → List Pc
  | [] => []
  | a :: _ => exPc least a
def sdPc (least : Nat) : List Ex → List Pc
  | [] => []
  | _ :: l => hdPc least l
def lsPc : List Ex → List Pc
  | [] => []
  | a :: l => exPc 0 a ++ moPc l
def moPc : List Ex → List Pc
  | [] => []
  | a :: l => .w 4 [44] :: .sp 32 :: (exPc 0 a ++ moPc l)
end
/-- Well formed expressions, kind by kind. -/
inductive ExV (l : Nat) : Ex → Prop
  | num {n : Int} {t : ByteArray} {p : Int} : 0 ≤ n → n ≤ 999999999999 → ExV l (.mk 1 n t [] p)
  | flag {n : Int} {t : ByteArray} {p : Int} : n = 0 ∨ n = 1 → ExV l (.mk 2 n t [] p)
  | var {n : Int} {t : ByteArray} {p : Int} : isName t.data.toList = true → ExV l (.mk 3 n t [] p)
  | neg {n : Int} {t : ByteArray} {p : Int} {a : Ex} : exF a l = 0 → ExV l (.mk 4 n t [a] p)
  | not {n : Int} {t : ByteArray} {p : Int} {a : Ex} : exF a l = 0 → ExV l (.mk 5 n t [a] p)
  | two {n : Int} {t : ByteArray} {p : Int} {a b : Ex} : lv t.data.toList ≠ 0 → exF a l = 0 → exF b l = 0 → ExV l (.mk 6 n t [a, b] p)
  | call {n : Int} {t : ByteArray} {p : Int} {xs : List Ex} : isName t.data.toList = true → xs.length ≤ 6 → (∀ a ∈ xs, exF a l = 0) → ExV l (.mk 7 n t xs p)
  | host {n : Int} {t : ByteArray} {p : Int} {xs : List Ex} : 0 ≤ n → n ≤ 15 → xs.length ≤ 6 → (∀ a ∈ xs, exF a l = 0) → ExV l (.mk 8 n t xs p)
theorem exV {x : Ex} {left : Nat} (h : exF x left = 0) : ∃ l, left = l + 1 ∧ ExV l x := by
  cases x with | mk k n t xs p =>
  obtain ⟨h1, ho, h6, h8, ha⟩ := exF_each h
  refine ⟨left - 1, by omega, ?_⟩
  have hk : 1 ≤ k ∧ k ≤ 8 := by
    apply Decidable.byContradiction
    intro hn
    rw [oko (by omega)] at ho; cases ho
  have h0 : ∀ {xs : List Ex}, xs.length = 0 → xs = [] := fun h => List.eq_nil_of_length_eq_zero h
  obtain rfl | rfl | rfl | rfl | rfl | rfl | rfl | rfl : k = 1 ∨ k = 2 ∨ k = 3 ∨ k = 4 ∨ k = 5 ∨ k = 6 ∨ k = 7 ∨ k = 8 := by omega
  · rw [ok1] at ho; simp only [Bool.and_eq_true, decide_eq_true_eq] at ho
    rw [h0 ho.2]; exact .num ho.1.1 ho.1.2
  · rw [ok2] at ho; simp only [Bool.and_eq_true, Bool.or_eq_true, decide_eq_true_eq] at ho
    rw [h0 ho.2]; exact .flag ho.1
  · rw [ok3] at ho; simp only [Bool.and_eq_true, decide_eq_true_eq] at ho
    rw [h0 ho.2]; exact .var ho.1
  · rw [ok4] at ho; simp only [decide_eq_true_eq] at ho
    obtain ⟨a, rfl⟩ := List.length_eq_one_iff.1 ho
    exact .neg (ha a (List.mem_cons_self ..))
  · rw [ok5] at ho; simp only [decide_eq_true_eq] at ho
    obtain ⟨a, rfl⟩ := List.length_eq_one_iff.1 ho
    exact .not (ha a (List.mem_cons_self ..))
  · rw [ok6] at ho; simp only [Bool.and_eq_true, decide_eq_true_eq] at ho
    obtain ⟨a, b, rfl⟩ : ∃ a b, xs = [a, b] := by
      match xs, ho.1 with
      | [a, b], _ => exact ⟨a, b, rfl⟩
    exact .two ho.2 (ha a (by simp)) (ha b (by simp))
  · rw [ok7] at ho; exact .call ho h6 ha
  · rw [ok8] at ho; simp only [decide_eq_true_eq] at ho; exact .host ho (h8 rfl) h6 ha
section
variable {least : Nat} {n : Int} {t : ByteArray} {p : Int} {a b : Ex} {xs : List Ex}
theorem exPc1 : exPc least (.mk 1 n t xs p) = [.w 1 (numL n.toNat)] := by rw [exPc]; simp
theorem exPc2 : exPc least (.mk 2 n t xs p) = [.w 3 (tfP n)] := by rw [exPc]; simp
theorem exPc3 : exPc least (.mk 3 n t xs p) = [.w 2 t.data.toList] := by rw [exPc]; simp
theorem exPc4 : exPc least (.mk 4 n t [a] p) = .w 4 [45] :: exPc 5 a := by rw [exPc]; simp [hdPc]
theorem exPc5 : exPc least (.mk 5 n t [a] p) = .w 4 [33] :: exPc 5 a := by rw [exPc]; simp [hdPc]
theorem exPc6 : exPc least (.mk 6 n t [a, b] p) = parP (decide (lv t.data.toList ≤ least)) (exPc (leftP (lv t.data.toList)) a ++ (.sp 32 :: .w 4 t.data.toList :: .sp 32 :: exPc (lv t.data.toList) b)) := by rw [exPc]; simp [hdPc, sdPc]
theorem exPc7 : exPc least (.mk 7 n t xs p) = .w 2 t.data.toList :: .w 4 [40] :: (lsPc xs ++ [.w 4 [41]]) := by rw [exPc]; simp
theorem exPc8 : exPc least (.mk 8 n t xs p) = .w 4 [64] :: .w 1 (numL n.toNat) :: .w 4 [40] :: (lsPc xs ++ [.w 4 [41]]) := by rw [exPc]; simp
end
/-- With what word an expression may begin. -/
def HeadOK (c : Nat) (t : Bs) : Prop := (c = 1 ∧ ∃ n, t = numL n) ∨ (c = 2 ∧ isName t = true) ∨ (c = 3 ∧ (t = [116, 114, 117, 101] ∨ t = [102, 97, 108, 115, 101])) ∨ (c = 4 ∧ (t = [45] ∨ t = [33] ∨ t = [40] ∨ t = [64]))
theorem HeadOK.ne {c : Nat} {t : Bs} (h : HeadOK c t) (s : Bs) (hs : s ∈ ([[41], [125], [101, 108, 115, 101]] : List Bs)) : (t == s) = false := by
  rcases h with ⟨_, n, rfl⟩ | ⟨_, hn⟩ | ⟨_, rfl | rfl⟩ | ⟨_, rfl | rfl | rfl | rfl⟩
  · rw [beq_eq_false_iff_ne]
    intro e
    have h2 : ∀ s ∈ ([[41], [125], [101, 108, 115, 101]] : List Bs), ¬ ∀ c ∈ s, isD c = true := by decide
    exact h2 s hs (e ▸ numL_D n)
  · rw [beq_eq_false_iff_ne]
    rintro rfl
    have h2 : ∀ s ∈ ([[41], [125], [101, 108, 115, 101]] : List Bs), isName s = false := by decide
    rw [h2 _ hs] at hn; cases hn
  · revert s; decide
  · revert s; decide
  · revert s; decide
  · revert s; decide
  · revert s; decide
  · revert s; decide
theorem HeadOK.hs {c : Nat} {t : Bs} (h : HeadOK c t) (e : Bool) (he : c = 2 → e = false) : hsT c t e = 7 := by
  rcases h with ⟨rfl, n, rfl⟩ | ⟨rfl, hn⟩ | ⟨rfl, rfl | rfl⟩ | ⟨rfl, rfl | rfl | rfl | rfl⟩
  · exact hs_num n e
  · rw [hs_name hn, he rfl]; rfl
  all_goals simp [hsT]
theorem ex_head : ∀ (left : Nat) (x : Ex) (least : Nat), exF x left = 0 → ∃ c t l, exPc least x = .w c t :: l ∧ HeadOK c t := by
  intro left
  induction left with
  | zero => intro x least h; obtain ⟨l, h0, _⟩ := exV h; omega
  | succ left ih =>
    intro x least h
    obtain ⟨l, h0, hv⟩ := exV h
    obtain rfl : left = l := by omega
    cases hv with
    | num _ _ => rw [exPc1]; exact ⟨_, _, _, rfl, .inl ⟨rfl, _, rfl⟩⟩
    | flag _ => rw [exPc2]; refine ⟨_, _, _, rfl, .inr (.inr (.inl ⟨rfl, ?_⟩))⟩; unfold tfP; split <;> simp
    | var hn => rw [exPc3]; exact ⟨_, _, _, rfl, .inr (.inl ⟨rfl, hn⟩)⟩
    | neg _ => rw [exPc4]; exact ⟨_, _, _, rfl, .inr (.inr (.inr ⟨rfl, by simp⟩))⟩
    | not _ => rw [exPc5]; exact ⟨_, _, _, rfl, .inr (.inr (.inr ⟨rfl, by simp⟩))⟩
    | two h1 ha hb =>
      rw [exPc6]
      unfold parP
      split
      · exact ⟨_, _, _, rfl, .inr (.inr (.inr ⟨rfl, by simp⟩))⟩
      · obtain ⟨c, t, q, e, hc⟩ := ih _ (leftP _) ha
        rw [e]; exact ⟨c, t, _, rfl, hc⟩
    | call hn _ _ => rw [exPc7]; exact ⟨_, _, _, rfl, .inr (.inl ⟨rfl, hn⟩)⟩
    | host _ _ _ _ => rw [exPc8]; exact ⟨_, _, _, rfl, .inr (.inr (.inr ⟨rfl, by simp⟩))⟩

/-! ### derivations -/
section
variable {ws : List Wd} {en : Nat}
theorem lvAt_leP (j : Nat) : lvAt ws j ≤ 5 := by
  unfold lvAt; split
  · unfold lv; repeat' (first | omega | split)
  · omega
theorem de_one {i : Nat} {r : Re} (h : De ws en (.lvl 6 i) r) : De ws en (.one i) r := by
  cases h with
  | lvl6 h => exact h
  | lvl hn => exact absurd rfl hn
  | lvlB hn => exact absurd rfl hn
/-- At a level, closed and open. -/
def AtLvl (ws : List Wd) (en least i j : Nat) (y : Ex) : Prop :=
  (lvAt ws j ≤ least → De ws en (.lvl (least + 1) i) (.ex y j)) ∧ (least ≤ 4 → least ≠ 2 → ∀ R, De ws en (.rest (least + 1) y j) R → De ws en (.lvl (least + 1) i) R)
theorem fin_one {least i j : Nat} {y : Ex} (hd : De ws en (.one i) (.ex y j)) (h5 : least ≤ 5) (hl : lvAt ws j ≤ least + 1) : AtLvl ws en least i j y :=
  ⟨fun h => hd.up (least + 1) (by omega) (fun m h1 h2 => by omega), fun h4 _ R hR => .lvl (by omega) (hd.up (least + 2) (by omega) (fun m h1 h2 => by omega)) hR⟩
theorem fin_lvl {least i j L : Nat} {y : Ex} (hd : De ws en (.lvl L i) (.ex y j)) (hL : L ≤ 6) (h5 : least + 2 ≤ L) (hl : lvAt ws j ≤ least + 1) : AtLvl ws en least i j y :=
  ⟨fun h => hd.down hL (least + 1) (by omega) (fun m h1 h2 => by omega), fun h4 _ R hR => .lvl (by omega) (hd.down hL (least + 2) (by omega) (fun m h1 h2 => by omega)) hR⟩
/-- What is to be shown of an expression. -/
def PrOK (ws : List Wd) (en left : Nat) : Prop := ∀ (x : Ex) (least i : Nat) (rest : List Pc), exF x left = 0 → least ≤ 5 → AtP ws i (exPc least x ++ rest) → isAt ws (i + nW (exPc least x)) sOpen = false → lvAt ws (i + nW (exPc least x)) ≤ least + 1 →
  ∃ y, SameE false x y ∧ AtLvl ws en least i (i + nW (exPc least x)) y
def SameEs (l m : List Ex) : Prop := l.length = m.length ∧ ∀ (k : Nat) (x y : Ex), l[k]? = some x → m[k]? = some y → SameE false x y
theorem SameEs.cons {x y : Ex} {l m : List Ex} (h : SameE false x y) (hs : SameEs l m) : SameEs (x :: l) (y :: m) := by
  refine ⟨by simp [hs.1], fun k a b ha hb => ?_⟩
  cases k with
  | zero => simp at ha hb; subst ha hb; exact h
  | succ k => exact hs.2 k a b (by simpa using ha) (by simpa using hb)
theorem SameEs.nil : SameEs [] [] := ⟨rfl, fun k x y h => by simp at h⟩
theorem PrOK.closed {left : Nat} (hP : PrOK ws en left) {x : Ex} {i c k : Nat} {s : UInt8} {rest : List Pc} (hx : exF x left = 0) (hs : s ∈ ([41, 44, 59, 123] : Bs)) (h : AtP ws i (exPc 0 x ++ rest)) (hk : ws[i + nW (exPc 0 x)]? = some ⟨c, ⟨([s] : Bs).toArray⟩, k⟩) :
    ∃ y, SameE false x y ∧ De ws en (.lvl 1 i) (.ex y (i + nW (exPc 0 x))) := by
  have hl : lvAt ws (i + nW (exPc 0 x)) = 0 := by rw [at_lv hk]; exact lv_sign s hs
  have hne : ∀ s ∈ ([41, 44, 59, 123] : Bs), (([s] : Bs) == [40]) = false := by decide
  obtain ⟨y, h1, h2, _⟩ := hP x 0 i rest hx (by omega) h (is_no (s := [40]) hk (hne s hs)) (by omega)
  exact ⟨y, h1, h2 (by omega)⟩
theorem mo_d {left : Nat} (hP : PrOK ws en left) : ∀ (xs : List Ex) (q i : Nat) (rest : List Pc), (∀ a ∈ xs, exF a left = 0) → AtP ws i (moPc xs ++ .w 4 [41] :: rest) →
    ∃ ys, SameEs xs ys ∧ De ws en (.args (q + 1) i) (.exs ys (i + nW (moPc xs) + 1)) ∧ ∃ k, ws[i]? = some ⟨4, ⟨([if xs.isEmpty then 41 else 44] : Bs).toArray⟩, k⟩
  | [], q, i, rest, _, h => by
    rw [moPc] at h ⊢
    obtain ⟨⟨k, hk⟩, _⟩ := h.w
    exact ⟨[], .nil, .close (is_yes (t := [41]) hk), k, hk⟩
  | a :: l, q, i, rest, ha, h => by
    rw [moPc] at h ⊢
    simp only [List.cons_append, List.append_assoc] at h
    obtain ⟨⟨k, hk⟩, h1⟩ := h.w
    have h2 := AtP.skip (exPc 0 a) h1.sp
    obtain ⟨ys, s1, d1, k2, hk2⟩ := mo_d hP l (q + 1) _ rest (fun b hb => ha b (List.mem_cons_of_mem _ hb)) h2
    obtain ⟨y, s0, d0⟩ := hP.closed (s := if l.isEmpty then 41 else 44) (ha a (List.mem_cons_self ..)) (by split <;> simp) h1.sp hk2
    have e : i + nW (.w 4 [44] :: .sp 32 :: (exPc 0 a ++ moPc l)) + 1 = i + 1 + nW (exPc 0 a) + nW (moPc l) + 1 := by simp only [nW, nW_app]; omega
    rw [e]
    exact ⟨y :: ys, s1.cons s0, .next (is_no (s := [41]) hk (by decide)) (is_yes (t := [44]) hk) d0 d1, k, by simpa using hk⟩
theorem ls_d {left : Nat} (hP : PrOK ws en left) (xs : List Ex) (i : Nat) (rest : List Pc) (ha : ∀ a ∈ xs, exF a left = 0) (h : AtP ws i (lsPc xs ++ .w 4 [41] :: rest)) :
    ∃ ys, SameEs xs ys ∧ De ws en (.args 0 i) (.exs ys (i + nW (lsPc xs) + 1)) := by
  cases xs with
  | nil =>
    rw [lsPc] at h ⊢
    obtain ⟨⟨k, hk⟩, _⟩ := h.w
    exact ⟨[], .nil, .close (is_yes (t := [41]) hk)⟩
  | cons a l =>
    rw [lsPc] at h ⊢
    simp only [List.append_assoc] at h
    have h2 := AtP.skip (exPc 0 a) h
    obtain ⟨ys, s1, d1, k2, hk2⟩ := mo_d hP l 0 _ rest (fun b hb => ha b (List.mem_cons_of_mem _ hb)) h2
    obtain ⟨y, s0, d0⟩ := hP.closed (s := if l.isEmpty then 41 else 44) (ha a (List.mem_cons_self ..)) (by split <;> simp) h hk2
    obtain ⟨c, t, q, e, hc⟩ := ex_head left a 0 (ha a (List.mem_cons_self ..))
    rw [e] at h
    obtain ⟨⟨k, hk⟩, _⟩ := AtP.w (by simpa using h : AtP ws i (.w c t :: (q ++ (moPc l ++ .w 4 [41] :: rest))))
    rw [show i + nW (exPc 0 a ++ moPc l) + 1 = i + nW (exPc 0 a) + nW (moPc l) + 1 by rw [nW_app]; omega]
    exact ⟨y :: ys, s1.cons s0, .first (is_no (s := [41]) hk (hc.ne _ (by simp))) d0 d1⟩
theorem two_d {left : Nat} (hP : PrOK ws en left) {nn : Int} {t : ByteArray} {p : Int} {a b : Ex} {i : Nat} {rest : List Pc} (h0 : lv t.data.toList ≠ 0) (ha : exF a left = 0) (hb : exF b left = 0)
    (h : AtP ws i (exPc (leftP (lv t.data.toList)) a ++ (.sp 32 :: .w 4 t.data.toList :: .sp 32 :: (exPc (lv t.data.toList) b ++ rest)))) {j' : Nat} (hj : j' = i + nW (exPc (leftP (lv t.data.toList)) a) + 1 + nW (exPc (lv t.data.toList) b))
    (ho : isAt ws j' sOpen = false) (hl : lvAt ws j' ≤ lv t.data.toList) :
    ∃ y, SameE false (.mk 6 nn t [a, b] p) y ∧ (lvAt ws j' < lv t.data.toList → De ws en (.lvl (lv t.data.toList) i) (.ex y j')) ∧ (lv t.data.toList ≠ 3 → ∀ R, De ws en (.rest (lv t.data.toList) y j') R → De ws en (.lvl (lv t.data.toList) i) R) := by
  generalize hn : lv t.data.toList = n at *
  have h5 : n ≤ 5 := by
    rw [← hn]; unfold lv; repeat' (first | omega | split)
  have hlp : leftP n ≤ 4 ∧ n ≤ leftP n + 1 := by unfold leftP; split <;> omega
  obtain ⟨⟨k, hk⟩, h1⟩ := (AtP.skip _ h).sp.w
  have hln : lvAt ws (i + nW (exPc (leftP n) a)) = n := by rw [at_lv hk]; exact hn
  have hop : (t.data.toList == [40]) = false := by
    rw [beq_eq_false_iff_ne]
    intro e
    rw [e] at hn
    exact h0 (hn.symm.trans (by decide))
  obtain ⟨a', sa, ac, ao⟩ := hP a (leftP n) i _ ha (by omega) h (is_no (s := [40]) hk hop) (by omega)
  subst hj
  obtain ⟨b', sb', bc, _⟩ := hP b n _ rest hb h5 h1.sp ho (by omega)
  have db := bc hl
  have hs : SameE false (.mk 6 nn t [a, b] p) (twoEx ws en (i + nW (exPc (leftP n) a)) a' b') := by
    refine .mk rfl (fun h => by cases h) rfl (fun h => ?_) (fun _ => ?_) (SameEs.cons sa (SameEs.cons sb' .nil)).2
    · simp only [Ex.kind] at h; omega
    · simp only [twoEx, Ex.text]; rw [at_text hk, bs_mk]
  by_cases h3 : n = 3
  · refine ⟨_, hs, fun hlt => ?_, fun h => absurd h3 h⟩
    have da := ac (by rw [hln, h3]; decide)
    subst h3
    exact De.comp da hln db (by omega)
  · have e : leftP n = n - 1 := by unfold leftP; rw [if_neg h3]
    rw [show leftP n + 1 = n by omega] at ao
    have hB : ∀ R, De ws en (.rest n (twoEx ws en (i + nW (exPc (leftP n) a)) a' b') _) R → De ws en (.lvl n i) R := fun R hR => ao (by omega) (by omega) R (.go h3 hln db hR)
    exact ⟨_, hs, fun hlt => hB _ (.stop (by omega)), fun _ => hB⟩
theorem ex_pr : ∀ left, PrOK ws en left := by
  intro left
  induction left with
  | zero => intro x least i rest h; obtain ⟨l, h0, _⟩ := exV h; omega
  | succ left ih =>
    intro x least i rest h h5 hat ho hl
    obtain ⟨l, h0, hv⟩ := exV h
    obtain rfl : left = l := by omega
    have h55 := lvAt_leP (ws := ws) (i + nW (exPc least x))
    cases hv with
    | num n0 n1 =>
      rename_i n t p
      rw [exPc1] at *
      obtain ⟨⟨k, hk⟩, _⟩ := hat.w
      have hd := De.num (en := en) (i := i) (by rw [at_head hk]; exact hq_num _)
      rw [at_text hk, numV_dec] at hd
      refine ⟨_, ?_, fin_one hd h5 hl⟩
      refine .mk rfl (fun h => by cases h) rfl (fun _ => ?_) (fun h => ?_) SameEs.nil.2
      · simp only [Ex.n]; omega
      · simp only [Ex.kind] at h; omega
    | flag hf =>
      rename_i n t p
      rw [exPc2] at *
      obtain ⟨⟨k, hk⟩, _⟩ := hat.w
      rcases hf with rfl | rfl
      · refine ⟨_, ?_, fin_one (.fls (by rw [at_head hk]; rfl)) h5 hl⟩
        exact .mk rfl (fun h => by cases h) rfl (fun _ => rfl) (fun h => by simp only [Ex.kind] at h; omega) SameEs.nil.2
      · refine ⟨_, ?_, fin_one (.tru (by rw [at_head hk]; rfl)) h5 hl⟩
        exact .mk rfl (fun h => by cases h) rfl (fun _ => rfl) (fun h => by simp only [Ex.kind] at h; omega) SameEs.nil.2
    | var hn =>
      rename_i n t p
      rw [exPc3] at *
      obtain ⟨⟨k, hk⟩, _⟩ := hat.w
      have hd := De.var (en := en) (by rw [at_head hk]; exact hq_name hn) ho
      refine ⟨_, ?_, fin_one hd h5 hl⟩
      refine .mk rfl (fun h => by cases h) rfl (fun h => by simp only [Ex.kind] at h; omega) (fun _ => ?_) SameEs.nil.2
      simp only [Ex.text]; rw [at_text hk, bs_mk]
    | neg ha =>
      rename_i n t p a
      rw [exPc4] at *
      obtain ⟨⟨k, hk⟩, h1⟩ := AtP.w (by simpa using hat : AtP ws i (.w 4 [45] :: (exPc 5 a ++ rest)))
      rw [show i + nW (.w 4 [45] :: exPc 5 a) = i + 1 + nW (exPc 5 a) by simp only [nW]; omega] at *
      obtain ⟨y, sy, yc, _⟩ := ih a 5 (i + 1) rest ha (by omega) h1 ho (by omega)
      refine ⟨_, ?_, fin_one (.neg (by rw [at_head hk]; decide) (de_one (yc h55))) h5 hl⟩
      exact .mk rfl (fun h => by cases h) rfl (fun h => by simp only [Ex.kind] at h; omega) (fun h => by simp only [Ex.kind] at h; omega) (SameEs.cons sy .nil).2
    | not ha =>
      rename_i n t p a
      rw [exPc5] at *
      obtain ⟨⟨k, hk⟩, h1⟩ := AtP.w (by simpa using hat : AtP ws i (.w 4 [33] :: (exPc 5 a ++ rest)))
      rw [show i + nW (.w 4 [33] :: exPc 5 a) = i + 1 + nW (exPc 5 a) by simp only [nW]; omega] at *
      obtain ⟨y, sy, yc, _⟩ := ih a 5 (i + 1) rest ha (by omega) h1 ho (by omega)
      refine ⟨_, ?_, fin_one (.not (by rw [at_head hk]; rfl) (de_one (yc h55))) h5 hl⟩
      exact .mk rfl (fun h => by cases h) rfl (fun h => by simp only [Ex.kind] at h; omega) (fun h => by simp only [Ex.kind] at h; omega) (SameEs.cons sy .nil).2
    | two hz ha hb =>
      rename_i n t p a b
      rw [exPc6] at *
      by_cases hp : lv t.data.toList ≤ least
      · rw [show decide (lv t.data.toList ≤ least) = true from decide_eq_true hp] at *
        simp only [parP, if_true] at *
        simp only [List.append_assoc, List.cons_append, List.nil_append] at hat
        obtain ⟨⟨k, hk⟩, h1⟩ := hat.w
        obtain ⟨⟨k2, hk2⟩, h2⟩ := AtP.w (AtP.skip _ (AtP.skip _ h1).sp.w.2.sp)
        have hz2 : lvAt ws (i + 1 + nW (exPc (leftP (lv t.data.toList)) a) + 1 + nW (exPc (lv t.data.toList) b)) = 0 := by rw [at_lv hk2]; exact lv_sign 41 (by decide)
        obtain ⟨y, sy, yc, _⟩ := two_d (nn := n) (p := p) ih hz ha hb h1 rfl (is_no (s := [40]) hk2 (by decide)) (by omega)
        have h5' : lv t.data.toList ≤ 5 := by unfold lv; repeat' (first | omega | split)
        have hd := par_d hk ((yc (by omega)).down (by omega) 1 (by omega) (fun m h1 h2 => by omega)) hk2
        have e : i + nW (.w 4 [40] :: (exPc (leftP (lv t.data.toList)) a ++ (.sp 32 :: .w 4 t.data.toList :: .sp 32 :: exPc (lv t.data.toList) b) ++ [.w 4 [41]])) = i + 1 + nW (exPc (leftP (lv t.data.toList)) a) + 1 + nW (exPc (lv t.data.toList) b) + 1 := by simp only [nW, nW_app]; omega
        simp only [List.append_assoc, List.cons_append, List.nil_append] at e hl ⊢
        rw [e] at hl ⊢
        exact ⟨y, sy, fin_one hd h5 hl⟩
      · rw [show decide (lv t.data.toList ≤ least) = false from decide_eq_false hp] at *
        simp only [parP, Bool.false_eq_true, if_false] at *
        simp only [List.append_assoc, List.cons_append] at hat
        have e : i + nW (exPc (leftP (lv t.data.toList)) a ++ (.sp 32 :: .w 4 t.data.toList :: .sp 32 :: exPc (lv t.data.toList) b)) = i + nW (exPc (leftP (lv t.data.toList)) a) + 1 + nW (exPc (lv t.data.toList) b) := by simp only [nW, nW_app]; omega
        rw [e] at ho hl ⊢
        have h5' : lv t.data.toList ≤ 5 := by unfold lv; repeat' (first | omega | split)
        obtain ⟨y, sy, yc, yo⟩ := two_d (nn := n) (p := p) ih hz ha hb hat rfl ho (by omega)
        refine ⟨y, sy, ?_⟩
        by_cases hq : lv t.data.toList = least + 1
        · unfold AtLvl
          rw [← hq]
          exact ⟨fun h => yc (by omega), fun _ h2 => yo (by omega)⟩
        · exact fin_lvl (yc (by omega)) (by omega) (by omega) hl
    | call hn hlen ha =>
      rename_i n t p xs
      rw [exPc7] at *
      simp only [List.append_assoc, List.cons_append, List.nil_append] at hat
      obtain ⟨⟨k, hk⟩, h1⟩ := hat.w
      obtain ⟨⟨k2, hk2⟩, h2⟩ := h1.w
      obtain ⟨ys, hs, hd⟩ := ls_d ih xs _ rest ha h2
      have e : i + nW (.w 2 t.data.toList :: .w 4 [40] :: (lsPc xs ++ [.w 4 [41]])) = i + 1 + 1 + nW (lsPc xs) + 1 := by simp only [nW, nW_app]; omega
      rw [e] at hl ⊢
      refine ⟨_, ?_, fin_one (.call (by rw [at_head hk]; exact hq_name hn) (is_yes (t := [40]) hk2) hd) h5 hl⟩
      refine .mk rfl (fun h => by cases h) hs.1 (fun h => by simp only [Ex.kind] at h; omega) (fun _ => ?_) hs.2
      simp only [Ex.text]; rw [at_text hk, bs_mk]
    | host n0 n1 hlen ha =>
      rename_i n t p xs
      rw [exPc8] at *
      simp only [List.append_assoc, List.cons_append, List.nil_append] at hat
      obtain ⟨⟨k, hk⟩, h1⟩ := hat.w
      obtain ⟨⟨k2, hk2⟩, h2⟩ := h1.w
      obtain ⟨⟨k3, hk3⟩, h3⟩ := h2.w
      obtain ⟨ys, hs, hd⟩ := ls_d ih xs _ rest ha h3
      have e : i + nW (.w 4 [64] :: .w 1 (numL n.toNat) :: .w 4 [40] :: (lsPc xs ++ [.w 4 [41]])) = i + 1 + 1 + 1 + nW (lsPc xs) + 1 := by simp only [nW, nW_app]; omega
      rw [e] at hl ⊢
      have hd2 := De.host (en := en) (by rw [at_head hk]; rfl) (at_kind hk2) (is_yes (t := [40]) hk3) hd
      rw [at_text hk2, numV_dec] at hd2
      refine ⟨_, ?_, fin_one hd2 h5 hl⟩
      refine .mk rfl (fun h => by cases h) hs.1 (fun _ => ?_) (fun h => by simp only [Ex.kind] at h; omega) hs.2
      simp only [Ex.n]; omega
end
end Go.Proofs.YtmngofgminlloaaGreatDoor

namespace Go.Proofs.YtmngofgminlloaaGreatDoor
open Go.RowKit Tw

def NsN (ns : List ByteArray) : Prop := ∀ s ∈ ns, isName s.data.toList = true
theorem GNum.okW {N : Nat} {ns : List ByteArray} {low d i i' : Nat} {x : GE} (hns : NsN ns) (hl : low ≤ 2) (h : GNum N ns low d i x i') : x.okW := by
  induction h with
  | var _ _ hs => exact hns _ (List.mem_of_getElem? hs)
  | lit _ h => show _ < 100; have := h.1; omega
  | neg _ _ ih => exact ih
  | call _ hf _ _ ih1 ih2 => exact ⟨by have := hf.1; omega, ih1, ih2⟩
  | host _ hf _ ih => exact ⟨by have := hf.1; omega, ih⟩
  | bin _ _ _ _ ih1 ih2 => exact ⟨ih1, ih2⟩
theorem GFlag.okW {N : Nat} {ns : List ByteArray} {low d i i' : Nat} {x : GE} (hns : NsN ns) (hl : low ≤ 2) (h : GFlag N ns low d i x i') : x.okW := by
  induction h with
  | not _ _ ih => exact ih
  | and _ _ _ ih1 ih2 => exact ⟨ih1, ih2⟩
  | or _ _ _ ih1 ih2 => exact ⟨ih1, ih2⟩
  | tf _ _ => trivial
  | cmp _ h1 _ h2 => exact ⟨h1.okW hns hl, h2.okW hns hl⟩
theorem GL.okW_app (a b : GL) (ha : a.okW) (hb : b.okW) : (a.app b).okW := by
  induction a with
  | nil => exact hb
  | set s x r ih => exact ⟨ha.1, ha.2.1, ih ha.2.2⟩
  | yield x r ih => exact ⟨ha.1, ih ha.2⟩
  | ite c a b r _ _ ih => exact ⟨ha.1, ha.2.1, ha.2.2.1, ih ha.2.2.2⟩
  | loop i n l r _ ih => exact ⟨ha.1, ha.2.1, ha.2.2.1, ih ha.2.2.2⟩
  | run x r ih => exact ⟨ha.1, ih ha.2⟩
  | ret x r ih => exact ⟨ha.1, ih ha.2⟩
  | bind i x r ih => exact ⟨ha.1, ha.2.1, ih ha.2.2⟩
/-- What a step keeps, told of names. -/
def OkS (s : Ms) (g : GL) (s' : Ms) : Prop := s.m ≤ s'.m ∧ (NsN s.ns → s'.m < 10 ^ 10 → g.okW ∧ NsN s'.ns)
theorem Stm.okS {N low : Nat} {B : Ms → GL → Ms → Prop} (hl : low ≤ 2) (hB : ∀ s g s', B s g s' → OkS s g s' ∧ s'.ns = s.ns) {s : Ms} {g : GL} {s' : Ms} (h : Stm N low B s g s') : OkS s g s' := by
  refine ⟨?_, ?_⟩
  · cases h with
    | ite _ _ ha hb => have h1 := (hB _ _ _ ha).1.1; have h2 := (hB _ _ _ hb).1.1; exact Nat.le_trans h1 h2
    | loop _ _ hb => have h1 := (hB _ _ _ hb).1.1; simp only at h1 ⊢; omega
    | bind _ _ => exact Nat.le_succ _
    | _ => exact Nat.le_refl _
  cases h with
  | set h0 h1 hs hx => intro hn hm; exact ⟨⟨hn _ (List.mem_of_getElem? hs), hx.okW hn hl, trivial⟩, hn⟩
  | yield h0 hx => intro hn hm; exact ⟨⟨hx.okW hn hl, trivial⟩, hn⟩
  | @ite ns m i i2 c a b s1 s2 h0 hc ha hb =>
    intro hn hm
    obtain ⟨h1, h2⟩ := hB _ _ _ ha
    obtain ⟨h3, h4⟩ := hB _ _ _ hb
    obtain ⟨b1, b2⟩ := h3.2 (by rw [h2]; exact hn) hm
    obtain ⟨a1, a2⟩ := h1.2 hn (by have := h3.1; omega)
    exact ⟨⟨hc.okW hn hl, a1, b1, trivial⟩, b2⟩
  | @loop ns m i i2 n l s2 h0 hk hl' =>
    intro hn hm
    obtain ⟨h1, h2⟩ := hB _ _ _ hl'
    obtain ⟨a1, a2⟩ := h1.2 hn hm
    have a3 := h1.1
    simp only at a3
    exact ⟨⟨by omega, by have := hk.1; omega, a1, trivial⟩, a2⟩
  | run h0 hx => intro hn hm; exact ⟨⟨hx.okW hn hl, trivial⟩, hn⟩
  | ret h0 h1 hx => intro hn hm; exact ⟨⟨hx.okW hn hl, trivial⟩, hn⟩
  | @bind ns m i i1 i2 x h0 hx =>
    intro hn hm
    refine ⟨⟨hm, hx.okW hn hl, trivial⟩, ?_⟩
    intro s hs
    rcases List.mem_append.1 hs with h | h
    · exact hn s h
    · simp at h; subst h; rw [vT_l]; exact name_num (c := 118) (by decide) _ hm
theorem Run.okS {S : Ms → GL → Ms → Prop} (hS : ∀ s g s', S s g s' → OkS s g s') {j : Nat} {s : Ms} {g : GL} {s' : Ms} (h : Run S j s g s') : OkS s g s' := by
  induction h with
  | nil => exact ⟨Nat.le_refl _, fun hn _ => ⟨trivial, hn⟩⟩
  | @snoc j s s1 s2 g x h1 h2 ih =>
    have h3 := hS _ _ _ h2
    refine ⟨Nat.le_trans ih.1 h3.1, fun hn hm => ?_⟩
    obtain ⟨a1, a2⟩ := ih.2 hn (by have := h3.1; omega)
    obtain ⟨b1, b2⟩ := h3.2 a2 hm
    exact ⟨GL.okW_app _ _ a1 b1, b2⟩
theorem BlkOf.okS {N : Nat} {S : Ms → GL → Ms → Prop} (hS : ∀ s g s', S s g s' → OkS s g s') {s : Ms} {g : GL} {s' : Ms} (h : BlkOf N S s g s') : OkS s g s' ∧ s'.ns = s.ns := by
  obtain ⟨j, i1, s2, hj, hr, rfl⟩ := h
  have h0 := hr.okS hS
  exact ⟨⟨h0.1, fun hn hm => ⟨(h0.2 hn hm).1, hn⟩⟩, rfl⟩
theorem Blk.okS {N low : Nat} (hl : low ≤ 2) : ∀ (d : Nat) (s : Ms) (g : GL) (s' : Ms), Blk N low d s g s' → OkS s g s' ∧ s'.ns = s.ns := by
  intro d
  induction d with
  | zero => intro s g s' h; exact BlkOf.okS (fun s g s' h => Stm.okS hl (fun _ _ _ h => h.elim) h) h
  | succ d ih => intro s g s' h; exact BlkOf.okS (fun s g s' h => Stm.okS hl ih h) h
end Go.Proofs.YtmngofgminlloaaGreatDoor

namespace Go.Proofs.YtmngofgminlloaaGreatDoor
open Go.RowKit Tw

theorem ok_nl {l : List Pc} (h : PcsOK l) : PcsOK (.sp 10 :: l) := ⟨by decide, h⟩
theorem pq_name : NsN pq := by intro s hs; simp only [pq, List.mem_cons, List.mem_nil_iff, or_false] at hs; rcases hs with rfl | rfl <;> decide
theorem GFuns.okW {N j i m i' : Nat} {fs : List (GL × GE)} (hj : j ≤ 2) (hi : i ≤ N) (h : GFuns N j i fs m i') : ∀ f ∈ fs, f.1.okW ∧ f.2.okW := by
  induction h with
  | nil => intro f hf; cases hf
  | @snoc j i m1 i1 m2 i2 i3 fs g x h1 h2 h3 ih =>
    intro f hf
    rcases List.mem_append.1 hf with hf | hf
    · exact ih (by omega) hi f hf
    · simp at hf; subst hf
      have a1 := (h1.mono (by omega) hi).1
      have hb := (Blk.bound (low := j) (by omega) 2 _ _ _ h2).1 pq_ok (by simp only; have : mkB 2 = 129 := rfl; omega)
      have hm := hb.2.1
      simp only at hm
      have : mkB 2 = 129 := rfl
      exact ⟨((Blk.okS (low := j) (by omega) 2 _ _ _ h2).1.2 pq_name (by simp only; omega)).1, h3.okW pq_name (by omega)⟩
end Go.Proofs.YtmngofgminlloaaGreatDoor

namespace Go.Proofs.YtmngofgminlloaaGreatDoor
open Go.RowKit Tw

section
variable {ws : List Wd} {en : Nat} {ρ : ByteArray → ByteArray}
end
end Go.Proofs.YtmngofgminlloaaGreatDoor

namespace Go.Proofs.YtmngofgminlloaaGreatDoor
open Go.RowKit Tw

theorem smsF_each : ∀ {l : List Sm} {left : Nat}, smsF l left = 0 → ∀ a ∈ l, smF a left = 0 := by
  intro l
  induction l with
  | nil => intro left _ a ha; cases ha
  | cons b l ih =>
    intro left h a ha
    rw [smsF] at h
    split at h
    · rename_i h0
      rcases List.mem_cons.1 ha with rfl | ha
      · exact h0
      · exact ih h a ha
    · rename_i h0; exact absurd h h0
theorem smF_each {k : Int} {nm : ByteArray} {a : Ex} {body els : List Sm} {p : Int} {left : Nat} (h : smF (.mk k nm a body els p) left = 0) : 1 ≤ left ∧ (1 ≤ k ∧ k ≤ 7) ∧ exF a (left - 1) = 0 ∧ (k = 3 ∨ k = 4 → smsF body (left - 1) = 0) ∧ (k = 3 → smsF els (left - 1) = 0) := by
  rw [smF] at h
  by_cases h0 : left = 0
  · rw [if_pos h0] at h; cases h
  rw [if_neg h0] at h
  by_cases h1 : k < 1 ∨ 7 < k ∨ (k ≤ 2 ∧ nameB nm = false)
  · rw [if_pos h1] at h; cases h
  rw [if_neg h1] at h
  by_cases h2 : exF a (left - 1) = 0
  · rw [if_neg (fun e => e h2)] at h
    by_cases h3 : (k = 3 ∨ k = 4) ∧ smsF body (left - 1) ≠ 0
    · rw [if_pos h3] at h; exact absurd h h3.2
    · rw [if_neg h3] at h
      refine ⟨by omega, by omega, h2, fun hk => ?_, fun hk => ?_⟩
      · by_cases e : smsF body (left - 1) = 0
        · exact e
        · exact absurd ⟨hk, e⟩ h3
      · rw [if_pos hk] at h; exact h
  · rw [if_pos h2] at h; exact absurd h h2
section
variable {us : List Fn} {out : Int}
variable {ps : List Nat} {nv : Nat} {C : Cops}
end
end Go.Proofs.YtmngofgminlloaaGreatDoor
