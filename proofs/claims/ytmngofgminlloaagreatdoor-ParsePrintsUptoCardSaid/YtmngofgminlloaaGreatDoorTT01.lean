/-
  Plain definitions: letters, names, numbers, signs and words of a text, as lists of bytes. No program is named here.
  The contracts of the small functions of package word: letter, digit, IsKey, IsName, number. Conditions: none beyond the lengths that any string has.
  Plain lemmas on lists of bytes: what a search for a word between blanks finds; trimming; the number of a text. No program is named here.
-/
import Derived.WalkKit
import Derived.Test.YtmngofgminlloaaGreatDoorRows
import Derived.WalkSpells
import Derived.WalkLawsBesides
import Derived.Lib.Hide
import Derived.Lib.IndexMore
import Derived.Lib.SlTrimSet
set_option linter.all false
namespace Go.Proofs.YtmngofgminlloaaGreatDoor
namespace Tw

abbrev Bs := List UInt8

def isL (c : UInt8) : Bool := (decide (97 ≤ c.toNat) && decide (c.toNat ≤ 122)) || decide (c.toNat = 95)
def isD (c : UInt8) : Bool := decide (48 ≤ c.toNat) && decide (c.toNat ≤ 57)
def isA (c : UInt8) : Bool := isD c || isL c
def isSp (c : UInt8) : Bool := decide (c.toNat = 32) || decide (c.toNat = 10) || decide (c.toNat = 9)

def keyTexts : List Bs := [[102, 117, 110], [108, 101, 116], [105, 102], [101, 108, 115, 101], [119, 104, 105, 108, 101], [114, 101, 116, 117, 114, 110], [121, 105, 101, 108, 100], [116, 114, 117, 101], [102, 97, 108, 115, 101], [105, 110, 116], [98, 111, 111, 108]]
def isKey (s : Bs) : Bool := keyTexts.contains s

def isName (s : Bs) : Bool := decide (1 ≤ s.length) && decide (s.length ≤ 16) && isL (s.headD 0) && !isKey s && s.all isA
def isNum (s : Bs) : Bool := decide (s.length ≤ 12) && !(decide (1 < s.length) && s.headD 0 == 48) && s.all isD

def sign2 : List Bs := [[60, 61], [62, 61], [61, 61], [33, 61], [38, 38], [124, 124]]
def sign1 : Bs := [43, 45, 42, 47, 37, 60, 62, 61, 33, 40, 41, 123, 125, 44, 59, 58, 64]
def signLen (s : Bs) : Nat := if sign2.contains (s.take 2) then 2 else if sign1.contains (s.headD 0) && decide (0 < s.length) then 1 else 0

/-- What stands at the beginning of a text: something to pass over, a word of a kind, or an error. -/
inductive Tok where
  | skip (n : Nat)
  | word (kind n : Nat)
  | bad

def runLen (p : UInt8 → Bool) (s : Bs) : Nat := (s.takeWhile p).length

def tok (s : Bs) : Tok :=
  if isSp (s.headD 0) then .skip 1
  else if s.headD 0 == 35 then .skip (runLen (fun c => c != 10) s)
  else if isD (s.headD 0) then (if isNum (s.take (runLen isA s)) then .word 1 (runLen isA s) else .bad)
  else if isL (s.headD 0) then (if isKey (s.take (runLen isA s)) then .word 3 (runLen isA s) else if decide (16 < runLen isA s) then .bad else .word 2 (runLen isA s))
  else match signLen s with
    | 0 => .bad
    | n => .word 4 n

/-- A word: its kind, its text, the byte at which it begins. -/
structure Wd where
  kind : Nat
  text : ByteArray
  pos : Nat

def Wd.cells (x : Wd) : List Value := [.int .i64 x.kind, .string x.text, .int .i64 x.pos]
def wcells (l : List Wd) : List Value := l.flatMap Wd.cells

/-- The words of a text from a byte on, behind words that were found before it: 'none' and the words, or the position of an error. -/
inductive Lex (s : ByteArray) : Nat → List Wd → Option Nat × List Wd → Prop where
  | done {i : Nat} {l : List Wd} : i = s.size → Lex s i l (none, l)
  | skip {i n : Nat} {l : List Wd} {r : Option Nat × List Wd} : i < s.size → tok (s.data.toList.drop i) = .skip n → Lex s (i + n) l r → Lex s i l r
  | word {i k n : Nat} {l : List Wd} {r : Option Nat × List Wd} : i < s.size → tok (s.data.toList.drop i) = .word k n → Lex s (i + n) (l ++ [⟨k, s.extract i (i + n), i⟩]) r → Lex s i l r
  | bad {i : Nat} {l : List Wd} : i < s.size → tok (s.data.toList.drop i) = .bad → Lex s i l (some i, [])

end Tw
end Go.Proofs.YtmngofgminlloaaGreatDoor

namespace Go.Proofs.YtmngofgminlloaaGreatDoor
open Go.RowKit Tw

theorem ret_bool {a b : Bool} (h : a = true ↔ b = true) : Ending.returned (.bool a) = .returned (.bool b) := by rw [Bool.eq_iff_iff.2 h]
theorem ret_of {b c : Bool} (h : c = b) : Ending.returned (.bool b) = .returned (.bool c) := by rw [h]
theorem data_get (s : ByteArray) (k : Nat) (h : k < s.size) : s.data.toList[k]? = some s[k] := by
  rw [List.getElem?_eq_getElem (by simpa using h)]; rfl
theorem take_snoc (s : ByteArray) (k : Nat) (h : k < s.size) : s.data.toList.take (k + 1) = s.data.toList.take k ++ [s[k]] := by
  rw [List.take_succ_eq_append_getElem (by simpa using h)]; rfl
theorem size_len (s : ByteArray) : s.data.toList.length = s.size := rfl
theorem head_get (s : ByteArray) (h : 0 < s.size) : s.data.toList.headD 0 = s[0] := by
  have := data_get s 0 h
  rcases hl : s.data.toList with _ | ⟨a, r⟩
  · rw [hl] at this; cases this
  · rw [hl] at this; simpa using this
theorem all_snoc (s : ByteArray) (p : UInt8 → Bool) (k : Nat) (h : k < s.size) : (s.data.toList.take (k + 1)).all p = ((s.data.toList.take k).all p && p s[k]) := by
  rw [take_snoc s k h]; simp
theorem all_false (s : ByteArray) (p : UInt8 → Bool) (k : Nat) (h : k < s.size) (hp : p s[k] = false) : s.data.toList.all p = false := by
  rw [List.all_eq_false]
  exact ⟨s[k], List.mem_of_getElem? (data_get s k h), by simp [hp]⟩
theorem all_full (s : ByteArray) (p : UInt8 → Bool) (k : Nat) (h : s.size ≤ k) (hp : (s.data.toList.take k).all p = true) : s.data.toList.all p = true := by
  rwa [List.take_of_length_le (by rw [size_len]; exact h)] at hp

set_option maxHeartbeats 400000 in
theorem digit_any (c : UInt8) (w : World) :
    Calls Tryz.prog 105 #[.int .u8 c.toNat] w fun e w' => e = .returned (.bool (isD c)) ∧ w = w' := by
  go_enter Tryz.func105, Tryz.ntmps105
  go_wp2
  all_goals go_ret; exact ⟨ret_bool (by simp [isD]; try omega), rfl⟩

set_option maxHeartbeats 400000 in
theorem letter_any (c : UInt8) (w : World) :
    Calls Tryz.prog 103 #[.int .u8 c.toNat] w fun e w' => e = .returned (.bool (isL c)) ∧ w = w' := by
  go_enter Tryz.func103, Tryz.ntmps103
  go_wp2
  all_goals go_ret; exact ⟨ret_bool (by simp [isL]; try omega), rfl⟩

set_option maxHeartbeats 400000 in
theorem isKey_any (s : ByteArray) (w : World) :
    Calls Tryz.prog 104 #[.string s] w fun e w' => e = .returned (.bool (isKey s.data.toList)) ∧ w = w' := by
  go_enter Tryz.func104, Tryz.ntmps104
  go_wp2
  all_goals (first | (exfalso; simp_all; done) | (go_ret; refine ⟨?_, rfl⟩; simp_all [isKey, keyTexts, ByteArray.toList_eq]))

set_option maxHeartbeats 1000000 in
theorem isName_any (s : ByteArray) (w : World) (hs : s.size ≤ maxLen) :
    Calls Tryz.prog 49 #[.string s] w fun e w' => e = .returned (.bool (isName s.data.toList)) ∧ w = w' := by
  unfold maxLen at hs
  by_cases h1 : 1 ≤ s.size
  case neg =>
    have hh : isName s.data.toList = false := by simp [isName]; omega
    have HH := Lib.hid hh; clear hh
    go_enter Tryz.func49, Tryz.ntmps49
    go_wp2
    go_ret; exact ⟨ret_of HH.out, rfl⟩
  by_cases h2 : s.size ≤ 16
  case neg =>
    have hh : isName s.data.toList = false := by simp [isName]; omega
    have HH := Lib.hid hh; clear hh
    go_enter Tryz.func49, Tryz.ntmps49
    go_wp2
    go_ret; exact ⟨ret_of HH.out, rfl⟩
  have hd := Lib.hid (head_get s h1)
  cases h3 : isL s[0]
  case false =>
    have hh : isName s.data.toList = false := by simp only [isName, hd.out, h3]; simp
    have HH := Lib.hid hh; clear hh
    go_enter Tryz.func49, Tryz.ntmps49
    go_wp2_with (go_at_call 103; refine (letter_any _ _).mono ?_; rintro e w' ⟨rfl, rfl⟩)
    go_ret; exact ⟨ret_of HH.out, rfl⟩
  cases h4 : isKey s.data.toList
  case true =>
    have hh : isName s.data.toList = false := by simp only [isName, h4]; simp
    have HH := Lib.hid hh; clear hh
    go_enter Tryz.func49, Tryz.ntmps49
    go_wp2_with (first | (go_at_call 103; refine (letter_any _ _).mono ?_; rintro e w' ⟨rfl, rfl⟩) | (go_at_call 104; refine (isKey_any _ _).mono ?_; rintro e w' ⟨rfl, rfl⟩))
    go_ret; exact ⟨ret_of HH.out, rfl⟩
  have hh : isName s.data.toList = s.data.toList.all isA := by
    simp only [isName, hd.out, h3, h4, size_len]
    simp [h1, h2]
  have HH := Lib.hid hh; clear hh
  go_enter Tryz.func49, Tryz.ntmps49
  go_wp2_with (first | (go_at_call 103; refine (letter_any _ _).mono ?_; rintro e w' ⟨rfl, rfl⟩) | (go_at_call 104; refine (isKey_any _ _).mono ?_; rintro e w' ⟨rfl, rfl⟩))
  go_loop [24] (fun i => ∃ k : Nat, k ≤ s.size ∧ i = .int .i64 k ∧ Hid ((s.data.toList.take k).all isA = true)) (fun i => s.size - (intOf i).toNat)
  case atStart => exact ⟨0, Nat.zero_le _, rfl, Lib.hid rfl⟩
  case round =>
    obtain ⟨k, hk, rfl, hall⟩ := hrel
    by_cases hlt : k < s.size
    · have HS := Lib.hid (all_snoc s isA k hlt)
      have HF := Lib.hid (all_false s isA k hlt)
      cases h5 : isL s[k]
      · cases h6 : isD s[k]
        · have hf : s.data.toList.all isA = false := HF.out (by simp [isA, h5, h6])
          have HG := Lib.hid (HH.out.trans hf); clear hf
          go_wp2_with (first | (go_at_call 103; refine (letter_any _ _).mono ?_; rintro e w' ⟨rfl, rfl⟩) | (go_at_call 105; refine (digit_any _ _).mono ?_; rintro e w' ⟨rfl, rfl⟩))
          go_ret; exact ⟨ret_of HG.out, rfl⟩
        · have hg : (s.data.toList.take (k + 1)).all isA = true := by rw [HS.out, hall.out]; simp [isA, h6]
          have HG := Lib.hid hg; clear hg
          go_wp2_with (first | (go_at_call 103; refine (letter_any _ _).mono ?_; rintro e w' ⟨rfl, rfl⟩) | (go_at_call 105; refine (digit_any _ _).mono ?_; rintro e w' ⟨rfl, rfl⟩))
          go_round
          case rel => exact ⟨k + 1, by omega, by go_num, HG⟩
          case measure => simp [intOf]; omega
      · have hg : (s.data.toList.take (k + 1)).all isA = true := by rw [HS.out, hall.out]; simp [isA, h5]
        have HG := Lib.hid hg; clear hg
        go_wp2_with (first | (go_at_call 103; refine (letter_any _ _).mono ?_; rintro e w' ⟨rfl, rfl⟩) | (go_at_call 105; refine (digit_any _ _).mono ?_; rintro e w' ⟨rfl, rfl⟩))
        go_round
        case rel => exact ⟨k + 1, by omega, by go_num, HG⟩
        case measure => simp [intOf]; omega
    · go_wp2
      go_ret
      exact ⟨ret_of (HH.out.trans (all_full s _ k (by omega) hall.out)), rfl⟩

end Go.Proofs.YtmngofgminlloaaGreatDoor

namespace Go.Proofs.YtmngofgminlloaaGreatDoor
namespace Tw

theorem contains_nil (sub : Bs) (h : sub ≠ []) : Lib.contains [] sub = false := by
  cases sub with
  | nil => exact absurd rfl h
  | cons a l => simp [Lib.contains, Lib.index]
theorem contains_cons (b : UInt8) (l sub : Bs) : Lib.contains (b :: l) sub = (sub.isPrefixOf (b :: l) || Lib.contains l sub) := by
  have hg := Lib.index_ge l sub
  unfold Lib.contains
  rw [Lib.index]
  cases h : sub.isPrefixOf (b :: l)
  · by_cases h2 : Lib.index l sub = -1
    · simp [h2]
    · have h3 : (Lib.index l sub == -1) = false := by simpa using h2
      simp only [h3, Bool.false_eq_true, if_false, Bool.false_or]
      rw [decide_eq_decide]; omega
  · simp
/-- What is passed over. -/
theorem contains_pass (v rest sub : Bs) (hv : ∀ c ∈ v, c ≠ 32) : Lib.contains (v ++ rest) (32 :: sub) = Lib.contains rest (32 :: sub) := by
  induction v with
  | nil => rfl
  | cons c v ih =>
    rw [List.cons_append, contains_cons, ih (fun x hx => hv x (List.mem_cons_of_mem _ hx))]
    have : ((32 : UInt8) == c) = false := by rw [beq_eq_false_iff_ne]; exact fun h => hv c (List.mem_cons_self ..) h.symm
    simp [List.isPrefixOf, this]
theorem prefix_word (w v rest : Bs) (hw : ∀ c ∈ w, c ≠ 32) (hv : ∀ c ∈ v, c ≠ 32) : (w ++ [32]).isPrefixOf (v ++ 32 :: rest) = decide (v = w) := by
  induction w generalizing v with
  | nil =>
    cases v with
    | nil => simp [List.isPrefixOf]
    | cons c v =>
      have : ((32 : UInt8) == c) = false := by rw [beq_eq_false_iff_ne]; exact fun h => hv c (List.mem_cons_self ..) h.symm
      simp [List.isPrefixOf, this]
  | cons a w ih =>
    have ha := hw a (List.mem_cons_self ..)
    cases v with
    | nil =>
      have : (a == (32 : UInt8)) = false := by rw [beq_eq_false_iff_ne]; exact ha
      simp [List.isPrefixOf, this]
    | cons c v =>
      have := ih v (fun x hx => hw x (List.mem_cons_of_mem _ hx)) (fun x hx => hv x (List.mem_cons_of_mem _ hx))
      simp only [List.cons_append, List.isPrefixOf, this]
      by_cases hac : a = c
      · subst hac; simp
      · have : (a == c) = false := by simpa using hac
        simp [this]; intro h; exact absurd h.symm hac
def spaced (ws : List Bs) : Bs := ws.flatMap fun v => v ++ [32]
theorem contains_spaced (ws : List Bs) (hws : ∀ v ∈ ws, ∀ c ∈ v, c ≠ 32) (w : Bs) (hw : ∀ c ∈ w, c ≠ 32) : Lib.contains (32 :: spaced ws) (32 :: (w ++ [32])) = ws.contains w := by
  induction ws with
  | nil =>
    simp only [spaced, List.flatMap_nil, contains_cons]
    rw [contains_nil _ (by simp)]
    cases w <;> simp [List.isPrefixOf]
  | cons v ws ih =>
    have h1 : spaced (v :: ws) = v ++ 32 :: spaced ws := by simp [spaced]
    rw [h1, contains_cons, contains_pass _ _ _ (hws v (List.mem_cons_self ..)), ih (fun x hx => hws x (List.mem_cons_of_mem _ hx))]
    have h2 := prefix_word w v (spaced ws) hw (hws v (List.mem_cons_self ..))
    simp only [List.isPrefixOf, beq_self_eq_true, Bool.true_and, h2, List.contains_cons]
    congr 1
    rw [Bool.eq_iff_iff]
    simp only [decide_eq_true_eq, beq_iff_eq]
    exact ⟨fun h => h.symm, fun h => h.symm⟩

theorem isA_ne (c : UInt8) (h : isA c = true) : c ≠ 32 := by
  rintro rfl; revert h; decide
def keysText : Bs := [32, 102, 117, 110, 32, 108, 101, 116, 32, 105, 102, 32, 101, 108, 115, 101, 32, 119, 104, 105, 108, 101, 32, 114, 101, 116, 117, 114, 110, 32, 121, 105, 101, 108, 100, 32, 116, 114, 117, 101, 32, 102, 97, 108, 115, 101, 32, 105, 110, 116, 32, 98, 111, 111, 108, 32]
theorem keys_contains (w : Bs) (hw : w.all isA = true) : Lib.contains keysText (32 :: (w ++ [32])) = isKey w :=
  contains_spaced keyTexts (by decide) w (fun c hc => isA_ne c (List.all_eq_true.1 hw c hc))
end Tw
end Go.Proofs.YtmngofgminlloaaGreatDoor
