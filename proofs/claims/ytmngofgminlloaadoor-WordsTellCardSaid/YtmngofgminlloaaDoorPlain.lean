/-
  Plain definitions: letters, names, numbers, signs and words of a text, as lists of bytes. No program is named here.
-/
import Derived.WalkKit
namespace Go.Proofs.YtmngofgminlloaaDoor
namespace Tw

abbrev Bs := List UInt8

def isL (c : UInt8) : Bool := (decide (97 ≤ c.toNat) && decide (c.toNat ≤ 122)) || decide (c.toNat = 95)
def isD (c : UInt8) : Bool := decide (48 ≤ c.toNat) && decide (c.toNat ≤ 57)
def isA (c : UInt8) : Bool := isD c || isL c
def isSp (c : UInt8) : Bool := decide (c.toNat = 32) || decide (c.toNat = 10) || decide (c.toNat = 9)

def keyTexts : List Bs := [[102, 117, 110], [108, 101, 116], [105, 102], [101, 108, 115, 101], [119, 104, 105, 108, 101], [114, 101, 116, 117, 114, 110], [121, 105, 101, 108, 100], [116, 114, 117, 101], [102, 97, 108, 115, 101], [105, 110, 116], [98, 111, 111, 108]]
def isKey (s : Bs) : Bool := keyTexts.contains s

def isName (s : Bs) : Bool := decide (1 ≤ s.length) && decide (s.length ≤ 16) && isL (s.headD 0) && !isKey s && s.all isA
def isNum (s : Bs) : Bool := decide (s.length ≤ 12) && !(decide (1 < s.length) && s.headD 0 == 48) && s.all isD

def sign2 : List Bs := [[60, 61], [62, 61], [61, 61], [33, 61], [38, 38], [124, 124]]
def sign1 : Bs := [43, 45, 42, 47, 37, 60, 62, 61, 33, 40, 41, 123, 125, 44, 59, 58, 64]
def signLen (s : Bs) : Nat := if sign2.contains (s.take 2) then 2 else if sign1.contains (s.headD 0) && decide (0 < s.length) then 1 else 0

/-- What stands at the beginning of a text: something to pass over, a word of a kind, or an error. -/
inductive Tok where
  | skip (n : Nat)
  | word (kind n : Nat)
  | bad

def runLen (p : UInt8 → Bool) (s : Bs) : Nat := (s.takeWhile p).length

def tok (s : Bs) : Tok :=
  if isSp (s.headD 0) then .skip 1
  else if s.headD 0 == 35 then .skip (runLen (fun c => c != 10) s)
  else if isD (s.headD 0) then (if isNum (s.take (runLen isA s)) then .word 1 (runLen isA s) else .bad)
  else if isL (s.headD 0) then (if isKey (s.take (runLen isA s)) then .word 3 (runLen isA s) else if decide (16 < runLen isA s) then .bad else .word 2 (runLen isA s))
  else match signLen s with
    | 0 => .bad
    | n => .word 4 n

/-- A word: its kind, its text, the byte at which it begins. -/
structure Wd where
  kind : Nat
  text : ByteArray
  pos : Nat

def Wd.cells (x : Wd) : List Value := [.int .i64 x.kind, .string x.text, .int .i64 x.pos]
def wcells (l : List Wd) : List Value := l.flatMap Wd.cells

/-- The words of a text from a byte on, behind words that were found before it: 'none' and the words, or the position of an error. -/
inductive Lex (s : ByteArray) : Nat → List Wd → Option Nat × List Wd → Prop where
  | done {i : Nat} {l : List Wd} : i = s.size → Lex s i l (none, l)
  | skip {i n : Nat} {l : List Wd} {r : Option Nat × List Wd} : i < s.size → tok (s.data.toList.drop i) = .skip n → Lex s (i + n) l r → Lex s i l r
  | word {i k n : Nat} {l : List Wd} {r : Option Nat × List Wd} : i < s.size → tok (s.data.toList.drop i) = .word k n → Lex s (i + n) (l ++ [⟨k, s.extract i (i + n), i⟩]) r → Lex s i l r
  | bad {i : Nat} {l : List Wd} : i < s.size → tok (s.data.toList.drop i) = .bad → Lex s i l (some i, [])

end Tw
end Go.Proofs.YtmngofgminlloaaDoor
