/-
  What an expression is (De) is one thing; and what statements, parameters, functions and scripts are (Ds, Dp, Df, Du), in plain Lean.
  The frame of the reference's stmt(): blocks of ten cells, and what its methods answer (RetS, StmtC, BlockC).
  What stmt() has read, by the ways through it, in plain Lean.
  The reference's stmt(), of whatever its callees answer by contract.
  The reference's block(), of whatever its callee answers by contract.
  The methods of the reference's reader answer as they say, each at every place: the knot is tied by the words that are left.
  What parameters and functions have been read, in plain Lean; rows of texts, numbers, functions in memory.
  The reference's table of how many arguments a kind has: made and read.
  The reference's Bind: how strongly an operator binds.
-/
import Derived.Test.YtmngofgminlloaaGreatDoorTN07
import Derived.Outline
import Derived.Deep.DeepCutAuto
import Derived.Maps.OwnOps
import Derived.Maps.OwnSet
set_option linter.unusedSimpArgs false
set_option linter.unusedVariables false
namespace Go.Proofs.YtmngofgminlloaaGreatDoor
open Go.RowKit Tw

set_option maxHeartbeats 4000000 in
theorem De.det {ws : List Wd} {en : Nat} {q : Qe} {r : Re} (h : De ws en q r) : ∀ r', De ws en q r' → r = r' := by
  induction h with
  | lvl6 _ ih => intro r' h'; cases h' <;> first | (apply ih; assumption) | contradiction
  | lvl hn _ _ ih1 ih2 =>
    intro r' h'
    cases h' with
    | lvl6 => contradiction
    | lvl _ h1 h2 => have e := ih1 _ h1; injection e with e1 e2; subst e1; subst e2; exact ih2 _ h2
    | lvlB _ h1 => have e := ih1 _ h1; cases e
  | lvlB hn _ ih1 =>
    intro r' h'
    cases h' with
    | lvl6 => contradiction
    | lvl _ h1 h2 => have e := ih1 _ h1; cases e
    | lvlB _ h1 => exact ih1 _ h1
  | stop h0 => intro r' h'; cases h' <;> first | rfl | contradiction
  | go h3 h0 _ _ ih1 ih2 =>
    intro r' h'
    cases h' with
    | stop g0 => contradiction
    | go _ _ h1 h2 => have e := ih1 _ h1; injection e with e1 e2; subst e1; subst e2; exact ih2 _ h2
    | goB _ h1 => have e := ih1 _ h1; cases e
    | cmp => contradiction
    | cmpB => contradiction
  | goB h0 _ ih1 =>
    intro r' h'
    cases h' with
    | stop g0 => contradiction
    | go _ _ h1 h2 => have e := ih1 _ h1; cases e
    | goB _ h1 => exact ih1 _ h1
    | cmp _ h1 => have e := ih1 _ h1; cases e
    | cmpB _ h1 => have e := ih1 _ h1; cases e
  | cmp h0 _ hx ih1 =>
    intro r' h'
    cases h' with
    | stop g0 => contradiction
    | go g0 => contradiction
    | goB _ h1 => have e := ih1 _ h1; cases e
    | cmp _ h1 => have e := ih1 _ h1; injection e with e1 e2; subst e1; subst e2; rfl
    | cmpB _ h1 => have e := ih1 _ h1; injection e with e1 e2; subst e1; subst e2; contradiction
  | cmpB h0 _ hx ih1 =>
    intro r' h'
    cases h' with
    | stop g0 => contradiction
    | go g0 => contradiction
    | goB _ h1 => have e := ih1 _ h1; cases e
    | cmp _ h1 => have e := ih1 _ h1; injection e with e1 e2; subst e1; subst e2; contradiction
    | cmpB _ h1 => have e := ih1 _ h1; injection e with e1 e2; subst e1; subst e2; rfl
  | neg h0 _ ih | not h0 _ ih =>
    intro r' h'
    cases h' <;> first
      | (exfalso; omega)
      | (rename_i h1; have e := ih _ h1; first | (cases e; done) | (injection e with e1 e2; subst e1; subst e2; rfl))
  | negB h0 _ ih | notB h0 _ ih | parB h0 _ ih =>
    intro r' h'
    cases h' <;> first
      | (exfalso; omega)
      | (rename_i h1; have e := ih _ h1; first | (cases e; done) | (injection e with e1; subst e1; rfl))
      | (rename_i h1 _; have e := ih _ h1; first | (cases e; done) | (injection e with e1; subst e1; rfl))
  | par h0 _ hc ih | parC h0 _ hc ih =>
    intro r' h'
    cases h' with
    | parB _ h1 => have e := ih _ h1; cases e
    | par _ h1 g | parC _ h1 g => have e := ih _ h1; injection e with e1 e2; subst e1; subst e2; first | rfl | (rw [hc] at g; cases g)
    | _ => exfalso; omega
  | tru h0 | fls h0 | num h0 | nobody h0 => intro r' h'; cases h' <;> first | rfl | (exfalso; omega)
  | host h0 hk hc _ ih | hostB h0 hk hc _ ih =>
    intro r' h'
    cases h' <;> first
      | (exfalso; omega)
      | contradiction
      | (rename_i g _; rw [hc] at g; cases g; done)
      | (rename_i g; rw [hc] at g; cases g; done)
      | (rename_i h1; have e := ih _ h1; first | (cases e; done) | (injection e with e1 e2; subst e1; subst e2; rfl) | (injection e with e1; subst e1; rfl))
  | hostC h0 hk hc =>
    intro r' h'
    cases h' <;> first
      | rfl
      | (exfalso; omega)
      | contradiction
      | (rename_i g _; rw [hc] at g; cases g; done)
  | hostD h0 hk => intro r' h'; cases h' <;> first | rfl | (exfalso; omega) | contradiction
  | var h0 hc =>
    intro r' h'
    cases h' <;> first
      | rfl
      | (exfalso; omega)
      | (rename_i g _; rw [hc] at g; cases g; done)
  | call h0 hc _ ih | callB h0 hc _ ih =>
    intro r' h'
    cases h' <;> first
      | (exfalso; omega)
      | (rename_i g; rw [hc] at g; cases g; done)
      | (rename_i h1; have e := ih _ h1; first | (cases e; done) | (injection e with e1 e2; subst e1; subst e2; rfl) | (injection e with e1; subst e1; rfl))
  | close hc =>
    intro r' h'
    cases h' <;> first | rfl | (rename_i g _ _; rw [hc] at g; cases g; done) | (rename_i g _; rw [hc] at g; cases g; done) | (rename_i g _ _ _; rw [hc] at g; cases g; done)
  | first hc _ _ ih1 ih2 | firstR hc _ _ ih1 ih2 =>
    intro r' h'
    cases h' with
    | close g => rw [hc] at g; cases g
    | first _ h1 h2 => have e := ih1 _ h1; injection e with e1 e2; subst e1; subst e2; have e := ih2 _ h2; first | (cases e; done) | (injection e with e1 e2; subst e1; subst e2; rfl)
    | firstR _ h1 h2 => have e := ih1 _ h1; injection e with e1 e2; subst e1; subst e2; have e := ih2 _ h2; first | (cases e; done) | (injection e with e1; subst e1; rfl)
    | firstB _ h1 => have e := ih1 _ h1; cases e
  | firstB hc _ ih1 =>
    intro r' h'
    cases h' with
    | close g => rw [hc] at g; cases g
    | first _ h1 h2 => have e := ih1 _ h1; cases e
    | firstR _ h1 h2 => have e := ih1 _ h1; cases e
    | firstB _ h1 => exact ih1 _ h1
  | next hc hd _ _ ih1 ih2 | nextR hc hd _ _ ih1 ih2 =>
    intro r' h'
    cases h' with
    | close g => rw [hc] at g; cases g
    | next _ _ h1 h2 => have e := ih1 _ h1; injection e with e1 e2; subst e1; subst e2; have e := ih2 _ h2; first | (cases e; done) | (injection e with e1 e2; subst e1; subst e2; rfl)
    | nextR _ _ h1 h2 => have e := ih1 _ h1; injection e with e1 e2; subst e1; subst e2; have e := ih2 _ h2; first | (cases e; done) | (injection e with e1; subst e1; rfl)
    | nextB _ _ h1 => have e := ih1 _ h1; cases e
    | nextC _ g => rw [hd] at g; cases g
  | nextB hc hd _ ih1 =>
    intro r' h'
    cases h' with
    | close g => rw [hc] at g; cases g
    | next _ _ h1 h2 => have e := ih1 _ h1; cases e
    | nextR _ _ h1 h2 => have e := ih1 _ h1; cases e
    | nextB _ _ h1 => exact ih1 _ h1
    | nextC _ g => rw [hd] at g; cases g
  | nextC hc hd =>
    intro r' h'
    cases h' with
    | close g => rw [hc] at g; cases g
    | next _ g => rw [hd] at g; cases g
    | nextR _ g => rw [hd] at g; cases g
    | nextB _ g => rw [hd] at g; cases g
    | nextC => rfl

def sLet : ByteArray := ⟨#[108, 101, 116]⟩
def sIf : ByteArray := ⟨#[105, 102]⟩
def sWhile : ByteArray := ⟨#[119, 104, 105, 108, 101]⟩
def sReturn : ByteArray := ⟨#[114, 101, 116, 117, 114, 110]⟩
def sYield : ByteArray := ⟨#[121, 105, 101, 108, 100]⟩
def sElse : ByteArray := ⟨#[101, 108, 115, 101]⟩
def sFun : ByteArray := ⟨#[102, 117, 110]⟩
def tInt : ByteArray := ⟨#[105, 110, 116]⟩
def tBool : ByteArray := ⟨#[98, 111, 111, 108]⟩
def sEq : ByteArray := ⟨#[61]⟩
def sSemi : ByteArray := ⟨#[59]⟩
def tColon : ByteArray := ⟨#[58]⟩
def sBra : ByteArray := ⟨#[123]⟩
def sKet : ByteArray := ⟨#[125]⟩
/-- With what a statement begins: its kind. -/
def headS (ws : List Wd) (i : Nat) : Nat :=
  if isAt ws i sLet then 1 else if isAt ws i sIf then 3 else if isAt ws i sWhile then 4 else if isAt ws i sReturn then 5 else if isAt ws i sYield then 6
  else if kindAt ws i = 2 ∧ isAt ws (i + 1) sEq = true then 2 else 7
/-- Where the expression of a statement begins. -/
def exprS (ws : List Wd) (i : Nat) : Nat :=
  if headS ws i = 1 then i + 3 else if headS ws i = 2 then i + 2 else if headS ws i = 7 then i else i + 1
def nameS (ws : List Wd) (i : Nat) : ByteArray :=
  if headS ws i = 1 then textAt ws (i + 1) else if headS ws i = 2 then textAt ws i else sNone

inductive Qs where
  | stmt (i : Nat) | block (i : Nat) | stmts (i : Nat)
inductive Rs where
  | st (s : Sm) (j : Nat) | sts (l : List Sm) (j : Nat) | bad (j : Nat)
def Qs.at : Qs → Nat
  | .stmt i => i | .block i => i | .stmts i => i

/-- What statements are. -/
inductive Ds (ws : List Wd) (en : Nat) : Qs → Rs → Prop
  | letN {i : Nat} : headS ws i = 1 → kindAt ws (i + 1) ≠ 2 → Ds ws en (.stmt i) (.bad (i + 1))
  | letE {i : Nat} : headS ws i = 1 → kindAt ws (i + 1) = 2 → isAt ws (i + 2) sEq = false → Ds ws en (.stmt i) (.bad (i + 2))
  | simpB {i j : Nat} : headS ws i ≠ 3 → headS ws i ≠ 4 → (headS ws i = 1 → kindAt ws (i + 1) = 2 ∧ isAt ws (i + 2) sEq = true) → De ws en (.lvl 1 (exprS ws i)) (.bad j) → Ds ws en (.stmt i) (.bad j)
  | simpC {i j : Nat} {x : Ex} : headS ws i ≠ 3 → headS ws i ≠ 4 → (headS ws i = 1 → kindAt ws (i + 1) = 2 ∧ isAt ws (i + 2) sEq = true) → De ws en (.lvl 1 (exprS ws i)) (.ex x j) → isAt ws j sSemi = false → Ds ws en (.stmt i) (.bad j)
  | simp {i j : Nat} {x : Ex} : headS ws i ≠ 3 → headS ws i ≠ 4 → (headS ws i = 1 → kindAt ws (i + 1) = 2 ∧ isAt ws (i + 2) sEq = true) → De ws en (.lvl 1 (exprS ws i)) (.ex x j) → isAt ws j sSemi = true → Ds ws en (.stmt i) (.st (.mk (headS ws i) (nameS ws i) x [] [] (posAt ws i en)) (j + 1))
  | condB {i j : Nat} : headS ws i = 3 ∨ headS ws i = 4 → De ws en (.lvl 1 (i + 1)) (.bad j) → Ds ws en (.stmt i) (.bad j)
  | condD {i j j' : Nat} {x : Ex} : headS ws i = 3 ∨ headS ws i = 4 → De ws en (.lvl 1 (i + 1)) (.ex x j) → Ds ws en (.block j) (.bad j') → Ds ws en (.stmt i) (.bad j')
  | whil {i j j' : Nat} {x : Ex} {l : List Sm} : headS ws i = 4 → De ws en (.lvl 1 (i + 1)) (.ex x j) → Ds ws en (.block j) (.sts l j') → Ds ws en (.stmt i) (.st (.mk 4 sNone x l [] (posAt ws i en)) j')
  | if0 {i j j' : Nat} {x : Ex} {l : List Sm} : headS ws i = 3 → De ws en (.lvl 1 (i + 1)) (.ex x j) → Ds ws en (.block j) (.sts l j') → isAt ws j' sElse = false → Ds ws en (.stmt i) (.st (.mk 3 sNone x l [] (posAt ws i en)) j')
  | ifE {i j j' k : Nat} {x : Ex} {l m : List Sm} : headS ws i = 3 → De ws en (.lvl 1 (i + 1)) (.ex x j) → Ds ws en (.block j) (.sts l j') → isAt ws j' sElse = true → isAt ws (j' + 1) sIf = false → Ds ws en (.block (j' + 1)) (.sts m k) → Ds ws en (.stmt i) (.st (.mk 3 sNone x l m (posAt ws i en)) k)
  | ifEB {i j j' k : Nat} {x : Ex} {l : List Sm} : headS ws i = 3 → De ws en (.lvl 1 (i + 1)) (.ex x j) → Ds ws en (.block j) (.sts l j') → isAt ws j' sElse = true → isAt ws (j' + 1) sIf = false → Ds ws en (.block (j' + 1)) (.bad k) → Ds ws en (.stmt i) (.bad k)
  | ifI {i j j' k : Nat} {x : Ex} {l : List Sm} {s : Sm} : headS ws i = 3 → De ws en (.lvl 1 (i + 1)) (.ex x j) → Ds ws en (.block j) (.sts l j') → isAt ws j' sElse = true → isAt ws (j' + 1) sIf = true → Ds ws en (.stmt (j' + 1)) (.st s k) → Ds ws en (.stmt i) (.st (.mk 3 sNone x l [s] (posAt ws i en)) k)
  | ifIB {i j j' k : Nat} {x : Ex} {l : List Sm} : headS ws i = 3 → De ws en (.lvl 1 (i + 1)) (.ex x j) → Ds ws en (.block j) (.sts l j') → isAt ws j' sElse = true → isAt ws (j' + 1) sIf = true → Ds ws en (.stmt (j' + 1)) (.bad k) → Ds ws en (.stmt i) (.bad k)
  | blockB {i : Nat} : isAt ws i sBra = false → Ds ws en (.block i) (.bad i)
  | block {i : Nat} {r : Rs} : isAt ws i sBra = true → Ds ws en (.stmts (i + 1)) r → Ds ws en (.block i) r
  | done {i : Nat} : isAt ws i sKet = true → Ds ws en (.stmts i) (.sts [] (i + 1))
  | more {i j j' : Nat} {s : Sm} {l : List Sm} : isAt ws i sKet = false → Ds ws en (.stmt i) (.st s j) → Ds ws en (.stmts j) (.sts l j') → Ds ws en (.stmts i) (.sts (s :: l) j')
  | moreR {i j j' : Nat} {s : Sm} : isAt ws i sKet = false → Ds ws en (.stmt i) (.st s j) → Ds ws en (.stmts j) (.bad j') → Ds ws en (.stmts i) (.bad j')
  | moreB {i j : Nat} : isAt ws i sKet = false → Ds ws en (.stmt i) (.bad j) → Ds ws en (.stmts i) (.bad j)

/-- A type. -/
inductive Rt where
  | ok (t : Int) | bad (j : Nat)
def typF (ws : List Wd) (i : Nat) : Rt :=
  if isAt ws i tColon then (if isAt ws (i + 1) tInt then .ok 1 else if isAt ws (i + 1) tBool then .ok 2 else .bad (i + 1)) else .bad i
/-- Parameters. -/
inductive Rp where
  | ok (names : List ByteArray) (types : List Int) (j : Nat) | bad (j : Nat)
def parAt (k i : Nat) : Nat := if k = 0 then i else i + 1
inductive Dp (ws : List Wd) (en : Nat) : Nat → Nat → Rp → Prop
  | close {k i : Nat} : isAt ws i sClose = true → Dp ws en k i (.ok [] [] (i + 1))
  | comma {k i : Nat} : isAt ws i sClose = false → k ≠ 0 → isAt ws i sComma = false → Dp ws en k i (.bad i)
  | name {k i : Nat} : isAt ws i sClose = false → (k ≠ 0 → isAt ws i sComma = true) → kindAt ws (parAt k i) ≠ 2 → Dp ws en k i (.bad (parAt k i))
  | typ {k i j : Nat} : isAt ws i sClose = false → (k ≠ 0 → isAt ws i sComma = true) → kindAt ws (parAt k i) = 2 → typF ws (parAt k i + 1) = .bad j → Dp ws en k i (.bad j)
  | next {k i j : Nat} {t : Int} {ns : List ByteArray} {ts : List Int} : isAt ws i sClose = false → (k ≠ 0 → isAt ws i sComma = true) → kindAt ws (parAt k i) = 2 → typF ws (parAt k i + 1) = .ok t → Dp ws en (k + 1) (parAt k i + 3) (.ok ns ts j) → Dp ws en k i (.ok (textAt ws (parAt k i) :: ns) (t :: ts) j)
  | nextR {k i j : Nat} {t : Int} : isAt ws i sClose = false → (k ≠ 0 → isAt ws i sComma = true) → kindAt ws (parAt k i) = 2 → typF ws (parAt k i + 1) = .ok t → Dp ws en (k + 1) (parAt k i + 3) (.bad j) → Dp ws en k i (.bad j)
/-- A function. -/
inductive Rf where
  | fn (f : Fn) (j : Nat) | bad (j : Nat)
inductive Df (ws : List Wd) (en : Nat) : Nat → Rf → Prop
  | noFun {i : Nat} : isAt ws i sFun = false → Df ws en i (.bad i)
  | noName {i : Nat} : isAt ws i sFun = true → kindAt ws (i + 1) ≠ 2 → Df ws en i (.bad (i + 1))
  | noOpen {i : Nat} : isAt ws i sFun = true → kindAt ws (i + 1) = 2 → isAt ws (i + 2) sOpen = false → Df ws en i (.bad (i + 2))
  | par {i j : Nat} : isAt ws i sFun = true → kindAt ws (i + 1) = 2 → isAt ws (i + 2) sOpen = true → Dp ws en 0 (i + 3) (.bad j) → Df ws en i (.bad j)
  | typ {i j k : Nat} {ns : List ByteArray} {ts : List Int} : isAt ws i sFun = true → kindAt ws (i + 1) = 2 → isAt ws (i + 2) sOpen = true → Dp ws en 0 (i + 3) (.ok ns ts j) → typF ws j = .bad k → Df ws en i (.bad k)
  | body {i j k : Nat} {t : Int} {ns : List ByteArray} {ts : List Int} : isAt ws i sFun = true → kindAt ws (i + 1) = 2 → isAt ws (i + 2) sOpen = true → Dp ws en 0 (i + 3) (.ok ns ts j) → typF ws j = .ok t → Ds ws en (.block (j + 2)) (.bad k) → Df ws en i (.bad k)
  | fn {i j k : Nat} {t : Int} {ns : List ByteArray} {ts : List Int} {l : List Sm} : isAt ws i sFun = true → kindAt ws (i + 1) = 2 → isAt ws (i + 2) sOpen = true → Dp ws en 0 (i + 3) (.ok ns ts j) → typF ws j = .ok t → Ds ws en (.block (j + 2)) (.sts l k) →
      Df ws en i (.fn { name := textAt ws (i + 1), names := ns, types := ts, out := t, body := l, pos := posAt ws i en } k)
/-- A script. -/
inductive Ru where
  | fns (l : List Fn) | bad (j : Nat)
inductive Du (ws : List Wd) (en : Nat) : Nat → Ru → Prop
  | done {i : Nat} : ws.length ≤ i → Du ws en i (.fns [])
  | more {i j : Nat} {f : Fn} {l : List Fn} : i < ws.length → Df ws en i (.fn f j) → Du ws en j (.fns l) → Du ws en i (.fns (f :: l))
  | moreR {i j k : Nat} {f : Fn} : i < ws.length → Df ws en i (.fn f j) → Du ws en j (.bad k) → Du ws en i (.bad k)
  | moreB {i j : Nat} : i < ws.length → Df ws en i (.bad j) → Du ws en i (.bad j)
end Go.Proofs.YtmngofgminlloaaGreatDoor

namespace Go.Proofs.YtmngofgminlloaaGreatDoor
open Go.RowKit Tw

theorem facts10 {w : World} {b t : Nat} {u0 u1 u2 u3 u4 u5 u6 u7 u8 u9 : Value} (h : w.heap[b]? = some (.cells #[u0, u1, u2, u3, u4, u5, u6, u7, u8, u9] t (0, 0))) :
    (w.cell? ⟨b, 0, none⟩ = some u0 ∧ w.cell? ⟨b, 1, none⟩ = some u1 ∧ w.cell? ⟨b, 2, none⟩ = some u2 ∧ w.cell? ⟨b, 3, none⟩ = some u3 ∧ w.cell? ⟨b, 4, none⟩ = some u4 ∧ w.cell? ⟨b, 5, none⟩ = some u5 ∧ w.cell? ⟨b, 6, none⟩ = some u6 ∧ w.cell? ⟨b, 7, none⟩ = some u7 ∧ w.cell? ⟨b, 8, none⟩ = some u8 ∧ w.cell? ⟨b, 9, none⟩ = some u9) ∧
    w.frozen? ⟨b, 0, none⟩ = false ∧ w.frozen? ⟨b, 1, none⟩ = false ∧ w.frozen? ⟨b, 2, none⟩ = false ∧ w.frozen? ⟨b, 3, none⟩ = false ∧ w.frozen? ⟨b, 4, none⟩ = false ∧ w.frozen? ⟨b, 5, none⟩ = false ∧ w.frozen? ⟨b, 6, none⟩ = false ∧ w.frozen? ⟨b, 7, none⟩ = false ∧ w.frozen? ⟨b, 8, none⟩ = false ∧ w.frozen? ⟨b, 9, none⟩ = false :=
  ⟨⟨Lib.cell_of_heap h 0, Lib.cell_of_heap h 1, Lib.cell_of_heap h 2, Lib.cell_of_heap h 3, Lib.cell_of_heap h 4, Lib.cell_of_heap h 5, Lib.cell_of_heap h 6, Lib.cell_of_heap h 7, Lib.cell_of_heap h 8, Lib.cell_of_heap h 9⟩, Lib.frozen_of_heap h 0, Lib.frozen_of_heap h 1, Lib.frozen_of_heap h 2, Lib.frozen_of_heap h 3, Lib.frozen_of_heap h 4, Lib.frozen_of_heap h 5, Lib.frozen_of_heap h 6, Lib.frozen_of_heap h 7, Lib.frozen_of_heap h 8, Lib.frozen_of_heap h 9⟩
theorem set10 {w : World} {b t : Nat} {u0 u1 u2 u3 u4 u5 u6 u7 u8 u9 : Value} (v0 v1 v2 v3 v4 v5 v6 v7 v8 v9 : Value) (h : w.heap[b]? = some (.cells #[u0, u1, u2, u3, u4, u5, u6, u7, u8, u9] t (0, 0))) :
    ((((((((((w.setCell ⟨b, 0, none⟩ v0).setCell ⟨b, 1, none⟩ v1).setCell ⟨b, 2, none⟩ v2).setCell ⟨b, 3, none⟩ v3).setCell ⟨b, 4, none⟩ v4).setCell ⟨b, 5, none⟩ v5).setCell ⟨b, 6, none⟩ v6).setCell ⟨b, 7, none⟩ v7).setCell ⟨b, 8, none⟩ v8).setCell ⟨b, 9, none⟩ v9).heap[b]? = some (.cells #[v0, v1, v2, v3, v4, v5, v6, v7, v8, v9] t (0, 0)) := by
  have h0 := heap_setCell_same _ b 0 _ _ v0 h
  have h1 := heap_setCell_same _ b 1 _ _ v1 h0
  have h2 := heap_setCell_same _ b 2 _ _ v2 h1
  have h3 := heap_setCell_same _ b 3 _ _ v3 h2
  have h4 := heap_setCell_same _ b 4 _ _ v4 h3
  have h5 := heap_setCell_same _ b 5 _ _ v5 h4
  have h6 := heap_setCell_same _ b 6 _ _ v6 h5
  have h7 := heap_setCell_same _ b 7 _ _ v7 h6
  have h8 := heap_setCell_same _ b 8 _ _ v8 h7
  have h9 := heap_setCell_same _ b 9 _ _ v9 h8
  simpa using h9
theorem grown10 (w : World) (b : Nat) (v0 v1 v2 v3 v4 v5 v6 v7 v8 v9 : Value) : w.grownBy ((((((((((w.setCell ⟨b, 0, none⟩ v0).setCell ⟨b, 1, none⟩ v1).setCell ⟨b, 2, none⟩ v2).setCell ⟨b, 3, none⟩ v3).setCell ⟨b, 4, none⟩ v4).setCell ⟨b, 5, none⟩ v5).setCell ⟨b, 6, none⟩ v6).setCell ⟨b, 7, none⟩ v7).setCell ⟨b, 8, none⟩ v8).setCell ⟨b, 9, none⟩ v9) (some b) :=
  grown_trans (grown_trans (grown_trans (grown_trans (grown_trans (grown_trans (grown_trans (grown_trans (grown_trans (grown_set _ _ _ _) (grown_set _ _ _ _)) (grown_set _ _ _ _)) (grown_set _ _ _ _)) (grown_set _ _ _ _)) (grown_set _ _ _ _)) (grown_set _ _ _ _)) (grown_set _ _ _ _)) (grown_set _ _ _ _)) (grown_set _ _ _ _)
theorem smInfo : (Tryz.prog.info? 188).map (·.size) = some 10 := by kernel_rfl

/-- The frame of stmt(): the reader; the cells of its result (b0), of its statement (b1); what has turned since w0. -/
structure FrS (w0 w : World) (rb b0 b1 : Nat) (v : Value) (ws : List Wd) (i en : Nat) (b : Bool) (u0 u1 u2 u3 u4 u5 u6 u7 u8 u9 : Value) : Prop where
  rd : Rd w rb v ws i en b
  res : w.heap[b0]? = some (.cells #[.int .i64 0, .string ⟨#[]⟩, .int .i64 0, .int .i64 0, .string ⟨#[]⟩, .slice none 0 0, .int .i64 0, .slice none 0 0, .slice none 0 0, .int .i64 0] 188 (0, 0))
  ex : w.heap[b1]? = some (.cells #[u0, u1, u2, u3, u4, u5, u6, u7, u8, u9] 188 (0, 0))
  gr : w0.grownBy w (some rb)
  gl : Glob w
  r0 : 10 < rb
  z0 : rb < w0.heap.size
  z1 : w0.heap.size ≤ b0
  z2 : b0 < b1
  z3 : b1 < w.heap.size
section
variable {w0 w w' : World} {rb b0 b1 : Nat} {v : Value} {ws : List Wd} {i en : Nat} {b : Bool} {u0 u1 u2 u3 u4 u5 u6 u7 u8 u9 : Value}
theorem FrS.step {i' : Nat} {b' : Bool} (h : FrS w0 w rb b0 b1 v ws i en b u0 u1 u2 u3 u4 u5 u6 u7 u8 u9) (hr : Rd w' rb v ws i' en b') (hg : w.grownBy w' (some rb)) : FrS w0 w' rb b0 b1 v ws i' en b' u0 u1 u2 u3 u4 u5 u6 u7 u8 u9 := by
  have h0 := h.z0; have h1 := h.z1; have h2 := h.z2; have h3 := h.z3
  exact ⟨hr, (hg.block b0 (by omega) (by simp; omega)).trans h.res, (hg.block b1 h3 (by simp; omega)).trans h.ex, grown_trans h.gr hg, h.gl.of hg h.r0, h.r0, h0, h1, h2, Nat.lt_of_lt_of_le h3 hg.size⟩
theorem FrS.below (h : FrS w0 w rb b0 b1 v ws i en b u0 u1 u2 u3 u4 u5 u6 u7 u8 u9) (hb : Below w.heap.size w w') : FrS w0 w' rb b0 b1 v ws i en b u0 u1 u2 u3 u4 u5 u6 u7 u8 u9 :=
  h.step (h.rd.keep hb) (grown_of_below hb _)
theorem FrS.set {v0 v1 v2 v3 v4 v5 v6 v7 v8 v9 : Value} (h : FrS w0 w rb b0 b1 v ws i en b u0 u1 u2 u3 u4 u5 u6 u7 u8 u9) (hg : w.grownBy w' (some b1)) (he : w'.heap[b1]? = some (.cells #[v0, v1, v2, v3, v4, v5, v6, v7, v8, v9] 188 (0, 0))) : FrS w0 w' rb b0 b1 v ws i en b v0 v1 v2 v3 v4 v5 v6 v7 v8 v9 := by
  have h0 := h.z0; have h1 := h.z1; have h2 := h.z2; have h3 := h.z3; have hz := h.gr.size
  exact ⟨h.rd.grown hg (by omega), (hg.block b0 (by omega) (by simp; omega)).trans h.res, he, grown_new h.gr hg (by omega), h.gl.same hg.size (fun g hg' => hg.block g (by have := h.r0; omega) (by simp; have := h.r0; omega)), h.r0, h0, h1, h2, Nat.lt_of_lt_of_le h3 hg.size⟩
theorem FrS.s0 (h : FrS w0 w rb b0 b1 v ws i en b u0 u1 u2 u3 u4 u5 u6 u7 u8 u9) (x : Value) : FrS w0 (w.setCell ⟨b1, 0, none⟩ x) rb b0 b1 v ws i en b x u1 u2 u3 u4 u5 u6 u7 u8 u9 := h.set (grown_set _ _ _ _) (by simpa using heap_setCell_same w b1 0 _ _ x h.ex)
theorem FrS.s1 (h : FrS w0 w rb b0 b1 v ws i en b u0 u1 u2 u3 u4 u5 u6 u7 u8 u9) (x : Value) : FrS w0 (w.setCell ⟨b1, 1, none⟩ x) rb b0 b1 v ws i en b u0 x u2 u3 u4 u5 u6 u7 u8 u9 := h.set (grown_set _ _ _ _) (by simpa using heap_setCell_same w b1 1 _ _ x h.ex)
theorem FrS.s2 (h : FrS w0 w rb b0 b1 v ws i en b u0 u1 u2 u3 u4 u5 u6 u7 u8 u9) (x : Value) : FrS w0 (w.setCell ⟨b1, 2, none⟩ x) rb b0 b1 v ws i en b u0 u1 x u3 u4 u5 u6 u7 u8 u9 := h.set (grown_set _ _ _ _) (by simpa using heap_setCell_same w b1 2 _ _ x h.ex)
theorem FrS.s3 (h : FrS w0 w rb b0 b1 v ws i en b u0 u1 u2 u3 u4 u5 u6 u7 u8 u9) (x : Value) : FrS w0 (w.setCell ⟨b1, 3, none⟩ x) rb b0 b1 v ws i en b u0 u1 u2 x u4 u5 u6 u7 u8 u9 := h.set (grown_set _ _ _ _) (by simpa using heap_setCell_same w b1 3 _ _ x h.ex)
theorem FrS.s4 (h : FrS w0 w rb b0 b1 v ws i en b u0 u1 u2 u3 u4 u5 u6 u7 u8 u9) (x : Value) : FrS w0 (w.setCell ⟨b1, 4, none⟩ x) rb b0 b1 v ws i en b u0 u1 u2 u3 x u5 u6 u7 u8 u9 := h.set (grown_set _ _ _ _) (by simpa using heap_setCell_same w b1 4 _ _ x h.ex)
theorem FrS.s5 (h : FrS w0 w rb b0 b1 v ws i en b u0 u1 u2 u3 u4 u5 u6 u7 u8 u9) (x : Value) : FrS w0 (w.setCell ⟨b1, 5, none⟩ x) rb b0 b1 v ws i en b u0 u1 u2 u3 u4 x u6 u7 u8 u9 := h.set (grown_set _ _ _ _) (by simpa using heap_setCell_same w b1 5 _ _ x h.ex)
theorem FrS.s6 (h : FrS w0 w rb b0 b1 v ws i en b u0 u1 u2 u3 u4 u5 u6 u7 u8 u9) (x : Value) : FrS w0 (w.setCell ⟨b1, 6, none⟩ x) rb b0 b1 v ws i en b u0 u1 u2 u3 u4 u5 x u7 u8 u9 := h.set (grown_set _ _ _ _) (by simpa using heap_setCell_same w b1 6 _ _ x h.ex)
theorem FrS.s7 (h : FrS w0 w rb b0 b1 v ws i en b u0 u1 u2 u3 u4 u5 u6 u7 u8 u9) (x : Value) : FrS w0 (w.setCell ⟨b1, 7, none⟩ x) rb b0 b1 v ws i en b u0 u1 u2 u3 u4 u5 u6 x u8 u9 := h.set (grown_set _ _ _ _) (by simpa using heap_setCell_same w b1 7 _ _ x h.ex)
theorem FrS.s8 (h : FrS w0 w rb b0 b1 v ws i en b u0 u1 u2 u3 u4 u5 u6 u7 u8 u9) (x : Value) : FrS w0 (w.setCell ⟨b1, 8, none⟩ x) rb b0 b1 v ws i en b u0 u1 u2 u3 u4 u5 u6 u7 x u9 := h.set (grown_set _ _ _ _) (by simpa using heap_setCell_same w b1 8 _ _ x h.ex)
theorem FrS.start (hR : Rd w rb v ws i en b) (hG : Glob w) (hr : 10 < rb) (hg : w0.grownBy w (some rb)) (h0 : rb < w0.heap.size) (h1 : w0.heap.size ≤ b0) (h2 : b0 < w.heap.size)
    (hz : w.heap[b0]? = some (.cells #[.int .i64 0, .string ⟨#[]⟩, .int .i64 0, .int .i64 0, .string ⟨#[]⟩, .slice none 0 0, .int .i64 0, .slice none 0 0, .slice none 0 0, .int .i64 0] 188 (0, 0))) (u0 u1 u2 u3 u4 u5 u6 u7 u8 u9 : Value) :
    FrS w0 (w.alloc (.cells #[u0, u1, u2, u3, u4, u5, u6, u7, u8, u9] 188)) rb b0 w.heap.size v ws i en b u0 u1 u2 u3 u4 u5 u6 u7 u8 u9 :=
  ⟨hR.keep ((Below.refl _ _).alloc (Nat.le_refl _) _), (heap_alloc_old w _ h2).trans hz, heap_alloc_new w _, grown_trans hg (grown_of_below ((Below.refl _ _).alloc (Nat.le_refl _) _) _), hG.to ((Below.refl _ _).alloc (Nat.le_refl _) _), hr, h0, h1, h2, by simp⟩
end
/-- What the answer of stmt() says. -/
def OutS (ws : List Wd) (en i : Nat) (b : Bool) (s : Sm) (i' : Nat) (b' : Bool) : Prop :=
  i ≤ i' ∧ (b = true → b' = true ∧ i' = i) ∧ (b = false → b' = false → i < i' ∧ Ds ws en (.stmt i) (.st s i')) ∧ (b = false → b' = true → Ds ws en (.stmt i) (.bad i'))
def OutB (ws : List Wd) (en i : Nat) (b : Bool) (l : List Sm) (i' : Nat) (b' : Bool) : Prop :=
  i ≤ i' ∧ (b = true → b' = true ∧ i' = i) ∧ (b = false → b' = false → i < i' ∧ Ds ws en (.block i) (.sts l i')) ∧ (b = false → b' = true → Ds ws en (.block i) (.bad i'))
def RetS (w : World) (rb : Nat) (v : Value) (ws : List Wd) (en i : Nat) (b : Bool) (e : Ending) (w' : World) : Prop :=
  ∃ s Aa ca Ab cb Ae ce i' b', e = .returned (.agg #[.int .i64 s.kind, .string s.name, .int .i64 s.a.kind, .int .i64 s.a.n, .string s.a.text, .slice Aa s.a.args.length ca, .int .i64 s.a.pos, .slice Ab s.body.length cb, .slice Ae s.els.length ce, .int .i64 s.pos]) ∧ ArgsIn w' (fun g => w.heap.size ≤ g) (.slice Aa s.a.args.length ca) s.a.args ∧ StmtsIn w' (fun g => w.heap.size ≤ g) (.slice Ab s.body.length cb) s.body ∧ StmtsIn w' (fun g => w.heap.size ≤ g) (.slice Ae s.els.length ce) s.els ∧
    Rd w' rb v ws i' en b' ∧ OutS ws en i b s i' b' ∧ w.grownBy w' (some rb)
theorem StmtsIn.later {w w' : World} {F F' : Nat → Prop} {v : Value} {l : List Sm} (h : StmtsIn w F v l) (row : Option Nat) (hg : w.grownBy w' row) (hk : ∀ g, F g → row ≠ some g) (hF : ∀ g, F g → F' g) : StmtsIn w' F' v l :=
  h.keep fun g h1 h2 => ⟨hF g h1, Nat.lt_of_lt_of_le h2 hg.size, hg.block g h2 (fun e => hk g h1 e.symm)⟩
/-- The answer: the statement's cells are written to the result's. -/
theorem FrS.ret {w0 w : World} {rb b0 b1 : Nat} {v : Value} {ws : List Wd} {i i' en : Nat} {b b' : Bool} {s : Sm} {Aa Ab Ae : Option Addr} {ca cb ce : Nat} {F : Nat → Prop}
    (h : FrS w0 w rb b0 b1 v ws i' en b' (.int .i64 s.kind) (.string s.name) (.int .i64 s.a.kind) (.int .i64 s.a.n) (.string s.a.text) (.slice Aa s.a.args.length ca) (.int .i64 s.a.pos) (.slice Ab s.body.length cb) (.slice Ae s.els.length ce) (.int .i64 s.pos)) (hA : ArgsIn w F (.slice Aa s.a.args.length ca) s.a.args) (hB : StmtsIn w F (.slice Ab s.body.length cb) s.body) (hE : StmtsIn w F (.slice Ae s.els.length ce) s.els) (hF : ∀ g, F g → w0.heap.size ≤ g ∧ g ≠ b0) (hO : OutS ws en i b s i' b') :
    RetS w0 rb v ws en i b (.returned (.agg #[.int .i64 s.kind, .string s.name, .int .i64 s.a.kind, .int .i64 s.a.n, .string s.a.text, .slice Aa s.a.args.length ca, .int .i64 s.a.pos, .slice Ab s.body.length cb, .slice Ae s.els.length ce, .int .i64 s.pos]))
      ((((((((((w.setCell ⟨b0, 0, none⟩ (.int .i64 s.kind)).setCell ⟨b0, 1, none⟩ (.string s.name)).setCell ⟨b0, 2, none⟩ (.int .i64 s.a.kind)).setCell ⟨b0, 3, none⟩ (.int .i64 s.a.n)).setCell ⟨b0, 4, none⟩ (.string s.a.text)).setCell ⟨b0, 5, none⟩ (.slice Aa s.a.args.length ca)).setCell ⟨b0, 6, none⟩ (.int .i64 s.a.pos)).setCell ⟨b0, 7, none⟩ (.slice Ab s.body.length cb)).setCell ⟨b0, 8, none⟩ (.slice Ae s.els.length ce)).setCell ⟨b0, 9, none⟩ (.int .i64 s.pos)) := by
  have hg := grown10 w b0 (.int .i64 s.kind) (.string s.name) (.int .i64 s.a.kind) (.int .i64 s.a.n) (.string s.a.text) (.slice Aa s.a.args.length ca) (.int .i64 s.a.pos) (.slice Ab s.body.length cb) (.slice Ae s.els.length ce) (.int .i64 s.pos)
  have h0 := h.z0; have h1 := h.z1
  exact ⟨s, Aa, ca, Ab, cb, Ae, ce, i', b', rfl, hA.later _ hg (fun g h => by simp; exact fun e => (hF g h).2 e.symm) (fun g h => (hF g h).1), hB.later _ hg (fun g h => by simp; exact fun e => (hF g h).2 e.symm) (fun g h => (hF g h).1), hE.later _ hg (fun g h => by simp; exact fun e => (hF g h).2 e.symm) (fun g h => (hF g h).1), h.rd.grown hg (by omega), hO, grown_new h.gr hg h1⟩
end Go.Proofs.YtmngofgminlloaaGreatDoor

namespace Go.Proofs.YtmngofgminlloaaGreatDoor
open Go.RowKit Tw

/-- The kind of the statement at i, before its name. -/
def HeadK (ws : List Wd) (i : Nat) (b : Bool) (kd i1 : Nat) : Prop :=
  (b = false → kd = headS ws i) ∧ (b = true → kd = 2 ∨ kd = 7) ∧ i1 = (if kd = 2 ∨ kd = 7 then i else i + 1)
def NameR (ws : List Wd) (kd i1 : Nat) (b : Bool) (nm : ByteArray) (i3 : Nat) (b3 : Bool) : Prop :=
  (kd ≤ 2 ∧ ∃ i2 b2, KindS ws (2 : Nat) i1 b nm i2 b2 ∧ WantS ws sEq i2 b2 i3 b3) ∨ (2 < kd ∧ nm = sNone ∧ i3 = i1 ∧ b3 = b)
structure NameD (ws : List Wd) (en i : Nat) (b : Bool) (kd : Nat) (nm : ByteArray) (i3 : Nat) (b3 : Bool) : Prop where
  le : i ≤ i3
  bt : b = true → b3 = true ∧ i3 = i
  ok : b = false → b3 = false → kd = headS ws i ∧ i3 = exprS ws i ∧ nm = nameS ws i ∧ (headS ws i = 1 → kindAt ws (i + 1) = 2 ∧ isAt ws (i + 2) sEq = true)
  bad : b = false → b3 = true → Ds ws en (.stmt i) (.bad i3)
section
variable {ws : List Wd} {en i : Nat} {b : Bool}
theorem headS_ge (ws : List Wd) (i : Nat) : 1 ≤ headS ws i ∧ headS ws i ≤ 7 := by
  unfold headS; repeat' (first | (constructor <;> omega) | split)
theorem headS_two (h : headS ws i = 2) : kindAt ws i = 2 ∧ isAt ws (i + 1) sEq = true := by
  unfold headS at h
  repeat' (first | (exfalso; omega) | (split at h))
  assumption
theorem HeadK.name {kd i1 i3 : Nat} {b3 : Bool} {nm : ByteArray} (hk : HeadK ws i b kd i1) (hn : NameR ws kd i1 b nm i3 b3) : NameD ws en i b kd nm i3 b3 := by
  obtain ⟨k1, k2, k3⟩ := hk
  cases b with
  | true =>
    rcases k2 rfl with rfl | rfl
    · simp at k3; subst k3
      rcases hn with ⟨_, i2, b2, hK, hW⟩ | ⟨h, _⟩
      · rcases kind_cases (by decide) hK with ⟨e, _⟩ | ⟨e, _⟩ | ⟨_, rfl, rfl, rfl⟩
        · cases e
        · cases e
        · rcases want_cases hW with ⟨e, _⟩ | ⟨e, _⟩ | ⟨_, rfl, rfl⟩
          · cases e
          · cases e
          · exact ⟨Nat.le_refl _, fun _ => ⟨rfl, rfl⟩, by simp, by simp⟩
      · omega
    · simp at k3; subst k3
      rcases hn with ⟨h, _⟩ | ⟨_, rfl, rfl, rfl⟩
      · omega
      · exact ⟨Nat.le_refl _, fun _ => ⟨rfl, rfl⟩, by simp, by simp⟩
  | false =>
    have hd := k1 rfl
    have hge := headS_ge ws i
    rcases hn with ⟨h, i2, b2, hK, hW⟩ | ⟨h, rfl, rfl, rfl⟩
    · obtain h1 | h2 : kd = 1 ∨ kd = 2 := by omega
      · have hs : headS ws i = 1 := by omega
        have e1 : i1 = i + 1 := by rw [k3, h1]; simp
        subst e1
        rcases kind_cases (by decide) hK with ⟨_, hk, rfl, rfl, rfl⟩ | ⟨_, hk, rfl, rfl, rfl⟩ | ⟨e, _⟩
        · rcases want_cases hW with ⟨_, ha, rfl, rfl⟩ | ⟨_, ha, rfl, rfl⟩ | ⟨e, _⟩
          · exact ⟨by omega, by simp, fun _ _ => ⟨by omega, by unfold exprS; rw [if_pos hs], by unfold nameS; rw [if_pos hs], fun _ => ⟨hk, ha⟩⟩, by simp⟩
          · exact ⟨by omega, by simp, by simp, fun _ _ => .letE hs hk ha⟩
          · cases e
        · rcases want_cases hW with ⟨e, _⟩ | ⟨e, _⟩ | ⟨_, rfl, rfl⟩
          · cases e
          · cases e
          · exact ⟨by omega, by simp, by simp, fun _ _ => .letN hs hk⟩
        · cases e
      · have hs : headS ws i = 2 := by omega
        obtain ⟨q1, q2⟩ := headS_two hs
        have e1 : i1 = i := by rw [k3, h2]; simp
        subst e1
        rcases kind_cases (by decide) hK with ⟨_, hk, rfl, rfl, rfl⟩ | ⟨_, hk, _⟩ | ⟨e, _⟩
        · rcases want_cases hW with ⟨_, ha, rfl, rfl⟩ | ⟨_, ha, _⟩ | ⟨e, _⟩
          · exact ⟨by omega, by simp, fun _ _ => ⟨by omega, by unfold exprS; rw [if_neg (by omega), if_pos hs], by unfold nameS; rw [if_neg (by omega), if_pos hs], fun e => by omega⟩, by simp⟩
          · rw [q2] at ha; cases ha
          · cases e
        · exact absurd q1 hk
        · cases e
    · refine ⟨?_, by simp, fun _ _ => ⟨hd, ?_, ?_, fun e => by omega⟩, by simp⟩
      · rw [k3]; split <;> omega
      · unfold exprS
        rw [if_neg (by omega), if_neg (by omega), k3]
        by_cases h7 : headS ws i = 7
        · rw [if_pos h7, if_pos (by omega)]
        · rw [if_neg h7, if_neg (by omega)]
      · unfold nameS; rw [if_neg (by omega), if_neg (by omega)]
variable {kd i3 i4 i5 i6 : Nat} {nm : ByteArray} {b3 b4 b5 b6 : Bool} {x : Ex} {l m : List Sm} {s : Sm}
end

theorem stmts_one {w W : World} {F0 F : Nat → Prop} {s : Sm} {va vb ve : Value} {n b1 cap T : Nat} (hA : ArgsIn w F0 va s.a.args) (hB : StmtsIn w F0 vb s.body) (hE : StmtsIn w F0 ve s.els) (hg : w.grownBy W (some b1)) (hF0 : ∀ g, F0 g → g ≠ b1 ∧ F g) (hn : W.heap.size = n) (hFn : F n) :
    StmtsIn (W.alloc (.cells #[.int .i64 s.kind, .string s.name, .int .i64 s.a.kind, .int .i64 s.a.n, .string s.a.text, va, .int .i64 s.a.pos, vb, ve, .int .i64 s.pos] T)) F (.slice (some ⟨n, 0, none⟩) 1 cap) [s] := by
  subst hn
  have hk : Keeps F0 F w (W.alloc (.cells #[.int .i64 s.kind, .string s.name, .int .i64 s.a.kind, .int .i64 s.a.n, .string s.a.text, va, .int .i64 s.a.pos, vb, ve, .int .i64 s.pos] T)) := fun g h1 h2 => ⟨(hF0 g h1).2, by have := hg.size; simp; omega, by
    rw [heap_alloc_old W _ (Nat.lt_of_lt_of_le h2 hg.size)]
    exact hg.block g h2 (by simp; exact (hF0 g h1).1)⟩
  refine StmtsIn.of_block [(s, va, vb, ve)] _ rfl (heap_alloc_new W _) hFn fun a ha => ?_
  simp at ha; subst ha
  exact ⟨hA.keep hk, hB.keep hk, hE.keep hk⟩
end Go.Proofs.YtmngofgminlloaaGreatDoor

namespace Go.Proofs.YtmngofgminlloaaGreatDoor
open Go.RowKit Tw

def kw : Nat → ByteArray
  | 0 => sLet | 2 => sIf | 3 => sWhile | 4 => sReturn | 5 => sYield | _ => sNone
/-- Which keyword has been taken. -/
def HeadR (ws : List Wd) (i : Nat) (b : Bool) (kd i1 : Nat) : Prop :=
  (kd = 7 ∧ i1 = i ∧ ∀ j, j < 6 → j ≠ 1 → seeB ws i b (kw j) = false) ∨ (b = false ∧ kd ≠ 7 ∧ kd ≠ 2 ∧ kd = headS ws i ∧ i1 = i + 1)
theorem HeadR.set {ws : List Wd} {i : Nat} {b : Bool} {kd i1 : Nat} (h : HeadR ws i b kd i1) (t : Bool) (ht : t = true ↔ (kd = 7 ∧ kindAt ws i1 = 2 ∧ isAt ws (i1 + 1) sEq = true)) : HeadK ws i b (if t then 2 else kd) i1 := by
  rcases h with ⟨rfl, rfl, hn⟩ | ⟨rfl, h7, h2, hs, rfl⟩
  · refine ⟨fun hb => ?_, fun _ => by cases t <;> simp, by cases t <;> simp⟩
    subst hb
    have e1 := seeB_no (hn 0 (by decide) (by decide)); have e2 := seeB_no (hn 2 (by decide) (by decide)); have e3 := seeB_no (hn 3 (by decide) (by decide)); have e4 := seeB_no (hn 4 (by decide) (by decide)); have e5 := seeB_no (hn 5 (by decide) (by decide))
    simp only [kw] at e1 e2 e3 e4 e5
    unfold headS
    simp only [e1, e2, e3, e4, e5, Bool.false_eq_true, if_false]
    cases t with
    | true => show 2 = _; rw [if_pos (ht.1 rfl).2]
    | false => show 7 = _; rw [if_neg (fun e => absurd (ht.2 ⟨rfl, e⟩) (by decide))]
  · have : t = false := by cases t with | false => rfl | true => exact absurd (ht.1 rfl).1 h7
    subst this
    exact ⟨fun _ => hs, fun e => absurd e (by decide), by simp; exact ⟨h2, h7⟩⟩
end Go.Proofs.YtmngofgminlloaaGreatDoor

namespace Go.Proofs.YtmngofgminlloaaGreatDoor
open Go.RowKit Tw

/-- Behind some statements of the block at i. -/
structure InB (ws : List Wd) (en i : Nat) (b : Bool) (l : List Sm) (i' : Nat) (b' : Bool) : Prop where
  le : i ≤ i'
  bt : b = true → b' = true ∧ i' = i
  len : l.length ≤ i' + (if b' then 1 else 0)
  pos : b = false → b' = false → i < i'
  okk : b = false → b' = false → (∀ m j, Ds ws en (.stmts i') (.sts m j) → Ds ws en (.block i) (.sts (l ++ m) j)) ∧ (∀ j, Ds ws en (.stmts i') (.bad j) → Ds ws en (.block i) (.bad j))
  bad : b = false → b' = true → Ds ws en (.block i) (.bad i')
section
variable {ws : List Wd} {en i : Nat} {b : Bool} {l : List Sm} {i' : Nat}
theorem InB.start {b' : Bool} (h : WantS ws sBra i b i' b') : InB ws en i b [] i' b' := by
  rcases want_cases h with ⟨rfl, ha, rfl, rfl⟩ | ⟨rfl, ha, rfl, rfl⟩ | ⟨rfl, rfl, rfl⟩
  · exact ⟨by omega, by simp, by simp, fun _ _ => by omega, fun _ _ => ⟨fun m j h => .block ha h, fun j h => .block ha h⟩, by simp⟩
  · exact ⟨by omega, by simp, by simp, by simp, by simp, fun _ _ => .blockB ha⟩
  · exact ⟨by omega, fun _ => ⟨rfl, rfl⟩, by simp, by simp, by simp, by simp⟩
theorem InB.close (h : InB ws en i b l i' false) (hc : isAt ws i' sKet = true) : OutB ws en i b l (i' + 1) false := by
  have hle := h.le
  refine ⟨by omega, fun e => absurd (h.bt e).1 (by decide), fun e _ => ⟨by omega, ?_⟩, fun _ e => absurd e (by decide)⟩
  simpa using (h.okk e rfl).1 [] (i' + 1) (.done hc)
theorem InB.out (h : InB ws en i b l i' true) : OutB ws en i b l i' true :=
  ⟨h.le, h.bt, fun _ e => absurd e (by decide), fun e _ => h.bad e rfl⟩
theorem InB.step {s : Sm} {i3 : Nat} {b3 : Bool} (h : InB ws en i b l i' false) (hc : isAt ws i' sKet = false) (hO : OutS ws en i' false s i3 b3) :
    InB ws en i b (l ++ [s]) i3 b3 ∧ i' ≤ i3 ∧ (b3 = false → i' < i3) := by
  have h0 := hO.1
  have hle := h.le
  have hlen := h.len
  simp only [Bool.false_eq_true, if_false, Nat.add_zero] at hlen
  have hb : b = false := by cases b with | false => rfl | true => have := (h.bt rfl).1; cases this
  have hok := h.okk hb rfl
  cases b3 with
  | false =>
    obtain ⟨h1, h2⟩ := hO.2.2.1 rfl rfl
    refine ⟨⟨by omega, fun e => absurd (hb.symm.trans e) (by decide), by simp; omega, fun _ _ => by omega, fun _ _ => ⟨fun m j h => ?_, fun j h => hok.2 _ (.moreR hc h2 h)⟩, fun _ e => absurd e (by decide)⟩, by omega, fun _ => by omega⟩
    have := hok.1 _ _ (.more hc h2 h); simpa using this
  | true =>
    exact ⟨⟨by omega, fun e => absurd (hb.symm.trans e) (by decide), by simp; omega, fun _ e => absurd e (by decide), fun _ e => absurd e (by decide), fun _ _ => hok.2 _ (.moreB hc (hO.2.2.2 rfl rfl))⟩, by omega, fun e => absurd e (by decide)⟩
end
theorem elemSm : ElemOk Tryz.prog 30 188 10 := ⟨Tryz.underlying30, by kernel_rfl, by decide⟩

end Go.Proofs.YtmngofgminlloaaGreatDoor

namespace Go.Proofs.YtmngofgminlloaaGreatDoor
open Go.RowKit Tw

end Go.Proofs.YtmngofgminlloaaGreatDoor

namespace Go.Proofs.YtmngofgminlloaaGreatDoor
open Go.RowKit Tw

/-- Texts, numbers, functions at a slice, in blocks of F. -/
def StrsIn (w : World) (F : Nat → Prop) (v : Value) (l : List ByteArray) : Prop :=
  (∃ a c, v = .slice a 0 c ∧ l = []) ∨ ∃ g off cap, v = .slice (some ⟨g, off, none⟩) l.length cap ∧ F g ∧ g < w.heap.size ∧ ∀ k s, l[k]? = some s → w.cell? ⟨g, off + k, none⟩ = some (.string s)
def IntsIn (w : World) (F : Nat → Prop) (v : Value) (l : List Int) : Prop :=
  (∃ a c, v = .slice a 0 c ∧ l = []) ∨ ∃ g off cap, v = .slice (some ⟨g, off, none⟩) l.length cap ∧ F g ∧ g < w.heap.size ∧ ∀ k s, l[k]? = some s → w.cell? ⟨g, off + k, none⟩ = some (.int .i64 s)
def FnsIn (w : World) (F : Nat → Prop) (v : Value) (l : List Fn) : Prop :=
  (∃ a c, v = .slice a 0 c ∧ l = []) ∨ ∃ g off cap, ∃ vn vt vb : Nat → Value, v = .slice (some ⟨g, off, none⟩) l.length cap ∧ F g ∧ g < w.heap.size ∧
    ∀ k f, l[k]? = some f → CellsAt w g (off + k * 6) (fnCells f (vn k) (vt k) (vb k)) ∧ StrsIn w F (vn k) f.names ∧ IntsIn w F (vt k) f.types ∧ StmtsIn w F (vb k) f.body
section
variable {w w' : World} {F F' : Nat → Prop} {v : Value}
theorem StrsIn.keep {l : List ByteArray} (hk : Keeps F F' w w') (h : StrsIn w F v l) : StrsIn w' F' v l := by
  rcases h with h | ⟨g, off, cap, hv, hF, hg, hc⟩
  · exact .inl h
  · obtain ⟨h1, h2, h3⟩ := hk g hF hg
    exact .inr ⟨g, off, cap, hv, h1, h2, fun k s hs => (World.cell?_of_block (a := ⟨g, off + k, none⟩) h3).trans (hc k s hs)⟩
theorem IntsIn.keep {l : List Int} (hk : Keeps F F' w w') (h : IntsIn w F v l) : IntsIn w' F' v l := by
  rcases h with h | ⟨g, off, cap, hv, hF, hg, hc⟩
  · exact .inl h
  · obtain ⟨h1, h2, h3⟩ := hk g hF hg
    exact .inr ⟨g, off, cap, hv, h1, h2, fun k s hs => (World.cell?_of_block (a := ⟨g, off + k, none⟩) h3).trans (hc k s hs)⟩
theorem FnsIn.keep {l : List Fn} (hk : Keeps F F' w w') (h : FnsIn w F v l) : FnsIn w' F' v l := by
  rcases h with h | ⟨g, off, cap, vn, vt, vb, hv, hF, hg, hc⟩
  · exact .inl h
  · obtain ⟨h1, h2, h3⟩ := hk g hF hg
    refine .inr ⟨g, off, cap, vn, vt, vb, hv, h1, h2, fun k f hf => ?_⟩
    obtain ⟨c1, c2, c3, c4⟩ := hc k f hf
    exact ⟨c1.keep h3, c2.keep hk, c3.keep hk, c4.keep hk⟩
end
def strElem : Elem ByteArray where
  cells a := [.string a]
  kid _ _ _ := True
  keep _ _ := trivial
def intElem : Elem Int where
  cells a := [.int .i64 a]
  kid _ _ _ := True
  keep _ _ := trivial
def fnElem : Elem (Fn × Value × Value × Value) where
  cells a := fnCells a.1 a.2.1 a.2.2.1 a.2.2.2
  kid w F a := StrsIn w F a.2.1 a.1.names ∧ IntsIn w F a.2.2.1 a.1.types ∧ StmtsIn w F a.2.2.2 a.1.body
  keep hk h := ⟨h.1.keep hk, h.2.1.keep hk, h.2.2.keep hk⟩
theorem GRow.strs {w : World} {base T : Nat} {v : Value} {l : List ByteArray} (h : GRow strElem w base T 1 v l) : StrsIn w (fun g => base ≤ g) v l := by
  rcases own_cells h.1 with ⟨rfl, h0⟩ | ⟨g, cap, rfl, hb, hg, hc⟩
  · cases l with
    | nil => exact .inl ⟨_, _, rfl, rfl⟩
    | cons => simp at h0
  · refine .inr ⟨g, 0, cap, rfl, hb, hg, fun k s hs => ?_⟩
    have := hc _ _ (flat_at strElem.cells 1 (fun _ => rfl) l k s hs 0 _ rfl)
    simpa using this
theorem GRow.ints {w : World} {base T : Nat} {v : Value} {l : List Int} (h : GRow intElem w base T 1 v l) : IntsIn w (fun g => base ≤ g) v l := by
  rcases own_cells h.1 with ⟨rfl, h0⟩ | ⟨g, cap, rfl, hb, hg, hc⟩
  · cases l with
    | nil => exact .inl ⟨_, _, rfl, rfl⟩
    | cons => simp at h0
  · refine .inr ⟨g, 0, cap, rfl, hb, hg, fun k s hs => ?_⟩
    have := hc _ _ (flat_at intElem.cells 1 (fun _ => rfl) l k s hs 0 _ rfl)
    simpa using this
theorem GRow.fns {w : World} {base T : Nat} {v : Value} {l : List (Fn × Value × Value × Value)} (h : GRow fnElem w base T 6 v l) : FnsIn w (fun g => base ≤ g) v (l.map (·.1)) := by
  have hk : ∀ a ∈ l, fnElem.kid w (fun g => base ≤ g) a := fun a ha => fnElem.keep (fun g h1 h2 => ⟨h1.1, h2, rfl⟩) (h.2 a ha)
  rcases own_cells h.1 with ⟨rfl, h0⟩ | ⟨g, cap, rfl, hb, hg, hc⟩
  · cases l with
    | nil => exact .inl ⟨_, _, rfl, rfl⟩
    | cons => simp at h0
  · refine .inr ⟨g, 0, cap, (fun k => ((l[k]?).map (·.2.1)).getD undef), (fun k => ((l[k]?).map (·.2.2.1)).getD undef), (fun k => ((l[k]?).map (·.2.2.2)).getD undef), by simp, hb, hg, fun k f hf => ?_⟩
    obtain ⟨a, ha, rfl⟩ : ∃ a, l[k]? = some a ∧ a.1 = f := by simpa [List.getElem?_map, Option.map_eq_some_iff] using hf
    obtain ⟨k1, k2, k3⟩ := hk a (List.mem_of_getElem? ha)
    refine ⟨fun j u hu => ?_, by simpa [ha] using k1, by simpa [ha] using k2, by simpa [ha] using k3⟩
    have := flat_at fnElem.cells 6 (fun _ => rfl) l k a ha j u (by simpa [fnElem, ha] using hu)
    have := hc _ _ this
    simpa using this
/-- A row without kids is kept by an append to another row. -/
theorem GRow.beside {α : Type} {E : Elem α} {w w' : World} {base T sz : Nat} {v : Value} {l : List α} {row : Option Nat} (h : GRow E w base T sz v l) (hk : ∀ w F a, E.kid w F a) (hg : w.grownBy w' row) (hr : v.ownBlock = none ∨ v.ownBlock ≠ row) : GRow E w' base T sz v l :=
  ⟨h.1.kept hg hr, fun a _ => hk _ _ a⟩

/-- What params have been read. -/
structure InP (ws : List Wd) (en i : Nat) (b : Bool) (ns : List ByteArray) (ts : List Int) (i' : Nat) (b' : Bool) : Prop where
  le : i ≤ i'
  bt : b = true → b' = true ∧ i' = i
  len : ns.length ≤ i' + (if b' then 1 else 0)
  eq : ts.length = ns.length
  okk : b = false → b' = false → (∀ ms us j, Dp ws en ns.length i' (.ok ms us j) → Dp ws en 0 i (.ok (ns ++ ms) (ts ++ us) j)) ∧ (∀ j, Dp ws en ns.length i' (.bad j) → Dp ws en 0 i (.bad j))
  bad : b = false → b' = true → Dp ws en 0 i (.bad i')
def OutP (ws : List Wd) (en i : Nat) (b : Bool) (ns : List ByteArray) (ts : List Int) (i' : Nat) (b' : Bool) : Prop :=
  i ≤ i' ∧ (b = true → b' = true ∧ i' = i) ∧ (b = false → b' = false → i < i' ∧ Dp ws en 0 i (.ok ns ts i')) ∧ (b = false → b' = true → Dp ws en 0 i (.bad i'))
def OutF (ws : List Wd) (en i : Nat) (f : Fn) (i' : Nat) (b' : Bool) : Prop :=
  i ≤ i' ∧ (b' = false → i < i' ∧ Df ws en i (.fn f i')) ∧ (b' = true → Df ws en i (.bad i'))
section
variable {ws : List Wd} {en i : Nat} {b : Bool} {ns : List ByteArray} {ts : List Int} {i' : Nat}
theorem typ_cases {t : Int} {b' : Bool} (h : TypS ws i b t i' b') : (b = false ∧ typF ws i = .ok t ∧ i' = i + 2 ∧ b' = false) ∨ (b = false ∧ typF ws i = .bad i' ∧ b' = true ∧ i ≤ i') ∨ (b = true ∧ i' = i ∧ b' = true) := by
  obtain ⟨i1, b1, hW, h⟩ := h
  rcases want_cases hW with ⟨rfl, ha, rfl, rfl⟩ | ⟨rfl, ha, rfl, rfl⟩ | ⟨rfl, rfl, rfl⟩
  · rcases h with ⟨h1, rfl, rfl, rfl⟩ | ⟨h1, h2, rfl, rfl, rfl⟩ | ⟨h1, h2, rfl, rfl, rfl⟩
    · exact .inl ⟨rfl, by unfold typF; rw [if_pos (show isAt ws i tColon = true from ha), if_pos (show isAt ws (i + 1) tInt = true from (seeB_yes h1).2)], rfl, rfl⟩
    · exact .inl ⟨rfl, by unfold typF; rw [if_pos (show isAt ws i tColon = true from ha), if_neg (show ¬ isAt ws (i + 1) tInt = true from by rw [show isAt ws (i + 1) tInt = false from seeB_no h1]; decide), if_pos (show isAt ws (i + 1) tBool = true from (seeB_yes h2).2)], rfl, rfl⟩
    · exact .inr (.inl ⟨rfl, by unfold typF; rw [if_pos (show isAt ws i tColon = true from ha), if_neg (show ¬ isAt ws (i + 1) tInt = true from by rw [show isAt ws (i + 1) tInt = false from seeB_no h1]; decide), if_neg (show ¬ isAt ws (i + 1) tBool = true from by rw [show isAt ws (i + 1) tBool = false from seeB_no h2]; decide)], rfl, by omega⟩)
  · have hb : ∀ s, seeB ws i1 true s = true → False := fun s h => absurd (seeB_yes h).1 (by decide)
    rcases h with ⟨h1, _⟩ | ⟨_, h2, _⟩ | ⟨_, _, rfl, rfl, rfl⟩
    · exact (hb _ h1).elim
    · exact (hb _ h2).elim
    · exact .inr (.inl ⟨rfl, by unfold typF; rw [if_neg (show ¬ isAt ws _ tColon = true from by rw [show isAt ws _ tColon = false from ha]; decide)], rfl, by omega⟩)
  · have hb : ∀ s, seeB ws i1 true s = true → False := fun s h => absurd (seeB_yes h).1 (by decide)
    rcases h with ⟨h1, _⟩ | ⟨_, h2, _⟩ | ⟨_, _, rfl, rfl, rfl⟩
    · exact (hb _ h1).elim
    · exact (hb _ h2).elim
    · exact .inr (.inr ⟨rfl, rfl, rfl⟩)
theorem InP.start (ws : List Wd) (en i : Nat) (b : Bool) : InP ws en i b [] [] i b :=
  ⟨Nat.le_refl _, fun e => ⟨e, rfl⟩, by simp, rfl, fun _ _ => ⟨fun _ _ _ h => h, fun _ h => h⟩, fun e e' => absurd (e.symm.trans e') (by decide)⟩
theorem InP.close (h : InP ws en i b ns ts i' false) (hc : isAt ws i' sClose = true) : OutP ws en i b ns ts (i' + 1) false := by
  have hle := h.le
  refine ⟨by omega, fun e => absurd (h.bt e).1 (by decide), fun e _ => ⟨by omega, ?_⟩, fun _ e => absurd e (by decide)⟩
  simpa using (h.okk e rfl).1 [] [] (i' + 1) (.close hc)
theorem InP.out (h : InP ws en i b ns ts i' true) : OutP ws en i b ns ts i' true :=
  ⟨h.le, h.bt, fun _ e => absurd e (by decide), fun e _ => h.bad e rfl⟩
theorem InP.step {nm : ByteArray} {t : Int} {i2 i3 i4 : Nat} {b2 b3 b4 : Bool} (h : InP ws en i b ns ts i' false) (hc : isAt ws i' sClose = false) (hk : CommaS ws ns.length i' i2 b2) (hK : KindS ws (2 : Nat) i2 b2 nm i3 b3) (hT : TypS ws i3 b3 t i4 b4) :
    InP ws en i b (ns ++ [nm]) (ts ++ [t]) i4 b4 ∧ i' ≤ i4 ∧ (b4 = false → i' < i4) := by
  have hle := h.le
  have hlen := h.len
  have heq := h.eq
  simp only [Bool.false_eq_true, if_false, Nat.add_zero] at hlen
  have hb : b = false := by cases b with | false => rfl | true => have := (h.bt rfl).1; cases this
  have hok := h.okk hb rfl
  have hbt : ∀ x : Bool × Nat, b = true → x.1 = true ∧ x.2 = i := fun _ e => absurd (hb.symm.trans e) (by decide)
  have comma : (b2 = true ∧ i2 = i' ∧ ns.length ≠ 0 ∧ isAt ws i' sComma = false) ∨ (b2 = false ∧ i2 = parAt ns.length i' ∧ (ns.length ≠ 0 → isAt ws i' sComma = true)) := by
    rcases hk with ⟨hk, rfl, rfl⟩ | ⟨hk, hW⟩
    · exact .inr ⟨rfl, by unfold parAt; rw [if_pos hk], fun e => absurd hk e⟩
    · rcases want_cases hW with ⟨_, ha, rfl, rfl⟩ | ⟨_, ha, rfl, rfl⟩ | ⟨e, _⟩
      · exact .inr ⟨rfl, by unfold parAt; rw [if_neg hk], fun _ => ha⟩
      · exact .inl ⟨rfl, rfl, hk, ha⟩
      · cases e
  have hpar : i' ≤ parAt ns.length i' := by unfold parAt; split <;> omega
  rcases comma with ⟨rfl, rfl, hk0, ha⟩ | ⟨rfl, rfl, ha⟩
  · rcases kind_cases (by decide) hK with ⟨e, _⟩ | ⟨e, _⟩ | ⟨_, _, rfl, rfl⟩
    · cases e
    · cases e
    · rcases typ_cases hT with ⟨e, _⟩ | ⟨e, _⟩ | ⟨_, rfl, rfl⟩
      · cases e
      · cases e
      · exact ⟨⟨by omega, fun e => hbt (_, _) e, by simp; omega, by simp [heq], fun _ e => absurd e (by decide), fun _ _ => hok.2 _ (.comma hc hk0 ha)⟩, by omega, fun e => absurd e (by decide)⟩
  · rcases kind_cases (by decide) hK with ⟨_, hkd, rfl, rfl, rfl⟩ | ⟨_, hkd, _, rfl, rfl⟩ | ⟨e, _⟩
    · rcases typ_cases hT with ⟨_, ht, rfl, rfl⟩ | ⟨_, ht, rfl, hle4⟩ | ⟨e, _⟩
      · refine ⟨⟨by omega, fun e => hbt (_, _) e, by simp; omega, by simp [heq], fun _ _ => ⟨fun ms us j h => ?_, fun j h => hok.2 _ (.nextR hc ha hkd ht (by simpa using h))⟩, fun _ e => absurd e (by decide)⟩, by omega, fun _ => by omega⟩
        have := hok.1 _ _ _ (.next hc ha hkd ht (by simpa using h)); simpa using this
      · exact ⟨⟨by omega, fun e => hbt (_, _) e, by simp; omega, by simp [heq], fun _ e => absurd e (by decide), fun _ _ => hok.2 _ (.typ hc ha hkd ht)⟩, by omega, fun e => absurd e (by decide)⟩
      · cases e
    · rcases typ_cases hT with ⟨e, _⟩ | ⟨e, _⟩ | ⟨_, rfl, rfl⟩
      · cases e
      · cases e
      · exact ⟨⟨by omega, fun e => hbt (_, _) e, by simp; omega, by simp [heq], fun _ e => absurd e (by decide), fun _ _ => hok.2 _ (.name hc ha hkd)⟩, by omega, fun e => absurd e (by decide)⟩
    · cases e
end
/-- What functions have been read. -/
structure InU (ws : List Wd) (en : Nat) (l : List Fn) (i' : Nat) (b' : Bool) : Prop where
  len : l.length ≤ i' + (if b' then 1 else 0)
  okk : b' = false → (∀ m, Du ws en i' (.fns m) → Du ws en 0 (.fns (l ++ m))) ∧ (∀ j, Du ws en i' (.bad j) → Du ws en 0 (.bad j))
  bad : b' = true → Du ws en 0 (.bad i')
theorem InU.start (ws : List Wd) (en : Nat) : InU ws en [] 0 false := ⟨by simp, fun _ => ⟨fun _ h => h, fun _ h => h⟩, by simp⟩
theorem InU.step {ws : List Wd} {en i' i3 : Nat} {b3 : Bool} {l : List Fn} {f : Fn} (h : InU ws en l i' false) (hi : i' < ws.length) (hO : OutF ws en i' f i3 b3) : InU ws en (l ++ [f]) i3 b3 ∧ i' ≤ i3 ∧ (b3 = false → i' < i3) := by
  have h0 := hO.1
  have hlen := h.len
  simp only [Bool.false_eq_true, if_false, Nat.add_zero] at hlen
  cases b3 with
  | false =>
    obtain ⟨h1, h2⟩ := hO.2.1 rfl
    refine ⟨⟨by simp; omega, fun _ => ⟨fun m h' => ?_, fun j h' => (h.okk rfl).2 _ (.moreR hi h2 h')⟩, by simp⟩, h0, fun _ => h1⟩
    have := (h.okk rfl).1 _ (.more hi h2 h'); simpa using this
  | true => exact ⟨⟨by simp; omega, by simp, fun _ => (h.okk rfl).2 _ (.moreB hi (hO.2.2 rfl))⟩, h0, by simp⟩
end Go.Proofs.YtmngofgminlloaaGreatDoor

namespace Go.Proofs.YtmngofgminlloaaGreatDoor
open Go.RowKit Tw Go.Maps

end Go.Proofs.YtmngofgminlloaaGreatDoor

namespace Go.Proofs.YtmngofgminlloaaGreatDoor
open Go.RowKit Tw

end Go.Proofs.YtmngofgminlloaaGreatDoor
