/-
  What an expression is (De) is one thing; and what statements, parameters, functions and scripts are (Ds, Dp, Df, Du), in plain Lean.
  The small methods of the program's reader: at, text, take, want, kind, typ; each at a reader whose words lie in an older block; what fails panics with its place.
  More small methods of the program's reader: take, want, kind, typ.
  What one() has read, by the ways through it, in plain Lean.
  The reference's args(), of whatever its callee answers by contract.
  The reference's signs(n): the operators of a level; and slices.Contains of them.
  What level(n) has read, by the ways through it, in plain Lean; a row of two expressions.
-/
import Derived.Test.YtmngofgminlloaaGreatDoorPT07
import Derived.WalkLawsBesides
import Derived.Outline
import Derived.Deep.DeepCutAuto
import Derived.Test.YtmngofgminlloaaGreatDoorPT05
import Derived.Lib.Fields
namespace Go.Proofs.YtmngofgminlloaaGreatDoor
open Go.RowKit Tw

set_option maxHeartbeats 4000000 in
theorem De.det {ws : List Wd} {en : Nat} {q : Qe} {r : Re} (h : De ws en q r) : ∀ r', De ws en q r' → r = r' := by
  induction h with
  | lvl6 _ ih => intro r' h'; cases h' <;> first | (apply ih; assumption) | contradiction
  | lvl hn _ _ ih1 ih2 =>
    intro r' h'
    cases h' with
    | lvl6 => contradiction
    | lvl _ h1 h2 => have e := ih1 _ h1; injection e with e1 e2; subst e1; subst e2; exact ih2 _ h2
    | lvlB _ h1 => have e := ih1 _ h1; cases e
  | lvlB hn _ ih1 =>
    intro r' h'
    cases h' with
    | lvl6 => contradiction
    | lvl _ h1 h2 => have e := ih1 _ h1; cases e
    | lvlB _ h1 => exact ih1 _ h1
  | stop h0 => intro r' h'; cases h' <;> first | rfl | contradiction
  | go h3 h0 _ _ ih1 ih2 =>
    intro r' h'
    cases h' with
    | stop g0 => contradiction
    | go _ _ h1 h2 => have e := ih1 _ h1; injection e with e1 e2; subst e1; subst e2; exact ih2 _ h2
    | goB _ h1 => have e := ih1 _ h1; cases e
    | cmp => contradiction
    | cmpB => contradiction
  | goB h0 _ ih1 =>
    intro r' h'
    cases h' with
    | stop g0 => contradiction
    | go _ _ h1 h2 => have e := ih1 _ h1; cases e
    | goB _ h1 => exact ih1 _ h1
    | cmp _ h1 => have e := ih1 _ h1; cases e
    | cmpB _ h1 => have e := ih1 _ h1; cases e
  | cmp h0 _ hx ih1 =>
    intro r' h'
    cases h' with
    | stop g0 => contradiction
    | go g0 => contradiction
    | goB _ h1 => have e := ih1 _ h1; cases e
    | cmp _ h1 => have e := ih1 _ h1; injection e with e1 e2; subst e1; subst e2; rfl
    | cmpB _ h1 => have e := ih1 _ h1; injection e with e1 e2; subst e1; subst e2; contradiction
  | cmpB h0 _ hx ih1 =>
    intro r' h'
    cases h' with
    | stop g0 => contradiction
    | go g0 => contradiction
    | goB _ h1 => have e := ih1 _ h1; cases e
    | cmp _ h1 => have e := ih1 _ h1; injection e with e1 e2; subst e1; subst e2; contradiction
    | cmpB _ h1 => have e := ih1 _ h1; injection e with e1 e2; subst e1; subst e2; rfl
  | neg h0 _ ih | not h0 _ ih =>
    intro r' h'
    cases h' <;> first
      | (exfalso; omega)
      | (rename_i h1; have e := ih _ h1; first | (cases e; done) | (injection e with e1 e2; subst e1; subst e2; rfl))
  | negB h0 _ ih | notB h0 _ ih | parB h0 _ ih =>
    intro r' h'
    cases h' <;> first
      | (exfalso; omega)
      | (rename_i h1; have e := ih _ h1; first | (cases e; done) | (injection e with e1; subst e1; rfl))
      | (rename_i h1 _; have e := ih _ h1; first | (cases e; done) | (injection e with e1; subst e1; rfl))
  | par h0 _ hc ih | parC h0 _ hc ih =>
    intro r' h'
    cases h' with
    | parB _ h1 => have e := ih _ h1; cases e
    | par _ h1 g | parC _ h1 g => have e := ih _ h1; injection e with e1 e2; subst e1; subst e2; first | rfl | (rw [hc] at g; cases g)
    | _ => exfalso; omega
  | tru h0 | fls h0 | num h0 | nobody h0 => intro r' h'; cases h' <;> first | rfl | (exfalso; omega)
  | host h0 hk hc _ ih | hostB h0 hk hc _ ih =>
    intro r' h'
    cases h' <;> first
      | (exfalso; omega)
      | contradiction
      | (rename_i g _; rw [hc] at g; cases g; done)
      | (rename_i g; rw [hc] at g; cases g; done)
      | (rename_i h1; have e := ih _ h1; first | (cases e; done) | (injection e with e1 e2; subst e1; subst e2; rfl) | (injection e with e1; subst e1; rfl))
  | hostC h0 hk hc =>
    intro r' h'
    cases h' <;> first
      | rfl
      | (exfalso; omega)
      | contradiction
      | (rename_i g _; rw [hc] at g; cases g; done)
  | hostD h0 hk => intro r' h'; cases h' <;> first | rfl | (exfalso; omega) | contradiction
  | var h0 hc =>
    intro r' h'
    cases h' <;> first
      | rfl
      | (exfalso; omega)
      | (rename_i g _; rw [hc] at g; cases g; done)
  | call h0 hc _ ih | callB h0 hc _ ih =>
    intro r' h'
    cases h' <;> first
      | (exfalso; omega)
      | (rename_i g; rw [hc] at g; cases g; done)
      | (rename_i h1; have e := ih _ h1; first | (cases e; done) | (injection e with e1 e2; subst e1; subst e2; rfl) | (injection e with e1; subst e1; rfl))
  | close hc =>
    intro r' h'
    cases h' <;> first | rfl | (rename_i g _ _; rw [hc] at g; cases g; done) | (rename_i g _; rw [hc] at g; cases g; done) | (rename_i g _ _ _; rw [hc] at g; cases g; done)
  | first hc _ _ ih1 ih2 | firstR hc _ _ ih1 ih2 =>
    intro r' h'
    cases h' with
    | close g => rw [hc] at g; cases g
    | first _ h1 h2 => have e := ih1 _ h1; injection e with e1 e2; subst e1; subst e2; have e := ih2 _ h2; first | (cases e; done) | (injection e with e1 e2; subst e1; subst e2; rfl)
    | firstR _ h1 h2 => have e := ih1 _ h1; injection e with e1 e2; subst e1; subst e2; have e := ih2 _ h2; first | (cases e; done) | (injection e with e1; subst e1; rfl)
    | firstB _ h1 => have e := ih1 _ h1; cases e
  | firstB hc _ ih1 =>
    intro r' h'
    cases h' with
    | close g => rw [hc] at g; cases g
    | first _ h1 h2 => have e := ih1 _ h1; cases e
    | firstR _ h1 h2 => have e := ih1 _ h1; cases e
    | firstB _ h1 => exact ih1 _ h1
  | next hc hd _ _ ih1 ih2 | nextR hc hd _ _ ih1 ih2 =>
    intro r' h'
    cases h' with
    | close g => rw [hc] at g; cases g
    | next _ _ h1 h2 => have e := ih1 _ h1; injection e with e1 e2; subst e1; subst e2; have e := ih2 _ h2; first | (cases e; done) | (injection e with e1 e2; subst e1; subst e2; rfl)
    | nextR _ _ h1 h2 => have e := ih1 _ h1; injection e with e1 e2; subst e1; subst e2; have e := ih2 _ h2; first | (cases e; done) | (injection e with e1; subst e1; rfl)
    | nextB _ _ h1 => have e := ih1 _ h1; cases e
    | nextC _ g => rw [hd] at g; cases g
  | nextB hc hd _ ih1 =>
    intro r' h'
    cases h' with
    | close g => rw [hc] at g; cases g
    | next _ _ h1 h2 => have e := ih1 _ h1; cases e
    | nextR _ _ h1 h2 => have e := ih1 _ h1; cases e
    | nextB _ _ h1 => exact ih1 _ h1
    | nextC _ g => rw [hd] at g; cases g
  | nextC hc hd =>
    intro r' h'
    cases h' with
    | close g => rw [hc] at g; cases g
    | next _ g => rw [hd] at g; cases g
    | nextR _ g => rw [hd] at g; cases g
    | nextB _ g => rw [hd] at g; cases g
    | nextC => rfl

def sLet : ByteArray := ⟨#[108, 101, 116]⟩
def sIf : ByteArray := ⟨#[105, 102]⟩
def sWhile : ByteArray := ⟨#[119, 104, 105, 108, 101]⟩
def sReturn : ByteArray := ⟨#[114, 101, 116, 117, 114, 110]⟩
def sYield : ByteArray := ⟨#[121, 105, 101, 108, 100]⟩
def sElse : ByteArray := ⟨#[101, 108, 115, 101]⟩
def sFun : ByteArray := ⟨#[102, 117, 110]⟩
def tInt : ByteArray := ⟨#[105, 110, 116]⟩
def tBool : ByteArray := ⟨#[98, 111, 111, 108]⟩
def sEq : ByteArray := ⟨#[61]⟩
def sSemi : ByteArray := ⟨#[59]⟩
def tColon : ByteArray := ⟨#[58]⟩
def sBra : ByteArray := ⟨#[123]⟩
def sKet : ByteArray := ⟨#[125]⟩
/-- With what a statement begins: its kind. -/
def headS (ws : List Wd) (i : Nat) : Nat :=
  if isAt ws i sLet then 1 else if isAt ws i sIf then 3 else if isAt ws i sWhile then 4 else if isAt ws i sReturn then 5 else if isAt ws i sYield then 6
  else if kindAt ws i = 2 ∧ isAt ws (i + 1) sEq = true then 2 else 7
/-- Where the expression of a statement begins. -/
def exprS (ws : List Wd) (i : Nat) : Nat :=
  if headS ws i = 1 then i + 3 else if headS ws i = 2 then i + 2 else if headS ws i = 7 then i else i + 1
def nameS (ws : List Wd) (i : Nat) : ByteArray :=
  if headS ws i = 1 then textAt ws (i + 1) else if headS ws i = 2 then textAt ws i else sNone

inductive Qs where
  | stmt (i : Nat) | block (i : Nat) | stmts (i : Nat)
inductive Rs where
  | st (s : Sm) (j : Nat) | sts (l : List Sm) (j : Nat) | bad (j : Nat)
def Qs.at : Qs → Nat
  | .stmt i => i | .block i => i | .stmts i => i

/-- What statements are. -/
inductive Ds (ws : List Wd) (en : Nat) : Qs → Rs → Prop
  | letN {i : Nat} : headS ws i = 1 → kindAt ws (i + 1) ≠ 2 → Ds ws en (.stmt i) (.bad (i + 1))
  | letE {i : Nat} : headS ws i = 1 → kindAt ws (i + 1) = 2 → isAt ws (i + 2) sEq = false → Ds ws en (.stmt i) (.bad (i + 2))
  | simpB {i j : Nat} : headS ws i ≠ 3 → headS ws i ≠ 4 → (headS ws i = 1 → kindAt ws (i + 1) = 2 ∧ isAt ws (i + 2) sEq = true) → De ws en (.lvl 1 (exprS ws i)) (.bad j) → Ds ws en (.stmt i) (.bad j)
  | simpC {i j : Nat} {x : Ex} : headS ws i ≠ 3 → headS ws i ≠ 4 → (headS ws i = 1 → kindAt ws (i + 1) = 2 ∧ isAt ws (i + 2) sEq = true) → De ws en (.lvl 1 (exprS ws i)) (.ex x j) → isAt ws j sSemi = false → Ds ws en (.stmt i) (.bad j)
  | simp {i j : Nat} {x : Ex} : headS ws i ≠ 3 → headS ws i ≠ 4 → (headS ws i = 1 → kindAt ws (i + 1) = 2 ∧ isAt ws (i + 2) sEq = true) → De ws en (.lvl 1 (exprS ws i)) (.ex x j) → isAt ws j sSemi = true → Ds ws en (.stmt i) (.st (.mk (headS ws i) (nameS ws i) x [] [] (posAt ws i en)) (j + 1))
  | condB {i j : Nat} : headS ws i = 3 ∨ headS ws i = 4 → De ws en (.lvl 1 (i + 1)) (.bad j) → Ds ws en (.stmt i) (.bad j)
  | condD {i j j' : Nat} {x : Ex} : headS ws i = 3 ∨ headS ws i = 4 → De ws en (.lvl 1 (i + 1)) (.ex x j) → Ds ws en (.block j) (.bad j') → Ds ws en (.stmt i) (.bad j')
  | whil {i j j' : Nat} {x : Ex} {l : List Sm} : headS ws i = 4 → De ws en (.lvl 1 (i + 1)) (.ex x j) → Ds ws en (.block j) (.sts l j') → Ds ws en (.stmt i) (.st (.mk 4 sNone x l [] (posAt ws i en)) j')
  | if0 {i j j' : Nat} {x : Ex} {l : List Sm} : headS ws i = 3 → De ws en (.lvl 1 (i + 1)) (.ex x j) → Ds ws en (.block j) (.sts l j') → isAt ws j' sElse = false → Ds ws en (.stmt i) (.st (.mk 3 sNone x l [] (posAt ws i en)) j')
  | ifE {i j j' k : Nat} {x : Ex} {l m : List Sm} : headS ws i = 3 → De ws en (.lvl 1 (i + 1)) (.ex x j) → Ds ws en (.block j) (.sts l j') → isAt ws j' sElse = true → isAt ws (j' + 1) sIf = false → Ds ws en (.block (j' + 1)) (.sts m k) → Ds ws en (.stmt i) (.st (.mk 3 sNone x l m (posAt ws i en)) k)
  | ifEB {i j j' k : Nat} {x : Ex} {l : List Sm} : headS ws i = 3 → De ws en (.lvl 1 (i + 1)) (.ex x j) → Ds ws en (.block j) (.sts l j') → isAt ws j' sElse = true → isAt ws (j' + 1) sIf = false → Ds ws en (.block (j' + 1)) (.bad k) → Ds ws en (.stmt i) (.bad k)
  | ifI {i j j' k : Nat} {x : Ex} {l : List Sm} {s : Sm} : headS ws i = 3 → De ws en (.lvl 1 (i + 1)) (.ex x j) → Ds ws en (.block j) (.sts l j') → isAt ws j' sElse = true → isAt ws (j' + 1) sIf = true → Ds ws en (.stmt (j' + 1)) (.st s k) → Ds ws en (.stmt i) (.st (.mk 3 sNone x l [s] (posAt ws i en)) k)
  | ifIB {i j j' k : Nat} {x : Ex} {l : List Sm} : headS ws i = 3 → De ws en (.lvl 1 (i + 1)) (.ex x j) → Ds ws en (.block j) (.sts l j') → isAt ws j' sElse = true → isAt ws (j' + 1) sIf = true → Ds ws en (.stmt (j' + 1)) (.bad k) → Ds ws en (.stmt i) (.bad k)
  | blockB {i : Nat} : isAt ws i sBra = false → Ds ws en (.block i) (.bad i)
  | block {i : Nat} {r : Rs} : isAt ws i sBra = true → Ds ws en (.stmts (i + 1)) r → Ds ws en (.block i) r
  | done {i : Nat} : isAt ws i sKet = true → Ds ws en (.stmts i) (.sts [] (i + 1))
  | more {i j j' : Nat} {s : Sm} {l : List Sm} : isAt ws i sKet = false → Ds ws en (.stmt i) (.st s j) → Ds ws en (.stmts j) (.sts l j') → Ds ws en (.stmts i) (.sts (s :: l) j')
  | moreR {i j j' : Nat} {s : Sm} : isAt ws i sKet = false → Ds ws en (.stmt i) (.st s j) → Ds ws en (.stmts j) (.bad j') → Ds ws en (.stmts i) (.bad j')
  | moreB {i j : Nat} : isAt ws i sKet = false → Ds ws en (.stmt i) (.bad j) → Ds ws en (.stmts i) (.bad j)

/-- A type. -/
inductive Rt where
  | ok (t : Int) | bad (j : Nat)
def typF (ws : List Wd) (i : Nat) : Rt :=
  if isAt ws i tColon then (if isAt ws (i + 1) tInt then .ok 1 else if isAt ws (i + 1) tBool then .ok 2 else .bad (i + 1)) else .bad i
/-- Parameters. -/
inductive Rp where
  | ok (names : List ByteArray) (types : List Int) (j : Nat) | bad (j : Nat)
def parAt (k i : Nat) : Nat := if k = 0 then i else i + 1
inductive Dp (ws : List Wd) (en : Nat) : Nat → Nat → Rp → Prop
  | close {k i : Nat} : isAt ws i sClose = true → Dp ws en k i (.ok [] [] (i + 1))
  | comma {k i : Nat} : isAt ws i sClose = false → k ≠ 0 → isAt ws i sComma = false → Dp ws en k i (.bad i)
  | name {k i : Nat} : isAt ws i sClose = false → (k ≠ 0 → isAt ws i sComma = true) → kindAt ws (parAt k i) ≠ 2 → Dp ws en k i (.bad (parAt k i))
  | typ {k i j : Nat} : isAt ws i sClose = false → (k ≠ 0 → isAt ws i sComma = true) → kindAt ws (parAt k i) = 2 → typF ws (parAt k i + 1) = .bad j → Dp ws en k i (.bad j)
  | next {k i j : Nat} {t : Int} {ns : List ByteArray} {ts : List Int} : isAt ws i sClose = false → (k ≠ 0 → isAt ws i sComma = true) → kindAt ws (parAt k i) = 2 → typF ws (parAt k i + 1) = .ok t → Dp ws en (k + 1) (parAt k i + 3) (.ok ns ts j) → Dp ws en k i (.ok (textAt ws (parAt k i) :: ns) (t :: ts) j)
  | nextR {k i j : Nat} {t : Int} : isAt ws i sClose = false → (k ≠ 0 → isAt ws i sComma = true) → kindAt ws (parAt k i) = 2 → typF ws (parAt k i + 1) = .ok t → Dp ws en (k + 1) (parAt k i + 3) (.bad j) → Dp ws en k i (.bad j)
/-- A function. -/
inductive Rf where
  | fn (f : Fn) (j : Nat) | bad (j : Nat)
inductive Df (ws : List Wd) (en : Nat) : Nat → Rf → Prop
  | noFun {i : Nat} : isAt ws i sFun = false → Df ws en i (.bad i)
  | noName {i : Nat} : isAt ws i sFun = true → kindAt ws (i + 1) ≠ 2 → Df ws en i (.bad (i + 1))
  | noOpen {i : Nat} : isAt ws i sFun = true → kindAt ws (i + 1) = 2 → isAt ws (i + 2) sOpen = false → Df ws en i (.bad (i + 2))
  | par {i j : Nat} : isAt ws i sFun = true → kindAt ws (i + 1) = 2 → isAt ws (i + 2) sOpen = true → Dp ws en 0 (i + 3) (.bad j) → Df ws en i (.bad j)
  | typ {i j k : Nat} {ns : List ByteArray} {ts : List Int} : isAt ws i sFun = true → kindAt ws (i + 1) = 2 → isAt ws (i + 2) sOpen = true → Dp ws en 0 (i + 3) (.ok ns ts j) → typF ws j = .bad k → Df ws en i (.bad k)
  | body {i j k : Nat} {t : Int} {ns : List ByteArray} {ts : List Int} : isAt ws i sFun = true → kindAt ws (i + 1) = 2 → isAt ws (i + 2) sOpen = true → Dp ws en 0 (i + 3) (.ok ns ts j) → typF ws j = .ok t → Ds ws en (.block (j + 2)) (.bad k) → Df ws en i (.bad k)
  | fn {i j k : Nat} {t : Int} {ns : List ByteArray} {ts : List Int} {l : List Sm} : isAt ws i sFun = true → kindAt ws (i + 1) = 2 → isAt ws (i + 2) sOpen = true → Dp ws en 0 (i + 3) (.ok ns ts j) → typF ws j = .ok t → Ds ws en (.block (j + 2)) (.sts l k) →
      Df ws en i (.fn { name := textAt ws (i + 1), names := ns, types := ts, out := t, body := l, pos := posAt ws i en } k)
/-- A script. -/
inductive Ru where
  | fns (l : List Fn) | bad (j : Nat)
inductive Du (ws : List Wd) (en : Nat) : Nat → Ru → Prop
  | done {i : Nat} : ws.length ≤ i → Du ws en i (.fns [])
  | more {i j : Nat} {f : Fn} {l : List Fn} : i < ws.length → Df ws en i (.fn f j) → Du ws en j (.fns l) → Du ws en i (.fns (f :: l))
  | moreR {i j k : Nat} {f : Fn} : i < ws.length → Df ws en i (.fn f j) → Du ws en j (.bad k) → Du ws en i (.bad k)
  | moreB {i j : Nat} : i < ws.length → Df ws en i (.bad j) → Du ws en i (.bad j)
end Go.Proofs.YtmngofgminlloaaGreatDoor

namespace Go.Proofs.YtmngofgminlloaaGreatDoor
open Go.RowKit Tw

/-- The program's reader: its block holds the words, the place, the text's length. -/
structure Rq (w : World) (rb : Nat) (v : Value) (ws : List Wd) (i en : Nat) : Prop where
  blk : w.heap[rb]? = some (.cells #[v, .int .i64 i, .int .i64 en] 157 (0, 0))
  row : WRow w rb v ws
  len : ws.length ≤ 4000
  pos : i ≤ ws.length
section
variable {w w' : World} {rb : Nat} {v : Value} {ws : List Wd} {i en : Nat}
theorem Rq.lt (h : Rq w rb v ws i en) : rb < w.heap.size := (Array.getElem?_eq_some_iff.1 h.blk).1
theorem Rq.c0 (h : Rq w rb v ws i en) : w.cell? ⟨rb, 0, none⟩ = some v := Lib.cell_of_heap h.blk 0
theorem Rq.c1 (h : Rq w rb v ws i en) : w.cell? ⟨rb, 1, none⟩ = some (.int .i64 i) := Lib.cell_of_heap h.blk 1
theorem Rq.c2 (h : Rq w rb v ws i en) : w.cell? ⟨rb, 2, none⟩ = some (.int .i64 en) := Lib.cell_of_heap h.blk 2
theorem Rq.fz (h : Rq w rb v ws i en) (j : Nat) : w.frozen? ⟨rb, j, none⟩ = false := Lib.frozen_of_heap h.blk j
theorem Rq.keep (h : Rq w rb v ws i en) (hb : Below w.heap.size w w') : Rq w' rb v ws i en :=
  ⟨(hb.block rb h.lt).trans h.blk, h.row.same fun k hk => hb.block k (Nat.lt_trans hk h.lt), h.len, h.pos⟩
theorem Rq.grown {k : Nat} (h : Rq w rb v ws i en) (hg : w.grownBy w' (some k)) (hk : rb < k) : Rq w' rb v ws i en :=
  ⟨(hg.block rb h.lt (by simp; omega)).trans h.blk, h.row.same fun j hj => hg.block j (Nat.lt_trans hj h.lt) (by simp; omega), h.len, h.pos⟩
theorem Rq.setI (h : Rq w rb v ws i en) (j : Nat) (hj : j ≤ ws.length) : Rq (w.setCell ⟨rb, 1, none⟩ (.int .i64 j)) rb v ws j en := by
  refine ⟨?_, h.row.same fun k hk => Below.heap_setCell w ⟨rb, 1, none⟩ _ k (by simp; omega), h.len, hj⟩
  have := heap_setCell_same w rb 1 _ _ (.int .i64 j) h.blk
  simpa using this
end
/-- The reader has failed at a place. -/
def badP (ws : List Wd) (en j : Nat) : Ending := .panicked [{ v := .iface 159 (.agg #[.int .i64 (posAt ws j en)]), recovered := false }]

set_option maxHeartbeats 1000000 in
theorem at_p {w : World} {rb : Nat} {v : Value} {ws : List Wd} {i en : Nat} (h : Rq w rb v ws i en) :
    Calls Tryz.prog 136 #[.pointer (some ⟨rb, 0, none⟩)] w fun e w' => e = .returned (.int .i64 (posAt ws i en)) ∧ Below w.heap.size w w' := by
  obtain ⟨A, cap, rfl, hform⟩ := h.row.form
  have c0 := h.c0; have c1 := h.c1; have c2 := h.c2
  have hn := h.len; have hp := h.pos
  by_cases hlt : i < ws.length
  · obtain ⟨x, hx⟩ : ∃ x, ws[i]? = some x := ⟨_, List.getElem?_eq_getElem hlt⟩
    obtain ⟨g, rfl, hg, d0, d1, d2⟩ := hform i x hx
    have hP : posAt ws i en = x.pos := by unfold posAt; rw [hx]
    rw [hP]
    have k0 : (0 : Int) ≤ (i : Int) := by omega
    have k1 : (i : Int) < (ws.length : Int) := by omega
    clear hx hP hform h d0 d1 c2
    go_enter Tryz.func136, Tryz.ntmps136
    go_wp2_with fail
    go_quiet (fail)
    go_wp2_with fail
    go_quiet (fail)
    go_wp2_with fail
    go_ret
    exact ⟨rfl, below_drewN (below_drewN (Below.refl _ _) _) _⟩
  · have hP : posAt ws i en = en := by unfold posAt; rw [List.getElem?_eq_none (by omega)]
    rw [hP]
    have hi : i = ws.length := by omega
    clear hP hform h
    go_enter Tryz.func136, Tryz.ntmps136
    go_wp2_with fail
    go_quiet (fail)
    go_wp2_with fail
    go_ret
    exact ⟨rfl, below_drewN (Below.refl _ _) _⟩
set_option maxHeartbeats 1000000 in
theorem text_p {w : World} {rb : Nat} {v : Value} {ws : List Wd} {i en : Nat} (h : Rq w rb v ws i en) :
    Calls Tryz.prog 190 #[.pointer (some ⟨rb, 0, none⟩)] w fun e w' => e = .returned (.string (textAt ws i)) ∧ Below w.heap.size w w' := by
  obtain ⟨A, cap, rfl, hform⟩ := h.row.form
  have c0 := h.c0; have c1 := h.c1
  have hn := h.len; have hp := h.pos
  by_cases hlt : i < ws.length
  · obtain ⟨x, hx⟩ : ∃ x, ws[i]? = some x := ⟨_, List.getElem?_eq_getElem hlt⟩
    obtain ⟨g, rfl, hg, d0, d1, d2⟩ := hform i x hx
    have hP : textAt ws i = x.text := by unfold textAt; rw [hx]
    rw [hP]
    have k0 : (0 : Int) ≤ (i : Int) := by omega
    have k1 : (i : Int) < (ws.length : Int) := by omega
    clear hx hP hform h d0 d2
    go_enter Tryz.func190, Tryz.ntmps190
    go_wp2_with fail
    go_quiet (fail)
    go_wp2_with fail
    go_quiet (fail)
    go_wp2_with fail
    go_ret
    exact ⟨rfl, below_drewN (below_drewN (Below.refl _ _) _) _⟩
  · have hP : textAt ws i = ⟨#[]⟩ := by unfold textAt; rw [List.getElem?_eq_none (by omega)]
    rw [hP]
    have hi : i = ws.length := by omega
    clear hP hform h
    go_enter Tryz.func190, Tryz.ntmps190
    go_wp2_with fail
    go_quiet (fail)
    go_wp2_with fail
    go_ret
    exact ⟨rfl, below_drewN (Below.refl _ _) _⟩
/-- Is the text at i this one? (no empty one) -/
theorem isAt_text {ws : List Wd} {i : Nat} {s : ByteArray} (hs : s.toList ≠ []) : isAt ws i s = ((textAt ws i).toList == s.toList) := by
  unfold isAt textAt
  cases ws[i]? with
  | some x => rfl
  | none =>
    symm
    rw [beq_eq_false_iff_ne]
    intro h
    apply hs
    rw [← h]
    simp [ByteArray.toList_eq] <;> rfl
end Go.Proofs.YtmngofgminlloaaGreatDoor

namespace Go.Proofs.YtmngofgminlloaaGreatDoor
open Go.RowKit Tw

theorem textAt_lt {ws : List Wd} {i : Nat} {s : ByteArray} (h : isAt ws i s = true) : i < ws.length := isAt_lt h
set_option maxHeartbeats 1000000 in
theorem take_p {w : World} {rb : Nat} {v : Value} {ws : List Wd} {i en : Nat} (s : ByteArray) (hs : s.toList ≠ []) (t : Bool) (h : Rq w rb v ws i en) (ht : isAt ws i s = t) :
    Calls Tryz.prog 139 #[.pointer (some ⟨rb, 0, none⟩), .string s] w fun e w' => e = .returned (.bool t) ∧ Rq w' rb v ws (if t then i + 1 else i) en ∧ w.grownBy w' (some rb) := by
  have hlt : t = true → i < ws.length := fun e => by subst e; exact isAt_lt ht
  rw [isAt_text hs] at ht
  have HS := Lib.hid (text_p h)
  have HR := Lib.hid h; have HL := Lib.hid hlt
  clear h hlt hs
  generalize textAt ws i = tx at ht HS
  go_enter Tryz.func139, Tryz.ntmps139
  go_wp2_with fail
  refine HS.out.mono ?_
  rintro e w1 ⟨rfl, hb⟩
  have HR1 := Lib.hid (HR.out.keep hb)
  have HG := Lib.hid (grown_of_below hb (some rb))
  clear hb
  have c1 := HR1.out.c1
  have hf := HR1.out.fz 1
  cases t with
  | true =>
    have hn := HR1.out.len
    have hl := HL.out rfl
    go_wp2_with fail
    go_ret
    exact ⟨rfl, HR1.out.setI (i + 1) hl, grown_trans HG.out (grown_set _ _ _ _)⟩
  | false =>
    go_wp2_with fail
    go_ret
    exact ⟨rfl, HR1.out, HG.out⟩
set_option maxHeartbeats 1000000 in
theorem want_p {w : World} {rb : Nat} {v : Value} {ws : List Wd} {i en : Nat} (s : ByteArray) (hs : s.toList ≠ []) (h : Rq w rb v ws i en) (ht : isAt ws i s = true) :
    Calls Tryz.prog 137 #[.pointer (some ⟨rb, 0, none⟩), .string s] w fun e w' => e = .returned (.tuple #[]) ∧ Rq w' rb v ws (i + 1) en ∧ w.grownBy w' (some rb) := by
  have HS := Lib.hid (take_p s hs true h ht)
  clear h ht hs
  go_enter Tryz.func137, Tryz.ntmps137
  go_wp2_with fail
  refine HS.out.mono ?_
  rintro e w1 ⟨rfl, hr, hg⟩
  have HR1 := Lib.hid hr; have HG := Lib.hid hg
  clear hr hg
  go_wp2_with fail
  go_end0
  exact ⟨rfl, by simpa using HR1.out, HG.out⟩
set_option maxHeartbeats 1000000 in
theorem want_pb {w : World} {rb : Nat} {v : Value} {ws : List Wd} {i en : Nat} (s : ByteArray) (hs : s.toList ≠ []) (h : Rq w rb v ws i en) (ht : isAt ws i s = false) :
    Calls Tryz.prog 137 #[.pointer (some ⟨rb, 0, none⟩), .string s] w fun e w' => e = badP ws en i ∧ w.grownBy w' (some rb) := by
  have HS := Lib.hid (take_p s hs false h ht)
  clear h ht hs
  go_enter Tryz.func137, Tryz.ntmps137
  go_wp2_with fail
  refine HS.out.mono ?_
  rintro e w1 ⟨rfl, hr, hg⟩
  have HR1 : Hid (Rq w1 rb v ws i en) := Lib.hid (by simpa using hr)
  have HG := Lib.hid hg
  clear hr hg
  go_wp2_with fail
  refine (at_p HR1.out).mono ?_
  rintro e w2 ⟨rfl, hb⟩
  have HG2 := Lib.hid (grown_trans HG.out (grown_of_below hb _))
  clear hb
  go_wp2_with fail
  exact ⟨rfl, rfl, HG2.out⟩
set_option maxHeartbeats 2000000 in
theorem kind_p {w : World} {rb : Nat} {v : Value} {ws : List Wd} {i en : Nat} (k : Nat) (hk0 : k ≠ 0) (h : Rq w rb v ws i en) (hk : kindAt ws i = k) :
    Calls Tryz.prog 138 #[.pointer (some ⟨rb, 0, none⟩), .int .i64 k] w fun e w' => e = .returned (.string (textAt ws i)) ∧ Rq w' rb v ws (i + 1) en ∧ w.grownBy w' (some rb) := by
  obtain ⟨A, cap, rfl, hform⟩ := h.row.form
  have c0 := h.c0; have c1 := h.c1
  have hn := h.len; have hp := h.pos
  have hf1 := h.fz 1
  have HR := Lib.hid h
  have hlt : i < ws.length := by
    rcases Nat.lt_or_ge i ws.length with h' | h'
    · exact h'
    · unfold kindAt at hk; rw [List.getElem?_eq_none h'] at hk; exact absurd hk.symm hk0
  obtain ⟨x, hx⟩ : ∃ x, ws[i]? = some x := ⟨_, List.getElem?_eq_getElem hlt⟩
  obtain ⟨g, rfl, hg, d0, d1, d2⟩ := hform i x hx
  have hP : textAt ws i = x.text := by unfold textAt; rw [hx]
  rw [hP]
  have hkx : x.kind = k := by unfold kindAt at hk; rw [hx] at hk; exact hk
  subst hkx
  have e0 : (((x.kind : Nat) : Int) != ((x.kind : Nat) : Int)) = false := by simp
  have e1 : ((i : Int) == (ws.length : Int)) = false := beq_eq_false_iff_ne.2 (by omega)
  have k0 : (0 : Int) ≤ (i : Int) := by omega
  have k1 : (i : Int) < (ws.length : Int) := by omega
  have HL := Lib.hid hlt
  clear h hk hform hx hP hk0 d2
  go_enter Tryz.func138, Tryz.ntmps138
  go_wp2_with fail
  go_quiet (fail)
  go_wp2_with fail
  have hgn : g ≠ rb := by omega
  have hgn' : rb ≠ g := by omega
  have q0 : (0 : Int) ≤ (i : Int) + 1 - 1 := by omega
  have q1 : (i : Int) + 1 - 1 < (ws.length : Int) := by omega
  have q2 : ((i : Int) + 1 - 1) = (i : Int) := by omega
  go_quiet (fail)
  go_wp2_with fail
  go_ret
  exact ⟨rfl, ((HR.out.keep (below_drewN (Below.refl _ _) _)).setI (i + 1) HL.out).keep (below_drewN (Below.refl _ _) _), grown_trans (grown_trans (grown_of_below (below_drewN (Below.refl _ _) _) _) (grown_set _ rb 1 _)) (grown_of_below (below_drewN (Below.refl _ _) _) _)⟩
set_option maxHeartbeats 2000000 in
theorem kind_pb {w : World} {rb : Nat} {v : Value} {ws : List Wd} {i en : Nat} (k : Nat) (h : Rq w rb v ws i en) (hk : kindAt ws i ≠ k) :
    Calls Tryz.prog 138 #[.pointer (some ⟨rb, 0, none⟩), .int .i64 k] w fun e w' => e = badP ws en i ∧ w.grownBy w' (some rb) := by
  obtain ⟨A, cap, rfl, hform⟩ := h.row.form
  have c0 := h.c0; have c1 := h.c1
  have hn := h.len; have hp := h.pos
  have HR := Lib.hid h
  by_cases hlt : i < ws.length
  · obtain ⟨x, hx⟩ : ∃ x, ws[i]? = some x := ⟨_, List.getElem?_eq_getElem hlt⟩
    obtain ⟨g, rfl, hg, d0, d1, d2⟩ := hform i x hx
    have hkx : x.kind ≠ k := by unfold kindAt at hk; rw [hx] at hk; exact hk
    have e0 : (((x.kind : Nat) : Int) != ((k : Nat) : Int)) = true := by rw [bne_iff_ne]; omega
    have e1 : ((i : Int) == (ws.length : Int)) = false := beq_eq_false_iff_ne.2 (by omega)
    have k0 : (0 : Int) ≤ (i : Int) := by omega
    have k1 : (i : Int) < (ws.length : Int) := by omega
    clear h hk hform hx d1 d2 hkx
    go_enter Tryz.func138, Tryz.ntmps138
    go_wp2_with fail
    go_quiet (fail)
    go_wp2_with fail
    refine (at_p (HR.out.keep (below_drewN (Below.refl _ _) _))).mono ?_
    rintro e w2 ⟨rfl, hb⟩
    have HG2 := Lib.hid (grown_of_below ((below_drewN (Below.refl w.heap.size w) _).trans hb) (some rb))
    clear hb
    go_wp2_with fail
    exact ⟨rfl, rfl, HG2.out⟩
  · have hi : i = ws.length := by omega
    have e1 : ((i : Int) == (ws.length : Int)) = true := beq_iff_eq.2 (by omega)
    have HI := Lib.hid hi
    clear h hk hform hi
    go_enter Tryz.func138, Tryz.ntmps138
    go_wp2_with fail
    go_quiet (fail)
    go_wp2_with fail
    refine (at_p (HR.out.keep (below_drewN (Below.refl _ _) _))).mono ?_
    rintro e w2 ⟨rfl, hb⟩
    have HG2 := Lib.hid (grown_of_below ((below_drewN (Below.refl w.heap.size w) _).trans hb) (some rb))
    clear hb
    go_wp2_with fail
    exact ⟨rfl, rfl, HG2.out⟩
end Go.Proofs.YtmngofgminlloaaGreatDoor

namespace Go.Proofs.YtmngofgminlloaaGreatDoor
open Go.RowKit Tw

section
variable {ws : List Wd} {en i : Nat}
theorem out_neg {y : Ex} {i' : Nat} {b' : Bool} (hh : headQ ws i = 1) (hO : OutE ws en (.one (i + 1)) false y i' b') : OutE ws en (.one i) false (.mk 4 0 sNone [y] (posAt ws i en)) i' b' := by
  have h0 := hO.1
  simp only [Qe.at] at h0
  exact ⟨by simp only [Qe.at]; omega, by simp, fun _ e => ⟨by simp only [Qe.at]; omega, .neg hh (hO.2.2.1 rfl e).2⟩, fun _ e => .negB hh (hO.2.2.2 rfl e)⟩
theorem out_not {y : Ex} {i' : Nat} {b' : Bool} (hh : headQ ws i = 2) (hO : OutE ws en (.one (i + 1)) false y i' b') : OutE ws en (.one i) false (.mk 5 0 sNone [y] (posAt ws i en)) i' b' := by
  have h0 := hO.1
  simp only [Qe.at] at h0
  exact ⟨by simp only [Qe.at]; omega, by simp, fun _ e => ⟨by simp only [Qe.at]; omega, .not hh (hO.2.2.1 rfl e).2⟩, fun _ e => .notB hh (hO.2.2.2 rfl e)⟩
theorem out_par {y : Ex} {i' i2 : Nat} {b' b2 : Bool} (hh : headQ ws i = 3) (hO : OutE ws en (.lvl 1 (i + 1)) false y i' b') (hW : WantS ws sClose i' b' i2 b2) : OutE ws en (.one i) false y i2 b2 := by
  have h0 := hO.1
  simp only [Qe.at] at h0
  rcases want_cases hW with ⟨rfl, h1, rfl, rfl⟩ | ⟨rfl, h1, rfl, rfl⟩ | ⟨rfl, rfl, rfl⟩
  · exact ⟨by simp only [Qe.at]; omega, by simp, fun _ _ => ⟨by simp only [Qe.at]; omega, .par hh (hO.2.2.1 rfl rfl).2 h1⟩, by simp⟩
  · exact ⟨by simp only [Qe.at]; omega, by simp, by simp, fun _ _ => .parC hh (hO.2.2.1 rfl rfl).2 h1⟩
  · exact ⟨by simp only [Qe.at]; omega, by simp, by simp, fun _ _ => .parB hh (hO.2.2.2 rfl rfl)⟩
theorem out_tru (hh : headQ ws i = 4) : OutE ws en (.one i) false (.mk 2 1 sNone [] (posAt ws i en)) (i + 1) false :=
  ⟨by simp only [Qe.at]; omega, by simp, fun _ _ => ⟨by simp only [Qe.at]; omega, .tru hh⟩, by simp⟩
theorem out_fls (hh : headQ ws i = 5) : OutE ws en (.one i) false (.mk 2 0 sNone [] (posAt ws i en)) (i + 1) false :=
  ⟨by simp only [Qe.at]; omega, by simp, fun _ _ => ⟨by simp only [Qe.at]; omega, .fls hh⟩, by simp⟩
theorem out_host {s : ByteArray} {i1 i2 i3 : Nat} {b1 b2 b3 : Bool} {l : List Ex} (hh : headQ ws i = 6) (hK : KindS ws (1 : Nat) (i + 1) false s i1 b1) (hW : WantS ws sOpen i1 b1 i2 b2) (hA : OutA ws en 0 i2 b2 l i3 b3) :
    OutE ws en (.one i) false (.mk 8 (numV s) sNone l (posAt ws i en)) i3 b3 := by
  have h0 := hA.1
  rcases kind_cases (by decide) hK with ⟨_, hk, rfl, rfl, rfl⟩ | ⟨_, hk, rfl, rfl, rfl⟩ | ⟨h, _⟩
  · rcases want_cases hW with ⟨_, h1, rfl, rfl⟩ | ⟨_, h1, rfl, rfl⟩ | ⟨h, _⟩
    · exact ⟨by simp only [Qe.at]; omega, by simp, fun _ e => ⟨by simp only [Qe.at]; omega, .host hh hk h1 (hA.2.2.1 rfl e).2⟩, fun _ e => .hostB hh hk h1 (hA.2.2.2 rfl e)⟩
    · obtain ⟨rfl, rfl⟩ := hA.2.1 rfl
      exact ⟨by simp only [Qe.at]; omega, by simp, by simp, fun _ _ => .hostC hh hk h1⟩
    · cases h
  · rcases want_cases hW with ⟨h, _⟩ | ⟨h, _⟩ | ⟨_, rfl, rfl⟩
    · cases h
    · cases h
    · obtain ⟨rfl, rfl⟩ := hA.2.1 rfl
      exact ⟨by simp only [Qe.at]; omega, by simp, by simp, fun _ _ => .hostD hh hk⟩
  · cases h
/-- The six signs with which an operand begins do not stand there. -/
def NoHead (ws : List Wd) (i : Nat) : Prop :=
  isAt ws i sMinus = false ∧ isAt ws i sBang = false ∧ isAt ws i sOpen = false ∧ isAt ws i sTrue = false ∧ isAt ws i sFalse = false ∧ isAt ws i sHost = false
theorem NoHead.q {ws : List Wd} {i : Nat} (h : NoHead ws i) : headQ ws i = if kindAt ws i = 1 then 7 else if kindAt ws i = 2 then 8 else 0 := by
  obtain ⟨h1, h2, h3, h4, h5, h6⟩ := h
  unfold headQ; simp [h1, h2, h3, h4, h5, h6]
theorem out_num {s : ByteArray} {i1 : Nat} {b1 : Bool} (hn : NoHead ws i) (hk : kindAt ws i = 1) (hK : KindS ws (1 : Nat) i false s i1 b1) : OutE ws en (.one i) false (.mk 1 (numV s) sNone [] (posAt ws i en)) i1 b1 := by
  have hh : headQ ws i = 7 := by rw [hn.q, if_pos hk]
  rcases kind_cases (by decide) hK with ⟨_, _, rfl, rfl, rfl⟩ | ⟨_, h, _⟩ | ⟨h, _⟩
  · exact ⟨by simp only [Qe.at]; omega, by simp, fun _ _ => ⟨by simp only [Qe.at]; omega, .num hh⟩, by simp⟩
  · exact absurd hk h
  · cases h
theorem out_var {s : ByteArray} {i1 : Nat} {b b1 : Bool} (hh : b = false → NoHead ws i ∧ kindAt ws i ≠ 1) (hK : KindS ws (2 : Nat) i b s i1 b1) (hs : seeB ws i1 b1 sOpen = false) : OutE ws en (.one i) b (.mk 3 0 s [] (posAt ws i en)) i1 b1 := by
  rcases kind_cases (by decide) hK with ⟨rfl, hk, rfl, rfl, rfl⟩ | ⟨rfl, hk, rfl, rfl, rfl⟩ | ⟨rfl, rfl, rfl, rfl⟩
  · have hq : headQ ws i = 8 := by rw [(hh rfl).1.q, if_neg (hh rfl).2, if_pos hk]
    exact ⟨by simp only [Qe.at]; omega, by simp, fun _ _ => ⟨by simp only [Qe.at]; omega, .var hq (seeB_no hs)⟩, by simp⟩
  · exact ⟨by simp only [Qe.at]; omega, by simp, by simp, fun _ _ => .nobody (by rw [(hh rfl).1.q, if_neg (hh rfl).2, if_neg hk])⟩
  · exact ⟨by simp only [Qe.at]; omega, fun _ => ⟨rfl, rfl⟩, by simp, by simp⟩
theorem out_call {s : ByteArray} {i1 i3 : Nat} {b b1 b3 : Bool} {l : List Ex} (hh : b = false → NoHead ws i ∧ kindAt ws i ≠ 1) (hK : KindS ws (2 : Nat) i b s i1 b1) (hs : seeB ws i1 b1 sOpen = true) (hA : OutA ws en 0 (i1 + 1) b1 l i3 b3) :
    OutE ws en (.one i) b (.mk 7 0 s l (posAt ws i en)) i3 b3 := by
  have h0 := hA.1
  rcases kind_cases (by decide) hK with ⟨rfl, hk, rfl, rfl, rfl⟩ | ⟨rfl, hk, rfl, rfl, rfl⟩ | ⟨rfl, rfl, rfl, rfl⟩
  · have hq : headQ ws i = 8 := by rw [(hh rfl).1.q, if_neg (hh rfl).2, if_pos hk]
    exact ⟨by simp only [Qe.at]; omega, by simp, fun _ e => ⟨by simp only [Qe.at]; omega, .call hq (seeB_yes hs).2 (hA.2.2.1 rfl e).2⟩, fun _ e => .callB hq (seeB_yes hs).2 (hA.2.2.2 rfl e)⟩
  · exact absurd (seeB_yes hs).1 (by simp)
  · exact absurd (seeB_yes hs).1 (by simp)
theorem head1 (h1 : isAt ws i sMinus = true) : headQ ws i = 1 := by unfold headQ; simp [h1]
theorem head2 (h1 : isAt ws i sMinus = false) (h2 : isAt ws i sBang = true) : headQ ws i = 2 := by unfold headQ; simp [h1, h2]
theorem head3 (h1 : isAt ws i sMinus = false) (h2 : isAt ws i sBang = false) (h3 : isAt ws i sOpen = true) : headQ ws i = 3 := by unfold headQ; simp [h1, h2, h3]
theorem head4 (h1 : isAt ws i sMinus = false) (h2 : isAt ws i sBang = false) (h3 : isAt ws i sOpen = false) (h4 : isAt ws i sTrue = true) : headQ ws i = 4 := by unfold headQ; simp [h1, h2, h3, h4]
theorem head5 (h1 : isAt ws i sMinus = false) (h2 : isAt ws i sBang = false) (h3 : isAt ws i sOpen = false) (h4 : isAt ws i sTrue = false) (h5 : isAt ws i sFalse = true) : headQ ws i = 5 := by unfold headQ; simp [h1, h2, h3, h4, h5]
theorem head6 (h1 : isAt ws i sMinus = false) (h2 : isAt ws i sBang = false) (h3 : isAt ws i sOpen = false) (h4 : isAt ws i sTrue = false) (h5 : isAt ws i sFalse = false) (h6 : isAt ws i sHost = true) : headQ ws i = 6 := by unfold headQ; simp [h1, h2, h3, h4, h5, h6]
end

theorem kind_size {ws : List Wd} {i : Nat} {b : Bool} {s : ByteArray} {i' : Nat} {b' : Bool} (hN : NumsOk ws) (h : KindS ws 1 i b s i' b') : s.size ≤ 18 := by
  rcases h with ⟨_, ⟨x, h2, h3, rfl⟩, _⟩ | ⟨_, rfl, _⟩
  · exact hN x (List.mem_of_getElem? h2) (Int.ofNat_inj.1 h3)
  · decide
theorem host_lt {ws : List Wd} {i : Nat} {b : Bool} {s s' : ByteArray} {i1 i2 : Nat} {b1 b2 : Bool} (h : KindS ws 1 (i + 1) b s i1 b1) (hW : WantS ws s' i1 b1 i2 b2) : i < i2 := by
  have h1 : i < i1 := by rcases h with ⟨_, _, h, _⟩ | ⟨_, _, h, _⟩ <;> omega
  rcases hW with ⟨_, h, _⟩ | ⟨_, h, _⟩ <;> omega

theorem out_var_le {ws : List Wd} {k : Int} {i : Nat} {b : Bool} {s : ByteArray} {i1 : Nat} {b1 : Bool} (h : KindS ws k i b s i1 b1) : i ≤ i1 := by
  rcases h with ⟨_, _, h, _⟩ | ⟨_, _, h, _⟩ <;> omega

theorem args_one {w W : World} {F0 F : Nat → Prop} {y : Ex} {va : Value} {n b1 cap T : Nat} (hA : ArgsIn w F0 va y.args) (hg : w.grownBy W (some b1)) (hF0 : ∀ g, F0 g → g ≠ b1 ∧ F g) (hn : W.heap.size = n) (hFn : F n) :
    ArgsIn (W.alloc (.cells #[.int .i64 y.kind, .int .i64 y.n, .string y.text, va, .int .i64 y.pos] T)) F (.slice (some ⟨n, 0, none⟩) 1 cap) [y] := by
  subst hn
  refine ArgsIn.of_block [(y, va)] #[.int .i64 y.kind, .int .i64 y.n, .string y.text, va, .int .i64 y.pos] rfl (heap_alloc_new W _) hFn fun a ha => ?_
  simp at ha; subst ha
  refine hA.keep fun g h1 h2 => ⟨(hF0 g h1).2, ?_, ?_⟩
  · have := hg.size; simp; omega
  · rw [heap_alloc_old W _ (Nat.lt_of_lt_of_le h2 hg.size)]
    exact hg.block g h2 (by simp; exact (hF0 g h1).1)
end Go.Proofs.YtmngofgminlloaaGreatDoor

namespace Go.Proofs.YtmngofgminlloaaGreatDoor
open Go.RowKit Tw

def badOf (w : World) (rb : Nat) : Bool := match w.cell? ⟨rb, 3, none⟩ with | some (.bool b) => b | _ => false
theorem Rd.badOf {w : World} {rb : Nat} {v : Value} {ws : List Wd} {i en : Nat} {b : Bool} (h : Rd w rb v ws i en b) : badOf w rb = b := by
  unfold Go.Proofs.YtmngofgminlloaaGreatDoor.badOf; rw [h.c3]
/-- How much is left to read. -/
def leftOf (ws : List Wd) (w : World) (rb : Nat) : Nat := 2 * (ws.length - placeOf w rb) + (if badOf w rb then 0 else 1)
theorem Rd.left {w : World} {rb : Nat} {v : Value} {ws : List Wd} {i en : Nat} {b : Bool} (h : Rd w rb v ws i en b) : leftOf ws w rb = 2 * (ws.length - i) + (if b then 0 else 1) := by
  unfold leftOf; rw [h.place, h.badOf]
/-- A round: something has been read, or the reader has failed. -/
theorem Rd.less {w w' : World} {rb : Nat} {v : Value} {ws : List Wd} {i en i' : Nat} {b' : Bool} (h : Rd w rb v ws i en false) (h' : Rd w' rb v ws i' en b') (hi : i ≤ i') (hx : b' = false → i < i') : leftOf ws w' rb < leftOf ws w rb := by
  rw [h.left, h'.left]
  have := h'.pos
  cases b' with
  | true => simp; omega
  | false => have := hx rfl; simp; omega

/-- Behind some arguments. -/
structure InA (ws : List Wd) (en i : Nat) (b : Bool) (l : List Ex) (i' : Nat) (b' : Bool) : Prop where
  le : i ≤ i'
  bt : b = true → b' = true ∧ i' = i
  len : l.length ≤ i' + (if b' then 1 else 0)
  okk : b = false → b' = false → (∀ m j, De ws en (.args l.length i') (.exs m j) → De ws en (.args 0 i) (.exs (l ++ m) j)) ∧ (∀ j, De ws en (.args l.length i') (.bad j) → De ws en (.args 0 i) (.bad j))
  bad : b = false → b' = true → De ws en (.args 0 i) (.bad i')
def CommaS (ws : List Wd) (k i' i2 : Nat) (b2 : Bool) : Prop := (k = 0 ∧ i2 = i' ∧ b2 = false) ∨ (k ≠ 0 ∧ WantS ws sComma i' false i2 b2)
section
variable {ws : List Wd} {en i : Nat} {b : Bool} {l : List Ex} {i' : Nat}
theorem InA.start' (ws : List Wd) (en i : Nat) (b : Bool) : InA ws en i b [] i b :=
  ⟨Nat.le_refl _, fun e => ⟨e, rfl⟩, by simp, fun _ _ => ⟨fun m j h => h, fun j h => h⟩, fun e e' => absurd (e.symm.trans e') (by decide)⟩
theorem InA.close (h : InA ws en i b l i' false) (hc : isAt ws i' sClose = true) : OutA ws en 0 i b l (i' + 1) false := by
  have hle := h.le
  refine ⟨by omega, fun e => absurd (h.bt e).1 (by decide), fun e _ => ⟨by omega, ?_⟩, fun _ e => absurd e (by decide)⟩
  simpa using (h.okk e rfl).1 [] (i' + 1) (.close hc)
theorem InA.out (h : InA ws en i b l i' true) : OutA ws en 0 i b l i' true :=
  ⟨h.le, h.bt, fun _ e => absurd e (by decide), fun e _ => h.bad e rfl⟩
theorem InA.step {x : Ex} {i2 i3 : Nat} {b2 b3 : Bool} (h : InA ws en i b l i' false) (hc : isAt ws i' sClose = false) (hk : CommaS ws l.length i' i2 b2) (hO : OutE ws en (.lvl 1 i2) b2 x i3 b3) :
    InA ws en i b (l ++ [x]) i3 b3 ∧ i' ≤ i3 ∧ (b3 = false → i' < i3) := by
  have h0 := hO.1
  simp only [Qe.at] at h0
  have hle := h.le
  have hlen := h.len
  simp only [Bool.false_eq_true, if_false, Nat.add_zero] at hlen
  have hb : b = false := by cases b with | false => rfl | true => have := (h.bt rfl).1; cases this
  have hok := h.okk hb rfl
  rcases hk with ⟨hk, rfl, rfl⟩ | ⟨hk, hW⟩
  · have hl : l = [] := List.eq_nil_of_length_eq_zero hk
    subst hl
    cases b3 with
    | false =>
      obtain ⟨h1, h2⟩ := hO.2.2.1 rfl rfl
      simp only [Qe.at] at h1
      exact ⟨⟨by omega, fun e => absurd (hb.symm.trans e) (by decide), by simp; omega, fun _ _ => ⟨fun m j h => hok.1 _ _ (.first hc h2 h), fun j h => hok.2 _ (.firstR hc h2 h)⟩, fun _ e => absurd e (by decide)⟩, by omega, fun _ => by omega⟩
    | true =>
      exact ⟨⟨by omega, fun e => absurd (hb.symm.trans e) (by decide), by simp, fun _ e => absurd e (by decide), fun _ _ => hok.2 _ (.firstB hc (hO.2.2.2 rfl rfl))⟩, by omega, fun e => absurd e (by decide)⟩
  · obtain ⟨k, hk⟩ : ∃ k, l.length = k + 1 := ⟨l.length - 1, by omega⟩
    rw [hk] at hok
    rcases want_cases hW with ⟨_, ha, rfl, rfl⟩ | ⟨_, ha, rfl, rfl⟩ | ⟨e, _⟩
    · cases b3 with
      | false =>
        obtain ⟨h1, h2⟩ := hO.2.2.1 rfl rfl
        simp only [Qe.at] at h1
        refine ⟨⟨by omega, fun e => absurd (hb.symm.trans e) (by decide), by simp; omega, fun _ _ => ⟨fun m j h => ?_, fun j h => ?_⟩, fun _ e => absurd e (by decide)⟩, by omega, fun _ => by omega⟩
        · have := hok.1 _ _ (.next hc ha h2 (by simpa [hk] using h)); simpa using this
        · exact hok.2 _ (.nextR hc ha h2 (by simpa [hk] using h))
      | true =>
        exact ⟨⟨by omega, fun e => absurd (hb.symm.trans e) (by decide), by simp; omega, fun _ e => absurd e (by decide), fun _ _ => hok.2 _ (.nextB hc ha (hO.2.2.2 rfl rfl))⟩, by omega, fun e => absurd e (by decide)⟩
    · obtain ⟨rfl, rfl⟩ := hO.2.1 rfl
      exact ⟨⟨by omega, fun e => absurd (hb.symm.trans e) (by decide), by simp; omega, fun _ e => absurd e (by decide), fun _ _ => hok.2 _ (.nextC hc ha)⟩, by omega, fun e => absurd e (by decide)⟩
    · cases e
end
theorem comma_le {ws : List Wd} {en i : Nat} {b : Bool} {l : List Ex} {i' k i2 : Nat} {b2 : Bool} (h : InA ws en i b l i' false) (hk : CommaS ws k i' i2 b2) : i ≤ i2 := by
  have := h.le
  rcases hk with ⟨_, rfl, _⟩ | ⟨_, h | h⟩
  · exact this
  · omega
  · omega
/-- What is kept by an append to a row of new blocks. -/
theorem rd_app {w w' : World} {rb : Nat} {v : Value} {ws : List Wd} {i en : Nat} {b : Bool} {row : Option Nat} (h : Rd w rb v ws i en b) (hg : w.grownBy w' row) (hk : ∀ k, row = some k → rb < k) : Rd w' rb v ws i en b :=
  ⟨(hg.block rb h.lt (fun e => by have := hk rb e.symm; omega)).trans h.blk, h.row.same fun j hj => hg.block j (Nat.lt_trans hj h.lt) (fun e => by have := hk j e.symm; omega), h.len, h.pos⟩
theorem grown_app {w w' w2 : World} {r : Nat} {row : Option Nat} (h : w.grownBy w' (some r)) (k : w'.grownBy w2 row) (hb : ∀ k, row = some k → w.heap.size ≤ k) : w.grownBy w2 (some r) :=
  ⟨k.os.trans h.os, k.tape.trans h.tape, k.output.trans h.output, Nat.le_trans h.size k.size, fun j hj hr => (k.block j (Nat.lt_of_lt_of_le hj h.size) (fun e => by have := hb j e.symm; omega)).trans (h.block j hj hr)⟩
theorem elemEx : ElemOk Tryz.prog 184 186 5 := ⟨Tryz.underlying184, by kernel_rfl, by decide⟩

set_option maxRecDepth 100000 in
set_option maxHeartbeats 8000000 in
theorem args_c (rb : Nat) (v : Value) (ws : List Wd) (en i : Nat) (hr : 10 < rb) (h1 : ∀ j, i ≤ j → LvlC rb v ws en 1 j) : ArgsC rb v ws en i := by
  intro w b h hG
  have H1 := Lib.hid h1; have HR := Lib.hid h; have HG := Lib.hid hG
  have hrl := h.lt
  clear h1 h hG
  go_enter Tryz.func232, Tryz.ntmps232
  go_wp2_with fail
  go_loopw [3, 4] (fun o k wr => ∃ (l : List (Ex × Value)) (A : Option Addr) (c i' : Nat) (b' : Bool), o = .slice A l.length c ∧ k = .int .i64 l.length ∧ Hid (GRow exElem wr w.heap.size 186 5 (.slice A l.length c) l) ∧ Hid (Rd wr rb v ws i' en b') ∧ Hid (InA ws en i b (l.map (·.1)) i' b') ∧ Hid (w.grownBy wr (some rb)))
    (fun _ _ wr => leftOf ws wr rb)
  case atStart => exact ⟨[], none, 0, i, b, rfl, rfl, Lib.hid (GRow.nil _ _ _ _ _), HR, Lib.hid (InA.start' _ _ _ _), Lib.hid (grown_of_below (Below.refl _ _) _)⟩
  case round =>
    obtain ⟨l, A, c, i', b', rfl, rfl, HW, HR', HI, Hgr⟩ := hrel
    clear HR
    obtain ⟨t, ht⟩ : ∃ t, seeB ws i' b' sClose = t := ⟨_, rfl⟩
    have T := Lib.hid ht
    go_wp2_with fail
    refine (take_r sClose t HR'.out ht).mono ?_
    rintro e w1 ⟨rfl, hR, hg⟩
    have hsz := Hgr.out.size
    have HW1 := Lib.hid (HW.out.kept hg (fun k e => .inl (by cases e; exact hrl)))
    have HR1 := Lib.hid hR
    have Hg1 := Lib.hid (grown_trans Hgr.out hg)
    clear hR hg ht HW Hgr
    cases t with
    | true =>
      obtain ⟨rfl, ha⟩ := seeB_yes T.out
      have HA := Lib.hid ha; clear ha
      go_wp2_with fail
      go_ret
      exact ⟨l.map (·.1), A, c, i' + 1, false, by rw [List.length_map]; rfl, by rw [List.length_map]; exact HW1.out.args, by simpa using HR1.out, Hg1.out, HI.out.close HA.out⟩
    | false =>
      cases b' with
      | true =>
        have c3 := HR1.out.c3
        go_wp2_with fail
        go_ret
        exact ⟨l.map (·.1), A, c, i', true, by rw [List.length_map]; rfl, by rw [List.length_map]; exact HW1.out.args, by simpa using HR1.out, Hg1.out, HI.out.out⟩
      | false =>
        simp only [Bool.false_eq_true, if_false] at HR1
        have c3 := HR1.out.c3
        have HA := Lib.hid (seeB_no T.out)
        clear T
        go_upto_if 18 with (fail)
        go_cut [] (fun W => ∃ (i2 : Nat) (b2 : Bool), Hid (Rd W rb v ws i2 en b2) ∧ Hid (CommaS ws l.length i' i2 b2) ∧ Hid (w1.grownBy W (some rb)))
        case first =>
          by_cases hl : l.length = 0
          · have HL := Lib.hid hl; clear hl
            go_wp2_with fail
            · exfalso; have := HL.out; omega
            go_meet
            case rel => exact ⟨i', false, HR1, Lib.hid (.inl ⟨HL.out, rfl, rfl⟩), Lib.hid (grown_of_below (Below.refl _ _) _)⟩
          · have e0 : 0 < l.length := by omega
            have HL := Lib.hid hl; clear hl
            go_wp2_with fail
            refine (want_r sComma HR1.out).mono ?_
            rintro e w2 ⟨rfl, ⟨i2, k2, hR, hW⟩, hg⟩
            have HR2 := Lib.hid hR; have HW2 := Lib.hid hW; have HG2 := Lib.hid hg
            clear hR hW hg
            go_wp2_with fail
            go_meet
            case rel => exact ⟨i2, k2, HR2, Lib.hid (.inr ⟨HL.out, HW2.out⟩), HG2⟩
        case rest =>
          obtain ⟨i2, b2, HR2, HC, HG2⟩ := hcut
          have HW2 := Lib.hid (HW1.out.kept HG2.out (fun k e => .inl (by cases e; exact hrl)))
          have Hg2 := Lib.hid (grown_trans Hg1.out HG2.out)
          clear c3
          go_wp2_with fail
          refine (H1.out i2 (comma_le HI.out HC.out) wc b2 HR2.out (HG.out.of Hg2.out hr)).mono ?_
          rintro e w3 ⟨x, A3, c3, i3, b3, rfl, hA, hR, hO, hg⟩
          have hsz2 := Hg2.out.size
          have HA3 := Lib.hid hA; have HR3 := Lib.hid hR; have HO3 := Lib.hid hO
          have HW3 := Lib.hid (HW2.out.kept hg (fun k e => .inl (by cases e; exact hrl)))
          have Hg3 := Lib.hid (grown_trans Hg2.out hg)
          have hlt := HW2.out.1.lt
          have HS := Lib.hid (HI.out.step HA.out (by rw [List.length_map]; exact HC.out) HO3.out)
          have hn : l.length ≤ 4000 := by
            have := HI.out.len; have := HR'.out.pos; have := HR'.out.len; simp at *; omega
          have hsz3 := hg.size
          clear hA hR hO hg
          go_wp2_with ((at_builtin; go_must (refine wpList_app1 elemEx rfl _ _ rfl w.heap.size _ l.length (l.flatMap exElem.cells) rfl (HW3.out.1.alloc _) w3.heap.size 1 #[.int .i64 x.kind, .int .i64 x.n, .string x.text, .slice A3 x.args.length c3, .int .i64 x.pos] rfl (heap_alloc_new w3 _) rfl (by simp [Value.oneCell']) (by omega) (by simp; omega) ?_); intro g4 cap4 w4 hown4 hgrow4 hat4 hlt4))
          have hg4 : (w3.alloc (.cells #[.int .i64 x.kind, .int .i64 x.n, .string x.text, .slice A3 x.args.length c3, .int .i64 x.pos] 186)).grownBy w4 (Value.slice A l.length c).ownBlock := hgrow4
          have ha4 : (Value.slice A l.length c).ownBlock = some g4 ∨ g4 = (w3.alloc (.cells #[.int .i64 x.kind, .int .i64 x.n, .string x.text, .slice A3 x.args.length c3, .int .i64 x.pos] 186)).heap.size := hat4
          have hk4 : exElem.kid (w3.alloc (.cells #[.int .i64 x.kind, .int .i64 x.n, .string x.text, .slice A3 x.args.length c3, .int .i64 x.pos] 186)) (fun g => wc.heap.size ≤ g) (x, .slice A3 x.args.length c3) := HA3.out.keep fun g h1 h2 => ⟨h1, by simp; omega, heap_alloc_old w3 _ h2⟩
          have HW4 := Lib.hid (GRow.app (HW3.out.below ((Below.refl _ _).alloc (Nat.le_refl _) _)) hk4
            (fun g hg => ⟨by omega, fun e => by have := (hlt g e).2; omega⟩) hown4 hg4 ha4)
          have hrow : ∀ k, (Value.slice A l.length c).ownBlock = some k → w.heap.size ≤ k := fun k e => (hlt k e).1
          have HR4 := Lib.hid (rd_app (HR3.out.keep ((Below.refl _ _).alloc (Nat.le_refl _) _)) hg4 (fun k e => by have := hrow k e; omega))
          have Hg4 := Lib.hid (grown_app (grown_trans Hg3.out (grown_of_below ((Below.refl _ _).alloc (Nat.le_refl _) _) _)) hg4 hrow)
          clear hgrow4 hat4 hown4 hg4 ha4 hk4
          go_roundw
          case rel => exact ⟨l ++ [(x, .slice A3 x.args.length c3)], some ⟨g4, 0, none⟩, cap4, i3, b3, by simp, by simp, by simpa using HW4, HR4, by simpa using (Lib.hid HS.out.1 : Hid _), Hg4⟩
          case measure => exact HR'.out.less HR4.out HS.out.2.1 HS.out.2.2
end Go.Proofs.YtmngofgminlloaaGreatDoor

namespace Go.Proofs.YtmngofgminlloaaGreatDoor
open Go.RowKit Tw

def signsL : Nat → List ByteArray
  | 1 => [⟨#[124, 124]⟩]
  | 2 => [⟨#[38, 38]⟩]
  | 3 => [⟨#[60]⟩, ⟨#[60, 61]⟩, ⟨#[62]⟩, ⟨#[62, 61]⟩, ⟨#[61, 61]⟩, ⟨#[33, 61]⟩]
  | 4 => [⟨#[43]⟩, ⟨#[45]⟩]
  | 5 => [⟨#[42]⟩, ⟨#[47]⟩, ⟨#[37]⟩]
  | _ => []
def signsS : Nat → ByteArray
  | 1 => ⟨#[124, 124]⟩
  | 2 => ⟨#[38, 38]⟩
  | 3 => ⟨#[60, 32, 60, 61, 32, 62, 32, 62, 61, 32, 61, 61, 32, 33, 61]⟩
  | 4 => ⟨#[43, 32, 45]⟩
  | 5 => ⟨#[42, 32, 47, 32, 37]⟩
  | _ => ⟨#[]⟩
theorem signs_lv (n : Nat) (h1 : 1 ≤ n) (h5 : n ≤ 5) (x : ByteArray) : Lib.containsS (signsL n) x = (lv x.data.toList == n) := by
  have key : ∀ a : Array UInt8, ∀ y : ByteArray, y = ⟨a⟩ ↔ y.data.toList = a.toList := fun a y => by
    constructor
    · rintro rfl; rfl
    · intro h; cases y with | mk d => congr 1; exact Array.toList_inj.1 h
  rw [Bool.eq_iff_iff, Lib.containsS_iff, beq_iff_eq]
  generalize hl : x.data.toList = l
  have e : ∀ a : Array UInt8, x = ⟨a⟩ ↔ l = a.toList := fun a => by rw [key, hl]
  obtain rfl | rfl | rfl | rfl | rfl : n = 1 ∨ n = 2 ∨ n = 3 ∨ n = 4 ∨ n = 5 := by omega
  all_goals
    simp only [signsL, List.mem_cons, List.mem_nil_iff, or_false, e]
    unfold lv
    constructor
    · intro h
      repeat' (first | (subst h; decide) | rcases h with h | h)
    · intro h
      repeat' (split at h)
      all_goals first | (exfalso; omega) | (simp_all; done) | (simp_all)
theorem fields_signs (n : Nat) (h1 : 1 ≤ n) (h5 : n ≤ 5) : (Lib.fields (signsS n).data.toList).map (fun l => Value.string ⟨l.toArray⟩) = (signsL n).map Value.string := by
  obtain rfl | rfl | rfl | rfl | rfl : n = 1 ∨ n = 2 ∨ n = 3 ∨ n = 4 ∨ n = 5 := by omega
  all_goals rfl

theorem signs_ascii (n : Nat) (h1 : 1 ≤ n) (h5 : n ≤ 5) : (signsS n).size < 4294967281 ∧ ∀ (j : Nat) b, (signsS n).data.toList[j]? = some b → b.toNat < 128 := by
  obtain rfl | rfl | rfl | rfl | rfl : n = 1 ∨ n = 2 ∨ n = 3 ∨ n = 4 ∨ n = 5 := by omega
  all_goals
    refine ⟨by decide, fun j b hb => ?_⟩
    have := List.mem_of_getElem? hb
    revert this
    generalize hl : b = c
    clear hb hl
    revert c
    decide
theorem fields_at (n : Nat) (h1 : 1 ≤ n) (h5 : n ≤ 5) (w : World) : (∀ j, j < (signsL n).length → (w.alloc (.cells ((Lib.fields (signsS n).data.toList).map fun l => Value.string ⟨l.toArray⟩).toArray 9)).cell? ⟨w.heap.size, 0 + j, none⟩ = some (.string ((signsL n).getD j ByteArray.empty))) ∧ (Lib.fields (signsS n).data.toList).length = (signsL n).length := by
  have hf := fields_signs n h1 h5
  refine ⟨fun j hj => ?_, by simpa using congrArg List.length hf⟩
  rw [hf, Nat.zero_add, Lib.cell_of_heap (heap_alloc_new w _) j]
  simp [List.getD, hj]
set_option maxHeartbeats 1000000 in
theorem signs_c (n : Nat) (h1 : 1 ≤ n) (h5 : n ≤ 5) (w : World) (hg : Glob w) :
    Calls Tryz.prog 202 #[.int .i64 n] w fun e w' => (∃ g, e = .returned (.slice (some ⟨g, 0, none⟩) (signsL n).length (signsL n).length) ∧ ∀ j, j < (signsL n).length → w'.cell? ⟨g, 0 + j, none⟩ = some (.string ((signsL n).getD j ByteArray.empty))) ∧ Below w.heap.size w w' := by
  have HF : ∀ W, Glob W → Calls Tryz.prog 79 #[.string (signsS n)] W fun e w' => (∃ g, e = .returned (.slice (some ⟨g, 0, none⟩) (signsL n).length (signsL n).length) ∧ ∀ j, j < (signsL n).length → w'.cell? ⟨g, 0 + j, none⟩ = some (.string ((signsL n).getD j ByteArray.empty))) ∧ Below W.heap.size W w' := by
    intro W hW
    obtain ⟨a1, a2⟩ := signs_ascii n h1 h5
    refine (Tryz.strings_Fields (signsS n) W a1 a2 hW.spc).mono ?_
    rintro e w' ⟨rfl, rfl⟩
    obtain ⟨b1, b2⟩ := fields_at n h1 h5 W
    exact ⟨⟨_, by rw [b2], b1⟩, (Below.refl _ _).alloc (Nat.le_refl _) _⟩
  have HF := Lib.hid HF; have HG := Lib.hid hg; clear hg
  obtain rfl | rfl | rfl | rfl | rfl : n = 1 ∨ n = 2 ∨ n = 3 ∨ n = 4 ∨ n = 5 := by omega
  all_goals
    clear h1 h5
    go_enter Tryz.func202, Tryz.ntmps202
    go_wp2_with fail
    refine (HF.out _ (HG.out.to ((Below.refl _ _).alloc (Nat.le_refl _) _))).mono ?_
    rintro e w1 ⟨⟨g, rfl, hc⟩, hb⟩
    have HC := Lib.hid hc; have HB := Lib.hid (((Below.refl w.heap.size w).alloc (Nat.le_refl _) _).trans (hb.mono (by simp)))
    clear hc hb
    go_wp2_with fail
    go_ret
    exact ⟨⟨g, rfl, HC.out⟩, HB.out⟩
set_option maxHeartbeats 1000000 in
/-- slices.Contains of a level's operators. -/
theorem contains_c (n : Nat) (h1 : 1 ≤ n) (h5 : n ≤ 5) (g : Nat) (x : ByteArray) (w : World) (hc : ∀ j, j < (signsL n).length → w.cell? ⟨g, 0 + j, none⟩ = some (.string ((signsL n).getD j ByteArray.empty))) (t : Bool) (ht : (lv x.data.toList == n) = t) :
    Calls Tryz.prog 201 #[.slice (some ⟨g, 0, none⟩) (signsL n).length (signsL n).length, .string x] w fun e w' => e = .returned (.bool t) ∧ w = w' := by
  have hl : (signsL n).length ≤ 9223372036854775807 := by
    obtain rfl | rfl | rfl | rfl | rfl : n = 1 ∨ n = 2 ∨ n = 3 ∨ n = 4 ∨ n = 5 := by omega
    all_goals decide
  refine (Tryz.slices_Contains_string g 0 (signsL n).length (signsL n).length (signsL n) x w (Nat.le_refl _) hl hc).mono ?_
  rintro e w' ⟨rfl, rfl⟩
  rw [List.take_length, signs_lv n h1 h5, ht]
  exact ⟨rfl, rfl⟩
end Go.Proofs.YtmngofgminlloaaGreatDoor

namespace Go.Proofs.YtmngofgminlloaaGreatDoor
open Go.RowKit Tw

section
variable {ws : List Wd} {en n i : Nat} {b : Bool} {a y : Ex} {i' i3 : Nat} {b3 : Bool}
theorem OutL.start {i1 : Nat} {b1 : Bool} (hn : n ≠ 6) (hO : OutE ws en (.lvl (n + 1) i) b a i1 b1) : OutL ws en n i b a i1 b1 :=
  ⟨hO.1, hO.2.1, fun e1 e2 => ⟨(hO.2.2.1 e1 e2).1, fun _ hr => .lvl hn (hO.2.2.1 e1 e2).2 hr⟩, fun e1 e2 => .lvlB hn (hO.2.2.2 e1 e2)⟩
theorem OutL.good (h : OutL ws en n i b a i' false) : b = false := by
  cases b with
  | false => rfl
  | true => exact absurd (h.2.1 rfl).1 (by decide)
theorem OutL.next (h3 : n ≠ 3) (h : OutL ws en n i b a i' false) (hl : lvAt ws i' = n) (hO : OutE ws en (.lvl (n + 1) (i' + 1)) false y i3 b3) : OutL ws en n i b (twoEx ws en i' a y) i3 b3 := by
  have hb := h.good
  have h0 := hO.1
  simp only [Qe.at] at h0
  have h1 := h.1
  refine ⟨by omega, fun e => absurd (hb.symm.trans e) (by decide), fun e1 e2 => ⟨by omega, fun _ hr => (h.2.2.1 hb rfl).2 _ (.go h3 hl (hO.2.2.1 rfl e2).2 hr)⟩, fun e1 e2 => (h.2.2.1 hb rfl).2 _ (.goB hl (hO.2.2.2 rfl e2))⟩
theorem OutL.last (h : OutL ws en 3 i b a i' false) (hl : lvAt ws i' = 3) (hO : OutE ws en (.lvl 4 (i' + 1)) false y i3 b3) (t : Bool) (ht : t = (b3 || lvAt ws i3 == 3)) : OutE ws en (.lvl 3 i) b (twoEx ws en i' a y) i3 t := by
  have hb := h.good
  have h0 := hO.1
  simp only [Qe.at] at h0
  have h1 := h.1
  refine ⟨by simp only [Qe.at]; omega, fun e => absurd (hb.symm.trans e) (by decide), fun e1 e2 => ?_, fun e1 e2 => ?_⟩
  · rw [e2] at ht
    obtain ⟨k1, k2⟩ := Bool.or_eq_false_iff.1 ht.symm
    exact ⟨by simp only [Qe.at]; omega, (h.2.2.1 hb rfl).2 _ (.cmp hl (hO.2.2.1 rfl k1).2 (by simpa using k2))⟩
  · cases b3 with
    | true => exact (h.2.2.1 hb rfl).2 _ (.goB hl (hO.2.2.2 rfl rfl))
    | false =>
      rw [e2] at ht
      exact (h.2.2.1 hb rfl).2 _ (.cmpB hl (hO.2.2.1 rfl rfl).2 (by simpa using ht.symm))
theorem OutL.stop (h : OutL ws en n i b a i' false) (hl : lvAt ws i' ≠ n) : OutE ws en (.lvl n i) b a i' false :=
  ⟨h.1, h.2.1, fun e1 e2 => ⟨(h.2.2.1 e1 e2).1, (h.2.2.1 e1 e2).2 _ (.stop hl)⟩, fun _ e => absurd e (by decide)⟩
theorem OutL.fail (h : OutL ws en n i b a i' true) : OutE ws en (.lvl n i) b a i' true :=
  ⟨h.1, h.2.1, fun _ e => absurd e (by decide), h.2.2.2⟩
end

theorem lt_of_some {w : World} {b : Nat} {o : Obj} (h : w.heap[b]? = some o) : b < w.heap.size := (Array.getElem?_eq_some_iff.1 h).1
/-- A write into a block of another one. -/
theorem Fr2.other {w0 w w' : World} {rb b0 b1 k : Nat} {v : Value} {ws : List Wd} {i en : Nat} {b : Bool} {u0 u1 u2 u3 u4 : Value}
    (h : Fr2 w0 w rb b0 b1 v ws i en b u0 u1 u2 u3 u4) (hk : b1 < k) (hg : w.grownBy w' (some k)) : Fr2 w0 w' rb b0 b1 v ws i en b u0 u1 u2 u3 u4 := by
  have h0 := h.z0; have h1 := h.z1; have h2 := h.z2; have h3 := h.z3; have hz := h.gr.size
  exact ⟨h.rd.grown hg (by omega), (hg.block b0 (by omega) (by simp; omega)).trans h.res, (hg.block b1 (by omega) (by simp; omega)).trans h.ex, grown_new h.gr hg (by omega), h.gl.same hg.size (fun g hg' => hg.block g (by have := h.r0; omega) (by simp; have := h.r0; omega)), h.r0, h0, h1, h2, Nat.lt_of_lt_of_le h3 hg.size⟩
theorem args_two {w W : World} {F0 F : Nat → Prop} {x y : Ex} {va vb : Value} {n cap T : Nat} (hA : ArgsIn w F0 va x.args) (hB : ArgsIn w F0 vb y.args) (hk : ∀ g, F0 g → g < w.heap.size → F g ∧ g < W.heap.size ∧ W.heap[g]? = w.heap[g]?)
    (hb : W.heap[n]? = some (.cells #[.int .i64 x.kind, .int .i64 x.n, .string x.text, va, .int .i64 x.pos, .int .i64 y.kind, .int .i64 y.n, .string y.text, vb, .int .i64 y.pos] T (0, 0))) (hFn : F n) :
    ArgsIn W F (.slice (some ⟨n, 0, none⟩) 2 cap) [x, y] := by
  refine ArgsIn.of_block [(x, va), (y, vb)] _ rfl hb hFn fun a ha => ?_
  simp at ha
  rcases ha with rfl | rfl
  · exact hA.keep hk
  · exact hB.keep hk
end Go.Proofs.YtmngofgminlloaaGreatDoor
