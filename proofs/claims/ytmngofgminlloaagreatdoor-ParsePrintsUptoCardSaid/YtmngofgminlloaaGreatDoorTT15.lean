/-
  Scripts that have been read out of few short words are small, in plain Lean.
  The frames of the reference's Script: of the whole, of one function.
  What the cards of the laws share: a law over listed variables that is told the world's shape; what the rows' condition gives the walks; a list of ints that came in.
  What is wrong with the names and types of a script, in plain Lean. No program in sight.
  The reference's environments (maps of names to types): made, copied, read, written; the checker's state.
  The reference's checker of names and types: its state; bad, let.
  The reference's checker of names and types: expressions: the frame, the plain laws of its loop.
-/
import Derived.Test.YtmngofgminlloaaGreatDoorTT14
import Derived.Test.YtmngofgminlloaaGreatDoorTT11
import Derived.Test.YtmngofgminlloaaGreatDoorCards
import Derived.Test.YtmngofgminlloaaGreatDoorTie
import Derived.WalkKit
import Derived.ProofKit
import Derived.OpenShut
import Derived.ShutString
import Derived.LaidMore
import Derived.Lay
import Derived.HandedShaped
import Derived.Shelf.Vars
import Derived.Stop.LaidErr
import Derived.Stop.Joined
import Derived.Lib.LaidTab
import Derived.Lib.LaidU8
import Derived.SevenTiedAt
import Derived.Carry
import Derived.ChangeSlices
import Derived.DataReads
import Derived.Maps.OwnOps
import Derived.Maps.OwnSet
import Derived.Maps.Ext
import Derived.Maps.RangeWalk
import Derived.StringKeys
import Derived.Test.YtmngofgminlloaaGreatDoorTT07
set_option linter.all false
namespace Go.Proofs.YtmngofgminlloaaGreatDoor
open Go.RowKit Tw

def WsZ (ws : List Wd) : Prop := ws.length ≤ 4000 ∧ ∀ x ∈ ws, x.text.size ≤ 4000
theorem WsZ.text {ws : List Wd} (h : WsZ ws) (i : Nat) : (textAt ws i).size ≤ maxLen := by
  unfold textAt maxLen
  cases hx : ws[i]? with
  | none => decide
  | some x => have := h.2 x (List.mem_of_getElem? hx); simp; omega
theorem none_small : sNone.size ≤ maxLen := by unfold maxLen; decide
theorem isAt_len {ws : List Wd} {i : Nat} {s : ByteArray} (h : isAt ws i s = true) : i < ws.length := by
  unfold isAt at h
  rcases Nat.lt_or_ge i ws.length with h' | h'
  · exact h'
  · rw [List.getElem?_eq_none h'] at h; cases h
theorem kindAt_len {ws : List Wd} {i k : Nat} (h : kindAt ws i = k) (hk : k ≠ 0) : i < ws.length := by
  unfold kindAt at h
  rcases Nat.lt_or_ge i ws.length with h' | h'
  · exact h'
  · rw [List.getElem?_eq_none h'] at h; exact absurd h.symm hk
theorem headQ_len {ws : List Wd} {i : Nat} (h : headQ ws i ≠ 0) : i < ws.length := by
  unfold headQ at h
  repeat' split at h
  all_goals first
    | (exact isAt_len ‹_›)
    | (exact kindAt_len ‹_› (by decide))
    | (exact absurd rfl h)
/-- What has been read is small, and lies within the words. -/
def smallE (ws : List Wd) : Qe → Re → Prop
  | .lvl n i, .ex x j => 1 ≤ n → i < j ∧ j ≤ ws.length ∧ ExZ x
  | .one i, .ex x j => i < j ∧ j ≤ ws.length ∧ ExZ x
  | .rest n a i, .ex x j => 1 ≤ n → i ≤ ws.length → ExZ a → i ≤ j ∧ j ≤ ws.length ∧ ExZ x
  | .args _ i, .exs l j => i + l.length < j ∧ j ≤ ws.length ∧ ∀ a ∈ l, ExZ a
  | _, _ => True
theorem De.small {ws : List Wd} {en : Nat} {q : Qe} {r : Re} (hz : WsZ ws) (h : De ws en q r) : smallE ws q r := by
  have ht := hz.text
  have hl := hz.1
  have hE : ∀ {k n : Int} {t : ByteArray} {p : Int}, (Lit.int .i64 k).wf = true → t.size ≤ maxLen → ExZ (.mk k n t [] p) := fun hk h => .mk hk h (by simp) (by simp)
  have hE1 : ∀ {k n : Int} {t : ByteArray} {a : Ex} {p : Int}, (Lit.int .i64 k).wf = true → t.size ≤ maxLen → ExZ a → ExZ (.mk k n t [a] p) := fun hk h ha => .mk hk h (by simp) (by simp [ha])
  have hE2 : ∀ {j : Nat} {a b : Ex}, ExZ a → ExZ b → ExZ (twoEx ws en j a b) := fun ha hb => .mk (by decide) (ht _) (by simp) (by simp [ha, hb])
  have hEl : ∀ {k n : Int} {t : ByteArray} {l : List Ex} {p : Int}, (Lit.int .i64 k).wf = true → t.size ≤ maxLen → l.length ≤ 4000 → (∀ a ∈ l, ExZ a) → ExZ (.mk k n t l p) := fun hk h hl' ha => .mk hk h (by omega) ha
  induction h with
  | @lvl6 i r _ ih =>
    cases r with
    | ex x j => intro _; exact ih
    | exs => trivial
    | bad => trivial
  | @lvl n i j a r hn _ _ ih1 ih2 =>
    cases r with
    | ex x k =>
      intro h1
      obtain ⟨a1, a2, a3⟩ := ih1 (by omega)
      obtain ⟨b1, b2, b3⟩ := ih2 h1 a2 a3
      exact ⟨by omega, b2, b3⟩
    | exs => trivial
    | bad => trivial
  | stop _ => intro _ h2 h3; exact ⟨Nat.le_refl _, h2, h3⟩
  | @go n j j' a b r h3 h0 _ _ ih1 ih2 =>
    cases r with
    | ex x k =>
      intro h1 h2 ha
      obtain ⟨a1, a2, a3⟩ := ih1 (by omega)
      obtain ⟨b1, b2, b3⟩ := ih2 h1 a2 (hE2 ha a3)
      exact ⟨by omega, b2, b3⟩
    | exs => trivial
    | bad => trivial
  | cmp h0 _ hx ih1 =>
    intro h1 h2 ha
    obtain ⟨a1, a2, a3⟩ := ih1 (by omega)
    exact ⟨by omega, a2, hE2 ha a3⟩
  | neg h0 _ ih => exact ⟨by have := ih.1; omega, ih.2.1, hE1 (by decide) none_small ih.2.2⟩
  | not h0 _ ih => exact ⟨by have := ih.1; omega, ih.2.1, hE1 (by decide) none_small ih.2.2⟩
  | par h0 _ hc ih =>
    obtain ⟨a1, a2, a3⟩ := ih (by decide)
    exact ⟨by omega, by have := isAt_len hc; omega, a3⟩
  | tru h0 => exact ⟨by omega, by have := headQ_len (ws := ws) (by rw [h0]; decide); omega, hE (by decide) none_small⟩
  | fls h0 => exact ⟨by omega, by have := headQ_len (ws := ws) (by rw [h0]; decide); omega, hE (by decide) none_small⟩
  | host h0 _ _ _ ih => exact ⟨by have := ih.1; omega, ih.2.1, hEl (by decide) none_small (by have := ih.1; have := ih.2.1; omega) ih.2.2⟩
  | num h0 => exact ⟨by omega, by have := headQ_len (ws := ws) (by rw [h0]; decide); omega, hE (by decide) none_small⟩
  | var h0 _ => exact ⟨by omega, by have := headQ_len (ws := ws) (by rw [h0]; decide); omega, hE (by decide) (ht _)⟩
  | call h0 _ _ ih => exact ⟨by have := ih.1; omega, ih.2.1, hEl (by decide) (ht _) (by have := ih.1; have := ih.2.1; omega) ih.2.2⟩
  | close hc => exact ⟨by simp, by have := isAt_len hc; omega, by simp⟩
  | first hc _ _ ih1 ih2 =>
    obtain ⟨a1, a2, a3⟩ := ih1 (by decide)
    exact ⟨by have := ih2.1; simp; omega, ih2.2.1, by intro a ha; rcases List.mem_cons.1 ha with rfl | ha; exact a3; exact ih2.2.2 a ha⟩
  | next hc hd _ _ ih1 ih2 =>
    obtain ⟨a1, a2, a3⟩ := ih1 (by decide)
    exact ⟨by have := ih2.1; simp; omega, ih2.2.1, by intro a ha; rcases List.mem_cons.1 ha with rfl | ha; exact a3; exact ih2.2.2 a ha⟩
  | _ => trivial
theorem nameS_small {ws : List Wd} (hz : WsZ ws) (i : Nat) : (nameS ws i).size ≤ maxLen := by
  unfold nameS
  repeat' split
  · exact hz.text _
  · exact hz.text _
  · exact none_small
def smallS (ws : List Wd) : Qs → Rs → Prop
  | .stmt i, .st s j => i < j ∧ j ≤ ws.length ∧ SmZ s
  | .block i, .sts l j => i + l.length < j ∧ j ≤ ws.length ∧ ∀ s ∈ l, SmZ s
  | .stmts i, .sts l j => i + l.length < j ∧ j ≤ ws.length ∧ ∀ s ∈ l, SmZ s
  | _, _ => True
theorem exprS_ge (ws : List Wd) (i : Nat) : i ≤ exprS ws i := by unfold exprS; repeat' (first | omega | split)
theorem Ds.small {ws : List Wd} {en : Nat} {q : Qs} {r : Rs} (hz : WsZ ws) (h : Ds ws en q r) : smallS ws q r := by
  have hl := hz.1
  have hS : ∀ {k : Int} {nm : ByteArray} {a : Ex} {b e : List Sm} {p : Int}, nm.size ≤ maxLen → ExZ a → b.length ≤ 4000 → e.length ≤ 4000 → (∀ s ∈ b, SmZ s) → (∀ s ∈ e, SmZ s) → SmZ (.mk k nm a b e p) := fun h1 h2 h3 h4 h5 h6 => .mk h1 h2 (by omega) (by omega) h5 h6
  induction h with
  | @simp i j x _ _ _ hx hc =>
    obtain ⟨a1, a2, a3⟩ := hx.small hz (by decide)
    have := exprS_ge ws i
    exact ⟨by omega, by have := isAt_len hc; omega, hS (nameS_small hz _) a3 (by simp) (by simp) (by simp) (by simp)⟩
  | whil _ hx _ ih =>
    obtain ⟨a1, a2, a3⟩ := hx.small hz (by decide)
    exact ⟨by have := ih.1; omega, ih.2.1, hS none_small a3 (by have := ih.1; have := ih.2.1; omega) (by simp) ih.2.2 (by simp)⟩
  | if0 _ hx _ _ ih =>
    obtain ⟨a1, a2, a3⟩ := hx.small hz (by decide)
    exact ⟨by have := ih.1; omega, ih.2.1, hS none_small a3 (by have := ih.1; have := ih.2.1; omega) (by simp) ih.2.2 (by simp)⟩
  | ifE _ hx _ _ _ _ ih ih2 =>
    obtain ⟨a1, a2, a3⟩ := hx.small hz (by decide)
    exact ⟨by have := ih.1; have := ih2.1; omega, ih2.2.1, hS none_small a3 (by have := ih.1; have := ih.2.1; omega) (by have := ih2.1; have := ih2.2.1; omega) ih.2.2 ih2.2.2⟩
  | ifI _ hx _ _ _ _ ih ih2 =>
    obtain ⟨a1, a2, a3⟩ := hx.small hz (by decide)
    exact ⟨by have := ih.1; have := ih2.1; omega, ih2.2.1, hS none_small a3 (by have := ih.1; have := ih.2.1; omega) (by simp) ih.2.2 (by simp; exact ih2.2.2)⟩
  | @block i r _ _ ih =>
    cases r with
    | sts l j => exact ⟨by have := ih.1; omega, ih.2⟩
    | st => trivial
    | bad => trivial
  | done hc => exact ⟨by simp, by have := isAt_len hc; omega, by simp⟩
  | more _ _ _ ih1 ih2 =>
    exact ⟨by have := ih1.1; have := ih2.1; simp; omega, ih2.2.1, by intro a ha; rcases List.mem_cons.1 ha with rfl | ha; exact ih1.2.2; exact ih2.2.2 a ha⟩
  | _ => trivial
theorem Dp.small {ws : List Wd} {en k i : Nat} {r : Rp} (hz : WsZ ws) (h : Dp ws en k i r) : ∀ ns ts j, r = .ok ns ts j → i + ns.length < j ∧ j ≤ ws.length ∧ ts.length = ns.length ∧ ∀ n ∈ ns, n.size ≤ maxLen := by
  induction h with
  | close hc => rintro ns ts j e; cases e; exact ⟨by simp, by have := isAt_len hc; omega, rfl, by simp⟩
  | @next k i j t ns ts _ _ _ ht _ ih =>
    rintro ns' ts' j' e; cases e
    obtain ⟨a1, a2, a3, a4⟩ := ih _ _ _ rfl
    have hp : i ≤ parAt k i := by unfold parAt; split <;> omega
    exact ⟨by simp; omega, a2, by simp [a3], by intro n hn; rcases List.mem_cons.1 hn with rfl | hn; exact hz.text _; exact a4 n hn⟩
  | _ => rintro ns ts j e; cases e
theorem Df.small {ws : List Wd} {en i : Nat} {f : Fn} {j : Nat} (hz : WsZ ws) (h : Df ws en i (.fn f j)) : i < j ∧ j ≤ ws.length ∧ FnZ f := by
  have hl := hz.1
  cases h with
  | fn h0 h1 h2 h3 h4 h5 =>
    obtain ⟨a1, a2, a3, a4⟩ := h3.small hz _ _ _ rfl
    obtain ⟨b1, b2, b3⟩ := h5.small hz
    exact ⟨by omega, b2, ⟨hz.text _, a4, by dsimp only; omega, by dsimp only; omega, by dsimp only; omega, b3⟩⟩
theorem Du.small {ws : List Wd} {en i : Nat} {r : Ru} (hz : WsZ ws) (h : Du ws en i r) : ∀ l, r = .fns l → i + l.length ≤ ws.length + i ∧ (i ≤ ws.length → i + l.length ≤ ws.length) ∧ ∀ f ∈ l, FnZ f := by
  induction h with
  | done _ => rintro l e; cases e; exact ⟨by simp, by simp, by simp⟩
  | more hi hf _ ih =>
    rintro l e; cases e
    obtain ⟨a1, a2, a3⟩ := hf.small hz
    obtain ⟨b1, b2, b3⟩ := ih _ rfl
    have := b2 a2
    exact ⟨by simp; omega, fun _ => by simp; omega, by intro f' hf'; rcases List.mem_cons.1 hf' with rfl | hf'; exact a3; exact b3 _ hf'⟩
  | _ => rintro l e; cases e
end Go.Proofs.YtmngofgminlloaaGreatDoor

namespace Go.Proofs.YtmngofgminlloaaGreatDoor
open Go.RowKit Tw Go.Maps

structure FrU (w W : World) (rb bu b2 base : Nat) (v : Value) (ws : List Wd) (i en : Nat) (b : Bool) (A : Option Addr) (c : Nat) (l : List (Fn × Value × Value × Value)) : Prop where
  rd : Rd W rb v ws i en b
  un : W.heap[bu]? = some (.cells #[.slice A l.length c] 24 (0, 0))
  res : W.heap[b2]? = some (.cells #[.slice none 0 0] 24 (0, 0))
  row : GRow fnElem W base 32 6 (.slice A l.length c) l
  be : Below w.heap.size w W
  gl : Glob W
  r0 : 10 < rb
  z0 : w.heap.size ≤ b2
  z1 : b2 < rb
  z2 : rb < bu
  z3 : bu < base
  z4 : base ≤ W.heap.size
theorem below_grown {B : Nat} {w w1 w2 : World} {r : Nat} (h : Below B w w1) (hg : w1.grownBy w2 (some r)) (hr : B ≤ r) (hB : B ≤ w1.heap.size) : Below B w w2 :=
  ⟨hg.os.trans h.os, hg.tape.trans h.tape, hg.output.trans h.output, Nat.le_trans h.size hg.size, fun k hk => (hg.block k (by omega) (by simp; omega)).trans (h.block k hk)⟩
theorem FrU.step {w W W' : World} {rb bu b2 base : Nat} {v : Value} {ws : List Wd} {i en : Nat} {b : Bool} {A : Option Addr} {c : Nat} {l : List (Fn × Value × Value × Value)} {i' : Nat} {b' : Bool}
    (h : FrU w W rb bu b2 base v ws i en b A c l) (hr : Rd W' rb v ws i' en b') (hg : W.grownBy W' (some rb)) : FrU w W' rb bu b2 base v ws i' en b' A c l := by
  have h0 := h.z0; have h1 := h.z1; have h2 := h.z2; have h3 := h.z3; have h4 := h.z4
  exact ⟨hr, (hg.block bu (by omega) (by simp; omega)).trans h.un, (hg.block b2 (by omega) (by simp; omega)).trans h.res, h.row.kept hg (fun k e => .inl (by cases e; omega)), below_grown h.be hg (by omega) (by omega), h.gl.of hg h.r0, h.r0, h0, h1, h2, h3, Nat.le_trans h4 hg.size⟩
/-- The frame of one function: what is written of it lies in bf; its rows lie in new blocks. -/
structure FrF (wr W : World) (rb bf base : Nat) (v : Value) (ws : List Wd) (i en : Nat) (b : Bool) (nm : ByteArray) (An : Option Addr) (cn : Nat) (ns : List ByteArray) (At : Option Addr) (ct : Nat) (ts : List Int) (out : Int) (vb : Value) (pos : Int) : Prop where
  rd : Rd W rb v ws i en b
  fb : W.heap[bf]? = some (.cells #[.string nm, .slice An ns.length cn, .slice At ts.length ct, .int .i64 out, vb, .int .i64 pos] 32 (0, 0))
  gr : wr.grownBy W (some rb)
  gl : Glob W
  rn : GRow strElem W base 9 1 (.slice An ns.length cn) ns
  rt : GRow intElem W base 3 1 (.slice At ts.length ct) ts
  ne : ∀ g, (Value.slice An ns.length cn).ownBlock = some g → (Value.slice At ts.length ct).ownBlock ≠ some g
  r0 : 10 < rb
  z0 : rb < wr.heap.size
  z1 : wr.heap.size ≤ bf
  z2 : bf < base
  z3 : base ≤ W.heap.size
section
variable {wr W W' : World} {rb bf base : Nat} {v : Value} {ws : List Wd} {i en : Nat} {b : Bool} {nm : ByteArray} {An : Option Addr} {cn : Nat} {ns : List ByteArray} {At : Option Addr} {ct : Nat} {ts : List Int} {out : Int} {vb : Value} {pos : Int}
theorem FrF.step {i' : Nat} {b' : Bool} (h : FrF wr W rb bf base v ws i en b nm An cn ns At ct ts out vb pos) (hr : Rd W' rb v ws i' en b') (hg : W.grownBy W' (some rb)) : FrF wr W' rb bf base v ws i' en b' nm An cn ns At ct ts out vb pos := by
  have h0 := h.z0; have h1 := h.z1; have h2 := h.z2; have h3 := h.z3
  exact ⟨hr, (hg.block bf (by omega) (by simp; omega)).trans h.fb, grown_trans h.gr hg, h.gl.of hg h.r0, h.rn.kept hg (fun k e => .inl (by cases e; omega)), h.rt.kept hg (fun k e => .inl (by cases e; omega)), h.ne, h.r0, h0, h1, h2, Nat.le_trans h3 hg.size⟩
theorem FrF.below (h : FrF wr W rb bf base v ws i en b nm An cn ns At ct ts out vb pos) (hb : Below W.heap.size W W') : FrF wr W' rb bf base v ws i en b nm An cn ns At ct ts out vb pos := h.step (h.rd.keep hb) (grown_of_below hb _)
/-- A write of a cell of the function's. -/
theorem FrF.cell {x : Value} (h : FrF wr W rb bf base v ws i en b nm An cn ns At ct ts out vb pos) (j : Nat) : W.grownBy (W.setCell ⟨bf, j, none⟩ x) (some bf) ∧ Rd (W.setCell ⟨bf, j, none⟩ x) rb v ws i en b ∧ wr.grownBy (W.setCell ⟨bf, j, none⟩ x) (some rb) ∧ Glob (W.setCell ⟨bf, j, none⟩ x) ∧ GRow strElem (W.setCell ⟨bf, j, none⟩ x) base 9 1 (.slice An ns.length cn) ns ∧ GRow intElem (W.setCell ⟨bf, j, none⟩ x) base 3 1 (.slice At ts.length ct) ts := by
  have h0 := h.z0; have h1 := h.z1; have h2 := h.z2; have h3 := h.z3
  have hg := grown_set W bf j x
  exact ⟨hg, h.rd.grown hg (by omega), grown_new h.gr hg (by omega), h.gl.same hg.size (fun g hg' => hg.block g (by have := h.r0; omega) (by simp; have := h.r0; omega)), h.rn.kept hg (fun k e => .inl (by cases e; omega)), h.rt.kept hg (fun k e => .inl (by cases e; omega))⟩
theorem FrF.s0 (h : FrF wr W rb bf base v ws i en b nm An cn ns At ct ts out vb pos) (x : ByteArray) : FrF wr (W.setCell ⟨bf, 0, none⟩ (.string x)) rb bf base v ws i en b x An cn ns At ct ts out vb pos := by
  obtain ⟨h1, h2, h3, h4, h5, h6⟩ := h.cell (x := (.string x)) 0
  exact ⟨h2, by simpa using heap_setCell_same W bf 0 _ _ (.string x) h.fb, h3, h4, h5, h6, h.ne, h.r0, h.z0, h.z1, h.z2, Nat.le_trans h.z3 h1.size⟩
theorem FrF.s3 (h : FrF wr W rb bf base v ws i en b nm An cn ns At ct ts out vb pos) (x : Int) : FrF wr (W.setCell ⟨bf, 3, none⟩ (.int .i64 x)) rb bf base v ws i en b nm An cn ns At ct ts x vb pos := by
  obtain ⟨h1, h2, h3, h4, h5, h6⟩ := h.cell (x := (.int .i64 x)) 3
  exact ⟨h2, by simpa using heap_setCell_same W bf 3 _ _ (.int .i64 x) h.fb, h3, h4, h5, h6, h.ne, h.r0, h.z0, h.z1, h.z2, Nat.le_trans h.z3 h1.size⟩
theorem FrF.s4 (h : FrF wr W rb bf base v ws i en b nm An cn ns At ct ts out vb pos) (x : Value) : FrF wr (W.setCell ⟨bf, 4, none⟩ x) rb bf base v ws i en b nm An cn ns At ct ts out x pos := by
  obtain ⟨h1, h2, h3, h4, h5, h6⟩ := h.cell (x := x) 4
  exact ⟨h2, by simpa using heap_setCell_same W bf 4 _ _ x h.fb, h3, h4, h5, h6, h.ne, h.r0, h.z0, h.z1, h.z2, Nat.le_trans h.z3 h1.size⟩
/-- One name more. -/
theorem FrF.name {s : ByteArray} {g cap k : Nat} (h : FrF wr W rb bf base v ws i en b nm An cn ns At ct ts out vb pos) (ho : W'.ownsRow base 9 1 (.slice (some ⟨g, 0, none⟩) (ns.length + 1) cap) (ns.length + 1) (ns.flatMap strElem.cells ++ strElem.cells s)) (hg : W.grownBy W' (Value.slice An ns.length cn).ownBlock) (hat : (Value.slice An ns.length cn).ownBlock = some g ∨ g = W.heap.size) (hk : k = ns.length + 1) :
    FrF wr (W'.setCell ⟨bf, 1, none⟩ (.slice (some ⟨g, 0, none⟩) k cap)) rb bf base v ws i en b nm (some ⟨g, 0, none⟩) cap (ns ++ [s]) At ct ts out vb pos := by
  subst hk
  have h0 := h.z0; have h1 := h.z1; have h2 := h.z2; have h3 := h.z3
  have hlt := h.rn.1.lt
  have hrow : ∀ k, (Value.slice An ns.length cn).ownBlock = some k → base ≤ k := fun k e => (hlt k e).1
  have hrn : GRow strElem W' base 9 1 (.slice (some ⟨g, 0, none⟩) (ns.length + 1) cap) (ns ++ [s]) := GRow.app (F := fun _ => False) h.rn trivial (fun _ h => h.elim) ho hg hat
  have hrt : GRow intElem W' base 3 1 (.slice At ts.length ct) ts := h.rt.beside (fun _ _ _ => trivial) hg (by
    cases hv : (Value.slice At ts.length ct).ownBlock with
    | none => exact .inl rfl
    | some k => right; intro e; exact h.ne k e.symm hv)
  have hgl : Glob W' := h.gl.same hg.size (fun q hq => hg.block q (by have := h.r0; omega) (fun e => by have := hrow q e.symm; have := h.r0; omega))
  have hset := grown_set W' bf 1 (.slice (some ⟨g, 0, none⟩) (ns.length + 1) cap)
  have hfb : W'.heap[bf]? = some (.cells #[.string nm, .slice An ns.length cn, .slice At ts.length ct, .int .i64 out, vb, .int .i64 pos] 32 (0, 0)) := (hg.block bf (by omega) (fun e => by have := hrow bf e.symm; omega)).trans h.fb
  have hgr : wr.grownBy W' (some rb) := ⟨hg.os.trans h.gr.os, hg.tape.trans h.gr.tape, hg.output.trans h.gr.output, Nat.le_trans h.gr.size hg.size, fun q hq hr => (hg.block q (Nat.lt_of_lt_of_le hq h.gr.size) (fun e => by have := hrow q e.symm; omega)).trans (h.gr.block q hq hr)⟩
  have hrd : Rd W' rb v ws i en b := ⟨(hg.block rb h.rd.lt (fun e => by have := hrow rb e.symm; omega)).trans h.rd.blk, h.rd.row.same fun q hq => hg.block q (Nat.lt_trans hq h.rd.lt) (fun e => by have := hrow q e.symm; omega), h.rd.len, h.rd.pos⟩
  have e1 : (ns ++ [s]).length = ns.length + 1 := by simp
  refine ⟨hrd.grown hset (by omega), by rw [e1]; simpa using heap_setCell_same W' bf 1 _ _ (.slice (some ⟨g, 0, none⟩) (ns.length + 1) cap) hfb, grown_new hgr hset (by omega), hgl.same hset.size (fun q hq => hset.block q (by have := h.r0; have := hg.size; omega) (by simp; have := h.r0; omega)),
    by rw [e1]; exact hrn.kept hset (fun k e => .inl (by cases e; omega)), hrt.kept hset (fun k e => .inl (by cases e; omega)), ?_, h.r0, h0, h1, h2, Nat.le_trans h3 (Nat.le_trans hg.size hset.size)⟩
  intro q hq e
  simp [Value.ownBlock] at hq
  subst hq
  rcases hat with hat | hat
  · exact h.ne g hat e
  · have := (h.rt.1.lt g e).2; omega
/-- One type more. -/
theorem FrF.typ {s : Int} {g cap k : Nat} (h : FrF wr W rb bf base v ws i en b nm An cn ns At ct ts out vb pos) (ho : W'.ownsRow base 3 1 (.slice (some ⟨g, 0, none⟩) (ts.length + 1) cap) (ts.length + 1) (ts.flatMap intElem.cells ++ intElem.cells s)) (hg : W.grownBy W' (Value.slice At ts.length ct).ownBlock) (hat : (Value.slice At ts.length ct).ownBlock = some g ∨ g = W.heap.size) (hk : k = ts.length + 1) :
    FrF wr (W'.setCell ⟨bf, 2, none⟩ (.slice (some ⟨g, 0, none⟩) k cap)) rb bf base v ws i en b nm An cn ns (some ⟨g, 0, none⟩) cap (ts ++ [s]) out vb pos := by
  subst hk
  have h0 := h.z0; have h1 := h.z1; have h2 := h.z2; have h3 := h.z3
  have hlt := h.rt.1.lt
  have hrow : ∀ k, (Value.slice At ts.length ct).ownBlock = some k → base ≤ k := fun k e => (hlt k e).1
  have hrt : GRow intElem W' base 3 1 (.slice (some ⟨g, 0, none⟩) (ts.length + 1) cap) (ts ++ [s]) := GRow.app (F := fun _ => False) h.rt trivial (fun _ h => h.elim) ho hg hat
  have hrn : GRow strElem W' base 9 1 (.slice An ns.length cn) ns := h.rn.beside (fun _ _ _ => trivial) hg (by
    cases hv : (Value.slice An ns.length cn).ownBlock with
    | none => exact .inl rfl
    | some k => right; intro e; exact h.ne k hv e.symm)
  have hgl : Glob W' := h.gl.same hg.size (fun q hq => hg.block q (by have := h.r0; omega) (fun e => by have := hrow q e.symm; have := h.r0; omega))
  have hset := grown_set W' bf 2 (.slice (some ⟨g, 0, none⟩) (ts.length + 1) cap)
  have hfb : W'.heap[bf]? = some (.cells #[.string nm, .slice An ns.length cn, .slice At ts.length ct, .int .i64 out, vb, .int .i64 pos] 32 (0, 0)) := (hg.block bf (by omega) (fun e => by have := hrow bf e.symm; omega)).trans h.fb
  have hgr : wr.grownBy W' (some rb) := ⟨hg.os.trans h.gr.os, hg.tape.trans h.gr.tape, hg.output.trans h.gr.output, Nat.le_trans h.gr.size hg.size, fun q hq hr => (hg.block q (Nat.lt_of_lt_of_le hq h.gr.size) (fun e => by have := hrow q e.symm; omega)).trans (h.gr.block q hq hr)⟩
  have hrd : Rd W' rb v ws i en b := ⟨(hg.block rb h.rd.lt (fun e => by have := hrow rb e.symm; omega)).trans h.rd.blk, h.rd.row.same fun q hq => hg.block q (Nat.lt_trans hq h.rd.lt) (fun e => by have := hrow q e.symm; omega), h.rd.len, h.rd.pos⟩
  have e1 : (ts ++ [s]).length = ts.length + 1 := by simp
  refine ⟨hrd.grown hset (by omega), by rw [e1]; simpa using heap_setCell_same W' bf 2 _ _ (.slice (some ⟨g, 0, none⟩) (ts.length + 1) cap) hfb, grown_new hgr hset (by omega), hgl.same hset.size (fun q hq => hset.block q (by have := h.r0; have := hg.size; omega) (by simp; have := h.r0; omega)),
    hrn.kept hset (fun k e => .inl (by cases e; omega)), by rw [e1]; exact hrt.kept hset (fun k e => .inl (by cases e; omega)), ?_, h.r0, h0, h1, h2, Nat.le_trans h3 (Nat.le_trans hg.size hset.size)⟩
  intro q hq e
  simp [Value.ownBlock] at e
  subst e
  rcases hat with hat | hat
  · exact h.ne g hq hat
  · have := (h.rn.1.lt g hq).2; omega
end
end Go.Proofs.YtmngofgminlloaaGreatDoor

namespace Go.Proofs.YtmngofgminlloaaGreatDoor.K
open Go Go.ChangeShapes Go.WideShapes Go.ChangeAt Go.RowKit
open Go.ChangeMaps (open_string shut_string)

theorem own : ownKnob Tryz.prog.godebug = none := by kernel_rfl

/-- A law over listed variables, whose contract is told the shape of the world besides. -/
theorem returns_and_shaped {H : Type} {enc : TypeId × Value → H} {a : Assume} {C : Checked} {os : Os} {f : FuncId} {fn : Func} {s : ChangeSpec} {conds : List PathCond} {apart fresh handsOn again : Bool} {X : World → Array Value → Prop}
    (hX : ∀ (w w' : World) (args : Array Value), w.heap = w'.heap → X w args → X w' args)
    (own : ownKnob C.prog.godebug = none) (started : os.Started) (noInit : C.prog.inits.idxOf? f = none) (hfn : C.prog.funcs[f]? = some fn)
    (witness : ∃ (w : World) (tape : Tape) (i : Input), w.os = os ∧ (w.forCall tape i).Shaped C.prog ∧ i.vars = [] ∧ Input.okWide C.prog (w.forCall tape i) .any w.heap.size f i ∧
      ((s.pre enc C.prog fn conds apart (w.forCall tape i).memory i.args ∧ X (w.forCall tape i).memory i.args) ∧ sizedMet enc C.prog fn (OpenSpec.ofChange s) apart (w.forCall tape i).memory i.args) ∧ a.holds C.prog (lone (Frame.enter C.prog f i.args .normal) [] (w.forCall tape i)))
    (contract : ∀ (W : World) (base : Nat) (args : Array Value) (ds gs : List (DataW H)) (before : List MemPlace),
      (∀ (j : Nat) t v, fn.params[j]? = some t → args[j]? = some v → Value.okWide C.prog W .any base t v) →
      DataW.Whole enc C.prog fn.params.toList s.vars apart W args.toList ds gs before →
      conds.all (PathCond.test C.prog ⟨fn.params.toList, ds, s.plain.varTypes C.prog, gs⟩) = true →
      (DataW.weightsEach C.prog (fn.params.toList ++ s.plain.varTypes C.prog) (ds ++ gs)).all (· ≤ reachBytes) = true → X W args → W.ShapedOpen C.prog →
      Calls C.prog f args W fun e W' => ∃ v, e = .returned v ∧ s.post enc C.prog fn apart fresh handsOn again W args v W') :
    ReturnsInHanded a C os f .any (fun w args => (s.pre enc C.prog fn conds apart w args ∧ X w args) ∧ sizedMet enc C.prog fn (OpenSpec.ofChange s) apart w args) (s.post enc C.prog fn apart fresh handsOn again) := by
  refine returnsInHanded_of_calls own started noInit witness ?_
  intro w tape i _ hsh _ hok hpre _
  obtain ⟨_, _, _, fn', hfn', _, _, _, _, hval⟩ := hok
  have e : fn' = fn := Option.some.inj (hfn'.symm.trans hfn)
  subst e
  obtain ⟨⟨⟨ds, gs, before, hw, hc⟩, hx⟩, hz⟩ := hpre
  have hw' := DataW.Whole.of_heap (w' := w.forCall tape i) (by rfl) hw
  refine (contract (w.forCall tape i) w.heap.size i.args ds gs before hval hw' hc (hz.weights hw) (hX _ _ _ (by rfl) hx) hsh).mono fun e W' ⟨v, he, hp⟩ => ?_
  subst he
  exact ChangeSpec.post_blind hp

theorem pow_datum : (Rows.laid_internal_strconv_uint64pow10 : DataW Unit) = Lib.tabData .u64 Lib.pow10Tab := by kernel_rfl
theorem spc_datum : (Rows.laid_strings_asciiSpace : DataW Unit) = Lib.tabData .u8 Lib.asciiSpaceTab := by kernel_rfl

theorem gRange : Tryz.prog.globalNamed "strconv.ErrRange" = some 4 := by kernel_rfl
theorem gSyntax : Tryz.prog.globalNamed "strconv.ErrSyntax" = some 3 := by kernel_rfl
theorem star : "*" ++ "errors.errorString" = "*errors.errorString" := by decide
theorem rowE (u : TypeId) (h : Tryz.prog.typeName? 3 u = some "*errors.errorString") : u = 315 :=
  typeName_ptr_named (nm := "errors.errorString") (by rw [star]; kernel_rfl) (by kernel_rfl) (by decide) u (by rw [star]; exact h)

theorem big_of {W : World} (hs : W.ShapedOpen Tryz.prog) : 10 < W.heap.size := by
  have h0 : (((begin Tryz.prog (fun _ _ => 0) default).world.heap[10]?).bind Obj.row?).isSome = true := by kernel_rfl
  obtain ⟨⟨zero, t⟩, hz⟩ := Option.isSome_iff_exists.1 h0
  obtain ⟨cs, hh, _⟩ := hs.1 10 zero t (of_decide_eq_true (by kernel_rfl)) hz
  exact (Array.getElem?_eq_some_iff.1 hh).1

/-- What the row's condition and the shape of the world give the walk. -/
theorem glob_of {W : World} (hL : laidMet Tryz.prog Rows.parseTellsRow.laid W) (hs : W.ShapedOpen Tryz.prog) : Glob W where
  maxLen := cell_of_shapedOpen_int (zero := #[.int .i64 0]) (t := 3) hs (of_decide_eq_true (by kernel_rfl)) (by kernel_rfl) (by kernel_rfl) (by kernel_rfl) (by kernel_rfl) (by kernel_rfl)
  errs := by
    obtain ⟨a1, s1, hv1, _, _, _⟩ := laid_sentinel (te := 317) (ts := 9) hL.tail.tail.tail.tail gRange (show _ = some 104 by kernel_rfl) Tryz.underlying104 rowE (by kernel_rfl) Tryz.underlying317 rfl rfl (by kernel_rfl) (by kernel_rfl) (by kernel_rfl)
    obtain ⟨a2, s2, hv2, _, _, _⟩ := laid_sentinel (te := 317) (ts := 9) hL.tail.tail.tail.tail.tail gSyntax (show _ = some 104 by kernel_rfl) Tryz.underlying104 rowE (by kernel_rfl) Tryz.underlying317 rfl rfl (by kernel_rfl) (by kernel_rfl) (by kernel_rfl)
    exact ⟨⟨_, by simpa using World.var?_cell gSyntax hv2 0, .inr ⟨_, _, rfl⟩⟩, _, by simpa using World.var?_cell gRange hv1 0, .inr ⟨_, _, rfl⟩⟩
  pow := Lib.tabIs_of_head (g := 5) (t := 290) (e := 150) (n := 20) (by kernel_rfl) (by kernel_rfl) (by kernel_rfl) (by kernel_rfl) (by kernel_rfl) (by kernel_rfl) (pow_datum ▸ hL.tail.tail)
  spc := Lib.tabIs_of_head (g := 0) (t := 219) (e := 5) (n := 256) (by kernel_rfl) (by kernel_rfl) (by kernel_rfl) (by kernel_rfl) (by kernel_rfl) (by kernel_rfl) (spc_datum ▸ hL.tail.tail.tail.tail.tail.tail.tail)
  big := big_of hs


theorem laidOut : laidOutB Tryz.prog = true := by kernel_rfl
/-- The numbers of a list that came in lie below the heap's end. -/
theorem nums {H : Type} {enc : TypeId × Value → H} {W : World} {fuel : Nat} {x : DataW H × List MemPlace} {a0 : Option Addr} {len cap : Nat} (h : DataW.trod enc Tryz.prog W 0 (fun _ => true) true fuel 29 (Value.slice a0 len cap).cells.toList = some x) :
    len ≤ cap ∧ ∀ j, j < len → ∃ g off z, a0 = some ⟨g, off, none⟩ ∧ g < W.heap.size ∧ W.cell? ⟨g, off + j, none⟩ = some (.int .i64 z) := by
  rcases open_ints Tryz.underlying29 Tryz.underlying3 (by kernel_rfl) h with ⟨hcs, _⟩ | ⟨a, len', cap', zs, hcs, _, hl, hm, hz, _, hcell, _⟩
  · simp [Value.cells] at hcs
    obtain ⟨rfl, rfl, rfl⟩ := hcs
    exact ⟨Nat.le_refl _, fun j hj => by omega⟩
  · simp [Value.cells] at hcs
    obtain ⟨rfl, rfl, rfl⟩ := hcs
    simp only [if_true] at hz
    refine ⟨hl, fun j hj => ?_⟩
    have h0 := hcell 0 (by omega)
    have hs : a.spot = none := by have := World.cell?_spot h0; simpa [Addr.add] using this
    obtain ⟨g, off, spot⟩ := a
    simp only at hs
    subst hs
    have hj' := hcell j (by omega)
    have e : (⟨g, off, none⟩ : Addr).add j = ⟨g, off + j, none⟩ := by unfold Addr.add; split <;> simp_all
    rw [e] at hj'
    exact ⟨g, off, _, rfl, World.block_lt_of_cell? W _ hj', hj'⟩
end Go.Proofs.YtmngofgminlloaaGreatDoor.K

namespace Go.Proofs.YtmngofgminlloaaGreatDoor
open Go.RowKit Tw

/-- The variables that can be seen, the newest first, with their types. -/
abbrev Env : Type := List (ByteArray × Int)
def lookE : Env → ByteArray → Int
  | [], _ => 0
  | (n, t) :: r, s => if n = s then t else lookE r s
/-- An answer, or the place and the number of an error. -/
inductive TyR (α : Type) where
  | ok (a : α) | bad (p e : Int)
def TyR.bind {α β : Type} : TyR α → (α → TyR β) → TyR β
  | .ok a, f => f a
  | .bad p e, _ => .bad p e
def findF (us : List Fn) (s : ByteArray) : Option Fn := us.find? (fun f => f.name = s)
mutual
def exT (us : List Fn) (env : Env) : Ex → TyR Int
  | .mk k _ t xs p =>
    if k = 1 then .ok 1
    else if k = 2 then .ok 2
    else if k = 3 then (if lookE env t = 0 then .bad p 16 else .ok (lookE env t))
    else if k = 5 then (match wantsT us env xs [2] with | .ok _ => .ok 2 | .bad q e => .bad q e)
    else if k = 7 then
      match findF us t with
      | none => .bad p 16
      | some f => if f.types.length ≠ xs.length then .bad p 8 else (match wantsT us env xs f.types with | .ok _ => .ok f.out | .bad q e => .bad q e)
    else if k = 6 ∧ lv t.data.toList ≤ 2 then (match wantsT us env xs [2, 2] with | .ok _ => .ok 2 | .bad q e => .bad q e)
    else if k = 6 ∧ (t = ⟨#[61, 61]⟩ ∨ t = ⟨#[33, 61]⟩) then
      (match headT us env xs with | .ok ta => (match wantsT us env xs [ta, ta] with | .ok _ => .ok 2 | .bad q e => .bad q e) | .bad q e => .bad q e)
    else (match wantsT us env xs [] with | .ok _ => .ok (if k = 6 ∧ lv t.data.toList = 3 then 2 else 1) | .bad q e => .bad q e)
def headT (us : List Fn) (env : Env) : List Ex → TyR Int
  | [] => .ok 0
  | a :: _ => exT us env a
def wantsT (us : List Fn) (env : Env) : List Ex → List Int → TyR Unit
  | [], _ => .ok ()
  | a :: l, ws => match exT us env a with
    | .ok t => if t = ws.headD 1 then wantsT us env l ws.tail else .bad a.pos 8
    | .bad q e => .bad q e
end
/-- One variable more. -/
def letT (env : Env) (m : Nat) (p : Int) (nm : ByteArray) (t : Int) : TyR (Env × Nat) :=
  if lookE env nm ≠ 0 then .bad p 5 else if 64 ≤ m then .bad p 2 else .ok ((nm, t) :: env, m + 1)
mutual
def smT (us : List Fn) (out : Int) : Sm → Env → Nat → TyR (Env × Nat × Bool)
  | .mk k nm a body els p, env, m =>
    if k = 2 ∧ lookE env nm = 0 then .bad p 16
    else match exT us env a with
    | .bad q e => .bad q e
    | .ok t =>
      if k = 1 then (match letT env m p nm t with | .ok (env', m') => .ok (env', m', false) | .bad q e => .bad q e)
      else if k = 2 then (if t ≠ lookE env nm then .bad a.pos 8 else .ok (env, m, false))
      else if k = 3 then
        (if t ≠ 2 then .bad a.pos 8 else match blT us out body env m with
          | .bad q e => .bad q e
          | .ok (m1, r1) => match blT us out els env m1 with
            | .bad q e => .bad q e
            | .ok (m2, r2) => .ok (env, m2, r1 && r2))
      else if k = 4 then
        (if t ≠ 2 then .bad a.pos 8 else match blT us out body env m with
          | .bad q e => .bad q e
          | .ok (m1, _) => .ok (env, m1, false))
      else if k = 5 then (if t ≠ out then .bad a.pos 8 else .ok (env, m, true))
      else if k = 6 then (if t ≠ 1 then .bad a.pos 8 else .ok (env, m, false))
      else .ok (env, m, false)
def blT (us : List Fn) (out : Int) : List Sm → Env → Nat → TyR (Nat × Bool)
  | [], _, m => .ok (m, false)
  | s :: l, env, m => match smT us out s env m with
    | .bad q e => .bad q e
    | .ok (env', m', r) => match blT us out l env' m' with
      | .bad q e => .bad q e
      | .ok (m2, r2) => .ok (m2, r || r2)
end
def parT (p : Int) : List ByteArray → List Int → Env → Nat → TyR (Env × Nat)
  | n :: ns, t :: ts, env, m => match letT env m p n t with
    | .ok (env', m') => parT p ns ts env' m'
    | .bad q e => .bad q e
  | _, _, env, m => .ok (env, m)
def fnT (us : List Fn) (f : Fn) : TyR Unit :=
  match parT f.pos f.names f.types [] 0 with
  | .bad q e => .bad q e
  | .ok (env, m) => match blT us f.out f.body env m with
    | .bad q e => .bad q e
    | .ok (_, r) => if r then .ok () else .bad f.pos 3
def fnsT (us : List Fn) : List Fn → TyR Unit
  | [] => .ok ()
  | f :: l => match fnT us f with | .ok _ => fnsT us l | .bad q e => .bad q e
/-- The first function whose name an earlier one has. -/
def dupF : List ByteArray → List Fn → Option Int
  | _, [] => none
  | seen, f :: l => if seen.any (fun n => decide (n = f.name)) then some f.pos else dupF (f.name :: seen) l
def mainT : ByteArray := ⟨#[109, 97, 105, 110]⟩
def isMain (f : Fn) : Bool := decide (f.name = mainT) && decide (f.names.length = 0) && decide (f.out = 1)
/-- The place and the number of the first error; 0, 0: none. -/
def unitT (l : List Fn) : Int × Int :=
  if unitF l ≠ 0 then (0, unitF l)
  else match dupF [] l with
    | some p => (p, 5)
    | none => if l.any isMain = false then (0, 16) else match fnsT l l with
      | .ok _ => (0, 0)
      | .bad p e => (p, e)
end Go.Proofs.YtmngofgminlloaaGreatDoor

namespace Go.Proofs.YtmngofgminlloaaGreatDoor
open Go.RowKit Tw Go.Maps

theorem nm_law : Keyed Tryz.prog 9 := string_keyed Tryz.underlying9
theorem nm_zero (w : World) : (zeroValue 3).run Tryz.prog w = .ok (.int .i64 0) w := by kernel_rfl
abbrev MapD : Type := DataW Unit
theorem isKey {s : ByteArray} (hs : s.size ≤ maxLen) : WideAt.IsKeyLit (.string s.data.toList) := by
  trivial
set_option maxRecDepth 100000 in
theorem copied_d (b n : Nat) (D0 : MapD) (w : World) (hown : w.ownsMap Tryz.prog 9 (plainElem Tryz.prog 3) b n D0) (hmax : Maps.size D0 ≤ maxLen) :
    Calls Tryz.prog 117 #[.map (some b)] w fun e w' => e = .returned (.map (some w.heap.size)) ∧ w'.ownsMap Tryz.prog 9 (plainElem Tryz.prog 3) w.heap.size (Maps.size D0) D0 ∧ Below w.heap.size w w' := by
  have hmm := @run_makeMap Tryz.prog
  have hbl := hown.lt
  have e1 : (w.alloc (.map #[] 0)).heap.size = w.heap.size + 1 := by simp
  go_enter Tryz.func117, Tryz.ntmps117
  go_wp2_with (first
    | (at_range; refine wpList_range_own _ rfl _ 137 rfl 9 3 nm_law Tryz.underlying137 _ b n _ rfl (hown.alloc _) ?_; intro w0 hrg0 hg0 hs0)
    | go_in)
  go_frame
  rw [e1] at hrg0 hs0 ⊢
  go_loopw [4] (fun _ wr => ∃ (left : Lit → Bool) (cnt : Nat) (Dout : MapD), wr.ranges Tryz.prog 9 (plainElem Tryz.prog 3) b (w.heap.size + 1) n D0 left cnt ∧ cnt ≤ Maps.size D0 ∧
      wr.ownsMap Tryz.prog 9 (plainElem Tryz.prog 3) w.heap.size (Maps.size D0 - cnt) Dout ∧ Agree Dout D0 left ∧ Below w.heap.size w wr)
    (fun _ wr => wr.rangeLeft b (w.heap.size + 1))
  case atStart =>
    exact ⟨_, _, .map [], hrg0, Nat.le_refl _, ((World.ownsMap_made _ _ _ _).kept hg0 (by simp)).mono (Nat.zero_le _), agree_start D0, ((Below.refl _ _).alloc (Nat.le_refl _) _).grown hg0 (by simp) (fun j hj => by cases hj)⟩
  case round =>
    obtain ⟨left, cnt, Dout, hrg, hcs, hout, hA, hnx⟩ := hrel
    go_wp2_with (first
      | (at_next; refine wpList_next_ranges _ rfl _ rfl 9 nm_law (plainElem Tryz.prog 3) Value.string (Value.int .i64) (fun key kl hkey => by obtain ⟨x, rfl, _⟩ := Go.WideMaps.string_of_keyOf Tryz.underlying9 hkey; exact ⟨x, rfl⟩) (fun v y hv => by obtain ⟨c, rfl, _⟩ := plainElem_int_inv Tryz.underlying3 hv; exact ⟨c, rfl⟩) b (w.heap.size + 1) n _ _ _ rfl hrg ?_ ?_)
      | go_in)
    · intro hc0 hl0
      go_wp2
      go_ret
      subst hc0
      have e := agree_end hA hl0 (hout.canon nm_law) (hown.canon nm_law)
      subst e
      exact ⟨rfl, by simpa using hout, hnx⟩
    · intro x c kl y yp w1 cnt1 hkey hlx hv hat hrg1 hlt hg1 hs1 hen
      obtain ⟨x', ex, rfl, hxz⟩ := Go.WideMaps.string_of_keyOf Tryz.underlying9 hkey
      cases ex
      obtain ⟨c', ec, hyy, hwc⟩ := plainElem_int_inv Tryz.underlying3 hv
      cases ec
      obtain ⟨rfl, rfl⟩ := Prod.mk.inj hyy
      clear hyy
      have hout1 := hout.kept hg1 (by simp)
      go_wp2_with (first
        | (at_mapUpdate; refine wpList_mapUpdate_own _ rfl _ _ _ 137 rfl 9 3 nm_law Tryz.underlying137 _ w.heap.size _ _ rfl hout1 (by omega) _ _ _ rfl rfl (Go.WideMaps.keyOf_string_mk Tryz.underlying9 hxz) _ [] (plainElem_int Tryz.underlying3 hwc) ?_; intro w2 hout2 hg2; go_frame)
        | go_in)
      have hrg2 := hrg1.kept hg2 (fun e => by have := Option.some.inj e; omega) (fun e => by have := Option.some.inj e; omega)
      go_roundw
      case rel =>
        exact ⟨_, cnt1, _, hrg2, by omega, hout2.mono (by omega), agree_step hA hout.isMap (isKey hxz) hat,
          (hnx.grown hg1 hnx.size (fun j hj => by cases hj; exact Nat.le_succ _)).grown hg2 (by have := hnx.size; omega) (fun j hj => by cases hj; exact Nat.le_refl _)⟩
      case measure => rw [hrg2.left_eq, hrg.left_eq]; exact hlt

/-- Block b is a map that holds the variables env. -/
def SeenAt (w : World) (b : Nat) (env : Env) : Prop :=
  ∃ (n : Nat) (D : MapD), w.ownsMap Tryz.prog 9 (plainElem Tryz.prog 3) b n D ∧ n ≤ env.length ∧ Maps.size D ≤ env.length ∧ (∀ s : ByteArray, s.size ≤ maxLen → D.atKey (.string s.data.toList) (.lit (.int .i64 0)) = .lit (.int .i64 (lookE env s)))
theorem SeenAt.made (w : World) : SeenAt (w.alloc (.map #[] 0)) w.heap.size [] :=
  ⟨0, .map [], World.ownsMap_made _ _ _ _, Nat.le_refl _, Nat.le_refl _, fun _ _ => rfl⟩
theorem SeenAt.kept {w w' : World} {b : Nat} {env : Env} {row : Option Nat} (h : SeenAt w b env) (hg : w.grownBy w' row) (hr : row ≠ some b) : SeenAt w' b env := by
  obtain ⟨n, D, h1, h2, h3, h4⟩ := h
  exact ⟨n, D, h1.kept hg (by first | exact hr | exact fun e => hr e.symm), h2, h3, h4⟩
theorem SeenAt.lt {w : World} {b : Nat} {env : Env} (h : SeenAt w b env) : b < w.heap.size := by
  obtain ⟨n, D, h1, _⟩ := h
  exact h1.lt
theorem SeenAt.look {w : World} {b : Nat} {env : Env} (h : SeenAt w b env) (s : ByteArray) (hs : s.size ≤ maxLen) : (Instr.lookup 137 (.map (some b)) (.string s) false).run Tryz.prog w = .ok (.int .i64 (lookE env s)) w := by
  obtain ⟨n, D, h1, _, _, h4⟩ := h
  obtain ⟨c, hrun, hat, _⟩ := h1.lookup_int nm_law Tryz.underlying137 Tryz.underlying3 (nm_zero w) (Go.WideMaps.keyOf_string_mk Tryz.underlying9 hs)
  have h5 := h4 s hs
  rw [hat] at h5
  have : c = lookE env s := (Lit.int.inj (DataW.lit.inj h5)).2
  rw [← this]; exact hrun
theorem SeenAt.put {w : World} {b : Nat} {env : Env} (h : SeenAt w b env) (s : ByteArray) (hs : s.size ≤ maxLen) (t : Int) (ht : (Lit.int .i64 t).wf = true) (hl : env.length ≤ 1000) :
    ∃ w', (Instr.mapUpdate 137 (.map (some b)) (.string s) (.int .i64 t)).run Tryz.prog w = .ok () w' ∧ SeenAt w' b ((s, t) :: env) ∧ w.grownBy w' (some b) := by
  obtain ⟨n, D, h1, h2, h3, h4⟩ := h
  obtain ⟨w', hrun, h1', hg⟩ := h1.update nm_law Tryz.underlying137 (by unfold maxLen; omega) (Go.WideMaps.keyOf_string_mk Tryz.underlying9 hs) (plainElem_int Tryz.underlying3 ht)
  refine ⟨w', hrun, ⟨n + 1, _, h1', by simp; omega, ?_, fun s' hs' => ?_⟩, hg⟩
  · rw [size_put (h1.tidy nm_law)]
    split <;> simp <;> omega
  · by_cases e : s = s'
    · subst e
      rw [atKey_put_same h1.isMap (isKey hs)]
      simp [lookE]
    · have hne : (Lit.string s'.data.toList) ≠ .string s.data.toList := by
        intro he
        injection he with he
        exact e (ByteArray.ext (Array.toList_inj.1 he)).symm
      rw [atKey_put_other hne, h4 s' hs']
      simp [lookE, e]
theorem SeenAt.copied {w : World} {b : Nat} {env : Env} (h : SeenAt w b env) (hl : env.length ≤ 1000) : Calls Tryz.prog 117 #[.map (some b)] w fun e w' => e = .returned (.map (some w.heap.size)) ∧ SeenAt w' w.heap.size env ∧ Below w.heap.size w w' := by
  obtain ⟨n, D, h1, h2, h3, h4⟩ := h
  refine (copied_d b n D w h1 (by unfold maxLen; omega)).mono ?_
  rintro e w' ⟨rfl, h5, h6⟩
  exact ⟨rfl, ⟨_, D, h5, h3, h3, h4⟩, h6⟩
end Go.Proofs.YtmngofgminlloaaGreatDoor

namespace Go.Proofs.YtmngofgminlloaaGreatDoor
open Go.RowKit Tw Go.Maps

/-- The first error so far. -/
abbrev Flt : Type := Option (Int × Int)
def Flt.p : Flt → Int
  | some q => q.1
  | none => 0
def Flt.e : Flt → Int
  | some q => q.2
  | none => 0
def Flt.or (F : Flt) (p e : Int) : Flt := match F with | some q => some q | none => some (p, e)
/-- What an answer adds to the first error. -/
def Flt.on {α : Type} (F : Flt) (r : TyR α) : Flt := match F, r with | some q, _ => some q | none, .ok _ => none | none, .bad p e => some (p, e)
/-- The checker's state: its block cb. -/
structure Sco (w : World) (cb : Nat) (U : Value) (out : Int) (many : Nat) (F : Flt) : Prop where
  blk : w.heap[cb]? = some (.cells #[U, .int .i64 out, .int .i64 many, .int .i64 F.p, .int .i64 F.e] 136 (0, 0))
  ne : ∀ q, F = some q → q.2 ≠ 0
  big : 10 < cb
section
variable {w w' : World} {cb : Nat} {U : Value} {out : Int} {many : Nat} {F : Flt}
theorem Sco.kept (h : Sco w cb U out many F) (he : w'.heap[cb]? = w.heap[cb]?) : Sco w' cb U out many F := ⟨he.trans h.blk, h.ne, h.big⟩
theorem Sco.lt (h : Sco w cb U out many F) : cb < w.heap.size := lt_of_some h.blk
theorem Sco.cells (h : Sco w cb U out many F) : w.cell? ⟨cb, 0, none⟩ = some U ∧ w.cell? ⟨cb, 1, none⟩ = some (.int .i64 out) ∧ w.cell? ⟨cb, 2, none⟩ = some (.int .i64 many) ∧ w.cell? ⟨cb, 3, none⟩ = some (.int .i64 F.p) ∧ w.cell? ⟨cb, 4, none⟩ = some (.int .i64 F.e) :=
  ⟨Lib.cell_of_heap h.blk 0, Lib.cell_of_heap h.blk 1, Lib.cell_of_heap h.blk 2, Lib.cell_of_heap h.blk 3, Lib.cell_of_heap h.blk 4⟩
theorem Sco.frz (h : Sco w cb U out many F) : w.frozen? ⟨cb, 2, none⟩ = false ∧ w.frozen? ⟨cb, 3, none⟩ = false ∧ w.frozen? ⟨cb, 4, none⟩ = false :=
  ⟨Lib.frozen_of_heap h.blk 2, Lib.frozen_of_heap h.blk 3, Lib.frozen_of_heap h.blk 4⟩
theorem Sco.setM (h : Sco w cb U out many F) : Sco (w.setCell ⟨cb, 2, none⟩ (.int .i64 ((many : Int) + 1))) cb U out (many + 1) F :=
  ⟨by simpa using heap_setCell_same w cb 2 _ _ (.int .i64 ((many : Int) + 1)) h.blk, h.ne, h.big⟩
theorem Sco.setF (h : Sco w cb U out many F) (p e : Int) : ((w.setCell ⟨cb, 3, none⟩ (.int .i64 p)).setCell ⟨cb, 4, none⟩ (.int .i64 e)).heap[cb]? = some (.cells #[U, .int .i64 out, .int .i64 many, .int .i64 p, .int .i64 e] 136 (0, 0)) := by
  have h1 := heap_setCell_same w cb 3 _ _ (.int .i64 p) h.blk
  simpa using heap_setCell_same (w.setCell ⟨cb, 3, none⟩ (.int .i64 p)) cb 4 _ _ (.int .i64 e) h1
end
set_option maxRecDepth 100000 in
theorem bad_c (p e : Int) (he : e ≠ 0) {w : World} {cb : Nat} {U : Value} {out : Int} {many : Nat} {F : Flt} (h : Sco w cb U out many F) :
    Calls Tryz.prog 116 #[.pointer (some ⟨cb, 0, none⟩), .int .i64 p, .int .i64 e] w fun ee w' => ee = .returned (.tuple #[]) ∧ Sco w' cb U out many (F.or p e) ∧ w.grownBy w' (some cb) := by
  have HS := Lib.hid h
  obtain ⟨c0, c1, c2, c3, c4⟩ := h.cells
  obtain ⟨f2, f3, f4⟩ := h.frz
  cases F with
  | some q =>
    have hq : (q.2 == 0) = false := beq_eq_false_iff_ne.2 (h.ne q rfl)
    clear h f2 f3 f4
    go_enter Tryz.func116, Tryz.ntmps116
    simp only [Flt.e, Flt.p] at c3 c4
    go_wp2_with fail
    go_end0
    exact ⟨rfl, HS.out, grown_of_below (Below.refl _ _) _⟩
  | none =>
    clear h
    go_enter Tryz.func116, Tryz.ntmps116
    simp only [Flt.e, Flt.p] at c3 c4
    go_wp2_with fail
    go_end0
    refine ⟨rfl, ⟨HS.out.setF p e, fun q hq => ?_, HS.out.big⟩, ?_⟩
    · have : q = (p, e) := (Option.some.inj hq).symm
      rw [this]; exact he
    · exact grown_trans (grown_set w cb 3 _) (grown_set _ cb 4 _)
/-- What two blocks alone have turned. -/
structure Two (w w' : World) (a b : Nat) : Prop where
  os : w'.os = w.os
  tape : w'.tape = w.tape
  output : w'.output = w.output
  size : w.heap.size ≤ w'.heap.size
  block : ∀ k, k < w.heap.size → k ≠ a → k ≠ b → w'.heap[k]? = w.heap[k]?
theorem Two.of {w w' : World} {a : Nat} (b : Nat) (h : w.grownBy w' (some a)) : Two w w' a b := ⟨h.os, h.tape, h.output, h.size, fun k hk h1 _ => h.block k hk (by simpa using h1)⟩
theorem Two.of' {w w' : World} {b : Nat} (a : Nat) (h : w.grownBy w' (some b)) : Two w w' a b := ⟨h.os, h.tape, h.output, h.size, fun k hk _ h1 => h.block k hk (by simpa using h1)⟩
theorem Two.trans {w w1 w2 : World} {a b : Nat} (h : Two w w1 a b) (h' : Two w1 w2 a b) : Two w w2 a b :=
  ⟨h'.os.trans h.os, h'.tape.trans h.tape, h'.output.trans h.output, Nat.le_trans h.size h'.size, fun k hk h1 h2 => (h'.block k (Nat.lt_of_lt_of_le hk h.size) h1 h2).trans (h.block k hk h1 h2)⟩
set_option maxRecDepth 100000 in
set_option maxHeartbeats 2000000 in
theorem let_c (p : Int) (nm : ByteArray) (t : Int) (hn : nm.size ≤ maxLen) (ht : (Lit.int .i64 t).wf = true) {w : World} {cb b : Nat} {U : Value} {out : Int} {many : Nat} {F : Flt} {env : Env} (h : Sco w cb U out many F) (hs : SeenAt w b env) (hb : b ≠ cb) (hm : many ≤ 1000) (hl : env.length ≤ 1000) (hpos : ∀ s, 0 ≤ lookE env s) :
    Calls Tryz.prog 66 #[.pointer (some ⟨cb, 0, none⟩), .map (some b), .int .i64 p, .string nm, .int .i64 t] w fun ee w' => ee = .returned (.tuple #[]) ∧ Sco w' cb U out (many + 1) (F.on (letT env many p nm t)) ∧ SeenAt w' b ((nm, t) :: env) ∧ Two w w' cb b := by
  have HC := Lib.hid h; have HM := Lib.hid hs
  obtain ⟨c0, c1, c2, c3, c4⟩ := h.cells
  obtain ⟨f2, f3, f4⟩ := h.frz
  have hlk := hs.look nm hn
  have hm' : (many : Int) ≤ 1000 := by omega
  by_cases hd : 0 < lookE env nm
  · have HD : Hid (0 < lookE env nm) := Lib.hid (by omega)
    by_cases hbg : 64 ≤ many
    · have HB : Hid (64 ≤ many) := Lib.hid (by omega)
      have hbg' : (64 : Int) ≤ many := by omega
      clear h hs
      go_enter Tryz.func66, Tryz.ntmps66
      go_wp2_with fail
      refine (bad_c p 5 (by decide) HC.out).mono ?_
      rintro ee w1 ⟨rfl, hC, hg⟩
      have HC1 := Lib.hid hC
      have HT1 := Lib.hid (Two.of b hg)
      have HM1 := Lib.hid (HM.out.kept hg (by simpa using fun e => hb e.symm))
      clear hC hg c0 c1 c2 c3 c4 f2 f3 f4 hlk
      obtain ⟨c0, c1, c2, c3, c4⟩ := HC1.out.cells
      obtain ⟨f2, f3, f4⟩ := HC1.out.frz
      go_upto_region 3 with (fail)
      have HC2 := Lib.hid (HC1.out.setM)
      have HT2 := Lib.hid ((HT1.out).trans (Two.of b (grown_set w1 cb 2 (.int .i64 ((many : Int) + 1)))))
      have HM2 := Lib.hid ((HM1.out).kept (grown_set w1 cb 2 (.int .i64 ((many : Int) + 1))) (by simpa using fun e => hb e.symm))
      clear c0 c1 c2 c3 c4 f2 f3 f4

      generalize World.setCell w1 _ _ = w2 at HC2 HT2 HM2 ⊢
      obtain ⟨c0, c1, c2, c3, c4⟩ := HC2.out.cells
      have c2' : w2.cell? ⟨cb, 2, none⟩ = some (.int .i64 ((many : Int) + 1)) := c2
      clear c2
      go_wp2_with fail
      refine (bad_c p 2 (by decide) HC2.out).mono ?_
      rintro ee w3 ⟨rfl, hC, hg⟩
      have HC3 := Lib.hid hC
      have HT3 := Lib.hid (HT2.out.trans (Two.of b hg))
      obtain ⟨w4, hput, hS4, hg4⟩ := (HM2.out.kept hg (by simpa using fun e => hb e.symm)).put nm hn t ht hl
      have HS4 := Lib.hid hS4
      clear hC hg hS4 c0 c1 c2' c3 c4
      have HG4 := Lib.hid hg4
      clear hg4
      go_wp2_with fail
      go_end0
      refine ⟨rfl, ?_, HS4.out, HT3.out.trans (Two.of' cb HG4.out)⟩
      have hfin := HC3.out.kept (HG4.out.block cb HC3.out.lt (by simpa using fun e => hb e.symm))
      rw [show F.on (letT env many p nm t) = (F.or p 5).or p 2 by
        unfold letT
        rw [if_pos (by have := HD.out; omega)]
        cases F <;> rfl]
      exact hfin
    · have HB : Hid (many < 64) := Lib.hid (by omega)
      have hbg' : (many : Int) < 64 := by omega
      clear h hs
      go_enter Tryz.func66, Tryz.ntmps66
      go_wp2_with fail
      refine (bad_c p 5 (by decide) HC.out).mono ?_
      rintro ee w1 ⟨rfl, hC, hg⟩
      have HC1 := Lib.hid hC
      have HT1 := Lib.hid (Two.of b hg)
      have HM1 := Lib.hid (HM.out.kept hg (by simpa using fun e => hb e.symm))
      clear hC hg c0 c1 c2 c3 c4 f2 f3 f4 hlk
      obtain ⟨c0, c1, c2, c3, c4⟩ := HC1.out.cells
      obtain ⟨f2, f3, f4⟩ := HC1.out.frz
      go_upto_region 3 with (fail)
      have HC2 := Lib.hid (HC1.out.setM)
      have HT2 := Lib.hid ((HT1.out).trans (Two.of b (grown_set w1 cb 2 (.int .i64 ((many : Int) + 1)))))
      have HM2 := Lib.hid ((HM1.out).kept (grown_set w1 cb 2 (.int .i64 ((many : Int) + 1))) (by simpa using fun e => hb e.symm))
      clear c0 c1 c2 c3 c4 f2 f3 f4

      generalize World.setCell w1 _ _ = w2 at HC2 HT2 HM2 ⊢
      obtain ⟨c0, c1, c2, c3, c4⟩ := HC2.out.cells
      have c2' : w2.cell? ⟨cb, 2, none⟩ = some (.int .i64 ((many : Int) + 1)) := c2
      clear c2
      obtain ⟨w4, hput, hS4, hg4⟩ := HM2.out.put nm hn t ht hl
      have HS4 := Lib.hid hS4
      clear hS4
      have HG4 := Lib.hid hg4
      clear hg4
      go_wp2_with fail
      go_end0
      refine ⟨rfl, ?_, HS4.out, HT2.out.trans (Two.of' cb HG4.out)⟩
      have hfin := HC2.out.kept (HG4.out.block cb HC2.out.lt (by simpa using fun e => hb e.symm))
      rw [show F.on (letT env many p nm t) = F.or p 5 by
        unfold letT
        rw [if_pos (by have := HD.out; omega)]
        cases F <;> rfl]
      exact hfin
  · have HD : Hid (lookE env nm = 0) := Lib.hid (by have := hpos nm; omega)
    have hd' : lookE env nm ≤ 0 := by omega
    by_cases hbg : 64 ≤ many
    · have HB : Hid (64 ≤ many) := Lib.hid (by omega)
      have hbg' : (64 : Int) ≤ many := by omega
      clear h hs
      go_enter Tryz.func66, Tryz.ntmps66
      go_upto_region 3 with (fail)
      have HC2 := Lib.hid (HC.out.setM)
      have HT2 := Lib.hid (((Two.of b (grown_of_below (Below.refl _ _) (some cb)) : Two w w cb b)).trans (Two.of b (grown_set w cb 2 (.int .i64 ((many : Int) + 1)))))
      have HM2 := Lib.hid ((HM.out).kept (grown_set w cb 2 (.int .i64 ((many : Int) + 1))) (by simpa using fun e => hb e.symm))
      clear c0 c1 c2 c3 c4 f2 f3 f4
      clear hlk
      generalize World.setCell w _ _ = w2 at HC2 HT2 HM2 ⊢
      obtain ⟨c0, c1, c2, c3, c4⟩ := HC2.out.cells
      have c2' : w2.cell? ⟨cb, 2, none⟩ = some (.int .i64 ((many : Int) + 1)) := c2
      clear c2
      go_wp2_with fail
      refine (bad_c p 2 (by decide) HC2.out).mono ?_
      rintro ee w3 ⟨rfl, hC, hg⟩
      have HC3 := Lib.hid hC
      have HT3 := Lib.hid (HT2.out.trans (Two.of b hg))
      obtain ⟨w4, hput, hS4, hg4⟩ := (HM2.out.kept hg (by simpa using fun e => hb e.symm)).put nm hn t ht hl
      have HS4 := Lib.hid hS4
      clear hC hg hS4 c0 c1 c2' c3 c4
      have HG4 := Lib.hid hg4
      clear hg4
      go_wp2_with fail
      go_end0
      refine ⟨rfl, ?_, HS4.out, HT3.out.trans (Two.of' cb HG4.out)⟩
      have hfin := HC3.out.kept (HG4.out.block cb HC3.out.lt (by simpa using fun e => hb e.symm))
      rw [show F.on (letT env many p nm t) = F.or p 2 by
        unfold letT
        rw [if_neg (by have := HD.out; omega)]; rw [if_pos (by have := HB.out; omega)]
        cases F <;> rfl]
      exact hfin
    · have HB : Hid (many < 64) := Lib.hid (by omega)
      have hbg' : (many : Int) < 64 := by omega
      clear h hs
      go_enter Tryz.func66, Tryz.ntmps66
      go_upto_region 3 with (fail)
      have HC2 := Lib.hid (HC.out.setM)
      have HT2 := Lib.hid (((Two.of b (grown_of_below (Below.refl _ _) (some cb)) : Two w w cb b)).trans (Two.of b (grown_set w cb 2 (.int .i64 ((many : Int) + 1)))))
      have HM2 := Lib.hid ((HM.out).kept (grown_set w cb 2 (.int .i64 ((many : Int) + 1))) (by simpa using fun e => hb e.symm))
      clear c0 c1 c2 c3 c4 f2 f3 f4
      clear hlk
      generalize World.setCell w _ _ = w2 at HC2 HT2 HM2 ⊢
      obtain ⟨c0, c1, c2, c3, c4⟩ := HC2.out.cells
      have c2' : w2.cell? ⟨cb, 2, none⟩ = some (.int .i64 ((many : Int) + 1)) := c2
      clear c2
      obtain ⟨w4, hput, hS4, hg4⟩ := HM2.out.put nm hn t ht hl
      have HS4 := Lib.hid hS4
      clear hS4
      have HG4 := Lib.hid hg4
      clear hg4
      go_wp2_with fail
      go_end0
      refine ⟨rfl, ?_, HS4.out, HT2.out.trans (Two.of' cb HG4.out)⟩
      have hfin := HC2.out.kept (HG4.out.block cb HC2.out.lt (by simpa using fun e => hb e.symm))
      rw [show F.on (letT env many p nm t) = F by
        unfold letT
        rw [if_neg (by have := HD.out; omega)]; rw [if_neg (by have := HB.out; omega)]
        cases F <;> rfl]
      exact hfin
end Go.Proofs.YtmngofgminlloaaGreatDoor

namespace Go.Proofs.YtmngofgminlloaaGreatDoor
open Go.RowKit Tw Go.Maps

theorem wantsT_snoc (us : List Fn) (env : Env) (x : Ex) : ∀ (l : List Ex) (ws : List Int), wantsT us env (l ++ [x]) ws = match wantsT us env l ws with
    | .ok _ => (match exT us env x with | .ok t => if t = (ws.drop l.length).headD 1 then .ok () else .bad x.pos 8 | .bad q e => .bad q e)
    | .bad q e => .bad q e := by
  intro l
  induction l with
  | nil =>
    intro ws
    simp only [List.nil_append, wantsT, List.length_nil, List.drop_zero]
    all_goals (cases exT us env x <;> rfl)
  | cons a l ih =>
    intro ws
    simp only [List.cons_append, wantsT]
    cases exT us env a with
    | bad q e => rfl
    | ok t =>
      simp only
      by_cases h : t = ws.headD 1
      · rw [if_pos h, if_pos h, ih, List.drop_tail]
        simp
      · rw [if_neg h, if_neg h]
theorem wants_step {us : List Fn} {env : Env} {xs : List Ex} {ws : List Int} {i : Nat} {x : Ex} {t : Int} {Fl : Flt} (hx : xs[i]? = some x) (hT : Fl.on (wantsT us env (xs.take i) ws) = none → ∀ t', exT us env x = .ok t' → t = t') :
    Fl.on (wantsT us env (xs.take (i + 1)) ws) = if t = (ws.drop i).headD 1 then (Fl.on (wantsT us env (xs.take i) ws)).on (exT us env x) else ((Fl.on (wantsT us env (xs.take i) ws)).on (exT us env x)).or x.pos 8 := by
  have hi : i < xs.length := by rcases Nat.lt_or_ge i xs.length with h | h; exact h; rw [List.getElem?_eq_none h] at hx; cases hx
  have e : xs.take (i + 1) = xs.take i ++ [x] := by
    rw [List.take_succ_eq_append_getElem hi]
    have : xs[i] = x := by rw [List.getElem?_eq_getElem hi] at hx; exact Option.some.inj hx
    rw [this]
  rw [e, wantsT_snoc, List.length_take, Nat.min_eq_left (by omega)]
  cases Fl with
  | some q =>
    cases wantsT us env (xs.take i) ws <;> cases exT us env x <;> simp [Flt.on, Flt.or]
  | none =>
    cases hw : wantsT us env (xs.take i) ws with
    | bad q e => cases exT us env x <;> simp [Flt.on, Flt.or]
    | ok u =>
      rw [hw] at hT
      cases hex : exT us env x with
      | bad q e => simp [Flt.on, Flt.or]
      | ok t' =>
        have := hT rfl t' hex
        subst this
        by_cases hc : t = (ws.drop i).headD 1
        · simp only [if_pos hc]; rfl
        · simp only [if_neg hc]; rfl
theorem Flt.on_ok {α : Type} (F : Flt) (a : α) : F.on (.ok a) = F := by cases F <;> rfl
theorem Flt.on_bad (F : Flt) {α : Type} (p e : Int) : F.on (.bad p e : TyR α) = F.or p e := by cases F <;> rfl
/-- The frame of the checker's methods: its state, the variables that can be seen, the script's functions. -/
structure FrT (w0 w : World) (cb b : Nat) (Au : Option Addr) (cu : Nat) (us : List Fn) (out : Int) (many : Nat) (Fl : Flt) (env : Env) (F : Nat → Prop) : Prop where
  sco : Sco w cb (.slice Au us.length cu) out many Fl
  seen : SeenAt w b env
  fns : FnsIn w F (.slice Au us.length cu) us
  gr : w0.grownBy w (some cb)
  gl : Glob w
  bc : b ≠ cb
  fc : ∀ g, F g → g ≠ cb
section
variable {w0 w w' : World} {cb b : Nat} {Au : Option Addr} {cu : Nat} {us : List Fn} {out : Int} {many : Nat} {Fl Fl' : Flt} {env : Env} {F : Nat → Prop}
theorem FrT.step (h : FrT w0 w cb b Au cu us out many Fl env F) (hs : Sco w' cb (.slice Au us.length cu) out many Fl') (hg : w.grownBy w' (some cb)) : FrT w0 w' cb b Au cu us out many Fl' env F :=
  ⟨hs, h.seen.kept hg (by have := h.bc; simpa using fun e => this e.symm), h.fns.keep (fun g h1 h2 => ⟨h1, Nat.lt_of_lt_of_le h2 hg.size, hg.block g h2 (by have := h.fc g h1; simpa using this)⟩), grown_trans h.gr hg, h.gl.of hg h.sco.big, h.bc, h.fc⟩
theorem FrT.below (h : FrT w0 w cb b Au cu us out many Fl env F) (hb : Below w.heap.size w w') : FrT w0 w' cb b Au cu us out many Fl env F :=
  h.step (h.sco.kept (hb.block cb h.sco.lt)) (grown_of_below hb _)
theorem FrT.reb (h : FrT w0 w cb b Au cu us out many Fl env F) : FrT w w cb b Au cu us out many Fl env F := { h with gr := grown_of_below (Below.refl _ _) _ }
theorem FrT.args {v : Value} {l : List Ex} (h : FrT w0 w cb b Au cu us out many Fl env F) (hg : w.grownBy w' (some cb)) (ha : ArgsIn w F v l) : ArgsIn w' F v l :=
  ha.keep (fun g h1 h2 => ⟨h1, Nat.lt_of_lt_of_le h2 hg.size, hg.block g h2 (by have := h.fc g h1; simpa using this)⟩)
end
/-- What typ answers. -/
def TypR (w : World) (cb : Nat) (U : Value) (out : Int) (many : Nat) (Fl : Flt) (r : TyR Int) (e : Ending) (w' : World) : Prop :=
  ∃ t : Int, e = .returned (.int .i64 t) ∧ (Fl = none → ∀ t', r = .ok t' → t = t') ∧ Sco w' cb U out many (Fl.on r) ∧ w.grownBy w' (some cb)
/-- No two functions have one name. -/
def Apart (us : List Fn) : Prop := ∀ (i j : Nat) (f g : Fn), us[i]? = some f → us[j]? = some g → f.name = g.name → i = j
def TypC (left : Nat) : Prop :=
  ∀ (x : Ex) (A : Option Addr) (c : Nat) (F : Nat → Prop) (w0 w : World) (cb b : Nat) (Au : Option Addr) (cu : Nat) (us : List Fn) (out : Int) (many : Nat) (Fl : Flt) (env : Env), exF x left = 0 → ExZ x → (∀ f ∈ us, FnZ f) → us.length ≤ 281474976710656 → Apart us →
    FrT w0 w cb b Au cu us out many Fl env F → ArgsIn w F (.slice A x.args.length c) x.args →
    Calls Tryz.prog 118 #[.pointer (some ⟨cb, 0, none⟩), .agg #[.int .i64 x.kind, .int .i64 x.n, .string x.text, .slice A x.args.length c, .int .i64 x.pos], .map (some b)] w (TypR w cb (.slice Au us.length cu) out many Fl (exT us env x))
end Go.Proofs.YtmngofgminlloaaGreatDoor
