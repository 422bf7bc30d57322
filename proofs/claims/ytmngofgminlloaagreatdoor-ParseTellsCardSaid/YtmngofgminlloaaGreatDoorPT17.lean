/-
  Scripts that have been read out of few short words are small, in plain Lean.
  The frames of the reference's Script: of the whole, of one function.
  The frame of the program's fun(): its result (b0), what is written of the function (bf), its rows; and what fun() answers.
  What stands there when the program's fun() goes its ways, in plain Lean.
  What stands there when the program's stmt() and cond() go their ways, in plain Lean; the answer of the frame.
-/
import Derived.Test.YtmngofgminlloaaGreatDoorPT16
import Derived.Test.YtmngofgminlloaaGreatDoorPT14
import Derived.Test.YtmngofgminlloaaGreatDoorPT12
import Derived.Test.YtmngofgminlloaaGreatDoorPT11
namespace Go.Proofs.YtmngofgminlloaaGreatDoor
open Go.RowKit Tw

def WsZ (ws : List Wd) : Prop := ws.length ≤ 4000 ∧ ∀ x ∈ ws, x.text.size ≤ 4000
theorem WsZ.text {ws : List Wd} (h : WsZ ws) (i : Nat) : (textAt ws i).size ≤ maxLen := by
  unfold textAt maxLen
  cases hx : ws[i]? with
  | none => decide
  | some x => have := h.2 x (List.mem_of_getElem? hx); simp; omega
theorem none_small : sNone.size ≤ maxLen := by unfold maxLen; decide
theorem isAt_len {ws : List Wd} {i : Nat} {s : ByteArray} (h : isAt ws i s = true) : i < ws.length := by
  unfold isAt at h
  rcases Nat.lt_or_ge i ws.length with h' | h'
  · exact h'
  · rw [List.getElem?_eq_none h'] at h; cases h
theorem kindAt_len {ws : List Wd} {i k : Nat} (h : kindAt ws i = k) (hk : k ≠ 0) : i < ws.length := by
  unfold kindAt at h
  rcases Nat.lt_or_ge i ws.length with h' | h'
  · exact h'
  · rw [List.getElem?_eq_none h'] at h; exact absurd h.symm hk
theorem lvAt_len {ws : List Wd} {i k : Nat} (h : lvAt ws i = k) (hk : k ≠ 0) : i < ws.length := by
  unfold lvAt at h
  rcases Nat.lt_or_ge i ws.length with h' | h'
  · exact h'
  · rw [List.getElem?_eq_none h'] at h; exact absurd h.symm hk
theorem headQ_len {ws : List Wd} {i : Nat} (h : headQ ws i ≠ 0) : i < ws.length := by
  unfold headQ at h
  repeat' split at h
  all_goals first
    | (exact isAt_len ‹_›)
    | (exact kindAt_len ‹_› (by decide))
    | (exact absurd rfl h)
/-- What has been read is small, and lies within the words. -/
def smallE (ws : List Wd) : Qe → Re → Prop
  | .lvl n i, .ex x j => 1 ≤ n → i < j ∧ j ≤ ws.length ∧ ExZ x
  | .one i, .ex x j => i < j ∧ j ≤ ws.length ∧ ExZ x
  | .rest n a i, .ex x j => 1 ≤ n → i ≤ ws.length → ExZ a → i ≤ j ∧ j ≤ ws.length ∧ ExZ x
  | .args _ i, .exs l j => i + l.length < j ∧ j ≤ ws.length ∧ ∀ a ∈ l, ExZ a
  | _, _ => True
theorem De.small {ws : List Wd} {en : Nat} {q : Qe} {r : Re} (hz : WsZ ws) (h : De ws en q r) : smallE ws q r := by
  have ht := hz.text
  have hl := hz.1
  have hE : ∀ {k n : Int} {t : ByteArray} {p : Int}, (Lit.int .i64 k).wf = true → t.size ≤ maxLen → ExZ (.mk k n t [] p) := fun hk h => .mk hk h (by simp) (by simp)
  have hE1 : ∀ {k n : Int} {t : ByteArray} {a : Ex} {p : Int}, (Lit.int .i64 k).wf = true → t.size ≤ maxLen → ExZ a → ExZ (.mk k n t [a] p) := fun hk h ha => .mk hk h (by simp) (by simp [ha])
  have hE2 : ∀ {j : Nat} {a b : Ex}, ExZ a → ExZ b → ExZ (twoEx ws en j a b) := fun ha hb => .mk (by decide) (ht _) (by simp) (by simp [ha, hb])
  have hEl : ∀ {k n : Int} {t : ByteArray} {l : List Ex} {p : Int}, (Lit.int .i64 k).wf = true → t.size ≤ maxLen → l.length ≤ 4000 → (∀ a ∈ l, ExZ a) → ExZ (.mk k n t l p) := fun hk h hl' ha => .mk hk h (by omega) ha
  induction h with
  | @lvl6 i r _ ih =>
    cases r with
    | ex x j => intro _; exact ih
    | exs => trivial
    | bad => trivial
  | @lvl n i j a r hn _ _ ih1 ih2 =>
    cases r with
    | ex x k =>
      intro h1
      obtain ⟨a1, a2, a3⟩ := ih1 (by omega)
      obtain ⟨b1, b2, b3⟩ := ih2 h1 a2 a3
      exact ⟨by omega, b2, b3⟩
    | exs => trivial
    | bad => trivial
  | stop _ => intro _ h2 h3; exact ⟨Nat.le_refl _, h2, h3⟩
  | @go n j j' a b r h3 h0 _ _ ih1 ih2 =>
    cases r with
    | ex x k =>
      intro h1 h2 ha
      obtain ⟨a1, a2, a3⟩ := ih1 (by omega)
      obtain ⟨b1, b2, b3⟩ := ih2 h1 a2 (hE2 ha a3)
      exact ⟨by omega, b2, b3⟩
    | exs => trivial
    | bad => trivial
  | cmp h0 _ hx ih1 =>
    intro h1 h2 ha
    obtain ⟨a1, a2, a3⟩ := ih1 (by omega)
    exact ⟨by omega, a2, hE2 ha a3⟩
  | neg h0 _ ih => exact ⟨by have := ih.1; omega, ih.2.1, hE1 (by decide) none_small ih.2.2⟩
  | not h0 _ ih => exact ⟨by have := ih.1; omega, ih.2.1, hE1 (by decide) none_small ih.2.2⟩
  | par h0 _ hc ih =>
    obtain ⟨a1, a2, a3⟩ := ih (by decide)
    exact ⟨by omega, by have := isAt_len hc; omega, a3⟩
  | tru h0 => exact ⟨by omega, by have := headQ_len (ws := ws) (by rw [h0]; decide); omega, hE (by decide) none_small⟩
  | fls h0 => exact ⟨by omega, by have := headQ_len (ws := ws) (by rw [h0]; decide); omega, hE (by decide) none_small⟩
  | host h0 _ _ _ ih => exact ⟨by have := ih.1; omega, ih.2.1, hEl (by decide) none_small (by have := ih.1; have := ih.2.1; omega) ih.2.2⟩
  | num h0 => exact ⟨by omega, by have := headQ_len (ws := ws) (by rw [h0]; decide); omega, hE (by decide) none_small⟩
  | var h0 _ => exact ⟨by omega, by have := headQ_len (ws := ws) (by rw [h0]; decide); omega, hE (by decide) (ht _)⟩
  | call h0 _ _ ih => exact ⟨by have := ih.1; omega, ih.2.1, hEl (by decide) (ht _) (by have := ih.1; have := ih.2.1; omega) ih.2.2⟩
  | close hc => exact ⟨by simp, by have := isAt_len hc; omega, by simp⟩
  | first hc _ _ ih1 ih2 =>
    obtain ⟨a1, a2, a3⟩ := ih1 (by decide)
    exact ⟨by have := ih2.1; simp; omega, ih2.2.1, by intro a ha; rcases List.mem_cons.1 ha with rfl | ha; exact a3; exact ih2.2.2 a ha⟩
  | next hc hd _ _ ih1 ih2 =>
    obtain ⟨a1, a2, a3⟩ := ih1 (by decide)
    exact ⟨by have := ih2.1; simp; omega, ih2.2.1, by intro a ha; rcases List.mem_cons.1 ha with rfl | ha; exact a3; exact ih2.2.2 a ha⟩
  | _ => trivial
theorem nameS_small {ws : List Wd} (hz : WsZ ws) (i : Nat) : (nameS ws i).size ≤ maxLen := by
  unfold nameS
  repeat' split
  · exact hz.text _
  · exact hz.text _
  · exact none_small
def smallS (ws : List Wd) : Qs → Rs → Prop
  | .stmt i, .st s j => i < j ∧ j ≤ ws.length ∧ SmZ s
  | .block i, .sts l j => i + l.length < j ∧ j ≤ ws.length ∧ ∀ s ∈ l, SmZ s
  | .stmts i, .sts l j => i + l.length < j ∧ j ≤ ws.length ∧ ∀ s ∈ l, SmZ s
  | _, _ => True
theorem exprS_ge (ws : List Wd) (i : Nat) : i ≤ exprS ws i := by unfold exprS; repeat' (first | omega | split)
theorem Ds.small {ws : List Wd} {en : Nat} {q : Qs} {r : Rs} (hz : WsZ ws) (h : Ds ws en q r) : smallS ws q r := by
  have hl := hz.1
  have hS : ∀ {k : Int} {nm : ByteArray} {a : Ex} {b e : List Sm} {p : Int}, nm.size ≤ maxLen → ExZ a → b.length ≤ 4000 → e.length ≤ 4000 → (∀ s ∈ b, SmZ s) → (∀ s ∈ e, SmZ s) → SmZ (.mk k nm a b e p) := fun h1 h2 h3 h4 h5 h6 => .mk h1 h2 (by omega) (by omega) h5 h6
  induction h with
  | @simp i j x _ _ _ hx hc =>
    obtain ⟨a1, a2, a3⟩ := hx.small hz (by decide)
    have := exprS_ge ws i
    exact ⟨by omega, by have := isAt_len hc; omega, hS (nameS_small hz _) a3 (by simp) (by simp) (by simp) (by simp)⟩
  | whil _ hx _ ih =>
    obtain ⟨a1, a2, a3⟩ := hx.small hz (by decide)
    exact ⟨by have := ih.1; omega, ih.2.1, hS none_small a3 (by have := ih.1; have := ih.2.1; omega) (by simp) ih.2.2 (by simp)⟩
  | if0 _ hx _ _ ih =>
    obtain ⟨a1, a2, a3⟩ := hx.small hz (by decide)
    exact ⟨by have := ih.1; omega, ih.2.1, hS none_small a3 (by have := ih.1; have := ih.2.1; omega) (by simp) ih.2.2 (by simp)⟩
  | ifE _ hx _ _ _ _ ih ih2 =>
    obtain ⟨a1, a2, a3⟩ := hx.small hz (by decide)
    exact ⟨by have := ih.1; have := ih2.1; omega, ih2.2.1, hS none_small a3 (by have := ih.1; have := ih.2.1; omega) (by have := ih2.1; have := ih2.2.1; omega) ih.2.2 ih2.2.2⟩
  | ifI _ hx _ _ _ _ ih ih2 =>
    obtain ⟨a1, a2, a3⟩ := hx.small hz (by decide)
    exact ⟨by have := ih.1; have := ih2.1; omega, ih2.2.1, hS none_small a3 (by have := ih.1; have := ih.2.1; omega) (by simp) ih.2.2 (by simp; exact ih2.2.2)⟩
  | @block i r _ _ ih =>
    cases r with
    | sts l j => exact ⟨by have := ih.1; omega, ih.2⟩
    | st => trivial
    | bad => trivial
  | done hc => exact ⟨by simp, by have := isAt_len hc; omega, by simp⟩
  | more _ _ _ ih1 ih2 =>
    exact ⟨by have := ih1.1; have := ih2.1; simp; omega, ih2.2.1, by intro a ha; rcases List.mem_cons.1 ha with rfl | ha; exact ih1.2.2; exact ih2.2.2 a ha⟩
  | _ => trivial
theorem typF_len {ws : List Wd} {i : Nat} {t : Int} (h : typF ws i = .ok t) : i + 2 ≤ ws.length := by
  unfold typF at h
  repeat' split at h
  all_goals first
    | (have := isAt_len ‹isAt ws (i + 1) _ = true›; omega)
    | cases h
theorem Dp.small {ws : List Wd} {en k i : Nat} {r : Rp} (hz : WsZ ws) (h : Dp ws en k i r) : ∀ ns ts j, r = .ok ns ts j → i + ns.length < j ∧ j ≤ ws.length ∧ ts.length = ns.length ∧ ∀ n ∈ ns, n.size ≤ maxLen := by
  induction h with
  | close hc => rintro ns ts j e; cases e; exact ⟨by simp, by have := isAt_len hc; omega, rfl, by simp⟩
  | @next k i j t ns ts _ _ _ ht _ ih =>
    rintro ns' ts' j' e; cases e
    obtain ⟨a1, a2, a3, a4⟩ := ih _ _ _ rfl
    have hp : i ≤ parAt k i := by unfold parAt; split <;> omega
    exact ⟨by simp; omega, a2, by simp [a3], by intro n hn; rcases List.mem_cons.1 hn with rfl | hn; exact hz.text _; exact a4 n hn⟩
  | _ => rintro ns ts j e; cases e
theorem Df.small {ws : List Wd} {en i : Nat} {f : Fn} {j : Nat} (hz : WsZ ws) (h : Df ws en i (.fn f j)) : i < j ∧ j ≤ ws.length ∧ FnZ f := by
  have hl := hz.1
  cases h with
  | fn h0 h1 h2 h3 h4 h5 =>
    obtain ⟨a1, a2, a3, a4⟩ := h3.small hz _ _ _ rfl
    obtain ⟨b1, b2, b3⟩ := h5.small hz
    exact ⟨by omega, b2, ⟨hz.text _, a4, by dsimp only; omega, by dsimp only; omega, by dsimp only; omega, b3⟩⟩
theorem Du.small {ws : List Wd} {en i : Nat} {r : Ru} (hz : WsZ ws) (h : Du ws en i r) : ∀ l, r = .fns l → i + l.length ≤ ws.length + i ∧ (i ≤ ws.length → i + l.length ≤ ws.length) ∧ ∀ f ∈ l, FnZ f := by
  induction h with
  | done _ => rintro l e; cases e; exact ⟨by simp, by simp, by simp⟩
  | more hi hf _ ih =>
    rintro l e; cases e
    obtain ⟨a1, a2, a3⟩ := hf.small hz
    obtain ⟨b1, b2, b3⟩ := ih _ rfl
    have := b2 a2
    exact ⟨by simp; omega, fun _ => by simp; omega, by intro f' hf'; rcases List.mem_cons.1 hf' with rfl | hf'; exact a3; exact b3 _ hf'⟩
  | _ => rintro l e; cases e
end Go.Proofs.YtmngofgminlloaaGreatDoor

namespace Go.Proofs.YtmngofgminlloaaGreatDoor
open Go.RowKit Tw Go.Maps

structure FrU (w W : World) (rb bu b2 base : Nat) (v : Value) (ws : List Wd) (i en : Nat) (b : Bool) (A : Option Addr) (c : Nat) (l : List (Fn × Value × Value × Value)) : Prop where
  rd : Rd W rb v ws i en b
  un : W.heap[bu]? = some (.cells #[.slice A l.length c] 24 (0, 0))
  res : W.heap[b2]? = some (.cells #[.slice none 0 0] 24 (0, 0))
  row : GRow fnElem W base 32 6 (.slice A l.length c) l
  be : Below w.heap.size w W
  gl : Glob W
  r0 : 10 < rb
  z0 : w.heap.size ≤ b2
  z1 : b2 < rb
  z2 : rb < bu
  z3 : bu < base
  z4 : base ≤ W.heap.size
theorem below_grown {B : Nat} {w w1 w2 : World} {r : Nat} (h : Below B w w1) (hg : w1.grownBy w2 (some r)) (hr : B ≤ r) (hB : B ≤ w1.heap.size) : Below B w w2 :=
  ⟨hg.os.trans h.os, hg.tape.trans h.tape, hg.output.trans h.output, Nat.le_trans h.size hg.size, fun k hk => (hg.block k (by omega) (by simp; omega)).trans (h.block k hk)⟩
theorem FrU.step {w W W' : World} {rb bu b2 base : Nat} {v : Value} {ws : List Wd} {i en : Nat} {b : Bool} {A : Option Addr} {c : Nat} {l : List (Fn × Value × Value × Value)} {i' : Nat} {b' : Bool}
    (h : FrU w W rb bu b2 base v ws i en b A c l) (hr : Rd W' rb v ws i' en b') (hg : W.grownBy W' (some rb)) : FrU w W' rb bu b2 base v ws i' en b' A c l := by
  have h0 := h.z0; have h1 := h.z1; have h2 := h.z2; have h3 := h.z3; have h4 := h.z4
  exact ⟨hr, (hg.block bu (by omega) (by simp; omega)).trans h.un, (hg.block b2 (by omega) (by simp; omega)).trans h.res, h.row.kept hg (fun k e => .inl (by cases e; omega)), below_grown h.be hg (by omega) (by omega), h.gl.of hg h.r0, h.r0, h0, h1, h2, h3, Nat.le_trans h4 hg.size⟩
/-- The frame of one function: what is written of it lies in bf; its rows lie in new blocks. -/
structure FrF (wr W : World) (rb bf base : Nat) (v : Value) (ws : List Wd) (i en : Nat) (b : Bool) (nm : ByteArray) (An : Option Addr) (cn : Nat) (ns : List ByteArray) (At : Option Addr) (ct : Nat) (ts : List Int) (out : Int) (vb : Value) (pos : Int) : Prop where
  rd : Rd W rb v ws i en b
  fb : W.heap[bf]? = some (.cells #[.string nm, .slice An ns.length cn, .slice At ts.length ct, .int .i64 out, vb, .int .i64 pos] 32 (0, 0))
  gr : wr.grownBy W (some rb)
  gl : Glob W
  rn : GRow strElem W base 9 1 (.slice An ns.length cn) ns
  rt : GRow intElem W base 3 1 (.slice At ts.length ct) ts
  ne : ∀ g, (Value.slice An ns.length cn).ownBlock = some g → (Value.slice At ts.length ct).ownBlock ≠ some g
  r0 : 10 < rb
  z0 : rb < wr.heap.size
  z1 : wr.heap.size ≤ bf
  z2 : bf < base
  z3 : base ≤ W.heap.size
section
variable {wr W W' : World} {rb bf base : Nat} {v : Value} {ws : List Wd} {i en : Nat} {b : Bool} {nm : ByteArray} {An : Option Addr} {cn : Nat} {ns : List ByteArray} {At : Option Addr} {ct : Nat} {ts : List Int} {out : Int} {vb : Value} {pos : Int}
theorem FrF.step {i' : Nat} {b' : Bool} (h : FrF wr W rb bf base v ws i en b nm An cn ns At ct ts out vb pos) (hr : Rd W' rb v ws i' en b') (hg : W.grownBy W' (some rb)) : FrF wr W' rb bf base v ws i' en b' nm An cn ns At ct ts out vb pos := by
  have h0 := h.z0; have h1 := h.z1; have h2 := h.z2; have h3 := h.z3
  exact ⟨hr, (hg.block bf (by omega) (by simp; omega)).trans h.fb, grown_trans h.gr hg, h.gl.of hg h.r0, h.rn.kept hg (fun k e => .inl (by cases e; omega)), h.rt.kept hg (fun k e => .inl (by cases e; omega)), h.ne, h.r0, h0, h1, h2, Nat.le_trans h3 hg.size⟩
theorem FrF.below (h : FrF wr W rb bf base v ws i en b nm An cn ns At ct ts out vb pos) (hb : Below W.heap.size W W') : FrF wr W' rb bf base v ws i en b nm An cn ns At ct ts out vb pos := h.step (h.rd.keep hb) (grown_of_below hb _)
/-- A write of a cell of the function's. -/
theorem FrF.cell {x : Value} (h : FrF wr W rb bf base v ws i en b nm An cn ns At ct ts out vb pos) (j : Nat) : W.grownBy (W.setCell ⟨bf, j, none⟩ x) (some bf) ∧ Rd (W.setCell ⟨bf, j, none⟩ x) rb v ws i en b ∧ wr.grownBy (W.setCell ⟨bf, j, none⟩ x) (some rb) ∧ Glob (W.setCell ⟨bf, j, none⟩ x) ∧ GRow strElem (W.setCell ⟨bf, j, none⟩ x) base 9 1 (.slice An ns.length cn) ns ∧ GRow intElem (W.setCell ⟨bf, j, none⟩ x) base 3 1 (.slice At ts.length ct) ts := by
  have h0 := h.z0; have h1 := h.z1; have h2 := h.z2; have h3 := h.z3
  have hg := grown_set W bf j x
  exact ⟨hg, h.rd.grown hg (by omega), grown_new h.gr hg (by omega), h.gl.same hg.size (fun g hg' => hg.block g (by have := h.r0; omega) (by simp; have := h.r0; omega)), h.rn.kept hg (fun k e => .inl (by cases e; omega)), h.rt.kept hg (fun k e => .inl (by cases e; omega))⟩
theorem FrF.s0 (h : FrF wr W rb bf base v ws i en b nm An cn ns At ct ts out vb pos) (x : ByteArray) : FrF wr (W.setCell ⟨bf, 0, none⟩ (.string x)) rb bf base v ws i en b x An cn ns At ct ts out vb pos := by
  obtain ⟨h1, h2, h3, h4, h5, h6⟩ := h.cell (x := (.string x)) 0
  exact ⟨h2, by simpa using heap_setCell_same W bf 0 _ _ (.string x) h.fb, h3, h4, h5, h6, h.ne, h.r0, h.z0, h.z1, h.z2, Nat.le_trans h.z3 h1.size⟩
theorem FrF.s3 (h : FrF wr W rb bf base v ws i en b nm An cn ns At ct ts out vb pos) (x : Int) : FrF wr (W.setCell ⟨bf, 3, none⟩ (.int .i64 x)) rb bf base v ws i en b nm An cn ns At ct ts x vb pos := by
  obtain ⟨h1, h2, h3, h4, h5, h6⟩ := h.cell (x := (.int .i64 x)) 3
  exact ⟨h2, by simpa using heap_setCell_same W bf 3 _ _ (.int .i64 x) h.fb, h3, h4, h5, h6, h.ne, h.r0, h.z0, h.z1, h.z2, Nat.le_trans h.z3 h1.size⟩
theorem FrF.s4 (h : FrF wr W rb bf base v ws i en b nm An cn ns At ct ts out vb pos) (x : Value) : FrF wr (W.setCell ⟨bf, 4, none⟩ x) rb bf base v ws i en b nm An cn ns At ct ts out x pos := by
  obtain ⟨h1, h2, h3, h4, h5, h6⟩ := h.cell (x := x) 4
  exact ⟨h2, by simpa using heap_setCell_same W bf 4 _ _ x h.fb, h3, h4, h5, h6, h.ne, h.r0, h.z0, h.z1, h.z2, Nat.le_trans h.z3 h1.size⟩
/-- One name more. -/
theorem FrF.name {s : ByteArray} {g cap k : Nat} (h : FrF wr W rb bf base v ws i en b nm An cn ns At ct ts out vb pos) (ho : W'.ownsRow base 9 1 (.slice (some ⟨g, 0, none⟩) (ns.length + 1) cap) (ns.length + 1) (ns.flatMap strElem.cells ++ strElem.cells s)) (hg : W.grownBy W' (Value.slice An ns.length cn).ownBlock) (hat : (Value.slice An ns.length cn).ownBlock = some g ∨ g = W.heap.size) (hk : k = ns.length + 1) :
    FrF wr (W'.setCell ⟨bf, 1, none⟩ (.slice (some ⟨g, 0, none⟩) k cap)) rb bf base v ws i en b nm (some ⟨g, 0, none⟩) cap (ns ++ [s]) At ct ts out vb pos := by
  subst hk
  have h0 := h.z0; have h1 := h.z1; have h2 := h.z2; have h3 := h.z3
  have hlt := h.rn.1.lt
  have hrow : ∀ k, (Value.slice An ns.length cn).ownBlock = some k → base ≤ k := fun k e => (hlt k e).1
  have hrn : GRow strElem W' base 9 1 (.slice (some ⟨g, 0, none⟩) (ns.length + 1) cap) (ns ++ [s]) := GRow.app (F := fun _ => False) h.rn trivial (fun _ h => h.elim) ho hg hat
  have hrt : GRow intElem W' base 3 1 (.slice At ts.length ct) ts := h.rt.beside (fun _ _ _ => trivial) hg (by
    cases hv : (Value.slice At ts.length ct).ownBlock with
    | none => exact .inl rfl
    | some k => right; intro e; exact h.ne k e.symm hv)
  have hgl : Glob W' := h.gl.same hg.size (fun q hq => hg.block q (by have := h.r0; omega) (fun e => by have := hrow q e.symm; have := h.r0; omega))
  have hset := grown_set W' bf 1 (.slice (some ⟨g, 0, none⟩) (ns.length + 1) cap)
  have hfb : W'.heap[bf]? = some (.cells #[.string nm, .slice An ns.length cn, .slice At ts.length ct, .int .i64 out, vb, .int .i64 pos] 32 (0, 0)) := (hg.block bf (by omega) (fun e => by have := hrow bf e.symm; omega)).trans h.fb
  have hgr : wr.grownBy W' (some rb) := ⟨hg.os.trans h.gr.os, hg.tape.trans h.gr.tape, hg.output.trans h.gr.output, Nat.le_trans h.gr.size hg.size, fun q hq hr => (hg.block q (Nat.lt_of_lt_of_le hq h.gr.size) (fun e => by have := hrow q e.symm; omega)).trans (h.gr.block q hq hr)⟩
  have hrd : Rd W' rb v ws i en b := ⟨(hg.block rb h.rd.lt (fun e => by have := hrow rb e.symm; omega)).trans h.rd.blk, h.rd.row.same fun q hq => hg.block q (Nat.lt_trans hq h.rd.lt) (fun e => by have := hrow q e.symm; omega), h.rd.len, h.rd.pos⟩
  have e1 : (ns ++ [s]).length = ns.length + 1 := by simp
  refine ⟨hrd.grown hset (by omega), by rw [e1]; simpa using heap_setCell_same W' bf 1 _ _ (.slice (some ⟨g, 0, none⟩) (ns.length + 1) cap) hfb, grown_new hgr hset (by omega), hgl.same hset.size (fun q hq => hset.block q (by have := h.r0; have := hg.size; omega) (by simp; have := h.r0; omega)),
    by rw [e1]; exact hrn.kept hset (fun k e => .inl (by cases e; omega)), hrt.kept hset (fun k e => .inl (by cases e; omega)), ?_, h.r0, h0, h1, h2, Nat.le_trans h3 (Nat.le_trans hg.size hset.size)⟩
  intro q hq e
  simp [Value.ownBlock] at hq
  subst hq
  rcases hat with hat | hat
  · exact h.ne g hat e
  · have := (h.rt.1.lt g e).2; omega
/-- One type more. -/
theorem FrF.typ {s : Int} {g cap k : Nat} (h : FrF wr W rb bf base v ws i en b nm An cn ns At ct ts out vb pos) (ho : W'.ownsRow base 3 1 (.slice (some ⟨g, 0, none⟩) (ts.length + 1) cap) (ts.length + 1) (ts.flatMap intElem.cells ++ intElem.cells s)) (hg : W.grownBy W' (Value.slice At ts.length ct).ownBlock) (hat : (Value.slice At ts.length ct).ownBlock = some g ∨ g = W.heap.size) (hk : k = ts.length + 1) :
    FrF wr (W'.setCell ⟨bf, 2, none⟩ (.slice (some ⟨g, 0, none⟩) k cap)) rb bf base v ws i en b nm An cn ns (some ⟨g, 0, none⟩) cap (ts ++ [s]) out vb pos := by
  subst hk
  have h0 := h.z0; have h1 := h.z1; have h2 := h.z2; have h3 := h.z3
  have hlt := h.rt.1.lt
  have hrow : ∀ k, (Value.slice At ts.length ct).ownBlock = some k → base ≤ k := fun k e => (hlt k e).1
  have hrt : GRow intElem W' base 3 1 (.slice (some ⟨g, 0, none⟩) (ts.length + 1) cap) (ts ++ [s]) := GRow.app (F := fun _ => False) h.rt trivial (fun _ h => h.elim) ho hg hat
  have hrn : GRow strElem W' base 9 1 (.slice An ns.length cn) ns := h.rn.beside (fun _ _ _ => trivial) hg (by
    cases hv : (Value.slice An ns.length cn).ownBlock with
    | none => exact .inl rfl
    | some k => right; intro e; exact h.ne k hv e.symm)
  have hgl : Glob W' := h.gl.same hg.size (fun q hq => hg.block q (by have := h.r0; omega) (fun e => by have := hrow q e.symm; have := h.r0; omega))
  have hset := grown_set W' bf 2 (.slice (some ⟨g, 0, none⟩) (ts.length + 1) cap)
  have hfb : W'.heap[bf]? = some (.cells #[.string nm, .slice An ns.length cn, .slice At ts.length ct, .int .i64 out, vb, .int .i64 pos] 32 (0, 0)) := (hg.block bf (by omega) (fun e => by have := hrow bf e.symm; omega)).trans h.fb
  have hgr : wr.grownBy W' (some rb) := ⟨hg.os.trans h.gr.os, hg.tape.trans h.gr.tape, hg.output.trans h.gr.output, Nat.le_trans h.gr.size hg.size, fun q hq hr => (hg.block q (Nat.lt_of_lt_of_le hq h.gr.size) (fun e => by have := hrow q e.symm; omega)).trans (h.gr.block q hq hr)⟩
  have hrd : Rd W' rb v ws i en b := ⟨(hg.block rb h.rd.lt (fun e => by have := hrow rb e.symm; omega)).trans h.rd.blk, h.rd.row.same fun q hq => hg.block q (Nat.lt_trans hq h.rd.lt) (fun e => by have := hrow q e.symm; omega), h.rd.len, h.rd.pos⟩
  have e1 : (ts ++ [s]).length = ts.length + 1 := by simp
  refine ⟨hrd.grown hset (by omega), by rw [e1]; simpa using heap_setCell_same W' bf 2 _ _ (.slice (some ⟨g, 0, none⟩) (ts.length + 1) cap) hfb, grown_new hgr hset (by omega), hgl.same hset.size (fun q hq => hset.block q (by have := h.r0; have := hg.size; omega) (by simp; have := h.r0; omega)),
    hrn.kept hset (fun k e => .inl (by cases e; omega)), by rw [e1]; exact hrt.kept hset (fun k e => .inl (by cases e; omega)), ?_, h.r0, h0, h1, h2, Nat.le_trans h3 (Nat.le_trans hg.size hset.size)⟩
  intro q hq e
  simp [Value.ownBlock] at e
  subst e
  rcases hat with hat | hat
  · exact h.ne g hq hat
  · have := (h.rn.1.lt g hq).2; omega
end
end Go.Proofs.YtmngofgminlloaaGreatDoor

namespace Go.Proofs.YtmngofgminlloaaGreatDoor
open Go.RowKit Tw

/-- The frame of one function: what is written of it lies in bf; its rows lie in new blocks. -/
structure FrG (wr W : World) (rb b0 bf base : Nat) (v : Value) (ws : List Wd) (i en : Nat) (nm : ByteArray) (An : Option Addr) (cn : Nat) (ns : List ByteArray) (At : Option Addr) (ct : Nat) (ts : List Int) (out : Int) (vb : Value) (pos : Int) : Prop where
  rd : Rq W rb v ws i en
  fb : W.heap[bf]? = some (.cells #[.string nm, .slice An ns.length cn, .slice At ts.length ct, .int .i64 out, vb, .int .i64 pos] 32 (0, 0))
  res : W.heap[b0]? = some (.cells #[.string ⟨#[]⟩, .slice none 0 0, .slice none 0 0, .int .i64 0, .slice none 0 0, .int .i64 0] 32 (0, 0))
  gr : wr.grownBy W (some rb)
  gl : Glob W
  rn : GRow strElem W base 9 1 (.slice An ns.length cn) ns
  rt : GRow intElem W base 3 1 (.slice At ts.length ct) ts
  ne : ∀ g, (Value.slice An ns.length cn).ownBlock = some g → (Value.slice At ts.length ct).ownBlock ≠ some g
  r0 : 10 < rb
  z0 : rb < wr.heap.size
  z1 : wr.heap.size ≤ bf
  zb : wr.heap.size ≤ b0 ∧ b0 < bf
  z2 : bf < base
  z3 : base ≤ W.heap.size
section
variable {wr W W' : World} {rb b0 bf base : Nat} {v : Value} {ws : List Wd} {i en : Nat} {nm : ByteArray} {An : Option Addr} {cn : Nat} {ns : List ByteArray} {At : Option Addr} {ct : Nat} {ts : List Int} {out : Int} {vb : Value} {pos : Int}
theorem FrG.step {i' : Nat} (h : FrG wr W rb b0 bf base v ws i en nm An cn ns At ct ts out vb pos) (hr : Rq W' rb v ws i' en) (hg : W.grownBy W' (some rb)) : FrG wr W' rb b0 bf base v ws i' en nm An cn ns At ct ts out vb pos := by
  have h0 := h.z0; have h1 := h.z1; have h2 := h.z2; have h3 := h.z3; have hb := h.zb
  exact ⟨hr, (hg.block bf (by omega) (by simp; omega)).trans h.fb, (hg.block b0 (by omega) (by simp; omega)).trans h.res, grown_trans h.gr hg, h.gl.of hg h.r0, h.rn.kept hg (fun k e => .inl (by cases e; omega)), h.rt.kept hg (fun k e => .inl (by cases e; omega)), h.ne, h.r0, h0, h1, h.zb, h2, Nat.le_trans h3 hg.size⟩
theorem FrG.below (h : FrG wr W rb b0 bf base v ws i en nm An cn ns At ct ts out vb pos) (hb : Below W.heap.size W W') : FrG wr W' rb b0 bf base v ws i en nm An cn ns At ct ts out vb pos := h.step (h.rd.keep hb) (grown_of_below hb _)
/-- A write of a cell of the function's. -/
theorem FrG.cell {x : Value} (h : FrG wr W rb b0 bf base v ws i en nm An cn ns At ct ts out vb pos) (j : Nat) : W.grownBy (W.setCell ⟨bf, j, none⟩ x) (some bf) ∧ Rq (W.setCell ⟨bf, j, none⟩ x) rb v ws i en ∧ wr.grownBy (W.setCell ⟨bf, j, none⟩ x) (some rb) ∧ Glob (W.setCell ⟨bf, j, none⟩ x) ∧ GRow strElem (W.setCell ⟨bf, j, none⟩ x) base 9 1 (.slice An ns.length cn) ns ∧ GRow intElem (W.setCell ⟨bf, j, none⟩ x) base 3 1 (.slice At ts.length ct) ts ∧ (W.setCell ⟨bf, j, none⟩ x).heap[b0]? = some (.cells #[.string ⟨#[]⟩, .slice none 0 0, .slice none 0 0, .int .i64 0, .slice none 0 0, .int .i64 0] 32 (0, 0)) := by
  have h0 := h.z0; have h1 := h.z1; have h2 := h.z2; have h3 := h.z3; have hb := h.zb
  have hg := grown_set W bf j x
  exact ⟨hg, h.rd.grown hg (by omega), grown_new h.gr hg (by omega), h.gl.same hg.size (fun g hg' => hg.block g (by have := h.r0; omega) (by simp; have := h.r0; omega)), h.rn.kept hg (fun k e => .inl (by cases e; omega)), h.rt.kept hg (fun k e => .inl (by cases e; omega)), (hg.block b0 (by omega) (by simp; omega)).trans h.res⟩
theorem FrG.s0 (h : FrG wr W rb b0 bf base v ws i en nm An cn ns At ct ts out vb pos) (x : ByteArray) : FrG wr (W.setCell ⟨bf, 0, none⟩ (.string x)) rb b0 bf base v ws i en x An cn ns At ct ts out vb pos := by
  obtain ⟨h1, h2, h3, h4, h5, h6, h7⟩ := h.cell (x := (.string x)) 0
  exact ⟨h2, by simpa using heap_setCell_same W bf 0 _ _ (.string x) h.fb, h7, h3, h4, h5, h6, h.ne, h.r0, h.z0, h.z1, h.zb, h.z2, Nat.le_trans h.z3 h1.size⟩
theorem FrG.s3 (h : FrG wr W rb b0 bf base v ws i en nm An cn ns At ct ts out vb pos) (x : Int) : FrG wr (W.setCell ⟨bf, 3, none⟩ (.int .i64 x)) rb b0 bf base v ws i en nm An cn ns At ct ts x vb pos := by
  obtain ⟨h1, h2, h3, h4, h5, h6, h7⟩ := h.cell (x := (.int .i64 x)) 3
  exact ⟨h2, by simpa using heap_setCell_same W bf 3 _ _ (.int .i64 x) h.fb, h7, h3, h4, h5, h6, h.ne, h.r0, h.z0, h.z1, h.zb, h.z2, Nat.le_trans h.z3 h1.size⟩
theorem FrG.s4 (h : FrG wr W rb b0 bf base v ws i en nm An cn ns At ct ts out vb pos) (x : Value) : FrG wr (W.setCell ⟨bf, 4, none⟩ x) rb b0 bf base v ws i en nm An cn ns At ct ts out x pos := by
  obtain ⟨h1, h2, h3, h4, h5, h6, h7⟩ := h.cell (x := x) 4
  exact ⟨h2, by simpa using heap_setCell_same W bf 4 _ _ x h.fb, h7, h3, h4, h5, h6, h.ne, h.r0, h.z0, h.z1, h.zb, h.z2, Nat.le_trans h.z3 h1.size⟩
/-- One name more. -/
theorem FrG.name {s : ByteArray} {g cap k : Nat} (h : FrG wr W rb b0 bf base v ws i en nm An cn ns At ct ts out vb pos) (ho : W'.ownsRow base 9 1 (.slice (some ⟨g, 0, none⟩) (ns.length + 1) cap) (ns.length + 1) (ns.flatMap strElem.cells ++ strElem.cells s)) (hg : W.grownBy W' (Value.slice An ns.length cn).ownBlock) (hat : (Value.slice An ns.length cn).ownBlock = some g ∨ g = W.heap.size) (hk : k = ns.length + 1) :
    FrG wr (W'.setCell ⟨bf, 1, none⟩ (.slice (some ⟨g, 0, none⟩) k cap)) rb b0 bf base v ws i en nm (some ⟨g, 0, none⟩) cap (ns ++ [s]) At ct ts out vb pos := by
  subst hk
  have h0 := h.z0; have h1 := h.z1; have h2 := h.z2; have h3 := h.z3; have hb := h.zb
  have hlt := h.rn.1.lt
  have hrow : ∀ k, (Value.slice An ns.length cn).ownBlock = some k → base ≤ k := fun k e => (hlt k e).1
  have hrn : GRow strElem W' base 9 1 (.slice (some ⟨g, 0, none⟩) (ns.length + 1) cap) (ns ++ [s]) := GRow.app (F := fun _ => False) h.rn trivial (fun _ h => h.elim) ho hg hat
  have hrt : GRow intElem W' base 3 1 (.slice At ts.length ct) ts := h.rt.beside (fun _ _ _ => trivial) hg (by
    cases hv : (Value.slice At ts.length ct).ownBlock with
    | none => exact .inl rfl
    | some k => right; intro e; exact h.ne k e.symm hv)
  have hgl : Glob W' := h.gl.same hg.size (fun q hq => hg.block q (by have := h.r0; omega) (fun e => by have := hrow q e.symm; have := h.r0; omega))
  have hset := grown_set W' bf 1 (.slice (some ⟨g, 0, none⟩) (ns.length + 1) cap)
  have hfb : W'.heap[bf]? = some (.cells #[.string nm, .slice An ns.length cn, .slice At ts.length ct, .int .i64 out, vb, .int .i64 pos] 32 (0, 0)) := (hg.block bf (by omega) (fun e => by have := hrow bf e.symm; omega)).trans h.fb
  have hgr : wr.grownBy W' (some rb) := ⟨hg.os.trans h.gr.os, hg.tape.trans h.gr.tape, hg.output.trans h.gr.output, Nat.le_trans h.gr.size hg.size, fun q hq hr => (hg.block q (Nat.lt_of_lt_of_le hq h.gr.size) (fun e => by have := hrow q e.symm; omega)).trans (h.gr.block q hq hr)⟩
  have hrd : Rq W' rb v ws i en := ⟨(hg.block rb h.rd.lt (fun e => by have := hrow rb e.symm; omega)).trans h.rd.blk, h.rd.row.same fun q hq => hg.block q (Nat.lt_trans hq h.rd.lt) (fun e => by have := hrow q e.symm; omega), h.rd.len, h.rd.pos⟩
  have e1 : (ns ++ [s]).length = ns.length + 1 := by simp
  refine ⟨hrd.grown hset (by omega), by rw [e1]; simpa using heap_setCell_same W' bf 1 _ _ (.slice (some ⟨g, 0, none⟩) (ns.length + 1) cap) hfb, (hset.block b0 (by have := hg.size; omega) (by simp; omega)).trans ((hg.block b0 (by omega) (fun e => by have := hrow b0 e.symm; omega)).trans h.res), grown_new hgr hset (by omega), hgl.same hset.size (fun q hq => hset.block q (by have := h.r0; have := hg.size; omega) (by simp; have := h.r0; omega)),
    by rw [e1]; exact hrn.kept hset (fun k e => .inl (by cases e; omega)), hrt.kept hset (fun k e => .inl (by cases e; omega)), ?_, h.r0, h0, h1, h.zb, h2, Nat.le_trans h3 (Nat.le_trans hg.size hset.size)⟩
  intro q hq e
  simp [Value.ownBlock] at hq
  subst hq
  rcases hat with hat | hat
  · exact h.ne g hat e
  · have := (h.rt.1.lt g e).2; omega
/-- One type more. -/
theorem FrG.typ {s : Int} {g cap k : Nat} (h : FrG wr W rb b0 bf base v ws i en nm An cn ns At ct ts out vb pos) (ho : W'.ownsRow base 3 1 (.slice (some ⟨g, 0, none⟩) (ts.length + 1) cap) (ts.length + 1) (ts.flatMap intElem.cells ++ intElem.cells s)) (hg : W.grownBy W' (Value.slice At ts.length ct).ownBlock) (hat : (Value.slice At ts.length ct).ownBlock = some g ∨ g = W.heap.size) (hk : k = ts.length + 1) :
    FrG wr (W'.setCell ⟨bf, 2, none⟩ (.slice (some ⟨g, 0, none⟩) k cap)) rb b0 bf base v ws i en nm An cn ns (some ⟨g, 0, none⟩) cap (ts ++ [s]) out vb pos := by
  subst hk
  have h0 := h.z0; have h1 := h.z1; have h2 := h.z2; have h3 := h.z3; have hb := h.zb
  have hlt := h.rt.1.lt
  have hrow : ∀ k, (Value.slice At ts.length ct).ownBlock = some k → base ≤ k := fun k e => (hlt k e).1
  have hrt : GRow intElem W' base 3 1 (.slice (some ⟨g, 0, none⟩) (ts.length + 1) cap) (ts ++ [s]) := GRow.app (F := fun _ => False) h.rt trivial (fun _ h => h.elim) ho hg hat
  have hrn : GRow strElem W' base 9 1 (.slice An ns.length cn) ns := h.rn.beside (fun _ _ _ => trivial) hg (by
    cases hv : (Value.slice An ns.length cn).ownBlock with
    | none => exact .inl rfl
    | some k => right; intro e; exact h.ne k hv e.symm)
  have hgl : Glob W' := h.gl.same hg.size (fun q hq => hg.block q (by have := h.r0; omega) (fun e => by have := hrow q e.symm; have := h.r0; omega))
  have hset := grown_set W' bf 2 (.slice (some ⟨g, 0, none⟩) (ts.length + 1) cap)
  have hfb : W'.heap[bf]? = some (.cells #[.string nm, .slice An ns.length cn, .slice At ts.length ct, .int .i64 out, vb, .int .i64 pos] 32 (0, 0)) := (hg.block bf (by omega) (fun e => by have := hrow bf e.symm; omega)).trans h.fb
  have hgr : wr.grownBy W' (some rb) := ⟨hg.os.trans h.gr.os, hg.tape.trans h.gr.tape, hg.output.trans h.gr.output, Nat.le_trans h.gr.size hg.size, fun q hq hr => (hg.block q (Nat.lt_of_lt_of_le hq h.gr.size) (fun e => by have := hrow q e.symm; omega)).trans (h.gr.block q hq hr)⟩
  have hrd : Rq W' rb v ws i en := ⟨(hg.block rb h.rd.lt (fun e => by have := hrow rb e.symm; omega)).trans h.rd.blk, h.rd.row.same fun q hq => hg.block q (Nat.lt_trans hq h.rd.lt) (fun e => by have := hrow q e.symm; omega), h.rd.len, h.rd.pos⟩
  have e1 : (ts ++ [s]).length = ts.length + 1 := by simp
  refine ⟨hrd.grown hset (by omega), by rw [e1]; simpa using heap_setCell_same W' bf 2 _ _ (.slice (some ⟨g, 0, none⟩) (ts.length + 1) cap) hfb, (hset.block b0 (by have := hg.size; omega) (by simp; omega)).trans ((hg.block b0 (by omega) (fun e => by have := hrow b0 e.symm; omega)).trans h.res), grown_new hgr hset (by omega), hgl.same hset.size (fun q hq => hset.block q (by have := h.r0; have := hg.size; omega) (by simp; have := h.r0; omega)),
    hrn.kept hset (fun k e => .inl (by cases e; omega)), by rw [e1]; exact hrt.kept hset (fun k e => .inl (by cases e; omega)), ?_, h.r0, h0, h1, h.zb, h2, Nat.le_trans h3 (Nat.le_trans hg.size hset.size)⟩
  intro q hq e
  simp [Value.ownBlock] at e
  subst e
  rcases hat with hat | hat
  · exact h.ne g hq hat
  · have := (h.rn.1.lt g hq).2; omega
end
theorem set6 {w : World} {b t : Nat} {u0 u1 u2 u3 u4 u5 : Value} (v0 v1 v2 v3 v4 v5 : Value) (h : w.heap[b]? = some (.cells #[u0, u1, u2, u3, u4, u5] t (0, 0))) :
    ((((((w.setCell ⟨b, 0, none⟩ v0).setCell ⟨b, 1, none⟩ v1).setCell ⟨b, 2, none⟩ v2).setCell ⟨b, 3, none⟩ v3).setCell ⟨b, 4, none⟩ v4).setCell ⟨b, 5, none⟩ v5).heap[b]? = some (.cells #[v0, v1, v2, v3, v4, v5] t (0, 0)) := by
  have h0 := heap_setCell_same _ b 0 _ _ v0 h
  have h1 := heap_setCell_same _ b 1 _ _ v1 h0
  have h2 := heap_setCell_same _ b 2 _ _ v2 h1
  have h3 := heap_setCell_same _ b 3 _ _ v3 h2
  have h4 := heap_setCell_same _ b 4 _ _ v4 h3
  have h5 := heap_setCell_same _ b 5 _ _ v5 h4
  simpa using h5
theorem grown6 (w : World) (b : Nat) (v0 v1 v2 v3 v4 v5 : Value) : w.grownBy ((((((w.setCell ⟨b, 0, none⟩ v0).setCell ⟨b, 1, none⟩ v1).setCell ⟨b, 2, none⟩ v2).setCell ⟨b, 3, none⟩ v3).setCell ⟨b, 4, none⟩ v4).setCell ⟨b, 5, none⟩ v5) (some b) :=
  grown_trans (grown_trans (grown_trans (grown_trans (grown_trans (grown_set _ _ _ _) (grown_set _ _ _ _)) (grown_set _ _ _ _)) (grown_set _ _ _ _)) (grown_set _ _ _ _)) (grown_set _ _ _ _)
theorem fnInfo : (Tryz.prog.info? 32).map (·.size) = some 6 := by kernel_rfl
theorem StrsIn.later {w w' : World} {F F' : Nat → Prop} {v : Value} {l : List ByteArray} (h : StrsIn w F v l) (row : Option Nat) (hg : w.grownBy w' row) (hk : ∀ g, F g → row ≠ some g) (hF : ∀ g, F g → F' g) : StrsIn w' F' v l :=
  h.keep fun g h1 h2 => ⟨hF g h1, Nat.lt_of_lt_of_le h2 hg.size, hg.block g h2 (fun e => hk g h1 e.symm)⟩
theorem IntsIn.later {w w' : World} {F F' : Nat → Prop} {v : Value} {l : List Int} (h : IntsIn w F v l) (row : Option Nat) (hg : w.grownBy w' row) (hk : ∀ g, F g → row ≠ some g) (hF : ∀ g, F g → F' g) : IntsIn w' F' v l :=
  h.keep fun g h1 h2 => ⟨hF g h1, Nat.lt_of_lt_of_le h2 hg.size, hg.block g h2 (fun e => hk g h1 e.symm)⟩
/-- What fun() answers, by what stands there. -/
def FnR (w : World) (rb : Nat) (v : Value) (ws : List Wd) (en : Nat) (r : Rf) (e : Ending) (w' : World) : Prop :=
  match r with
  | .fn f j => ∃ An cn At ct Ab cb, e = .returned (.agg #[.string f.name, .slice An f.names.length cn, .slice At f.types.length ct, .int .i64 f.out, .slice Ab f.body.length cb, .int .i64 f.pos]) ∧ StrsIn w' (fun g => w.heap.size ≤ g) (.slice An f.names.length cn) f.names ∧ IntsIn w' (fun g => w.heap.size ≤ g) (.slice At f.types.length ct) f.types ∧ StmtsIn w' (fun g => w.heap.size ≤ g) (.slice Ab f.body.length cb) f.body ∧ Rq w' rb v ws j en ∧ w.grownBy w' (some rb)
  | .bad j => e = badP ws en j ∧ w.grownBy w' (some rb)
def FnP (rb : Nat) (v : Value) (ws : List Wd) (en i : Nat) : Prop :=
  ∀ r, Df ws en i r → ∀ w, Rq w rb v ws i en → Glob w → Calls Tryz.prog 83 #[.pointer (some ⟨rb, 0, none⟩)] w fun e w' => FnR w rb v ws en r e w'
theorem FrG.ret {wr W : World} {rb b0 bf base : Nat} {v : Value} {ws : List Wd} {i en : Nat} {nm : ByteArray} {An : Option Addr} {cn : Nat} {ns : List ByteArray} {At : Option Addr} {ct : Nat} {ts : List Int} {out : Int} {Ab : Option Addr} {cb : Nat} {lb : List Sm} {pos : Int}
    (h : FrG wr W rb b0 bf base v ws i en nm An cn ns At ct ts out (.slice Ab lb.length cb) pos) (hB : StmtsIn W (fun g => base ≤ g) (.slice Ab lb.length cb) lb) :
    FnR wr rb v ws en (.fn ⟨nm, ns, ts, out, lb, pos⟩ i) (.returned (.agg #[.string nm, .slice An ns.length cn, .slice At ts.length ct, .int .i64 out, .slice Ab lb.length cb, .int .i64 pos]))
      ((((((W.setCell ⟨b0, 0, none⟩ (.string nm)).setCell ⟨b0, 1, none⟩ (.slice An ns.length cn)).setCell ⟨b0, 2, none⟩ (.slice At ts.length ct)).setCell ⟨b0, 3, none⟩ (.int .i64 out)).setCell ⟨b0, 4, none⟩ (.slice Ab lb.length cb)).setCell ⟨b0, 5, none⟩ (.int .i64 pos)) := by
  have hg := grown6 W b0 (.string nm) (.slice An ns.length cn) (.slice At ts.length ct) (.int .i64 out) (.slice Ab lb.length cb) (.int .i64 pos)
  have h0 := h.z0; have h1 := h.z1; have h2 := h.z2; have hb := h.zb
  exact ⟨An, cn, At, ct, Ab, cb, rfl, h.rn.strs.later _ hg (fun g (q : base ≤ g) => by simp; omega) (fun g q => by omega), h.rt.ints.later _ hg (fun g (q : base ≤ g) => by simp; omega) (fun g q => by omega), hB.later _ hg (fun g (q : base ≤ g) => by simp; omega) (fun g q => by omega), h.rd.grown hg (by omega), grown_new h.gr hg hb.1⟩
end Go.Proofs.YtmngofgminlloaaGreatDoor

namespace Go.Proofs.YtmngofgminlloaaGreatDoor
open Go.RowKit Tw

def joinP (ns : List ByteArray) (ts : List Int) : Rp → Rp
  | .ok ms us j => .ok (ns ++ ms) (ts ++ us) j
  | r => r
theorem joinP_nil (r : Rp) : joinP [] [] r = r := by cases r <;> simp [joinP]
theorem joinP_join (ns ms : List ByteArray) (ts us : List Int) (r : Rp) : joinP ns ts (joinP ms us r) = joinP (ns ++ ms) (ts ++ us) r := by cases r <;> simp [joinP]
section
variable {ws : List Wd} {en i k : Nat} {r : Rf} {q : Rp}
theorem dp_close (h : Dp ws en k i q) (hc : isAt ws i sClose = true) : q = .ok [] [] (i + 1) := by
  cases h with
  | close _ => rfl
  | comma g => rw [hc] at g; cases g
  | name g => rw [hc] at g; cases g
  | typ g => rw [hc] at g; cases g
  | next g => rw [hc] at g; cases g
  | nextR g => rw [hc] at g; cases g
theorem dp_more (h : Dp ws en k i q) (hc : isAt ws i sClose = false) :
    (k ≠ 0 ∧ isAt ws i sComma = false ∧ q = .bad i) ∨ ((k ≠ 0 → isAt ws i sComma = true) ∧ ((kindAt ws (parAt k i) ≠ 2 ∧ q = .bad (parAt k i)) ∨
      (kindAt ws (parAt k i) = 2 ∧ ((∃ j, typF ws (parAt k i + 1) = .bad j ∧ q = .bad j) ∨ ∃ t q2, typF ws (parAt k i + 1) = .ok t ∧ Dp ws en (k + 1) (parAt k i + 3) q2 ∧ q = joinP [textAt ws (parAt k i)] [t] q2)))) := by
  cases h with
  | close g => rw [hc] at g; cases g
  | comma _ g1 g2 => exact .inl ⟨g1, g2, rfl⟩
  | name _ g1 g2 => exact .inr ⟨g1, .inl ⟨g2, rfl⟩⟩
  | typ _ g1 g2 g3 => exact .inr ⟨g1, .inr ⟨g2, .inl ⟨_, g3, rfl⟩⟩⟩
  | next _ g1 g2 g3 g4 => exact .inr ⟨g1, .inr ⟨g2, .inr ⟨_, _, g3, g4, rfl⟩⟩⟩
  | nextR _ g1 g2 g3 g4 => exact .inr ⟨g1, .inr ⟨g2, .inr ⟨_, _, g3, g4, rfl⟩⟩⟩
theorem df_cases (h : Df ws en i r) :
    (isAt ws i sFun = false ∧ r = .bad i) ∨ (isAt ws i sFun = true ∧ ((kindAt ws (i + 1) ≠ 2 ∧ r = .bad (i + 1)) ∨ (kindAt ws (i + 1) = 2 ∧ ((isAt ws (i + 2) sOpen = false ∧ r = .bad (i + 2)) ∨
      (isAt ws (i + 2) sOpen = true ∧ ∃ q, Dp ws en 0 (i + 3) q ∧ (∀ j, q = .bad j → r = .bad j) ∧ (∀ ns ts j, q = .ok ns ts j → (∃ k, typF ws j = .bad k ∧ r = .bad k) ∨ ∃ t, typF ws j = .ok t ∧
        ((∃ k, Ds ws en (.block (j + 2)) (.bad k) ∧ r = .bad k) ∨ ∃ l k, Ds ws en (.block (j + 2)) (.sts l k) ∧ r = .fn ⟨textAt ws (i + 1), ns, ts, t, l, posAt ws i en⟩ k))))))) := by
  cases h with
  | noFun g => exact .inl ⟨g, rfl⟩
  | noName g g1 => exact .inr ⟨g, .inl ⟨g1, rfl⟩⟩
  | noOpen g g1 g2 => exact .inr ⟨g, .inr ⟨g1, .inl ⟨g2, rfl⟩⟩⟩
  | par g g1 g2 g3 => exact .inr ⟨g, .inr ⟨g1, .inr ⟨g2, _, g3, fun j e => (by injection e with e; rw [e]), fun ns ts j e => by cases e⟩⟩⟩
  | typ g g1 g2 g3 g4 => exact .inr ⟨g, .inr ⟨g1, .inr ⟨g2, _, g3, fun j e => (by cases e), fun ns ts j e => (by injection e with e1 e2 e3; subst e1; subst e2; subst e3; exact .inl ⟨_, g4, rfl⟩)⟩⟩⟩
  | body g g1 g2 g3 g4 g5 => exact .inr ⟨g, .inr ⟨g1, .inr ⟨g2, _, g3, fun j e => (by cases e), fun ns ts j e => (by injection e with e1 e2 e3; subst e1; subst e2; subst e3; exact .inr ⟨_, g4, .inl ⟨_, g5, rfl⟩⟩)⟩⟩⟩
  | fn g g1 g2 g3 g4 g5 => exact .inr ⟨g, .inr ⟨g1, .inr ⟨g2, _, g3, fun j e => (by cases e), fun ns ts j e => (by injection e with e1 e2 e3; subst e1; subst e2; subst e3; exact .inr ⟨_, g4, .inr ⟨_, _, g5, rfl⟩⟩)⟩⟩⟩
end
end Go.Proofs.YtmngofgminlloaaGreatDoor

namespace Go.Proofs.YtmngofgminlloaaGreatDoor
open Go.RowKit Tw

section
variable {ws : List Wd} {en i : Nat} {r : Rs}
theorem isAt_other {s t : ByteArray} (h : isAt ws i s = true) (hn : s.data.toList ≠ t.data.toList) : isAt ws i t = false := by
  unfold isAt at h ⊢
  cases hx : ws[i]? with
  | none => rfl
  | some x =>
    rw [hx] at h
    simp only [beq_iff_eq, ByteArray.toList_eq] at h
    simp only [beq_eq_false_iff_ne, ByteArray.toList_eq]
    rw [h]; exact hn
theorem hs1 (h : isAt ws i sLet = true) : headS ws i = 1 := by unfold headS; rw [if_pos h]
theorem hs3 (h : isAt ws i sIf = true) : headS ws i = 3 := by
  unfold headS; rw [if_neg (by rw [isAt_other h (by decide)]; decide), if_pos h]
theorem hs4 (h1 : isAt ws i sLet = false) (h3 : isAt ws i sIf = false) (h : isAt ws i sWhile = true) : headS ws i = 4 := by unfold headS; simp [h1, h3, h]
theorem hs5 (h1 : isAt ws i sLet = false) (h3 : isAt ws i sIf = false) (h4 : isAt ws i sWhile = false) (h : isAt ws i sReturn = true) : headS ws i = 5 := by unfold headS; simp [h1, h3, h4, h]
theorem hs6 (h1 : isAt ws i sLet = false) (h3 : isAt ws i sIf = false) (h4 : isAt ws i sWhile = false) (h5 : isAt ws i sReturn = false) (h : isAt ws i sYield = true) : headS ws i = 6 := by unfold headS; simp [h1, h3, h4, h5, h]
theorem hs2 (h1 : isAt ws i sLet = false) (h3 : isAt ws i sIf = false) (h4 : isAt ws i sWhile = false) (h5 : isAt ws i sReturn = false) (h6 : isAt ws i sYield = false) (h : kindAt ws i = 2 ∧ isAt ws (i + 1) sEq = true) : headS ws i = 2 := by unfold headS; simp [h1, h3, h4, h5, h6, h]
theorem hs7 (h1 : isAt ws i sLet = false) (h3 : isAt ws i sIf = false) (h4 : isAt ws i sWhile = false) (h5 : isAt ws i sReturn = false) (h6 : isAt ws i sYield = false) (h : ¬ (kindAt ws i = 2 ∧ isAt ws (i + 1) sEq = true)) : headS ws i = 7 := by
  unfold headS; simp only [h1, h3, h4, h5, h6, Bool.false_eq_true, if_false]; rw [if_neg h]
/-- What is ready to be read as the expression of a plain statement. -/
structure Plainly (ws : List Wd) (i kd : Nat) (nm : ByteArray) (i3 : Nat) : Prop where
  hk : kd = headS ws i
  n3 : kd ≠ 3
  n4 : kd ≠ 4
  hn : nm = nameS ws i
  hi : i3 = exprS ws i
  le : headS ws i = 1 → kindAt ws (i + 1) = 2 ∧ isAt ws (i + 2) sEq = true
theorem plainly1 (h : headS ws i = 1) (h2 : kindAt ws (i + 1) = 2) (h3 : isAt ws (i + 2) sEq = true) : Plainly ws i 1 (textAt ws (i + 1)) (i + 3) :=
  ⟨h.symm, by decide, by decide, by unfold nameS; rw [if_pos h], by unfold exprS; rw [if_pos h], fun _ => ⟨h2, h3⟩⟩
theorem plainly2 (h : headS ws i = 2) : Plainly ws i 2 (textAt ws i) (i + 2) :=
  ⟨h.symm, by decide, by decide, by unfold nameS; rw [if_neg (by omega), if_pos h], by unfold exprS; rw [if_neg (by omega), if_pos h], fun e => by omega⟩
theorem plainly5 (h : headS ws i = 5) : Plainly ws i 5 sNone (i + 1) :=
  ⟨h.symm, by decide, by decide, by unfold nameS; rw [if_neg (by omega), if_neg (by omega)], by unfold exprS; rw [if_neg (by omega), if_neg (by omega), if_neg (by omega)], fun e => by omega⟩
theorem plainly6 (h : headS ws i = 6) : Plainly ws i 6 sNone (i + 1) :=
  ⟨h.symm, by decide, by decide, by unfold nameS; rw [if_neg (by omega), if_neg (by omega)], by unfold exprS; rw [if_neg (by omega), if_neg (by omega), if_neg (by omega)], fun e => by omega⟩
theorem plainly7 (h : headS ws i = 7) : Plainly ws i 7 sNone i :=
  ⟨h.symm, by decide, by decide, by unfold nameS; rw [if_neg (by omega), if_neg (by omega)], by unfold exprS; rw [if_neg (by omega), if_neg (by omega), if_pos h], fun e => by omega⟩
theorem ds_plain {kd i3 : Nat} {nm : ByteArray} (h : Ds ws en (.stmt i) r) (hp : Plainly ws i kd nm i3) :
    (∃ j, De ws en (.lvl 1 i3) (.bad j) ∧ r = .bad j) ∨ (∃ x j, De ws en (.lvl 1 i3) (.ex x j) ∧ isAt ws j sSemi = false ∧ r = .bad j) ∨
    ∃ x j, De ws en (.lvl 1 i3) (.ex x j) ∧ isAt ws j sSemi = true ∧ r = .st (.mk kd nm x [] [] (posAt ws i en)) (j + 1) := by
  obtain ⟨rfl, n3, n4, rfl, rfl, hle⟩ := hp
  cases h with
  | letN h1 h2 => exact absurd (hle h1).1 h2
  | letE h1 h2 h3 => rw [(hle h1).2] at h3; cases h3
  | simpB _ _ _ h => exact .inl ⟨_, h, rfl⟩
  | simpC _ _ _ h h2 => exact .inr (.inl ⟨_, _, h, h2, rfl⟩)
  | simp _ _ _ h h2 => exact .inr (.inr ⟨_, _, h, h2, rfl⟩)
  | condB h => omega
  | condD h => omega
  | _ => omega
theorem ds_let (h : Ds ws en (.stmt i) r) (h1 : headS ws i = 1) :
    (kindAt ws (i + 1) ≠ 2 ∧ r = .bad (i + 1)) ∨ (kindAt ws (i + 1) = 2 ∧ isAt ws (i + 2) sEq = false ∧ r = .bad (i + 2)) ∨ (kindAt ws (i + 1) = 2 ∧ isAt ws (i + 2) sEq = true) := by
  cases h with
  | letN _ h2 => exact .inl ⟨h2, rfl⟩
  | letE _ h2 h3 => exact .inr (.inl ⟨h2, h3, rfl⟩)
  | simpB _ _ h _ => exact .inr (.inr (h h1))
  | simpC _ _ h _ _ => exact .inr (.inr (h h1))
  | simp _ _ h _ _ => exact .inr (.inr (h h1))
  | condB h => omega
  | condD h => omega
  | _ => omega
theorem ds_cond (h : Ds ws en (.stmt i) r) (h34 : headS ws i = 3 ∨ headS ws i = 4) :
    (∃ j, De ws en (.lvl 1 (i + 1)) (.bad j) ∧ r = .bad j) ∨ ∃ x j, De ws en (.lvl 1 (i + 1)) (.ex x j) ∧ ((∃ k, Ds ws en (.block j) (.bad k) ∧ r = .bad k) ∨
      ∃ l k, Ds ws en (.block j) (.sts l k) ∧ (headS ws i = 4 → r = .st (.mk 4 sNone x l [] (posAt ws i en)) k) ∧
        (headS ws i = 3 → isAt ws k sElse = false → r = .st (.mk 3 sNone x l [] (posAt ws i en)) k) ∧
        (headS ws i = 3 → isAt ws k sElse = true → isAt ws (k + 1) sIf = true → (∃ m, Ds ws en (.stmt (k + 1)) (.bad m) ∧ r = .bad m) ∨ ∃ s m, Ds ws en (.stmt (k + 1)) (.st s m) ∧ r = .st (.mk 3 sNone x l [s] (posAt ws i en)) m) ∧
        (headS ws i = 3 → isAt ws k sElse = true → isAt ws (k + 1) sIf = false → (∃ m, Ds ws en (.block (k + 1)) (.bad m) ∧ r = .bad m) ∨ ∃ s m, Ds ws en (.block (k + 1)) (.sts s m) ∧ r = .st (.mk 3 sNone x l s (posAt ws i en)) m)) := by
  cases h with
  | letN h => omega
  | letE h => omega
  | simpB h1 h2 => omega
  | simpC h1 h2 => omega
  | simp h1 h2 => omega
  | condB _ h => exact .inl ⟨_, h, rfl⟩
  | condD _ h h2 => exact .inr ⟨_, _, h, .inl ⟨_, h2, rfl⟩⟩
  | whil h0 h h2 => exact .inr ⟨_, _, h, .inr ⟨_, _, h2, fun _ => rfl, fun e => (by omega), fun e => (by omega), fun e => (by omega)⟩⟩
  | if0 h0 h h2 h3 => exact .inr ⟨_, _, h, .inr ⟨_, _, h2, fun e => (by omega), fun _ _ => rfl, fun _ e => (by rw [h3] at e; cases e), fun _ e => (by rw [h3] at e; cases e)⟩⟩
  | ifE h0 h h2 h3 h4 h5 => exact .inr ⟨_, _, h, .inr ⟨_, _, h2, fun e => (by omega), fun _ e => (by rw [h3] at e; cases e), fun _ _ e => (by rw [h4] at e; cases e), fun _ _ _ => .inr ⟨_, _, h5, rfl⟩⟩⟩
  | ifEB h0 h h2 h3 h4 h5 => exact .inr ⟨_, _, h, .inr ⟨_, _, h2, fun e => (by omega), fun _ e => (by rw [h3] at e; cases e), fun _ _ e => (by rw [h4] at e; cases e), fun _ _ _ => .inl ⟨_, h5, rfl⟩⟩⟩
  | ifI h0 h h2 h3 h4 h5 => exact .inr ⟨_, _, h, .inr ⟨_, _, h2, fun e => (by omega), fun _ e => (by rw [h3] at e; cases e), fun _ _ _ => .inr ⟨_, _, h5, rfl⟩, fun _ _ e => (by rw [h4] at e; cases e)⟩⟩
  | ifIB h0 h h2 h3 h4 h5 => exact .inr ⟨_, _, h, .inr ⟨_, _, h2, fun e => (by omega), fun _ e => (by rw [h3] at e; cases e), fun _ _ _ => .inl ⟨_, h5, rfl⟩, fun _ _ e => (by rw [h4] at e; cases e)⟩⟩
end
/-- The rest of an if that begins at i, whose word is read. -/
def CondP (rb : Nat) (v : Value) (ws : List Wd) (en i : Nat) : Prop :=
  ∀ r, headS ws i = 3 → Ds ws en (.stmt i) r → ∀ w, Rq w rb v ws (i + 1) en → Glob w → Calls Tryz.prog 223 #[.pointer (some ⟨rb, 0, none⟩), .agg #[.int .i64 0, .string ⟨#[]⟩, .int .i64 0, .int .i64 0, .string ⟨#[]⟩, .slice none 0 0, .int .i64 0, .slice none 0 0, .slice none 0 0, .int .i64 (posAt ws i en)]] w fun e w' => SmR w rb v ws en r e w'
theorem sm_ret {w0 w : World} {u0 u1 u2 u3 u4 u5 u6 u7 u8 u9 : Value} {rb b0 b1 : Nat} {v : Value} {ws : List Wd} {i' en : Nat} {s : Sm} {Aa Ab Ae : Option Addr} {ca cb ce : Nat} {F : Nat → Prop}
    (h : FrQ w0 w rb b0 b1 v ws i' en u0 u1 u2 u3 u4 u5 u6 u7 u8 u9) (hA : ArgsIn w F (.slice Aa s.a.args.length ca) s.a.args) (hB : StmtsIn w F (.slice Ab s.body.length cb) s.body) (hE : StmtsIn w F (.slice Ae s.els.length ce) s.els) (hF : ∀ g, F g → w0.heap.size ≤ g ∧ g ≠ b0) :
    SmR w0 rb v ws en (.st s i') (.returned (.agg #[.int .i64 s.kind, .string s.name, .int .i64 s.a.kind, .int .i64 s.a.n, .string s.a.text, .slice Aa s.a.args.length ca, .int .i64 s.a.pos, .slice Ab s.body.length cb, .slice Ae s.els.length ce, .int .i64 s.pos]))
      ((((((((((w.setCell ⟨b0, 0, none⟩ (.int .i64 s.kind)).setCell ⟨b0, 1, none⟩ (.string s.name)).setCell ⟨b0, 2, none⟩ (.int .i64 s.a.kind)).setCell ⟨b0, 3, none⟩ (.int .i64 s.a.n)).setCell ⟨b0, 4, none⟩ (.string s.a.text)).setCell ⟨b0, 5, none⟩ (.slice Aa s.a.args.length ca)).setCell ⟨b0, 6, none⟩ (.int .i64 s.a.pos)).setCell ⟨b0, 7, none⟩ (.slice Ab s.body.length cb)).setCell ⟨b0, 8, none⟩ (.slice Ae s.els.length ce)).setCell ⟨b0, 9, none⟩ (.int .i64 s.pos)) := by
  have hg := grown10 w b0 (.int .i64 s.kind) (.string s.name) (.int .i64 s.a.kind) (.int .i64 s.a.n) (.string s.a.text) (.slice Aa s.a.args.length ca) (.int .i64 s.a.pos) (.slice Ab s.body.length cb) (.slice Ae s.els.length ce) (.int .i64 s.pos)
  have h0 := h.z0; have h1 := h.z1
  exact ⟨Aa, ca, Ab, cb, Ae, ce, rfl, hA.later _ hg (fun g h => by simp; exact fun e => (hF g h).2 e.symm) (fun g h => (hF g h).1), hB.later _ hg (fun g h => by simp; exact fun e => (hF g h).2 e.symm) (fun g h => (hF g h).1), hE.later _ hg (fun g h => by simp; exact fun e => (hF g h).2 e.symm) (fun g h => (hF g h).1), h.rd.grown hg (by omega), grown_new h.gr hg h1⟩
end Go.Proofs.YtmngofgminlloaaGreatDoor
