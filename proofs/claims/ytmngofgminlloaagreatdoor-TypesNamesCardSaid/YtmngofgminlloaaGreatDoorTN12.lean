/-
  The reference's exprFault at every expression.
  The reference's stmtsFault, at every row of statements.
  The reference's UnitFault, at every script.
  The reference's UnitFault: the walk.
  What statements, parameters, functions and scripts are is one thing, in plain Lean.
  Scripts that have been read out of few short words are small, in plain Lean.
  The frames of the reference's Script: of the whole, of one function.
  What the cards of the laws share: a law over listed variables that is told the world's shape; what the rows' condition gives the walks; a list of ints that came in.
  The words of a text by its pieces. No program in sight.
  Where the pieces of a text stand among its words; operands and operators. No program in sight.
-/
import Derived.Test.YtmngofgminlloaaGreatDoorTN09
import Derived.Test.YtmngofgminlloaaGreatDoorTN10
import Derived.Test.YtmngofgminlloaaGreatDoorTN11
import Derived.Deep.DeepCutAuto
import Derived.Outline
import Derived.Test.YtmngofgminlloaaGreatDoorTN08
import Derived.Test.YtmngofgminlloaaGreatDoorCards
import Derived.Test.YtmngofgminlloaaGreatDoorTie
import Derived.WalkKit
import Derived.ProofKit
import Derived.OpenShut
import Derived.ShutString
import Derived.LaidMore
import Derived.Lay
import Derived.HandedShaped
import Derived.Shelf.Vars
import Derived.Stop.LaidErr
import Derived.Stop.Joined
import Derived.Lib.LaidTab
import Derived.Lib.LaidU8
import Derived.SevenTiedAt
import Derived.Carry
import Derived.ChangeSlices
import Derived.DataReads
import Derived.Test.YtmngofgminlloaaGreatDoorTN03
import Derived.Test.YtmngofgminlloaaGreatDoorTN07
set_option linter.unusedSimpArgs false
set_option linter.unusedVariables false
namespace Go.Proofs.YtmngofgminlloaaGreatDoor
open Go.RowKit Tw Go.Maps

end Go.Proofs.YtmngofgminlloaaGreatDoor

namespace Go.Proofs.YtmngofgminlloaaGreatDoor
open Go.RowKit Tw Go.Maps

theorem StmtsIn.form {w : World} {F : Nat → Prop} {v : Value} {l : List Sm} (h : StmtsIn w F v l) : ∃ A c, v = .slice A l.length c := by
  cases h with
  | nil a c => exact ⟨a, c, rfl⟩
  | row g off cap => exact ⟨_, cap, rfl⟩
/-- What the statement k of a row reads. -/
theorem StmtsIn.at {w : World} {F : Nat → Prop} {A : Option Addr} {c : Nat} {l : List Sm} (h : StmtsIn w F (.slice A l.length c) l) (k : Nat) (s : Sm) (hx : l[k]? = some s) :
    ∃ g off Aa ca Ab cb Ae ce, A = some ⟨g, off, none⟩ ∧ F g ∧ g < w.heap.size ∧ ArgsIn w F (.slice Aa s.a.args.length ca) s.a.args ∧ StmtsIn w F (.slice Ab s.body.length cb) s.body ∧ StmtsIn w F (.slice Ae s.els.length ce) s.els ∧
      ∀ j u, (#[.int .i64 s.kind, .string s.name, .int .i64 s.a.kind, .int .i64 s.a.n, .string s.a.text, .slice Aa s.a.args.length ca, .int .i64 s.a.pos, .slice Ab s.body.length cb, .slice Ae s.els.length ce, .int .i64 s.pos] : Array Value).toList[j]? = some u → w.cell? ⟨g, off + k * 10 + j, none⟩ = some u := by
  generalize hv : Value.slice A l.length c = v at h
  cases h with
  | nil a c' => simp at hx
  | row g off cap _ va vb ve hF hg hc ha hb he =>
    injection hv with e1 e2 e3
    obtain ⟨Aa, ca, hA⟩ := (ha k s hx).form
    obtain ⟨Ab, cb, hB⟩ := (hb k s hx).form
    obtain ⟨Ae, ce, hE⟩ := (he k s hx).form
    have hcx := hc k s hx; have h1 := ha k s hx; have h2 := hb k s hx; have h3 := he k s hx
    rw [hA, hB, hE] at hcx; rw [hA] at h1; rw [hB] at h2; rw [hE] at h3
    exact ⟨g, off, Aa, ca, Ab, cb, Ae, ce, e1, hF, hg, h1, h2, h3, hcx⟩
theorem smF_3 {s : Sm} {left : Nat} (hl : 1 ≤ left) (h : s.kind < 1 ∨ 7 < s.kind ∨ (s.kind ≤ 2 ∧ nameB s.name = false)) : smF s left = 3 := by
  cases s with | mk k nm a body els p =>
  simp only [Sm.kind, Sm.name] at h
  rw [smF, if_neg (by omega), if_pos h]
theorem smF_a {s : Sm} {left : Nat} (hl : 1 ≤ left) (h : ¬ (s.kind < 1 ∨ 7 < s.kind ∨ (s.kind ≤ 2 ∧ nameB s.name = false))) {z : Int} (h0 : z ≠ 0) (ha : exF s.a (left - 1) = z) : smF s left = z := by
  cases s with | mk k nm a body els p =>
  simp only [Sm.a] at ha
  simp only [Sm.kind, Sm.name] at h
  rw [smF, if_neg (by omega), if_neg h, if_pos (by rw [ha]; exact h0), ha]
theorem smF_b {s : Sm} {left : Nat} (hl : 1 ≤ left) (h : ¬ (s.kind < 1 ∨ 7 < s.kind ∨ (s.kind ≤ 2 ∧ nameB s.name = false))) (ha : exF s.a (left - 1) = 0) :
    smF s left = if (s.kind = 3 ∨ s.kind = 4) ∧ smsF s.body (left - 1) ≠ 0 then smsF s.body (left - 1) else if s.kind = 3 then smsF s.els (left - 1) else 0 := by
  cases s with | mk k nm a body els p =>
  simp only [Sm.a] at ha
  simp only [Sm.kind, Sm.name] at h
  rw [smF, if_neg (by omega), if_neg h, if_neg (by rw [ha]; decide)]
  rfl

end Go.Proofs.YtmngofgminlloaaGreatDoor

namespace Go.Proofs.YtmngofgminlloaaGreatDoor
open Go.RowKit Tw Go.Maps

theorem StrsIn.form {w : World} {F : Nat → Prop} {v : Value} {l : List ByteArray} (h : StrsIn w F v l) : ∃ A c, v = .slice A l.length c := by
  rcases h with ⟨a, c, rfl, rfl⟩ | ⟨g, off, cap, rfl, _⟩
  · exact ⟨a, c, rfl⟩
  · exact ⟨_, cap, rfl⟩
theorem IntsIn.form {w : World} {F : Nat → Prop} {v : Value} {l : List Int} (h : IntsIn w F v l) : ∃ A c, v = .slice A l.length c := by
  rcases h with ⟨a, c, rfl, rfl⟩ | ⟨g, off, cap, rfl, _⟩
  · exact ⟨a, c, rfl⟩
  · exact ⟨_, cap, rfl⟩
theorem StrsIn.at {w : World} {F : Nat → Prop} {A : Option Addr} {c : Nat} {l : List ByteArray} (h : StrsIn w F (.slice A l.length c) l) (k : Nat) (s : ByteArray) (hs : l[k]? = some s) : ∃ g off, A = some ⟨g, off, none⟩ ∧ g < w.heap.size ∧ w.cell? ⟨g, off + k, none⟩ = some (.string s) := by
  rcases h with ⟨a, c, e, rfl⟩ | ⟨g, off, cap, e, _, hg, hc⟩
  · simp at hs
  · injection e with e1 e2 e3
    exact ⟨g, off, e1, hg, hc k s hs⟩
theorem IntsIn.at {w : World} {F : Nat → Prop} {A : Option Addr} {c : Nat} {l : List Int} (h : IntsIn w F (.slice A l.length c) l) (k : Nat) (s : Int) (hs : l[k]? = some s) : ∃ g off, A = some ⟨g, off, none⟩ ∧ g < w.heap.size ∧ w.cell? ⟨g, off + k, none⟩ = some (.int .i64 s) := by
  rcases h with ⟨a, c, e, rfl⟩ | ⟨g, off, cap, e, _, hg, hc⟩
  · simp at hs
  · injection e with e1 e2 e3
    exact ⟨g, off, e1, hg, hc k s hs⟩
theorem FnsIn.at {w : World} {F : Nat → Prop} {A : Option Addr} {c : Nat} {l : List Fn} (h : FnsIn w F (.slice A l.length c) l) (k : Nat) (f : Fn) (hf : l[k]? = some f) :
    ∃ g off An cn At ct Ab cb, A = some ⟨g, off, none⟩ ∧ g < w.heap.size ∧ StrsIn w F (.slice An f.names.length cn) f.names ∧ IntsIn w F (.slice At f.types.length ct) f.types ∧ StmtsIn w F (.slice Ab f.body.length cb) f.body ∧
      ∀ j u, (#[.string f.name, .slice An f.names.length cn, .slice At f.types.length ct, .int .i64 f.out, .slice Ab f.body.length cb, .int .i64 f.pos] : Array Value).toList[j]? = some u → w.cell? ⟨g, off + k * 6 + j, none⟩ = some u := by
  rcases h with ⟨a, c, e, rfl⟩ | ⟨g, off, cap, vn, vt, vb, e, _, hg, hc⟩
  · simp at hf
  · injection e with e1 e2 e3
    obtain ⟨h0, h1, h2, h3⟩ := hc k f hf
    obtain ⟨An, cn, e1'⟩ := h1.form
    obtain ⟨At, ct, e2'⟩ := h2.form
    obtain ⟨Ab, cb, e3'⟩ := h3.form
    rw [e1', e2', e3'] at h0; rw [e1'] at h1; rw [e2'] at h2; rw [e3'] at h3
    exact ⟨g, off, An, cn, At, ct, Ab, cb, e1, hg, h1, h2, h3, h0⟩

def okHead (f : Fn) : Bool := decide (f.names.length = f.types.length) && nameB f.name && typB f.out
def okTo (f : Fn) (q : Nat) : Bool := okHead f && (f.names.take q).all nameB && (f.types.take q).all typB
theorem okTo_zero (f : Fn) : okTo f 0 = okHead f := by simp [okTo]
theorem okTo_end (f : Fn) : okTo f f.names.length = (decide (f.names.length = f.types.length) && nameB f.name && typB f.out && f.names.all nameB && f.types.all typB) := by
  unfold okTo okHead
  by_cases h : f.names.length = f.types.length
  · rw [List.take_length, h, List.take_length]
  · simp [h]
theorem okTo_succ (f : Fn) (q : Nat) (n : ByteArray) (t : Int) (hn : f.names[q]? = some n) (ht : f.types[q]? = some t) : okTo f (q + 1) = (okTo f q && nameB n && typB t) := by
  have h1 : q < f.names.length := by rcases Nat.lt_or_ge q f.names.length with h | h; exact h; rw [List.getElem?_eq_none h] at hn; cases hn
  have h2 : q < f.types.length := by rcases Nat.lt_or_ge q f.types.length with h | h; exact h; rw [List.getElem?_eq_none h] at ht; cases ht
  unfold okTo
  rw [List.take_succ_eq_append_getElem h1, List.take_succ_eq_append_getElem h2]
  have e1 : f.names[q] = n := by rw [List.getElem?_eq_getElem h1] at hn; exact Option.some.inj hn
  have e2 : f.types[q] = t := by rw [List.getElem?_eq_getElem h2] at ht; exact Option.some.inj ht
  rw [e1, e2, List.all_append, List.all_append]
  simp only [List.all_cons, List.all_nil, Bool.and_true]
  cases okHead f <;> cases (f.names.take q).all nameB <;> cases (f.types.take q).all typB <;> cases nameB n <;> cases typB t <;> rfl
theorem okTo_no (f : Fn) (q : Nat) (h : okTo f q = false) : okTo f (q + 1) = false := by
  unfold okTo at *
  cases h0 : okHead f with
  | false => simp
  | true =>
    rw [h0] at h
    simp only [Bool.true_and] at h ⊢
    rw [Bool.and_eq_false_iff] at h ⊢
    have key : ∀ {α : Type} (p : α → Bool) (l : List α), (l.take q).all p = false → (l.take (q + 1)).all p = false := by
      intro α p l hp
      rw [List.all_eq_false] at hp ⊢
      obtain ⟨x, hx, hpx⟩ := hp
      refine ⟨x, ?_, hpx⟩
      have : l.take q = (l.take (q + 1)).take q := by rw [List.take_take, Nat.min_eq_left (by omega)]
      rw [this] at hx
      exact List.mem_of_mem_take hx
    exact h.imp (key nameB _) (key typB _)
theorem okTo_name (f : Fn) (q : Nat) (n : ByteArray) (hn : f.names[q]? = some n) (h : nameB n = false) : okTo f (q + 1) = false := by
  have h1 : q < f.names.length := by rcases Nat.lt_or_ge q f.names.length with h | h; exact h; rw [List.getElem?_eq_none h] at hn; cases hn
  have e1 : f.names[q] = n := by rw [List.getElem?_eq_getElem h1] at hn; exact Option.some.inj hn
  unfold okTo
  rw [List.take_succ_eq_append_getElem h1, e1, List.all_append]
  simp [h]
end Go.Proofs.YtmngofgminlloaaGreatDoor

namespace Go.Proofs.YtmngofgminlloaaGreatDoor
open Go.RowKit Tw Go.Maps

theorem facts6 {w : World} {b t : Nat} {u0 u1 u2 u3 u4 u5 : Value} (h : w.heap[b]? = some (.cells #[u0, u1, u2, u3, u4, u5] t (0, 0))) :
    (w.cell? ⟨b, 0, none⟩ = some u0 ∧ w.cell? ⟨b, 1, none⟩ = some u1 ∧ w.cell? ⟨b, 2, none⟩ = some u2 ∧ w.cell? ⟨b, 3, none⟩ = some u3 ∧ w.cell? ⟨b, 4, none⟩ = some u4 ∧ w.cell? ⟨b, 5, none⟩ = some u5) ∧
    w.frozen? ⟨b, 0, none⟩ = false ∧ w.frozen? ⟨b, 1, none⟩ = false ∧ w.frozen? ⟨b, 2, none⟩ = false ∧ w.frozen? ⟨b, 3, none⟩ = false ∧ w.frozen? ⟨b, 4, none⟩ = false ∧ w.frozen? ⟨b, 5, none⟩ = false :=
  ⟨⟨Lib.cell_of_heap h 0, Lib.cell_of_heap h 1, Lib.cell_of_heap h 2, Lib.cell_of_heap h 3, Lib.cell_of_heap h 4, Lib.cell_of_heap h 5⟩, Lib.frozen_of_heap h 0, Lib.frozen_of_heap h 1, Lib.frozen_of_heap h 2, Lib.frozen_of_heap h 3, Lib.frozen_of_heap h 4, Lib.frozen_of_heap h 5⟩

end Go.Proofs.YtmngofgminlloaaGreatDoor

namespace Go.Proofs.YtmngofgminlloaaGreatDoor
open Go.RowKit Tw

theorem Ds.det {ws : List Wd} {en : Nat} {q : Qs} {r : Rs} (h : Ds ws en q r) : ∀ r', Ds ws en q r' → r = r' := by
  induction h with
  | letN h0 h1 => intro r' h'; cases h' <;> first | rfl | (exfalso; omega) | contradiction | (rename_i g _; exact absurd (g h0).1 h1) | (rename_i g _ _; exact absurd (g h0).1 h1)
  | letE h0 h1 h2 =>
    intro r' h'
    cases h' <;> first
      | rfl
      | (exfalso; omega)
      | contradiction
      | (rename_i g _; have := (g h0).2; rw [h2] at this; cases this; done)
      | (rename_i g _ _; have := (g h0).2; rw [h2] at this; cases this; done)
  | simpB h3 h4 hl h1 =>
    intro r' h'
    cases h' with
    | letN g0 g1 => exact absurd (hl g0).1 g1
    | letE g0 g1 g2 => have := (hl g0).2; rw [g2] at this; cases this
    | simpB _ _ _ g1 => have e := h1.det _ g1; injection e with e; subst e; rfl
    | simpC _ _ _ g1 => have e := h1.det _ g1; cases e
    | simp _ _ _ g1 => have e := h1.det _ g1; cases e
    | _ => exfalso; omega
  | simpC h3 h4 hl h1 hc =>
    intro r' h'
    cases h' with
    | letN g0 g1 => exact absurd (hl g0).1 g1
    | letE g0 g1 g2 => have := (hl g0).2; rw [g2] at this; cases this
    | simpB _ _ _ g1 => have e := h1.det _ g1; cases e
    | simpC _ _ _ g1 => have e := h1.det _ g1; injection e with e1 e2; subst e1; subst e2; rfl
    | simp _ _ _ g1 gc => have e := h1.det _ g1; injection e with e1 e2; subst e1; subst e2; rw [hc] at gc; cases gc
    | _ => exfalso; omega
  | simp h3 h4 hl h1 hc =>
    intro r' h'
    cases h' with
    | letN g0 g1 => exact absurd (hl g0).1 g1
    | letE g0 g1 g2 => have := (hl g0).2; rw [g2] at this; cases this
    | simpB _ _ _ g1 => have e := h1.det _ g1; cases e
    | simpC _ _ _ g1 gc => have e := h1.det _ g1; injection e with e1 e2; subst e1; subst e2; rw [hc] at gc; cases gc
    | simp _ _ _ g1 gc => have e := h1.det _ g1; injection e with e1 e2; subst e1; subst e2; rfl
    | _ => exfalso; omega
  | condB h0 h1 =>
    intro r' h'
    cases h' <;> first
      | (exfalso; omega)
      | (have e := h1.det _ (by assumption); first | (cases e; done) | (injection e with e; subst e; rfl))
  | condD h0 h1 _ ih =>
    intro r' h'
    cases h' with
    | condB _ g1 => have e := h1.det _ g1; cases e
    | condD _ g1 g2 => have e := h1.det _ g1; injection e with e1 e2; subst e1; subst e2; exact ih _ g2
    | whil _ g1 g2 | if0 _ g1 g2 | ifE _ g1 g2 | ifEB _ g1 g2 | ifI _ g1 g2 | ifIB _ g1 g2 => have e := h1.det _ g1; injection e with e1 e2; subst e1; subst e2; have e := ih _ g2; cases e
    | _ => exfalso; omega
  | whil h0 h1 _ ih =>
    intro r' h'
    cases h' with
    | condB _ g1 => have e := h1.det _ g1; cases e
    | condD _ g1 g2 => have e := h1.det _ g1; injection e with e1 e2; subst e1; subst e2; have e := ih _ g2; cases e
    | whil _ g1 g2 => have e := h1.det _ g1; injection e with e1 e2; subst e1; subst e2; have e := ih _ g2; injection e with e1 e2; subst e1; subst e2; rfl
    | _ => exfalso; omega
  | if0 h0 h1 _ hc ih =>
    intro r' h'
    cases h' with
    | condB _ g1 => have e := h1.det _ g1; cases e
    | condD _ g1 g2 => have e := h1.det _ g1; injection e with e1 e2; subst e1; subst e2; have e := ih _ g2; cases e
    | if0 _ g1 g2 => have e := h1.det _ g1; injection e with e1 e2; subst e1; subst e2; have e := ih _ g2; injection e with e1 e2; subst e1; subst e2; rfl
    | ifE _ g1 g2 gc | ifEB _ g1 g2 gc | ifI _ g1 g2 gc | ifIB _ g1 g2 gc => have e := h1.det _ g1; injection e with e1 e2; subst e1; subst e2; have e := ih _ g2; injection e with e1 e2; subst e1; subst e2; rw [hc] at gc; cases gc
    | _ => exfalso; omega
  | ifE h0 h1 _ hc hd _ ih ih2 | ifEB h0 h1 _ hc hd _ ih ih2 =>
    intro r' h'
    cases h' with
    | condB _ g1 => have e := h1.det _ g1; cases e
    | condD _ g1 g2 => have e := h1.det _ g1; injection e with e1 e2; subst e1; subst e2; have e := ih _ g2; cases e
    | if0 _ g1 g2 gc => have e := h1.det _ g1; injection e with e1 e2; subst e1; subst e2; have e := ih _ g2; injection e with e1 e2; subst e1; subst e2; rw [hc] at gc; cases gc
    | ifE _ g1 g2 gc gd g3 | ifEB _ g1 g2 gc gd g3 =>
      have e := h1.det _ g1; injection e with e1 e2; subst e1; subst e2; have e := ih _ g2; injection e with e1 e2; subst e1; subst e2
      have e := ih2 _ g3; first | (cases e; done) | (injection e with e1 e2; subst e1; subst e2; rfl) | (injection e with e1; subst e1; rfl)
    | ifI _ g1 g2 gc gd | ifIB _ g1 g2 gc gd => have e := h1.det _ g1; injection e with e1 e2; subst e1; subst e2; have e := ih _ g2; injection e with e1 e2; subst e1; subst e2; rw [hd] at gd; cases gd
    | _ => exfalso; omega
  | ifI h0 h1 _ hc hd _ ih ih2 | ifIB h0 h1 _ hc hd _ ih ih2 =>
    intro r' h'
    cases h' with
    | condB _ g1 => have e := h1.det _ g1; cases e
    | condD _ g1 g2 => have e := h1.det _ g1; injection e with e1 e2; subst e1; subst e2; have e := ih _ g2; cases e
    | if0 _ g1 g2 gc => have e := h1.det _ g1; injection e with e1 e2; subst e1; subst e2; have e := ih _ g2; injection e with e1 e2; subst e1; subst e2; rw [hc] at gc; cases gc
    | ifI _ g1 g2 gc gd g3 | ifIB _ g1 g2 gc gd g3 =>
      have e := h1.det _ g1; injection e with e1 e2; subst e1; subst e2; have e := ih _ g2; injection e with e1 e2; subst e1; subst e2
      have e := ih2 _ g3; first | (cases e; done) | (injection e with e1 e2; subst e1; subst e2; rfl) | (injection e with e1; subst e1; rfl)
    | ifE _ g1 g2 gc gd | ifEB _ g1 g2 gc gd => have e := h1.det _ g1; injection e with e1 e2; subst e1; subst e2; have e := ih _ g2; injection e with e1 e2; subst e1; subst e2; rw [hd] at gd; cases gd
    | _ => exfalso; omega
  | blockB h0 => intro r' h'; cases h' <;> first | rfl | (rename_i g _; rw [h0] at g; cases g)
  | block h0 _ ih =>
    intro r' h'
    cases h' with
    | blockB g => rw [h0] at g; cases g
    | block _ g => exact ih _ g
  | done h0 =>
    intro r' h'
    cases h' with
    | done => rfl
    | more g | moreR g | moreB g => rw [h0] at g; cases g
  | more h0 _ _ ih1 ih2 | moreR h0 _ _ ih1 ih2 =>
    intro r' h'
    cases h' with
    | done g => rw [h0] at g; cases g
    | more _ g1 g2 | moreR _ g1 g2 =>
      have e := ih1 _ g1; injection e with e1 e2; subst e1; subst e2
      have e := ih2 _ g2; first | (cases e; done) | (injection e with e1 e2; subst e1; subst e2; rfl) | (injection e with e1; subst e1; rfl)
    | moreB _ g1 => have e := ih1 _ g1; cases e
  | moreB h0 _ ih1 =>
    intro r' h'
    cases h' with
    | done g => rw [h0] at g; cases g
    | more _ g1 _ | moreR _ g1 _ => have e := ih1 _ g1; cases e
    | moreB _ g1 => have e := ih1 _ g1; injection e with e1; subst e1; rfl

theorem Dp.det {ws : List Wd} {en k i : Nat} {r : Rp} (h : Dp ws en k i r) : ∀ r', Dp ws en k i r' → r = r' := by
  induction h with
  | close h0 =>
    intro r' h'
    cases h' with
    | close => rfl
    | comma g | name g | typ g | next g | nextR g => rw [h0] at g; cases g
  | comma h0 h1 h2 =>
    intro r' h'
    cases h' with
    | close g => rw [h0] at g; cases g
    | comma => rfl
    | name _ g | typ _ g | next _ g | nextR _ g => have := g h1; rw [h2] at this; cases this
  | name h0 h1 h2 =>
    intro r' h'
    cases h' with
    | close g => rw [h0] at g; cases g
    | comma _ g1 g2 => have := h1 g1; rw [g2] at this; cases this
    | name => rfl
    | typ _ _ g | next _ _ g | nextR _ _ g => contradiction
  | typ h0 h1 h2 h3 =>
    intro r' h'
    cases h' with
    | close g => rw [h0] at g; cases g
    | comma _ g1 g2 => have := h1 g1; rw [g2] at this; cases this
    | name _ _ g => contradiction
    | typ _ _ _ g => rw [h3] at g; cases g; rfl
    | next _ _ _ g | nextR _ _ _ g => rw [h3] at g; cases g
  | next h0 h1 h2 h3 _ ih | nextR h0 h1 h2 h3 _ ih =>
    intro r' h'
    cases h' with
    | close g => rw [h0] at g; cases g
    | comma _ g1 g2 => have := h1 g1; rw [g2] at this; cases this
    | name _ _ g => contradiction
    | typ _ _ _ g => rw [h3] at g; cases g
    | next _ _ _ g g2 | nextR _ _ _ g g2 =>
      rw [h3] at g; cases g
      have e := ih _ g2; first | (cases e; done) | (injection e with e1 e2 e3; subst e1; subst e2; subst e3; rfl) | (injection e with e1; subst e1; rfl)

theorem Df.det {ws : List Wd} {en i : Nat} {r : Rf} (h : Df ws en i r) : ∀ r', Df ws en i r' → r = r' := by
  intro r' h'
  cases h with
  | noFun h0 => cases h' <;> first | rfl | (rw [h0] at *; contradiction)
  | noName h0 h1 => cases h' <;> first | rfl | contradiction | (rw [h0] at *; contradiction)
  | noOpen h0 h1 h2 => cases h' <;> first | rfl | contradiction | (rw [h0] at *; contradiction) | (rw [h2] at *; contradiction)
  | par h0 h1 h2 h3 =>
    cases h' with
    | noFun g => rw [h0] at g; cases g
    | noName _ g => contradiction
    | noOpen _ _ g => rw [h2] at g; cases g
    | par _ _ _ g => have e := h3.det _ g; injection e with e; subst e; rfl
    | typ _ _ _ g | body _ _ _ g | fn _ _ _ g => have e := h3.det _ g; cases e
  | typ h0 h1 h2 h3 h4 =>
    cases h' with
    | noFun g => rw [h0] at g; cases g
    | noName _ g => contradiction
    | noOpen _ _ g => rw [h2] at g; cases g
    | par _ _ _ g => have e := h3.det _ g; cases e
    | typ _ _ _ g g4 => have e := h3.det _ g; injection e with e1 e2 e3; subst e3; rw [h4] at g4; cases g4; rfl
    | body _ _ _ g g4 | fn _ _ _ g g4 => have e := h3.det _ g; injection e with e1 e2 e3; subst e3; rw [h4] at g4; cases g4
  | body h0 h1 h2 h3 h4 h5 =>
    cases h' with
    | noFun g => rw [h0] at g; cases g
    | noName _ g => contradiction
    | noOpen _ _ g => rw [h2] at g; cases g
    | par _ _ _ g => have e := h3.det _ g; cases e
    | typ _ _ _ g g4 => have e := h3.det _ g; injection e with e1 e2 e3; subst e3; rw [h4] at g4; cases g4
    | body _ _ _ g g4 g5 => have e := h3.det _ g; injection e with e1 e2 e3; subst e3; have e := h5.det _ g5; injection e with e; subst e; rfl
    | fn _ _ _ g g4 g5 => have e := h3.det _ g; injection e with e1 e2 e3; subst e3; have e := h5.det _ g5; cases e
  | fn h0 h1 h2 h3 h4 h5 =>
    cases h' with
    | noFun g => rw [h0] at g; cases g
    | noName _ g => contradiction
    | noOpen _ _ g => rw [h2] at g; cases g
    | par _ _ _ g => have e := h3.det _ g; cases e
    | typ _ _ _ g g4 => have e := h3.det _ g; injection e with e1 e2 e3; subst e3; rw [h4] at g4; cases g4
    | body _ _ _ g g4 g5 => have e := h3.det _ g; injection e with e1 e2 e3; subst e3; have e := h5.det _ g5; cases e
    | fn _ _ _ g g4 g5 => have e := h3.det _ g; injection e with e1 e2 e3; subst e1; subst e2; subst e3; rw [h4] at g4; injection g4 with g4; subst g4; have e := h5.det _ g5; injection e with e1 e2; subst e1; subst e2; rfl

theorem Du.det {ws : List Wd} {en i : Nat} {r : Ru} (h : Du ws en i r) : ∀ r', Du ws en i r' → r = r' := by
  induction h with
  | done h0 => intro r' h'; cases h' <;> first | rfl | (exfalso; omega)
  | more h0 h1 _ ih | moreR h0 h1 _ ih =>
    intro r' h'
    cases h' with
    | done g => exfalso; omega
    | more _ g1 g2 | moreR _ g1 g2 =>
      have e := h1.det _ g1; injection e with e1 e2; subst e1; subst e2
      have e := ih _ g2; first | (cases e; done) | (injection e with e; subst e; rfl)
    | moreB _ g1 => have e := h1.det _ g1; cases e
  | moreB h0 h1 =>
    intro r' h'
    cases h' with
    | done g => exfalso; omega
    | more _ g1 _ | moreR _ g1 _ => have e := h1.det _ g1; cases e
    | moreB _ g1 => have e := h1.det _ g1; injection e with e; subst e; rfl
end Go.Proofs.YtmngofgminlloaaGreatDoor

namespace Go.Proofs.YtmngofgminlloaaGreatDoor
open Go.RowKit Tw

def WsZ (ws : List Wd) : Prop := ws.length ≤ 4000 ∧ ∀ x ∈ ws, x.text.size ≤ 4000
theorem WsZ.text {ws : List Wd} (h : WsZ ws) (i : Nat) : (textAt ws i).size ≤ maxLen := by
  unfold textAt maxLen
  cases hx : ws[i]? with
  | none => decide
  | some x => have := h.2 x (List.mem_of_getElem? hx); simp; omega
theorem none_small : sNone.size ≤ maxLen := by unfold maxLen; decide
theorem isAt_len {ws : List Wd} {i : Nat} {s : ByteArray} (h : isAt ws i s = true) : i < ws.length := by
  unfold isAt at h
  rcases Nat.lt_or_ge i ws.length with h' | h'
  · exact h'
  · rw [List.getElem?_eq_none h'] at h; cases h
theorem kindAt_len {ws : List Wd} {i k : Nat} (h : kindAt ws i = k) (hk : k ≠ 0) : i < ws.length := by
  unfold kindAt at h
  rcases Nat.lt_or_ge i ws.length with h' | h'
  · exact h'
  · rw [List.getElem?_eq_none h'] at h; exact absurd h.symm hk
theorem headQ_len {ws : List Wd} {i : Nat} (h : headQ ws i ≠ 0) : i < ws.length := by
  unfold headQ at h
  repeat' split at h
  all_goals first
    | (exact isAt_len ‹_›)
    | (exact kindAt_len ‹_› (by decide))
    | (exact absurd rfl h)
/-- What has been read is small, and lies within the words. -/
def smallE (ws : List Wd) : Qe → Re → Prop
  | .lvl n i, .ex x j => 1 ≤ n → i < j ∧ j ≤ ws.length ∧ ExZ x
  | .one i, .ex x j => i < j ∧ j ≤ ws.length ∧ ExZ x
  | .rest n a i, .ex x j => 1 ≤ n → i ≤ ws.length → ExZ a → i ≤ j ∧ j ≤ ws.length ∧ ExZ x
  | .args _ i, .exs l j => i + l.length < j ∧ j ≤ ws.length ∧ ∀ a ∈ l, ExZ a
  | _, _ => True
theorem De.small {ws : List Wd} {en : Nat} {q : Qe} {r : Re} (hz : WsZ ws) (h : De ws en q r) : smallE ws q r := by
  have ht := hz.text
  have hl := hz.1
  have hE : ∀ {k n : Int} {t : ByteArray} {p : Int}, (Lit.int .i64 k).wf = true → t.size ≤ maxLen → ExZ (.mk k n t [] p) := fun hk h => .mk hk h (by simp) (by simp)
  have hE1 : ∀ {k n : Int} {t : ByteArray} {a : Ex} {p : Int}, (Lit.int .i64 k).wf = true → t.size ≤ maxLen → ExZ a → ExZ (.mk k n t [a] p) := fun hk h ha => .mk hk h (by simp) (by simp [ha])
  have hE2 : ∀ {j : Nat} {a b : Ex}, ExZ a → ExZ b → ExZ (twoEx ws en j a b) := fun ha hb => .mk (by decide) (ht _) (by simp) (by simp [ha, hb])
  have hEl : ∀ {k n : Int} {t : ByteArray} {l : List Ex} {p : Int}, (Lit.int .i64 k).wf = true → t.size ≤ maxLen → l.length ≤ 4000 → (∀ a ∈ l, ExZ a) → ExZ (.mk k n t l p) := fun hk h hl' ha => .mk hk h (by omega) ha
  induction h with
  | @lvl6 i r _ ih =>
    cases r with
    | ex x j => intro _; exact ih
    | exs => trivial
    | bad => trivial
  | @lvl n i j a r hn _ _ ih1 ih2 =>
    cases r with
    | ex x k =>
      intro h1
      obtain ⟨a1, a2, a3⟩ := ih1 (by omega)
      obtain ⟨b1, b2, b3⟩ := ih2 h1 a2 a3
      exact ⟨by omega, b2, b3⟩
    | exs => trivial
    | bad => trivial
  | stop _ => intro _ h2 h3; exact ⟨Nat.le_refl _, h2, h3⟩
  | @go n j j' a b r h3 h0 _ _ ih1 ih2 =>
    cases r with
    | ex x k =>
      intro h1 h2 ha
      obtain ⟨a1, a2, a3⟩ := ih1 (by omega)
      obtain ⟨b1, b2, b3⟩ := ih2 h1 a2 (hE2 ha a3)
      exact ⟨by omega, b2, b3⟩
    | exs => trivial
    | bad => trivial
  | cmp h0 _ hx ih1 =>
    intro h1 h2 ha
    obtain ⟨a1, a2, a3⟩ := ih1 (by omega)
    exact ⟨by omega, a2, hE2 ha a3⟩
  | neg h0 _ ih => exact ⟨by have := ih.1; omega, ih.2.1, hE1 (by decide) none_small ih.2.2⟩
  | not h0 _ ih => exact ⟨by have := ih.1; omega, ih.2.1, hE1 (by decide) none_small ih.2.2⟩
  | par h0 _ hc ih =>
    obtain ⟨a1, a2, a3⟩ := ih (by decide)
    exact ⟨by omega, by have := isAt_len hc; omega, a3⟩
  | tru h0 => exact ⟨by omega, by have := headQ_len (ws := ws) (by rw [h0]; decide); omega, hE (by decide) none_small⟩
  | fls h0 => exact ⟨by omega, by have := headQ_len (ws := ws) (by rw [h0]; decide); omega, hE (by decide) none_small⟩
  | host h0 _ _ _ ih => exact ⟨by have := ih.1; omega, ih.2.1, hEl (by decide) none_small (by have := ih.1; have := ih.2.1; omega) ih.2.2⟩
  | num h0 => exact ⟨by omega, by have := headQ_len (ws := ws) (by rw [h0]; decide); omega, hE (by decide) none_small⟩
  | var h0 _ => exact ⟨by omega, by have := headQ_len (ws := ws) (by rw [h0]; decide); omega, hE (by decide) (ht _)⟩
  | call h0 _ _ ih => exact ⟨by have := ih.1; omega, ih.2.1, hEl (by decide) (ht _) (by have := ih.1; have := ih.2.1; omega) ih.2.2⟩
  | close hc => exact ⟨by simp, by have := isAt_len hc; omega, by simp⟩
  | first hc _ _ ih1 ih2 =>
    obtain ⟨a1, a2, a3⟩ := ih1 (by decide)
    exact ⟨by have := ih2.1; simp; omega, ih2.2.1, by intro a ha; rcases List.mem_cons.1 ha with rfl | ha; exact a3; exact ih2.2.2 a ha⟩
  | next hc hd _ _ ih1 ih2 =>
    obtain ⟨a1, a2, a3⟩ := ih1 (by decide)
    exact ⟨by have := ih2.1; simp; omega, ih2.2.1, by intro a ha; rcases List.mem_cons.1 ha with rfl | ha; exact a3; exact ih2.2.2 a ha⟩
  | _ => trivial
theorem nameS_small {ws : List Wd} (hz : WsZ ws) (i : Nat) : (nameS ws i).size ≤ maxLen := by
  unfold nameS
  repeat' split
  · exact hz.text _
  · exact hz.text _
  · exact none_small
def smallS (ws : List Wd) : Qs → Rs → Prop
  | .stmt i, .st s j => i < j ∧ j ≤ ws.length ∧ SmZ s
  | .block i, .sts l j => i + l.length < j ∧ j ≤ ws.length ∧ ∀ s ∈ l, SmZ s
  | .stmts i, .sts l j => i + l.length < j ∧ j ≤ ws.length ∧ ∀ s ∈ l, SmZ s
  | _, _ => True
theorem exprS_ge (ws : List Wd) (i : Nat) : i ≤ exprS ws i := by unfold exprS; repeat' (first | omega | split)
theorem Ds.small {ws : List Wd} {en : Nat} {q : Qs} {r : Rs} (hz : WsZ ws) (h : Ds ws en q r) : smallS ws q r := by
  have hl := hz.1
  have hS : ∀ {k : Int} {nm : ByteArray} {a : Ex} {b e : List Sm} {p : Int}, nm.size ≤ maxLen → ExZ a → b.length ≤ 4000 → e.length ≤ 4000 → (∀ s ∈ b, SmZ s) → (∀ s ∈ e, SmZ s) → SmZ (.mk k nm a b e p) := fun h1 h2 h3 h4 h5 h6 => .mk h1 h2 (by omega) (by omega) h5 h6
  induction h with
  | @simp i j x _ _ _ hx hc =>
    obtain ⟨a1, a2, a3⟩ := hx.small hz (by decide)
    have := exprS_ge ws i
    exact ⟨by omega, by have := isAt_len hc; omega, hS (nameS_small hz _) a3 (by simp) (by simp) (by simp) (by simp)⟩
  | whil _ hx _ ih =>
    obtain ⟨a1, a2, a3⟩ := hx.small hz (by decide)
    exact ⟨by have := ih.1; omega, ih.2.1, hS none_small a3 (by have := ih.1; have := ih.2.1; omega) (by simp) ih.2.2 (by simp)⟩
  | if0 _ hx _ _ ih =>
    obtain ⟨a1, a2, a3⟩ := hx.small hz (by decide)
    exact ⟨by have := ih.1; omega, ih.2.1, hS none_small a3 (by have := ih.1; have := ih.2.1; omega) (by simp) ih.2.2 (by simp)⟩
  | ifE _ hx _ _ _ _ ih ih2 =>
    obtain ⟨a1, a2, a3⟩ := hx.small hz (by decide)
    exact ⟨by have := ih.1; have := ih2.1; omega, ih2.2.1, hS none_small a3 (by have := ih.1; have := ih.2.1; omega) (by have := ih2.1; have := ih2.2.1; omega) ih.2.2 ih2.2.2⟩
  | ifI _ hx _ _ _ _ ih ih2 =>
    obtain ⟨a1, a2, a3⟩ := hx.small hz (by decide)
    exact ⟨by have := ih.1; have := ih2.1; omega, ih2.2.1, hS none_small a3 (by have := ih.1; have := ih.2.1; omega) (by simp) ih.2.2 (by simp; exact ih2.2.2)⟩
  | @block i r _ _ ih =>
    cases r with
    | sts l j => exact ⟨by have := ih.1; omega, ih.2⟩
    | st => trivial
    | bad => trivial
  | done hc => exact ⟨by simp, by have := isAt_len hc; omega, by simp⟩
  | more _ _ _ ih1 ih2 =>
    exact ⟨by have := ih1.1; have := ih2.1; simp; omega, ih2.2.1, by intro a ha; rcases List.mem_cons.1 ha with rfl | ha; exact ih1.2.2; exact ih2.2.2 a ha⟩
  | _ => trivial
theorem Dp.small {ws : List Wd} {en k i : Nat} {r : Rp} (hz : WsZ ws) (h : Dp ws en k i r) : ∀ ns ts j, r = .ok ns ts j → i + ns.length < j ∧ j ≤ ws.length ∧ ts.length = ns.length ∧ ∀ n ∈ ns, n.size ≤ maxLen := by
  induction h with
  | close hc => rintro ns ts j e; cases e; exact ⟨by simp, by have := isAt_len hc; omega, rfl, by simp⟩
  | @next k i j t ns ts _ _ _ ht _ ih =>
    rintro ns' ts' j' e; cases e
    obtain ⟨a1, a2, a3, a4⟩ := ih _ _ _ rfl
    have hp : i ≤ parAt k i := by unfold parAt; split <;> omega
    exact ⟨by simp; omega, a2, by simp [a3], by intro n hn; rcases List.mem_cons.1 hn with rfl | hn; exact hz.text _; exact a4 n hn⟩
  | _ => rintro ns ts j e; cases e
theorem Df.small {ws : List Wd} {en i : Nat} {f : Fn} {j : Nat} (hz : WsZ ws) (h : Df ws en i (.fn f j)) : i < j ∧ j ≤ ws.length ∧ FnZ f := by
  have hl := hz.1
  cases h with
  | fn h0 h1 h2 h3 h4 h5 =>
    obtain ⟨a1, a2, a3, a4⟩ := h3.small hz _ _ _ rfl
    obtain ⟨b1, b2, b3⟩ := h5.small hz
    exact ⟨by omega, b2, ⟨hz.text _, a4, by dsimp only; omega, by dsimp only; omega, by dsimp only; omega, b3⟩⟩
theorem Du.small {ws : List Wd} {en i : Nat} {r : Ru} (hz : WsZ ws) (h : Du ws en i r) : ∀ l, r = .fns l → i + l.length ≤ ws.length + i ∧ (i ≤ ws.length → i + l.length ≤ ws.length) ∧ ∀ f ∈ l, FnZ f := by
  induction h with
  | done _ => rintro l e; cases e; exact ⟨by simp, by simp, by simp⟩
  | more hi hf _ ih =>
    rintro l e; cases e
    obtain ⟨a1, a2, a3⟩ := hf.small hz
    obtain ⟨b1, b2, b3⟩ := ih _ rfl
    have := b2 a2
    exact ⟨by simp; omega, fun _ => by simp; omega, by intro f' hf'; rcases List.mem_cons.1 hf' with rfl | hf'; exact a3; exact b3 _ hf'⟩
  | _ => rintro l e; cases e
end Go.Proofs.YtmngofgminlloaaGreatDoor

namespace Go.Proofs.YtmngofgminlloaaGreatDoor
open Go.RowKit Tw Go.Maps

structure FrU (w W : World) (rb bu b2 base : Nat) (v : Value) (ws : List Wd) (i en : Nat) (b : Bool) (A : Option Addr) (c : Nat) (l : List (Fn × Value × Value × Value)) : Prop where
  rd : Rd W rb v ws i en b
  un : W.heap[bu]? = some (.cells #[.slice A l.length c] 24 (0, 0))
  res : W.heap[b2]? = some (.cells #[.slice none 0 0] 24 (0, 0))
  row : GRow fnElem W base 32 6 (.slice A l.length c) l
  be : Below w.heap.size w W
  gl : Glob W
  r0 : 10 < rb
  z0 : w.heap.size ≤ b2
  z1 : b2 < rb
  z2 : rb < bu
  z3 : bu < base
  z4 : base ≤ W.heap.size
theorem below_grown {B : Nat} {w w1 w2 : World} {r : Nat} (h : Below B w w1) (hg : w1.grownBy w2 (some r)) (hr : B ≤ r) (hB : B ≤ w1.heap.size) : Below B w w2 :=
  ⟨hg.os.trans h.os, hg.tape.trans h.tape, hg.output.trans h.output, Nat.le_trans h.size hg.size, fun k hk => (hg.block k (by omega) (by simp; omega)).trans (h.block k hk)⟩
theorem FrU.step {w W W' : World} {rb bu b2 base : Nat} {v : Value} {ws : List Wd} {i en : Nat} {b : Bool} {A : Option Addr} {c : Nat} {l : List (Fn × Value × Value × Value)} {i' : Nat} {b' : Bool}
    (h : FrU w W rb bu b2 base v ws i en b A c l) (hr : Rd W' rb v ws i' en b') (hg : W.grownBy W' (some rb)) : FrU w W' rb bu b2 base v ws i' en b' A c l := by
  have h0 := h.z0; have h1 := h.z1; have h2 := h.z2; have h3 := h.z3; have h4 := h.z4
  exact ⟨hr, (hg.block bu (by omega) (by simp; omega)).trans h.un, (hg.block b2 (by omega) (by simp; omega)).trans h.res, h.row.kept hg (fun k e => .inl (by cases e; omega)), below_grown h.be hg (by omega) (by omega), h.gl.of hg h.r0, h.r0, h0, h1, h2, h3, Nat.le_trans h4 hg.size⟩
/-- The frame of one function: what is written of it lies in bf; its rows lie in new blocks. -/
structure FrF (wr W : World) (rb bf base : Nat) (v : Value) (ws : List Wd) (i en : Nat) (b : Bool) (nm : ByteArray) (An : Option Addr) (cn : Nat) (ns : List ByteArray) (At : Option Addr) (ct : Nat) (ts : List Int) (out : Int) (vb : Value) (pos : Int) : Prop where
  rd : Rd W rb v ws i en b
  fb : W.heap[bf]? = some (.cells #[.string nm, .slice An ns.length cn, .slice At ts.length ct, .int .i64 out, vb, .int .i64 pos] 32 (0, 0))
  gr : wr.grownBy W (some rb)
  gl : Glob W
  rn : GRow strElem W base 9 1 (.slice An ns.length cn) ns
  rt : GRow intElem W base 3 1 (.slice At ts.length ct) ts
  ne : ∀ g, (Value.slice An ns.length cn).ownBlock = some g → (Value.slice At ts.length ct).ownBlock ≠ some g
  r0 : 10 < rb
  z0 : rb < wr.heap.size
  z1 : wr.heap.size ≤ bf
  z2 : bf < base
  z3 : base ≤ W.heap.size
section
variable {wr W W' : World} {rb bf base : Nat} {v : Value} {ws : List Wd} {i en : Nat} {b : Bool} {nm : ByteArray} {An : Option Addr} {cn : Nat} {ns : List ByteArray} {At : Option Addr} {ct : Nat} {ts : List Int} {out : Int} {vb : Value} {pos : Int}
theorem FrF.step {i' : Nat} {b' : Bool} (h : FrF wr W rb bf base v ws i en b nm An cn ns At ct ts out vb pos) (hr : Rd W' rb v ws i' en b') (hg : W.grownBy W' (some rb)) : FrF wr W' rb bf base v ws i' en b' nm An cn ns At ct ts out vb pos := by
  have h0 := h.z0; have h1 := h.z1; have h2 := h.z2; have h3 := h.z3
  exact ⟨hr, (hg.block bf (by omega) (by simp; omega)).trans h.fb, grown_trans h.gr hg, h.gl.of hg h.r0, h.rn.kept hg (fun k e => .inl (by cases e; omega)), h.rt.kept hg (fun k e => .inl (by cases e; omega)), h.ne, h.r0, h0, h1, h2, Nat.le_trans h3 hg.size⟩
theorem FrF.below (h : FrF wr W rb bf base v ws i en b nm An cn ns At ct ts out vb pos) (hb : Below W.heap.size W W') : FrF wr W' rb bf base v ws i en b nm An cn ns At ct ts out vb pos := h.step (h.rd.keep hb) (grown_of_below hb _)
/-- A write of a cell of the function's. -/
theorem FrF.cell {x : Value} (h : FrF wr W rb bf base v ws i en b nm An cn ns At ct ts out vb pos) (j : Nat) : W.grownBy (W.setCell ⟨bf, j, none⟩ x) (some bf) ∧ Rd (W.setCell ⟨bf, j, none⟩ x) rb v ws i en b ∧ wr.grownBy (W.setCell ⟨bf, j, none⟩ x) (some rb) ∧ Glob (W.setCell ⟨bf, j, none⟩ x) ∧ GRow strElem (W.setCell ⟨bf, j, none⟩ x) base 9 1 (.slice An ns.length cn) ns ∧ GRow intElem (W.setCell ⟨bf, j, none⟩ x) base 3 1 (.slice At ts.length ct) ts := by
  have h0 := h.z0; have h1 := h.z1; have h2 := h.z2; have h3 := h.z3
  have hg := grown_set W bf j x
  exact ⟨hg, h.rd.grown hg (by omega), grown_new h.gr hg (by omega), h.gl.same hg.size (fun g hg' => hg.block g (by have := h.r0; omega) (by simp; have := h.r0; omega)), h.rn.kept hg (fun k e => .inl (by cases e; omega)), h.rt.kept hg (fun k e => .inl (by cases e; omega))⟩
theorem FrF.s0 (h : FrF wr W rb bf base v ws i en b nm An cn ns At ct ts out vb pos) (x : ByteArray) : FrF wr (W.setCell ⟨bf, 0, none⟩ (.string x)) rb bf base v ws i en b x An cn ns At ct ts out vb pos := by
  obtain ⟨h1, h2, h3, h4, h5, h6⟩ := h.cell (x := (.string x)) 0
  exact ⟨h2, by simpa using heap_setCell_same W bf 0 _ _ (.string x) h.fb, h3, h4, h5, h6, h.ne, h.r0, h.z0, h.z1, h.z2, Nat.le_trans h.z3 h1.size⟩
theorem FrF.s3 (h : FrF wr W rb bf base v ws i en b nm An cn ns At ct ts out vb pos) (x : Int) : FrF wr (W.setCell ⟨bf, 3, none⟩ (.int .i64 x)) rb bf base v ws i en b nm An cn ns At ct ts x vb pos := by
  obtain ⟨h1, h2, h3, h4, h5, h6⟩ := h.cell (x := (.int .i64 x)) 3
  exact ⟨h2, by simpa using heap_setCell_same W bf 3 _ _ (.int .i64 x) h.fb, h3, h4, h5, h6, h.ne, h.r0, h.z0, h.z1, h.z2, Nat.le_trans h.z3 h1.size⟩
theorem FrF.s4 (h : FrF wr W rb bf base v ws i en b nm An cn ns At ct ts out vb pos) (x : Value) : FrF wr (W.setCell ⟨bf, 4, none⟩ x) rb bf base v ws i en b nm An cn ns At ct ts out x pos := by
  obtain ⟨h1, h2, h3, h4, h5, h6⟩ := h.cell (x := x) 4
  exact ⟨h2, by simpa using heap_setCell_same W bf 4 _ _ x h.fb, h3, h4, h5, h6, h.ne, h.r0, h.z0, h.z1, h.z2, Nat.le_trans h.z3 h1.size⟩
/-- One name more. -/
theorem FrF.name {s : ByteArray} {g cap k : Nat} (h : FrF wr W rb bf base v ws i en b nm An cn ns At ct ts out vb pos) (ho : W'.ownsRow base 9 1 (.slice (some ⟨g, 0, none⟩) (ns.length + 1) cap) (ns.length + 1) (ns.flatMap strElem.cells ++ strElem.cells s)) (hg : W.grownBy W' (Value.slice An ns.length cn).ownBlock) (hat : (Value.slice An ns.length cn).ownBlock = some g ∨ g = W.heap.size) (hk : k = ns.length + 1) :
    FrF wr (W'.setCell ⟨bf, 1, none⟩ (.slice (some ⟨g, 0, none⟩) k cap)) rb bf base v ws i en b nm (some ⟨g, 0, none⟩) cap (ns ++ [s]) At ct ts out vb pos := by
  subst hk
  have h0 := h.z0; have h1 := h.z1; have h2 := h.z2; have h3 := h.z3
  have hlt := h.rn.1.lt
  have hrow : ∀ k, (Value.slice An ns.length cn).ownBlock = some k → base ≤ k := fun k e => (hlt k e).1
  have hrn : GRow strElem W' base 9 1 (.slice (some ⟨g, 0, none⟩) (ns.length + 1) cap) (ns ++ [s]) := GRow.app (F := fun _ => False) h.rn trivial (fun _ h => h.elim) ho hg hat
  have hrt : GRow intElem W' base 3 1 (.slice At ts.length ct) ts := h.rt.beside (fun _ _ _ => trivial) hg (by
    cases hv : (Value.slice At ts.length ct).ownBlock with
    | none => exact .inl rfl
    | some k => right; intro e; exact h.ne k e.symm hv)
  have hgl : Glob W' := h.gl.same hg.size (fun q hq => hg.block q (by have := h.r0; omega) (fun e => by have := hrow q e.symm; have := h.r0; omega))
  have hset := grown_set W' bf 1 (.slice (some ⟨g, 0, none⟩) (ns.length + 1) cap)
  have hfb : W'.heap[bf]? = some (.cells #[.string nm, .slice An ns.length cn, .slice At ts.length ct, .int .i64 out, vb, .int .i64 pos] 32 (0, 0)) := (hg.block bf (by omega) (fun e => by have := hrow bf e.symm; omega)).trans h.fb
  have hgr : wr.grownBy W' (some rb) := ⟨hg.os.trans h.gr.os, hg.tape.trans h.gr.tape, hg.output.trans h.gr.output, Nat.le_trans h.gr.size hg.size, fun q hq hr => (hg.block q (Nat.lt_of_lt_of_le hq h.gr.size) (fun e => by have := hrow q e.symm; omega)).trans (h.gr.block q hq hr)⟩
  have hrd : Rd W' rb v ws i en b := ⟨(hg.block rb h.rd.lt (fun e => by have := hrow rb e.symm; omega)).trans h.rd.blk, h.rd.row.same fun q hq => hg.block q (Nat.lt_trans hq h.rd.lt) (fun e => by have := hrow q e.symm; omega), h.rd.len, h.rd.pos⟩
  have e1 : (ns ++ [s]).length = ns.length + 1 := by simp
  refine ⟨hrd.grown hset (by omega), by rw [e1]; simpa using heap_setCell_same W' bf 1 _ _ (.slice (some ⟨g, 0, none⟩) (ns.length + 1) cap) hfb, grown_new hgr hset (by omega), hgl.same hset.size (fun q hq => hset.block q (by have := h.r0; have := hg.size; omega) (by simp; have := h.r0; omega)),
    by rw [e1]; exact hrn.kept hset (fun k e => .inl (by cases e; omega)), hrt.kept hset (fun k e => .inl (by cases e; omega)), ?_, h.r0, h0, h1, h2, Nat.le_trans h3 (Nat.le_trans hg.size hset.size)⟩
  intro q hq e
  simp [Value.ownBlock] at hq
  subst hq
  rcases hat with hat | hat
  · exact h.ne g hat e
  · have := (h.rt.1.lt g e).2; omega
/-- One type more. -/
theorem FrF.typ {s : Int} {g cap k : Nat} (h : FrF wr W rb bf base v ws i en b nm An cn ns At ct ts out vb pos) (ho : W'.ownsRow base 3 1 (.slice (some ⟨g, 0, none⟩) (ts.length + 1) cap) (ts.length + 1) (ts.flatMap intElem.cells ++ intElem.cells s)) (hg : W.grownBy W' (Value.slice At ts.length ct).ownBlock) (hat : (Value.slice At ts.length ct).ownBlock = some g ∨ g = W.heap.size) (hk : k = ts.length + 1) :
    FrF wr (W'.setCell ⟨bf, 2, none⟩ (.slice (some ⟨g, 0, none⟩) k cap)) rb bf base v ws i en b nm An cn ns (some ⟨g, 0, none⟩) cap (ts ++ [s]) out vb pos := by
  subst hk
  have h0 := h.z0; have h1 := h.z1; have h2 := h.z2; have h3 := h.z3
  have hlt := h.rt.1.lt
  have hrow : ∀ k, (Value.slice At ts.length ct).ownBlock = some k → base ≤ k := fun k e => (hlt k e).1
  have hrt : GRow intElem W' base 3 1 (.slice (some ⟨g, 0, none⟩) (ts.length + 1) cap) (ts ++ [s]) := GRow.app (F := fun _ => False) h.rt trivial (fun _ h => h.elim) ho hg hat
  have hrn : GRow strElem W' base 9 1 (.slice An ns.length cn) ns := h.rn.beside (fun _ _ _ => trivial) hg (by
    cases hv : (Value.slice An ns.length cn).ownBlock with
    | none => exact .inl rfl
    | some k => right; intro e; exact h.ne k hv e.symm)
  have hgl : Glob W' := h.gl.same hg.size (fun q hq => hg.block q (by have := h.r0; omega) (fun e => by have := hrow q e.symm; have := h.r0; omega))
  have hset := grown_set W' bf 2 (.slice (some ⟨g, 0, none⟩) (ts.length + 1) cap)
  have hfb : W'.heap[bf]? = some (.cells #[.string nm, .slice An ns.length cn, .slice At ts.length ct, .int .i64 out, vb, .int .i64 pos] 32 (0, 0)) := (hg.block bf (by omega) (fun e => by have := hrow bf e.symm; omega)).trans h.fb
  have hgr : wr.grownBy W' (some rb) := ⟨hg.os.trans h.gr.os, hg.tape.trans h.gr.tape, hg.output.trans h.gr.output, Nat.le_trans h.gr.size hg.size, fun q hq hr => (hg.block q (Nat.lt_of_lt_of_le hq h.gr.size) (fun e => by have := hrow q e.symm; omega)).trans (h.gr.block q hq hr)⟩
  have hrd : Rd W' rb v ws i en b := ⟨(hg.block rb h.rd.lt (fun e => by have := hrow rb e.symm; omega)).trans h.rd.blk, h.rd.row.same fun q hq => hg.block q (Nat.lt_trans hq h.rd.lt) (fun e => by have := hrow q e.symm; omega), h.rd.len, h.rd.pos⟩
  have e1 : (ts ++ [s]).length = ts.length + 1 := by simp
  refine ⟨hrd.grown hset (by omega), by rw [e1]; simpa using heap_setCell_same W' bf 2 _ _ (.slice (some ⟨g, 0, none⟩) (ts.length + 1) cap) hfb, grown_new hgr hset (by omega), hgl.same hset.size (fun q hq => hset.block q (by have := h.r0; have := hg.size; omega) (by simp; have := h.r0; omega)),
    hrn.kept hset (fun k e => .inl (by cases e; omega)), by rw [e1]; exact hrt.kept hset (fun k e => .inl (by cases e; omega)), ?_, h.r0, h0, h1, h2, Nat.le_trans h3 (Nat.le_trans hg.size hset.size)⟩
  intro q hq e
  simp [Value.ownBlock] at e
  subst e
  rcases hat with hat | hat
  · exact h.ne g hq hat
  · have := (h.rn.1.lt g hq).2; omega
end
end Go.Proofs.YtmngofgminlloaaGreatDoor

namespace Go.Proofs.YtmngofgminlloaaGreatDoor.K
open Go Go.ChangeShapes Go.WideShapes Go.ChangeAt Go.RowKit
open Go.ChangeMaps (open_string shut_string)

theorem own : ownKnob Tryz.prog.godebug = none := by kernel_rfl

/-- The numbers of a list that came in lie below the heap's end. -/
theorem nums {H : Type} {enc : TypeId × Value → H} {W : World} {fuel : Nat} {x : DataW H × List MemPlace} {a0 : Option Addr} {len cap : Nat} (h : DataW.trod enc Tryz.prog W 0 (fun _ => true) true fuel 29 (Value.slice a0 len cap).cells.toList = some x) :
    len ≤ cap ∧ ∀ j, j < len → ∃ g off z, a0 = some ⟨g, off, none⟩ ∧ g < W.heap.size ∧ W.cell? ⟨g, off + j, none⟩ = some (.int .i64 z) := by
  rcases open_ints Tryz.underlying29 Tryz.underlying3 (by kernel_rfl) h with ⟨hcs, _⟩ | ⟨a, len', cap', zs, hcs, _, hl, hm, hz, _, hcell, _⟩
  · simp [Value.cells] at hcs
    obtain ⟨rfl, rfl, rfl⟩ := hcs
    exact ⟨Nat.le_refl _, fun j hj => by omega⟩
  · simp [Value.cells] at hcs
    obtain ⟨rfl, rfl, rfl⟩ := hcs
    simp only [if_true] at hz
    refine ⟨hl, fun j hj => ?_⟩
    have h0 := hcell 0 (by omega)
    have hs : a.spot = none := by have := World.cell?_spot h0; simpa [Addr.add] using this
    obtain ⟨g, off, spot⟩ := a
    simp only at hs
    subst hs
    have hj' := hcell j (by omega)
    have e : (⟨g, off, none⟩ : Addr).add j = ⟨g, off + j, none⟩ := by unfold Addr.add; split <;> simp_all
    rw [e] at hj'
    exact ⟨g, off, _, rfl, World.block_lt_of_cell? W _ hj', hj'⟩
end Go.Proofs.YtmngofgminlloaaGreatDoor.K

namespace Go.Proofs.YtmngofgminlloaaGreatDoor
open Go.RowKit Tw

/-- The words of a rest of a text that begins at k. -/
inductive Scan : Bs → Nat → List Wd → Prop
  | nil {k : Nat} : Scan [] k []
  | sp {c : UInt8} {l : Bs} {k : Nat} {ws : List Wd} : isSp c = true → Scan l (k + 1) ws → Scan (c :: l) k ws
  | word {w l : Bs} {k c : Nat} {ws : List Wd} : Tw.tok (w ++ l) = .word c w.length → 0 < w.length → Scan l (k + w.length) ws → Scan (w ++ l) k (⟨c, ⟨w.toArray⟩, k⟩ :: ws)
theorem ext_take {s : ByteArray} {k n : Nat} {w l : Bs} (h : s.data.toList.drop k = w ++ l) (hn : w.length = n) : s.extract k (k + n) = ⟨w.toArray⟩ := by
  apply ByteArray.ext
  rw [ByteArray.data_extract]
  apply Array.toList_inj.1
  rw [Array.toList_extract]
  simp only [List.extract_eq_take_drop]
  rw [h, show k + n - k = n by omega, ← hn, List.take_left]
theorem Scan.lex {s : ByteArray} {l : Bs} {k : Nat} {ws : List Wd} (h : Scan l k ws) : s.data.toList.drop k = l → k ≤ s.size → ∀ acc, Lex s k acc (none, acc ++ ws) := by
  have hsz : s.data.toList.length = s.size := by rw [Array.length_toList]; rfl
  induction h with
  | nil =>
    intro hd hk acc
    rw [List.append_nil]
    have : s.data.toList.length ≤ _ := List.drop_eq_nil_iff.1 hd
    exact .done (by omega)
  | @sp c l k ws hc _ ih =>
    intro hd hk acc
    have hlt : k < s.size := by
      rcases Nat.lt_or_ge k s.size with h | h
      · exact h
      · rw [List.drop_eq_nil_iff.2 (by omega)] at hd; cases hd
    refine .skip hlt (n := 1) (by rw [hd]; simp [Tw.tok, hc]) (ih ?_ (by omega) acc)
    rw [← List.drop_drop, hd]; rfl
  | @word w l k c ws ht hw _ ih =>
    intro hd hk acc
    have hlen : (s.data.toList.drop k).length = w.length + l.length := by rw [hd, List.length_append]
    rw [List.length_drop] at hlen
    have hlt : k < s.size := by omega
    have h2 := ih (by rw [← List.drop_drop, hd, List.drop_left]) (by omega) (acc ++ [⟨c, ⟨w.toArray⟩, k⟩])
    rw [List.append_assoc] at h2
    refine .word hlt (n := w.length) (k := c) (by rw [hd]; exact ht) ?_
    rw [ext_take hd rfl]
    exact h2
theorem Scan.whole {s : ByteArray} {ws : List Wd} (h : Scan s.data.toList 0 ws) : Lex s 0 [] (none, ws) := by
  have := h.lex (s := s) rfl (Nat.zero_le _) []
  simpa using this

/-- What must not stand behind a word of letters and digits. -/
def NotA (l : Bs) : Prop := ∀ c, l.head? = some c → isA c = false
theorem run_word {w l : Bs} (hw : ∀ c ∈ w, isA c = true) (hl : NotA l) : runLen isA (w ++ l) = w.length := by
  unfold runLen
  rw [List.takeWhile_append_of_pos hw]
  cases l with
  | nil => simp
  | cons c l => have := hl c rfl; simp [this]
theorem take_word {w l : Bs} : (w ++ l).take w.length = w := List.take_left
theorem isA_parts {c : UInt8} (h : isA c = true) : isSp c = false ∧ (c == 35) = false := by
  simp only [isA, isD, isL, isSp, Bool.or_eq_true, Bool.and_eq_true, decide_eq_true_eq] at h ⊢
  refine ⟨?_, beq_eq_false_iff_ne.2 ?_⟩
  · simp; omega
  · intro e; subst e; revert h; decide
/-- A name. -/
theorem tok_name {w l : Bs} (h : isName w = true) (hl : NotA l) : Tw.tok (w ++ l) = .word 2 w.length := by
  simp only [isName, Bool.and_eq_true, decide_eq_true_eq, Bool.not_eq_true', List.all_eq_true] at h
  obtain ⟨⟨⟨⟨h1, h2⟩, h3⟩, h4⟩, h5⟩ := h
  cases w with
  | nil => simp at h1
  | cons c w =>
    have hc := h5 c (List.mem_cons_self ..)
    obtain ⟨hs, hh⟩ := isA_parts hc
    have hL : isL c = true := h3
    have hD : isD c = false := by
      simp only [isL, isD, Bool.or_eq_true, Bool.and_eq_true, decide_eq_true_eq] at hL ⊢
      simp; omega
    have hr := run_word h5 hl
    have ht := take_word (w := c :: w) (l := l)
    unfold Tw.tok
    simp only [List.cons_append, List.headD_cons] at hr ht ⊢
    simp only [hs, hh, hD, hL, hr, ht, h4, Bool.false_eq_true, if_false, if_true]
    rw [if_neg (by simp only [decide_eq_true_eq]; omega)]
/-- A key word. -/
theorem tok_key {w l : Bs} (h : w ∈ keyTexts) (hl : NotA l) : Tw.tok (w ++ l) = .word 3 w.length := by
  have hall : ∀ c ∈ w, isA c = true := by
    have : keyTexts.all (fun w => w.all isA) = true := by decide
    exact fun c hc => List.all_eq_true.1 (List.all_eq_true.1 this w h) c hc
  have hne : w ≠ [] ∧ isL (w.headD 0) = true := by
    have : keyTexts.all (fun w => !w.isEmpty && isL (w.headD 0)) = true := by decide
    have := List.all_eq_true.1 this w h
    simp at this
    exact ⟨this.1, by simpa using this.2⟩
  have hk : isKey w = true := by unfold isKey; exact List.contains_iff_mem.2 h
  cases w with
  | nil => exact absurd rfl hne.1
  | cons c w =>
    have hc := hall c (List.mem_cons_self ..)
    obtain ⟨hs, hh⟩ := isA_parts hc
    have hL : isL c = true := hne.2
    have hD : isD c = false := by
      simp only [isL, isD, Bool.or_eq_true, Bool.and_eq_true, decide_eq_true_eq] at hL ⊢
      simp; omega
    have hr := run_word hall hl
    have ht := take_word (w := c :: w) (l := l)
    unfold Tw.tok
    simp only [List.cons_append, List.headD_cons] at hr ht ⊢
    simp only [hs, hh, hD, hL, hr, ht, hk, Bool.false_eq_true, if_false, if_true]
/-- A numeral. -/
theorem tok_numeral {w l : Bs} (h : isNum w = true) (h0 : w ≠ []) (hl : NotA l) : Tw.tok (w ++ l) = .word 1 w.length := by
  have h5 : ∀ c ∈ w, isD c = true := by
    simp only [isNum, Bool.and_eq_true, List.all_eq_true] at h
    exact h.2
  have hall : ∀ c ∈ w, isA c = true := fun c hc => by simp [isA, h5 c hc]
  cases w with
  | nil => exact absurd rfl h0
  | cons c w =>
    have hc := hall c (List.mem_cons_self ..)
    obtain ⟨hs, hh⟩ := isA_parts hc
    have hD := h5 c (List.mem_cons_self ..)
    have hr := run_word hall hl
    have ht := take_word (w := c :: w) (l := l)
    unfold Tw.tok
    simp only [List.cons_append, List.headD_cons] at hr ht ⊢
    simp only [hs, hh, hD, hr, ht, h, Bool.false_eq_true, if_false, if_true]
/-- A sign of one byte that begins no longer one. -/
theorem tok_one {c : UInt8} {l : Bs} (h : c ∈ ([40, 41, 123, 125, 44, 59, 58, 64, 43, 45, 42, 47, 37] : Bs)) : Tw.tok (c :: l) = .word 4 1 := by
  have hs : ∀ c ∈ ([40, 41, 123, 125, 44, 59, 58, 64, 43, 45, 42, 47, 37] : Bs), isSp c = false ∧ (c == 35) = false ∧ isD c = false ∧ isL c = false ∧ sign1.contains c = true ∧ (sign2.all fun w => w.headD 0 != c) = true := by decide
  obtain ⟨h1, h2, h3, h4, h5, h6⟩ := hs c h
  have h7 : sign2.contains ((c :: l).take 2) = false := by
    rw [← Bool.not_eq_true, List.contains_iff_mem]
    intro hm
    have := List.all_eq_true.1 h6 _ hm
    simp at this
  have h8 : signLen (c :: l) = 1 := by
    unfold signLen
    rw [h7]
    simp only [List.headD_cons, h5, List.length_cons]
    simp
  unfold Tw.tok
  simp only [List.headD_cons, h1, h2, h3, h4, h8, Bool.false_eq_true, if_false]
theorem tok_two {w l : Bs} (h : w ∈ sign2) : Tw.tok (w ++ l) = .word 4 2 := by
  have hs : ∀ w ∈ sign2, isSp (w.headD 0) = false ∧ (w.headD 0 == 35) = false ∧ isD (w.headD 0) = false ∧ isL (w.headD 0) = false ∧ w.length = 2 := by decide
  obtain ⟨h1, h2, h3, h4, h5⟩ := hs w h
  have hne : w ≠ [] := by intro e; rw [e] at h5; cases h5
  have hd : (w ++ l).headD 0 = w.headD 0 := by cases w with | nil => exact absurd rfl hne | cons c w => rfl
  have h8 : signLen (w ++ l) = 2 := by
    unfold signLen
    have : (w ++ l).take 2 = w := by rw [← h5]; exact List.take_left
    rw [this, List.contains_iff_mem.2 h]
    rfl
  unfold Tw.tok
  simp only [hd, h1, h2, h3, h4, h8, Bool.false_eq_true, if_false]
theorem tok_cmp {c d : UInt8} {l : Bs} (h : c ∈ ([60, 62, 61, 33] : Bs)) (hd : d = 32 ∨ d = 40) : Tw.tok (c :: d :: l) = .word 4 1 := by
  have hs : ∀ c ∈ ([60, 62, 61, 33] : Bs), isSp c = false ∧ (c == 35) = false ∧ isD c = false ∧ isL c = false ∧ sign1.contains c = true ∧ sign2.contains [c, 32] = false ∧ sign2.contains [c, 40] = false := by decide
  obtain ⟨h1, h2, h3, h4, h5, h6, h7⟩ := hs c h
  have h8 : signLen (c :: d :: l) = 1 := by
    unfold signLen
    have : (c :: d :: l).take 2 = [c, d] := rfl
    rw [this]
    rcases hd with rfl | rfl
    · rw [h6]; simp only [List.headD_cons, h5, List.length_cons]; simp
    · rw [h7]; simp only [List.headD_cons, h5, List.length_cons]; simp
  unfold Tw.tok
  simp only [List.headD_cons, h1, h2, h3, h4, h8, Bool.false_eq_true, if_false]

/-- A piece of a text: a blank, or a word of a kind. -/
inductive Pc where
  | sp (c : UInt8) | w (k : Nat) (t : Bs)
def Pc.txt : Pc → Bs
  | .sp c => [c]
  | .w _ t => t
def pcsT (l : List Pc) : Bs := l.flatMap Pc.txt
/-- The words of pieces, from a place on. -/
def pcsW : List Pc → Nat → List Wd
  | [], _ => []
  | .sp _ :: l, k => pcsW l (k + 1)
  | .w c t :: l, k => ⟨c, ⟨t.toArray⟩, k⟩ :: pcsW l (k + t.length)
/-- The scanner takes the pieces as they stand. -/
def PcsOK : List Pc → Prop
  | [] => True
  | .sp c :: l => isSp c = true ∧ PcsOK l
  | .w c t :: l => Tw.tok (t ++ pcsT l) = .word c t.length ∧ 0 < t.length ∧ PcsOK l
theorem pcsT_cons (p : Pc) (l : List Pc) : pcsT (p :: l) = p.txt ++ pcsT l := rfl
theorem pcsT_app (a b : List Pc) : pcsT (a ++ b) = pcsT a ++ pcsT b := by simp [pcsT]
theorem PcsOK.scan : ∀ (l : List Pc) (k : Nat), PcsOK l → Scan (pcsT l) k (pcsW l k)
  | [], _, _ => .nil
  | .sp c :: l, k, h => .sp h.1 (PcsOK.scan l (k + 1) h.2)
  | .w c t :: l, k, h => .word h.1 h.2.1 (PcsOK.scan l (k + t.length) h.2.2)
end Go.Proofs.YtmngofgminlloaaGreatDoor

namespace Go.Proofs.YtmngofgminlloaaGreatDoor
open Go.RowKit Tw

/-- Kinds and texts, whatever the places. -/
def ktW (ws : List Wd) : List (Nat × ByteArray) := ws.map fun x => (x.kind, x.text)
def ktP : List Pc → List (Nat × ByteArray)
  | [] => []
  | .sp _ :: l => ktP l
  | .w c t :: l => (c, ⟨t.toArray⟩) :: ktP l
/-- From the word i on, the words are those of these pieces. -/
def AtP (ws : List Wd) (i : Nat) (l : List Pc) : Prop := ktW (ws.drop i) = ktP l
theorem kt_pcsW : ∀ (l : List Pc) (k : Nat), ktW (pcsW l k) = ktP l
  | [], _ => rfl
  | .sp _ :: l, k => kt_pcsW l (k + 1)
  | .w c t :: l, k => by simp only [pcsW, ktP]; exact congrArg (List.cons _) (kt_pcsW l _)
def nW : List Pc → Nat
  | [] => 0
  | .sp _ :: l => nW l
  | .w _ _ :: l => nW l + 1
theorem nW_app : ∀ (a b : List Pc), nW (a ++ b) = nW a + nW b
  | [], b => by simp [nW]
  | .sp _ :: l, b => by simp only [List.cons_append, nW]; exact nW_app l b
  | .w _ _ :: l, b => by simp only [List.cons_append, nW, nW_app l b]; omega
section
variable {ws : List Wd} {en i : Nat} {l : List Pc} {c : Nat} {t : Bs}
theorem AtP.sp {b : UInt8} (h : AtP ws i (.sp b :: l)) : AtP ws i l := h
theorem AtP.w (h : AtP ws i (.w c t :: l)) : (∃ k, ws[i]? = some ⟨c, ⟨t.toArray⟩, k⟩) ∧ AtP ws (i + 1) l := by
  unfold AtP at h ⊢
  simp only [ktP] at h
  cases hd : ws.drop i with
  | nil => rw [hd] at h; cases h
  | cons x r =>
    rw [hd] at h
    simp only [ktW, List.map_cons] at h
    injection h with h1 h2
    injection h1 with h1 h3
    refine ⟨⟨x.pos, ?_⟩, ?_⟩
    · have := congrArg List.head? hd
      rw [List.head?_drop] at this
      rw [this, ← h1, ← h3]
      rfl
    · rw [← List.drop_drop, hd]; exact h2
theorem AtP.start (l : List Pc) (k : Nat) : AtP (pcsW l k) 0 l := kt_pcsW l k
theorem at_kind {k : Nat} (h : ws[i]? = some ⟨c, ⟨t.toArray⟩, k⟩) : kindAt ws i = c := by unfold kindAt; rw [h]
theorem at_text {k : Nat} (h : ws[i]? = some ⟨c, ⟨t.toArray⟩, k⟩) : textAt ws i = ⟨t.toArray⟩ := by unfold textAt; rw [h]
theorem at_lv {k : Nat} (h : ws[i]? = some ⟨c, ⟨t.toArray⟩, k⟩) : lvAt ws i = lv t := by unfold lvAt; rw [h]
theorem at_is {k : Nat} (s : Bs) (h : ws[i]? = some ⟨c, ⟨t.toArray⟩, k⟩) : isAt ws i ⟨s.toArray⟩ = (t == s) := by
  unfold isAt; rw [h]
  simp only [ByteArray.toList_eq]

/-- An operand, where no operator of its level or higher follows. -/
theorem De.up {x : Ex} {j : Nat} (h : De ws en (.one i) (.ex x j)) : ∀ (n : Nat), n ≤ 6 → (∀ m, n ≤ m → m ≤ 5 → lvAt ws j ≠ m) → De ws en (.lvl n i) (.ex x j) := by
  have key : ∀ q n, n + q = 6 → (∀ m, n ≤ m → m ≤ 5 → lvAt ws j ≠ m) → De ws en (.lvl n i) (.ex x j) := by
    intro q
    induction q with
    | zero => intro n hn _; obtain rfl : n = 6 := by omega
              exact .lvl6 h
    | succ q ih => intro n hn hm; exact .lvl (by omega) (ih (n + 1) (by omega) (fun m h1 h2 => hm m (by omega) h2)) (.stop (hm n (Nat.le_refl _) (by omega)))
  exact fun n hn hm => key (6 - n) n (by omega) hm
/-- From one level down to a lower one. -/
theorem De.down {x : Ex} {j L : Nat} (h : De ws en (.lvl L i) (.ex x j)) (hL : L ≤ 6) : ∀ (n : Nat), n ≤ L → (∀ m, n ≤ m → m < L → lvAt ws j ≠ m) → De ws en (.lvl n i) (.ex x j) := by
  have key : ∀ q n, n + q = L → (∀ m, n ≤ m → m < L → lvAt ws j ≠ m) → De ws en (.lvl n i) (.ex x j) := by
    intro q
    induction q with
    | zero => intro n hn _; obtain rfl : n = L := by omega
              exact h
    | succ q ih => intro n hn hm; exact .lvl (by omega) (ih (n + 1) (by omega) (fun m h1 h2 => hm m (by omega) h2)) (.stop (hm n (Nat.le_refl _) (by omega)))
  exact fun n hn hm => key (L - n) n (by omega) hm
/-- An operator between two operands. -/
theorem De.two {x y : Ex} {j j' L : Nat} (hL : L ≤ 5) (h3 : L ≠ 3) (hx : De ws en (.lvl (L + 1) i) (.ex x j)) (hl : lvAt ws j = L) (hy : De ws en (.lvl (L + 1) (j + 1)) (.ex y j')) (hn : lvAt ws j' ≠ L) : De ws en (.lvl L i) (.ex (twoEx ws en j x y) j') :=
  .lvl (by omega) hx (.go h3 hl hy (.stop hn))
theorem De.comp {x y : Ex} {j j' : Nat} (hx : De ws en (.lvl 4 i) (.ex x j)) (hl : lvAt ws j = 3) (hy : De ws en (.lvl 4 (j + 1)) (.ex y j')) (hn : lvAt ws j' ≠ 3) : De ws en (.lvl 3 i) (.ex (twoEx ws en j x y) j') :=
  .lvl (by omega) hx (.cmp hl hy hn)
end
end Go.Proofs.YtmngofgminlloaaGreatDoor
