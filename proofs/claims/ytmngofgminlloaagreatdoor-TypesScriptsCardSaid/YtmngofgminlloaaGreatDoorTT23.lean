/-
  The function that the program's types.Check defers: at a panic with a place and an error it lays the results; at none it does nothing.
  The small methods of the program's reader: at, text, take, want, kind, typ; each at a reader whose words lie in an older block; what fails panics with its place.
  More small methods of the program's reader: take, want, kind, typ.
  Precedence climbing (Dc) makes of words what levels make (De), in plain Lean.
  The frame of the program's reader's methods for expressions, and what they answer (ExR, ExprC, UnC, AtomC, ArgsP).
  The program's level(s): how strongly an operator binds.
  The program's check of expressions: parse.expr answers exF.
  The program's check of statements: parse.stmts answers smsF.
-/
import Derived.Test.YtmngofgminlloaaGreatDoorTT22
import Derived.Defers
import Derived.Recover
import Derived.Test.YtmngofgminlloaaGreatDoorTT07
import Derived.Test.YtmngofgminlloaaGreatDoorTT09
import Derived.WalkLawsBesides
import Derived.Test.YtmngofgminlloaaGreatDoorTT08
import Derived.Test.YtmngofgminlloaaGreatDoorTT11
import Derived.Outline
import Derived.Deep.DeepCutAuto
import Derived.Test.YtmngofgminlloaaGreatDoorTT14
set_option linter.all false
namespace Go.Proofs.YtmngofgminlloaaGreatDoor
open Go.RowKit Tw

set_option maxRecDepth 100000 in
set_option maxHeartbeats 4000000 in
theorem tcatch_idle (q r : Addr) (w : World) :
    CallsD Tryz.prog 61 #[.pointer (some q), .pointer (some r)] .returning w fun e u' w' => e = .returned (.tuple #[]) ∧ u' = .returning ∧ w' = w := by
  refine callsD_of_wpS Tryz.func61 rfl fun c₀ cs hu => ?_
  apply wpS_seq
  apply wpS_region
  simp [wpOpsS, go_sem, recoverD, hu, Tryz.ntmps61, Exit.thenS]
  apply wpS_seq
  apply wpS_region
  simp [wpOpsS, go_sem, Exit.thenS]
  refine wpS_cond (t := false) (by simp [Act.eval, Array.replicate]) ?_
  simp only [Bool.false_eq_true, if_false]
  refine wpS_of_wp (wp_skip ?_)
  cases c₀
  simp_all [bodyPostS, results, Tryz.results61]

set_option maxRecDepth 100000 in
set_option maxHeartbeats 4000000 in
theorem tcatch_bad (bp be : Nat) (p0 e0 x er : Int) (older : List PanicEntry) (w : World) (hp : w.heap[bp]? = some (.cells #[.int .i64 p0] 3 (0, 0))) (he : w.heap[be]? = some (.cells #[.int .i64 e0] 25 (0, 0))) (h2 : bp < be) :
    CallsD Tryz.prog 61 #[.pointer (some ⟨bp, 0, none⟩), .pointer (some ⟨be, 0, none⟩)] (.panicking ({ v := .iface 123 (.agg #[.int .i64 x, .int .i64 er]), recovered := false } :: older)) w fun e u' w' =>
      e = .returned (.tuple #[]) ∧ u' = .panicking ({ v := .iface 123 (.agg #[.int .i64 x, .int .i64 er]), recovered := true } :: older) ∧ Below bp w w' ∧ w'.heap[bp]? = some (.cells #[.int .i64 x] 3 (0, 0)) ∧ w'.heap[be]? = some (.cells #[.int .i64 er] 25 (0, 0)) := by
  have hta : ∀ (v : Value) (w : World), (Instr.typeAssert (.iface 123 v) 20 123 true).run Tryz.prog w = .ok (.tuple #[v, .bool true]) w := fun v w => by
    simp [Instr.typeAssert, run_underlying Tryz.underlying123]
  have ht : ∀ (a b : Value), (#[a, b] ++ Array.replicate (Tryz.f61.ntmps - (#[a, b] : Array Value).size) undef) = #[a, b, undef, undef, undef, undef, undef, undef, undef, undef, undef, undef, undef, undef, undef, undef, undef, undef, undef, undef] := fun a b => by
    rw [Tryz.ntmps61]
    apply Array.ext'
    simp
  refine callsD_of_wpS Tryz.func61 rfl fun c₀ cs hum => ?_
  rw [ht]
  apply wpS_seq
  apply wpS_region
  simp [wpOpsS, go_sem, recoverD, hum, Exit.thenS]
  apply wpS_seq
  apply wpS_region
  simp [wpOpsS, go_sem, Exit.thenS]
  refine wpS_cond (t := true) (by simp [Act.eval]) ?_
  simp only [if_true]
  apply wpS_seq
  apply wpS_region
  simp [wpOpsS, go_sem, Exit.thenS, hta]
  obtain ⟨Qx, hQx⟩ : ∃ Q : Exit → Act → World → Prop, ∀ e a' w', Q e a' w' ↔ (e = .normal ∧ a'.defers = [] ∧ Below bp w w' ∧ w'.heap[bp]? = some (.cells #[.int .i64 x] 3 (0, 0)) ∧ w'.heap[be]? = some (.cells #[.int .i64 er] 25 (0, 0))) := ⟨_, fun _ _ _ => Iff.rfl⟩
  refine wpS_of_wp (wp_mono (Q := Qx) ?_ ?_)
  · clear hum hta ht
    have HQx := Lib.hid hQx; clear hQx
    have hbp := lt_of_some hp; have hbe := lt_of_some he
    have HP := Lib.hid hp; have HE := Lib.hid he
    clear hp he
    go_upto_region 5 with (fail)
    have HB := Lib.hid ((Below.refl bp w).alloc (by omega) (.cells #[.int .i64 x, .int .i64 er] 123))
    have hP := (heap_alloc_old w (.cells #[.int .i64 x, .int .i64 er] 123) hbp).trans HP.out
    have hE := (heap_alloc_old w (.cells #[.int .i64 x, .int .i64 er] 123) hbe).trans HE.out
    have hN := heap_alloc_new w (.cells #[.int .i64 x, .int .i64 er] 123)
    generalize w.alloc _ = W at HB hP hE hN ⊢
    have cp : W.cell? ⟨bp, 0, none⟩ = some (.int .i64 p0) := Lib.cell_of_heap hP 0
    have fp := Lib.frozen_of_heap hP 0
    have ce : W.cell? ⟨be, 0, none⟩ = some (.int .i64 e0) := Lib.cell_of_heap hE 0
    have fe := Lib.frozen_of_heap hE 0
    have cn : W.cell? ⟨w.heap.size, 0, none⟩ = some (.int .i64 x) := Lib.cell_of_heap hN 0
    have cm : W.cell? ⟨w.heap.size, 1, none⟩ = some (.int .i64 er) := Lib.cell_of_heap hN 1
    have n2 : bp ≠ be := by omega
    have n5 : w.heap.size ≠ bp := by omega
    have n6 : w.heap.size ≠ be := by omega
    have HP2 := Lib.hid hP; have HE2 := Lib.hid hE
    clear hP hE hN
    go_region
    all_goals
      have o1 : ∀ (V : World) (k j : Nat) (u : Value), j ≠ k → (V.setCell ⟨k, 0, none⟩ u).heap[j]? = V.heap[j]? := fun V k j u h => Below.heap_setCell V ⟨k, 0, none⟩ u j (by simpa using h)
      have hS := below_set (below_set HB.out (Nat.le_refl _) 0 (.int .i64 x)) (show bp ≤ be by omega) 0 (.int .i64 er)
      have hz := hS.size
      refine (HQx.out _ _ _).2 ⟨rfl, rfl, hS.trans ((bel_drew _).mono (by omega)), ?_, ?_⟩
      · show ((W.setCell ⟨bp, 0, none⟩ (.int .i64 x)).setCell ⟨be, 0, none⟩ (.int .i64 er)).heap[bp]? = _
        rw [o1 _ _ _ _ n2]
        simpa using heap_setCell_same W bp 0 _ _ (.int .i64 x) HP2.out
      · show ((W.setCell ⟨bp, 0, none⟩ (.int .i64 x)).setCell ⟨be, 0, none⟩ (.int .i64 er)).heap[be]? = _
        simpa using heap_setCell_same _ be 0 _ _ (.int .i64 er) ((o1 W bp be (.int .i64 x) n2.symm).trans HE2.out)
  · intro e a' w' hq
    obtain ⟨rfl, hd, hb, g2, g3⟩ := (hQx _ _ _).1 hq
    clear hQx hq hta
    cases c₀
    simp_all [bodyPostS, results, Tryz.results61]
theorem results_check (bp be : Nat) (p e : Int) (tmps : Array Value) (w : World) (h1 : tmps.getD 2 undef = .pointer (some ⟨bp, 0, none⟩)) (h2 : tmps.getD 3 undef = .pointer (some ⟨be, 0, none⟩))
    (hp : w.heap[bp]? = some (.cells #[.int .i64 p] 3 (0, 0))) (he : w.heap[be]? = some (.cells #[.int .i64 e] 25 (0, 0))) :
    (results Tryz.f17 tmps).run Tryz.prog w = .ok (.tuple #[.int .i64 p, .int .i64 e]) w := by
  have h1' : tmps[2]?.getD undef = .pointer (some ⟨bp, 0, none⟩) := by simpa using h1
  have h2' : tmps[3]?.getD undef = .pointer (some ⟨be, 0, none⟩) := by simpa using h2
  have cp : w.cell? ⟨bp, 0, none⟩ = some (.int .i64 p) := Lib.cell_of_heap hp 0
  have ce : w.cell? ⟨be, 0, none⟩ = some (.int .i64 e) := Lib.cell_of_heap he 0
  simp [results, Tryz.results17, h1', h2', asAddr, go_sem, cp, ce]
/-- What types.Check answers. -/
def CkR (w : World) (us : List Fn) (e : Ending) (w' : World) : Prop := e = .returned (.tuple #[.int .i64 (unitT us).1, .int .i64 (unitT us).2]) ∧ Below w.heap.size w w'
theorem tset2 {B bp be : Nat} {w W : World} {x0 y0 : Int} (hb : Below B w W) (hB : B ≤ bp) (h2 : bp < be) (hp : W.heap[bp]? = some (.cells #[.int .i64 x0] 3 (0, 0))) (he : W.heap[be]? = some (.cells #[.int .i64 y0] 25 (0, 0))) (x y : Int) :
    Below B w ((W.setCell ⟨bp, 0, none⟩ (.int .i64 x)).setCell ⟨be, 0, none⟩ (.int .i64 y)) ∧ ((W.setCell ⟨bp, 0, none⟩ (.int .i64 x)).setCell ⟨be, 0, none⟩ (.int .i64 y)).heap[bp]? = some (.cells #[.int .i64 x] 3 (0, 0)) ∧ ((W.setCell ⟨bp, 0, none⟩ (.int .i64 x)).setCell ⟨be, 0, none⟩ (.int .i64 y)).heap[be]? = some (.cells #[.int .i64 y] 25 (0, 0)) := by
  have o1 : ∀ (V : World) (k j : Nat) (u : Value), j ≠ k → (V.setCell ⟨k, 0, none⟩ u).heap[j]? = V.heap[j]? := fun V k j u h => Below.heap_setCell V ⟨k, 0, none⟩ u j (by simpa using h)
  refine ⟨below_set (below_set hb hB 0 _) (by omega) 0 _, ?_, ?_⟩
  · rw [o1 _ _ _ _ (by omega)]
    simpa using heap_setCell_same W bp 0 _ _ (.int .i64 x) hp
  · simpa using heap_setCell_same _ be 0 _ _ (.int .i64 y) ((o1 W bp be (.int .i64 x) (by omega)).trans he)
theorem tdoor {w W : World} {us : List Fn} {bp be : Nat} {tmps : Array Value} {p er : Int} (h1 : tmps.getD 2 undef = .pointer (some ⟨bp, 0, none⟩)) (h2 : tmps.getD 3 undef = .pointer (some ⟨be, 0, none⟩))
    (hp : W.heap[bp]? = some (.cells #[.int .i64 p] 3 (0, 0))) (he : W.heap[be]? = some (.cells #[.int .i64 er] 25 (0, 0))) (hb : Below w.heap.size w W) (hs : unitT us = (p, er)) :
    Leaves Tryz.prog Tryz.f17 tmps (fun e w' => CkR w us e w') [] .returning W :=
  ⟨_, results_check bp be p er tmps W h1 h2 hp he, by rw [hs], hb⟩
end Go.Proofs.YtmngofgminlloaaGreatDoor

namespace Go.Proofs.YtmngofgminlloaaGreatDoor
open Go.RowKit Tw

/-- The program's reader: its block holds the words, the place, the text's length. -/
structure Rq (w : World) (rb : Nat) (v : Value) (ws : List Wd) (i en : Nat) : Prop where
  blk : w.heap[rb]? = some (.cells #[v, .int .i64 i, .int .i64 en] 157 (0, 0))
  row : WRow w rb v ws
  len : ws.length ≤ 4000
  pos : i ≤ ws.length
section
variable {w w' : World} {rb : Nat} {v : Value} {ws : List Wd} {i en : Nat}
theorem Rq.lt (h : Rq w rb v ws i en) : rb < w.heap.size := (Array.getElem?_eq_some_iff.1 h.blk).1
theorem Rq.c0 (h : Rq w rb v ws i en) : w.cell? ⟨rb, 0, none⟩ = some v := Lib.cell_of_heap h.blk 0
theorem Rq.c1 (h : Rq w rb v ws i en) : w.cell? ⟨rb, 1, none⟩ = some (.int .i64 i) := Lib.cell_of_heap h.blk 1
theorem Rq.c2 (h : Rq w rb v ws i en) : w.cell? ⟨rb, 2, none⟩ = some (.int .i64 en) := Lib.cell_of_heap h.blk 2
theorem Rq.fz (h : Rq w rb v ws i en) (j : Nat) : w.frozen? ⟨rb, j, none⟩ = false := Lib.frozen_of_heap h.blk j
theorem Rq.keep (h : Rq w rb v ws i en) (hb : Below w.heap.size w w') : Rq w' rb v ws i en :=
  ⟨(hb.block rb h.lt).trans h.blk, h.row.same fun k hk => hb.block k (Nat.lt_trans hk h.lt), h.len, h.pos⟩
theorem Rq.grown {k : Nat} (h : Rq w rb v ws i en) (hg : w.grownBy w' (some k)) (hk : rb < k) : Rq w' rb v ws i en :=
  ⟨(hg.block rb h.lt (by simp; omega)).trans h.blk, h.row.same fun j hj => hg.block j (Nat.lt_trans hj h.lt) (by simp; omega), h.len, h.pos⟩
theorem Rq.setI (h : Rq w rb v ws i en) (j : Nat) (hj : j ≤ ws.length) : Rq (w.setCell ⟨rb, 1, none⟩ (.int .i64 j)) rb v ws j en := by
  refine ⟨?_, h.row.same fun k hk => Below.heap_setCell w ⟨rb, 1, none⟩ _ k (by simp; omega), h.len, hj⟩
  have := heap_setCell_same w rb 1 _ _ (.int .i64 j) h.blk
  simpa using this
end
/-- The reader has failed at a place. -/
def badP (ws : List Wd) (en j : Nat) : Ending := .panicked [{ v := .iface 159 (.agg #[.int .i64 (posAt ws j en)]), recovered := false }]

end Go.Proofs.YtmngofgminlloaaGreatDoor

namespace Go.Proofs.YtmngofgminlloaaGreatDoor
open Go.RowKit Tw

end Go.Proofs.YtmngofgminlloaaGreatDoor

namespace Go.Proofs.YtmngofgminlloaaGreatDoor
open Go.RowKit Tw

/-- What an expression is, by climbing: lvl m stands for 'operators that bind more strongly than m'. -/
inductive Dc (ws : List Wd) (en : Nat) : Qe → Re → Prop
  | ex {m i j : Nat} {a : Ex} {r : Re} : Dc ws en (.one i) (.ex a j) → Dc ws en (.rest m a j) r → Dc ws en (.lvl m i) r
  | exB {m i j : Nat} : Dc ws en (.one i) (.bad j) → Dc ws en (.lvl m i) (.bad j)
  | stop {m j : Nat} {a : Ex} : lvAt ws j ≤ m → Dc ws en (.rest m a j) (.ex a j)
  | go {m j j' : Nat} {a b : Ex} {r : Re} : m < lvAt ws j → Dc ws en (.lvl (lvAt ws j) (j + 1)) (.ex b j') → ¬ (lvAt ws j = 3 ∧ lvAt ws j' = 3) → Dc ws en (.rest m (twoEx ws en j a b) j') r → Dc ws en (.rest m a j) r
  | goB {m j j' : Nat} {a : Ex} : m < lvAt ws j → Dc ws en (.lvl (lvAt ws j) (j + 1)) (.bad j') → Dc ws en (.rest m a j) (.bad j')
  | cmpB {m j j' : Nat} {a b : Ex} : m < lvAt ws j → lvAt ws j = 3 → Dc ws en (.lvl (lvAt ws j) (j + 1)) (.ex b j') → lvAt ws j' = 3 → Dc ws en (.rest m a j) (.bad j')
  | neg {i j : Nat} {y : Ex} : headQ ws i = 1 → Dc ws en (.one (i + 1)) (.ex y j) → Dc ws en (.one i) (.ex (.mk 4 0 sNone [y] (posAt ws i en)) j)
  | negB {i j : Nat} : headQ ws i = 1 → Dc ws en (.one (i + 1)) (.bad j) → Dc ws en (.one i) (.bad j)
  | not {i j : Nat} {y : Ex} : headQ ws i = 2 → Dc ws en (.one (i + 1)) (.ex y j) → Dc ws en (.one i) (.ex (.mk 5 0 sNone [y] (posAt ws i en)) j)
  | notB {i j : Nat} : headQ ws i = 2 → Dc ws en (.one (i + 1)) (.bad j) → Dc ws en (.one i) (.bad j)
  | par {i j : Nat} {x : Ex} : headQ ws i = 3 → Dc ws en (.lvl 0 (i + 1)) (.ex x j) → isAt ws j sClose = true → Dc ws en (.one i) (.ex x (j + 1))
  | parB {i j : Nat} : headQ ws i = 3 → Dc ws en (.lvl 0 (i + 1)) (.bad j) → Dc ws en (.one i) (.bad j)
  | parC {i j : Nat} {x : Ex} : headQ ws i = 3 → Dc ws en (.lvl 0 (i + 1)) (.ex x j) → isAt ws j sClose = false → Dc ws en (.one i) (.bad j)
  | tru {i : Nat} : headQ ws i = 4 → Dc ws en (.one i) (.ex (.mk 2 1 sNone [] (posAt ws i en)) (i + 1))
  | fls {i : Nat} : headQ ws i = 5 → Dc ws en (.one i) (.ex (.mk 2 0 sNone [] (posAt ws i en)) (i + 1))
  | host {i j : Nat} {l : List Ex} : headQ ws i = 6 → kindAt ws (i + 1) = 1 → isAt ws (i + 2) sOpen = true → Dc ws en (.args 0 (i + 3)) (.exs l j) → Dc ws en (.one i) (.ex (.mk 8 (numV (textAt ws (i + 1))) sNone l (posAt ws i en)) j)
  | hostB {i j : Nat} : headQ ws i = 6 → kindAt ws (i + 1) = 1 → isAt ws (i + 2) sOpen = true → Dc ws en (.args 0 (i + 3)) (.bad j) → Dc ws en (.one i) (.bad j)
  | hostC {i : Nat} : headQ ws i = 6 → kindAt ws (i + 1) = 1 → isAt ws (i + 2) sOpen = false → Dc ws en (.one i) (.bad (i + 2))
  | hostD {i : Nat} : headQ ws i = 6 → kindAt ws (i + 1) ≠ 1 → Dc ws en (.one i) (.bad (i + 1))
  | num {i : Nat} : headQ ws i = 7 → Dc ws en (.one i) (.ex (.mk 1 (numV (textAt ws i)) sNone [] (posAt ws i en)) (i + 1))
  | var {i : Nat} : headQ ws i = 8 → isAt ws (i + 1) sOpen = false → Dc ws en (.one i) (.ex (.mk 3 0 (textAt ws i) [] (posAt ws i en)) (i + 1))
  | call {i j : Nat} {l : List Ex} : headQ ws i = 8 → isAt ws (i + 1) sOpen = true → Dc ws en (.args 0 (i + 2)) (.exs l j) → Dc ws en (.one i) (.ex (.mk 7 0 (textAt ws i) l (posAt ws i en)) j)
  | callB {i j : Nat} : headQ ws i = 8 → isAt ws (i + 1) sOpen = true → Dc ws en (.args 0 (i + 2)) (.bad j) → Dc ws en (.one i) (.bad j)
  | nobody {i : Nat} : headQ ws i = 0 → Dc ws en (.one i) (.bad i)
  | close {k i : Nat} : isAt ws i sClose = true → Dc ws en (.args k i) (.exs [] (i + 1))
  | first {i j j' : Nat} {x : Ex} {l : List Ex} : isAt ws i sClose = false → Dc ws en (.lvl 0 i) (.ex x j) → Dc ws en (.args 1 j) (.exs l j') → Dc ws en (.args 0 i) (.exs (x :: l) j')
  | firstR {i j j' : Nat} {x : Ex} : isAt ws i sClose = false → Dc ws en (.lvl 0 i) (.ex x j) → Dc ws en (.args 1 j) (.bad j') → Dc ws en (.args 0 i) (.bad j')
  | firstB {i j : Nat} : isAt ws i sClose = false → Dc ws en (.lvl 0 i) (.bad j) → Dc ws en (.args 0 i) (.bad j)
  | next {k i j j' : Nat} {x : Ex} {l : List Ex} : isAt ws i sClose = false → isAt ws i sComma = true → Dc ws en (.lvl 0 (i + 1)) (.ex x j) → Dc ws en (.args (k + 2) j) (.exs l j') → Dc ws en (.args (k + 1) i) (.exs (x :: l) j')
  | nextR {k i j j' : Nat} {x : Ex} : isAt ws i sClose = false → isAt ws i sComma = true → Dc ws en (.lvl 0 (i + 1)) (.ex x j) → Dc ws en (.args (k + 2) j) (.bad j') → Dc ws en (.args (k + 1) i) (.bad j')
  | nextB {k i j : Nat} : isAt ws i sClose = false → isAt ws i sComma = true → Dc ws en (.lvl 0 (i + 1)) (.bad j) → Dc ws en (.args (k + 1) i) (.bad j)
  | nextC {k i : Nat} : isAt ws i sClose = false → isAt ws i sComma = false → Dc ws en (.args (k + 1) i) (.bad i)

end Go.Proofs.YtmngofgminlloaaGreatDoor

namespace Go.Proofs.YtmngofgminlloaaGreatDoor
open Go.RowKit Tw

structure FrP (w0 w : World) (rb b0 b1 : Nat) (v : Value) (ws : List Wd) (i en : Nat) (u0 u1 u2 u3 u4 : Value) : Prop where
  rd : Rq w rb v ws i en
  res : w.heap[b0]? = some (.cells #[.int .i64 0, .int .i64 0, .string ⟨#[]⟩, .slice none 0 0, .int .i64 0] 186 (0, 0))
  ex : w.heap[b1]? = some (.cells #[u0, u1, u2, u3, u4] 186 (0, 0))
  gr : w0.grownBy w (some rb)
  gl : Glob w
  r0 : 10 < rb
  z0 : rb < w0.heap.size
  z1 : w0.heap.size ≤ b0
  z2 : b0 < b1
  z3 : b1 < w.heap.size
section
variable {w0 w w' : World} {rb b0 b1 : Nat} {v : Value} {ws : List Wd} {i en : Nat} {u0 u1 u2 u3 u4 : Value}
theorem FrP.step {i' : Nat} (h : FrP w0 w rb b0 b1 v ws i en u0 u1 u2 u3 u4) (hr : Rq w' rb v ws i' en) (hg : w.grownBy w' (some rb)) : FrP w0 w' rb b0 b1 v ws i' en u0 u1 u2 u3 u4 := by
  have h0 := h.z0; have h1 := h.z1; have h2 := h.z2; have h3 := h.z3
  exact ⟨hr, (hg.block b0 (by omega) (by simp; omega)).trans h.res, (hg.block b1 h3 (by simp; omega)).trans h.ex, grown_trans h.gr hg, h.gl.of hg h.r0, h.r0, h0, h1, h2, Nat.lt_of_lt_of_le h3 hg.size⟩
theorem FrP.below (h : FrP w0 w rb b0 b1 v ws i en u0 u1 u2 u3 u4) (hb : Below w.heap.size w w') : FrP w0 w' rb b0 b1 v ws i en u0 u1 u2 u3 u4 := h.step (h.rd.keep hb) (grown_of_below hb _)
theorem FrP.set {v0 v1 v2 v3 v4 : Value} (h : FrP w0 w rb b0 b1 v ws i en u0 u1 u2 u3 u4) (hg : w.grownBy w' (some b1)) (he : w'.heap[b1]? = some (.cells #[v0, v1, v2, v3, v4] 186 (0, 0))) : FrP w0 w' rb b0 b1 v ws i en v0 v1 v2 v3 v4 := by
  have h0 := h.z0; have h1 := h.z1; have h2 := h.z2; have h3 := h.z3; have hz := h.gr.size
  exact ⟨h.rd.grown hg (by omega), (hg.block b0 (by omega) (by simp; omega)).trans h.res, he, grown_new h.gr hg (by omega), h.gl.same hg.size (fun g hg' => hg.block g (by have := h.r0; omega) (by simp; have := h.r0; omega)), h.r0, h0, h1, h2, Nat.lt_of_lt_of_le h3 hg.size⟩
theorem FrP.other {k : Nat} (h : FrP w0 w rb b0 b1 v ws i en u0 u1 u2 u3 u4) (hk : b1 < k) (hg : w.grownBy w' (some k)) : FrP w0 w' rb b0 b1 v ws i en u0 u1 u2 u3 u4 := by
  have h0 := h.z0; have h1 := h.z1; have h2 := h.z2; have h3 := h.z3; have hz := h.gr.size
  exact ⟨h.rd.grown hg (by omega), (hg.block b0 (by omega) (by simp; omega)).trans h.res, (hg.block b1 (by omega) (by simp; omega)).trans h.ex, grown_new h.gr hg (by omega), h.gl.same hg.size (fun g hg' => hg.block g (by have := h.r0; omega) (by simp; have := h.r0; omega)), h.r0, h0, h1, h2, Nat.lt_of_lt_of_le h3 hg.size⟩
theorem FrP.s0 (h : FrP w0 w rb b0 b1 v ws i en u0 u1 u2 u3 u4) (x : Value) : FrP w0 (w.setCell ⟨b1, 0, none⟩ x) rb b0 b1 v ws i en x u1 u2 u3 u4 := h.set (grown_set _ _ _ _) (by simpa using heap_setCell_same w b1 0 _ _ x h.ex)
theorem FrP.s1 (h : FrP w0 w rb b0 b1 v ws i en u0 u1 u2 u3 u4) (x : Value) : FrP w0 (w.setCell ⟨b1, 1, none⟩ x) rb b0 b1 v ws i en u0 x u2 u3 u4 := h.set (grown_set _ _ _ _) (by simpa using heap_setCell_same w b1 1 _ _ x h.ex)
theorem FrP.s2 (h : FrP w0 w rb b0 b1 v ws i en u0 u1 u2 u3 u4) (x : Value) : FrP w0 (w.setCell ⟨b1, 2, none⟩ x) rb b0 b1 v ws i en u0 u1 x u3 u4 := h.set (grown_set _ _ _ _) (by simpa using heap_setCell_same w b1 2 _ _ x h.ex)
theorem FrP.s3 (h : FrP w0 w rb b0 b1 v ws i en u0 u1 u2 u3 u4) (x : Value) : FrP w0 (w.setCell ⟨b1, 3, none⟩ x) rb b0 b1 v ws i en u0 u1 u2 x u4 := h.set (grown_set _ _ _ _) (by simpa using heap_setCell_same w b1 3 _ _ x h.ex)
theorem FrP.s4 (h : FrP w0 w rb b0 b1 v ws i en u0 u1 u2 u3 u4) (x : Value) : FrP w0 (w.setCell ⟨b1, 4, none⟩ x) rb b0 b1 v ws i en u0 u1 u2 u3 x := h.set (grown_set _ _ _ _) (by simpa using heap_setCell_same w b1 4 _ _ x h.ex)
theorem FrP.start (hR : Rq w rb v ws i en) (hG : Glob w) (hr : 10 < rb) (hg : w0.grownBy w (some rb)) (h0 : rb < w0.heap.size) (h1 : w0.heap.size ≤ b0) (h2 : b0 < w.heap.size)
    (hz : w.heap[b0]? = some (.cells #[.int .i64 0, .int .i64 0, .string ⟨#[]⟩, .slice none 0 0, .int .i64 0] 186 (0, 0))) (u0 u1 u2 u3 u4 : Value) :
    FrP w0 (w.alloc (.cells #[u0, u1, u2, u3, u4] 186)) rb b0 w.heap.size v ws i en u0 u1 u2 u3 u4 :=
  ⟨hR.keep ((Below.refl _ _).alloc (Nat.le_refl _) _), (heap_alloc_old w _ h2).trans hz, heap_alloc_new w _, grown_trans hg (grown_of_below ((Below.refl _ _).alloc (Nat.le_refl _) _) _), hG.to ((Below.refl _ _).alloc (Nat.le_refl _) _), hr, h0, h1, h2, by simp⟩
end
/-- What a method for expressions answers, by what stands there. -/
def ExR (w : World) (rb : Nat) (v : Value) (ws : List Wd) (en : Nat) (r : Re) (e : Ending) (w' : World) : Prop :=
  match r with
  | .ex x j => ∃ A c, e = .returned (.agg #[.int .i64 x.kind, .int .i64 x.n, .string x.text, .slice A x.args.length c, .int .i64 x.pos]) ∧ ArgsIn w' (fun g => w.heap.size ≤ g) (.slice A x.args.length c) x.args ∧ Rq w' rb v ws j en ∧ w.grownBy w' (some rb)
  | .bad j => e = badP ws en j ∧ w.grownBy w' (some rb)
  | .exs _ _ => False
theorem FrP.ret {w0 w : World} {rb b0 b1 : Nat} {v : Value} {ws : List Wd} {i' en : Nat} {x : Ex} {A : Option Addr} {c : Nat} {F : Nat → Prop}
    (h : FrP w0 w rb b0 b1 v ws i' en (.int .i64 x.kind) (.int .i64 x.n) (.string x.text) (.slice A x.args.length c) (.int .i64 x.pos)) (hA : ArgsIn w F (.slice A x.args.length c) x.args) (hF : ∀ g, F g → w0.heap.size ≤ g ∧ g ≠ b0) :
    ExR w0 rb v ws en (.ex x i') (.returned (.agg #[.int .i64 x.kind, .int .i64 x.n, .string x.text, .slice A x.args.length c, .int .i64 x.pos]))
      (((((w.setCell ⟨b0, 0, none⟩ (.int .i64 x.kind)).setCell ⟨b0, 1, none⟩ (.int .i64 x.n)).setCell ⟨b0, 2, none⟩ (.string x.text)).setCell ⟨b0, 3, none⟩ (.slice A x.args.length c)).setCell ⟨b0, 4, none⟩ (.int .i64 x.pos)) := by
  have hg5 := grown5 w b0 (.int .i64 x.kind) (.int .i64 x.n) (.string x.text) (.slice A x.args.length c) (.int .i64 x.pos)
  have h0 := h.z0; have h1 := h.z1
  exact ⟨A, c, rfl, hA.grown hg5 (fun g h => (hF g h).2) (fun g h => (hF g h).1), h.rd.grown hg5 (by omega), grown_new h.gr hg5 h1⟩
end Go.Proofs.YtmngofgminlloaaGreatDoor

namespace Go.Proofs.YtmngofgminlloaaGreatDoor
open Go.RowKit Tw

theorem of_list {s : ByteArray} {l : List UInt8} (h : s.data.toList = l) : s = ⟨l.toArray⟩ := by
  cases s with | mk d => subst h; simp
set_option maxHeartbeats 4000000 in
theorem level_p (s : ByteArray) (w : World) : Calls Tryz.prog 162 #[.string s] w fun e w' => e = .returned (.int .i64 (lv s.data.toList)) ∧ w = w' := by
  by_cases h0 : s.data.toList = [124, 124]
  · have e := of_list h0
    subst e
    clear h0
    go_enter Tryz.func162, Tryz.ntmps162
    go_wp2_with fail
    go_ret
    exact ⟨rfl, rfl⟩
  by_cases h1 : s.data.toList = [38, 38]
  · have e := of_list h1
    subst e
    clear h0 h1
    go_enter Tryz.func162, Tryz.ntmps162
    go_wp2_with fail
    go_ret
    exact ⟨rfl, rfl⟩
  by_cases h2 : s.data.toList = [60]
  · have e := of_list h2
    subst e
    clear h0 h1 h2
    go_enter Tryz.func162, Tryz.ntmps162
    go_wp2_with fail
    go_ret
    exact ⟨rfl, rfl⟩
  by_cases h3 : s.data.toList = [60, 61]
  · have e := of_list h3
    subst e
    clear h0 h1 h2 h3
    go_enter Tryz.func162, Tryz.ntmps162
    go_wp2_with fail
    go_ret
    exact ⟨rfl, rfl⟩
  by_cases h4 : s.data.toList = [62]
  · have e := of_list h4
    subst e
    clear h0 h1 h2 h3 h4
    go_enter Tryz.func162, Tryz.ntmps162
    go_wp2_with fail
    go_ret
    exact ⟨rfl, rfl⟩
  by_cases h5 : s.data.toList = [62, 61]
  · have e := of_list h5
    subst e
    clear h0 h1 h2 h3 h4 h5
    go_enter Tryz.func162, Tryz.ntmps162
    go_wp2_with fail
    go_ret
    exact ⟨rfl, rfl⟩
  by_cases h6 : s.data.toList = [61, 61]
  · have e := of_list h6
    subst e
    clear h0 h1 h2 h3 h4 h5 h6
    go_enter Tryz.func162, Tryz.ntmps162
    go_wp2_with fail
    go_ret
    exact ⟨rfl, rfl⟩
  by_cases h7 : s.data.toList = [33, 61]
  · have e := of_list h7
    subst e
    clear h0 h1 h2 h3 h4 h5 h6 h7
    go_enter Tryz.func162, Tryz.ntmps162
    go_wp2_with fail
    go_ret
    exact ⟨rfl, rfl⟩
  by_cases h8 : s.data.toList = [43]
  · have e := of_list h8
    subst e
    clear h0 h1 h2 h3 h4 h5 h6 h7 h8
    go_enter Tryz.func162, Tryz.ntmps162
    go_wp2_with fail
    go_ret
    exact ⟨rfl, rfl⟩
  by_cases h9 : s.data.toList = [45]
  · have e := of_list h9
    subst e
    clear h0 h1 h2 h3 h4 h5 h6 h7 h8 h9
    go_enter Tryz.func162, Tryz.ntmps162
    go_wp2_with fail
    go_ret
    exact ⟨rfl, rfl⟩
  by_cases h10 : s.data.toList = [42]
  · have e := of_list h10
    subst e
    clear h0 h1 h2 h3 h4 h5 h6 h7 h8 h9 h10
    go_enter Tryz.func162, Tryz.ntmps162
    go_wp2_with fail
    go_ret
    exact ⟨rfl, rfl⟩
  by_cases h11 : s.data.toList = [47]
  · have e := of_list h11
    subst e
    clear h0 h1 h2 h3 h4 h5 h6 h7 h8 h9 h10 h11
    go_enter Tryz.func162, Tryz.ntmps162
    go_wp2_with fail
    go_ret
    exact ⟨rfl, rfl⟩
  by_cases h12 : s.data.toList = [37]
  · have e := of_list h12
    subst e
    clear h0 h1 h2 h3 h4 h5 h6 h7 h8 h9 h10 h11 h12
    go_enter Tryz.func162, Tryz.ntmps162
    go_wp2_with fail
    go_ret
    exact ⟨rfl, rfl⟩
  have hl : lv s.data.toList = 0 := by unfold lv; simp [h0, h1, h2, h3, h4, h5, h6, h7, h8, h9, h10, h11, h12]
  have e0 : (s.toList == [124, 124]) = false := by rw [beq_eq_false_iff_ne, ByteArray.toList_eq]; exact h0
  have e1 : (s.toList == [38, 38]) = false := by rw [beq_eq_false_iff_ne, ByteArray.toList_eq]; exact h1
  have e2 : (s.toList == [60]) = false := by rw [beq_eq_false_iff_ne, ByteArray.toList_eq]; exact h2
  have e3 : (s.toList == [60, 61]) = false := by rw [beq_eq_false_iff_ne, ByteArray.toList_eq]; exact h3
  have e4 : (s.toList == [62]) = false := by rw [beq_eq_false_iff_ne, ByteArray.toList_eq]; exact h4
  have e5 : (s.toList == [62, 61]) = false := by rw [beq_eq_false_iff_ne, ByteArray.toList_eq]; exact h5
  have e6 : (s.toList == [61, 61]) = false := by rw [beq_eq_false_iff_ne, ByteArray.toList_eq]; exact h6
  have e7 : (s.toList == [33, 61]) = false := by rw [beq_eq_false_iff_ne, ByteArray.toList_eq]; exact h7
  have e8 : (s.toList == [43]) = false := by rw [beq_eq_false_iff_ne, ByteArray.toList_eq]; exact h8
  have e9 : (s.toList == [45]) = false := by rw [beq_eq_false_iff_ne, ByteArray.toList_eq]; exact h9
  have e10 : (s.toList == [42]) = false := by rw [beq_eq_false_iff_ne, ByteArray.toList_eq]; exact h10
  have e11 : (s.toList == [47]) = false := by rw [beq_eq_false_iff_ne, ByteArray.toList_eq]; exact h11
  have e12 : (s.toList == [37]) = false := by rw [beq_eq_false_iff_ne, ByteArray.toList_eq]; exact h12
  have HL := Lib.hid hl
  clear hl h0 h1 h2 h3 h4 h5 h6 h7 h8 h9 h10 h11 h12
  go_enter Tryz.func162, Tryz.ntmps162
  go_wp2_with fail
  go_ret
  exact ⟨by rw [HL.out]; rfl, rfl⟩
end Go.Proofs.YtmngofgminlloaaGreatDoor

namespace Go.Proofs.YtmngofgminlloaaGreatDoor
open Go.RowKit Tw

theorem isName_pb (s : ByteArray) (t : Bool) (ht : nameB s = t) (hs : s.size ≤ maxLen) (w : World) : Calls Tryz.prog 49 #[.string s] w fun e w' => e = .returned (.bool t) ∧ w = w' := by
  have h := isName_any s w hs
  rw [show isName s.data.toList = t from ht] at h
  exact h
theorem level_pm (s : ByteArray) (m : Nat) (hm : lv s.data.toList = m) (w : World) : Calls Tryz.prog 162 #[.string s] w fun e w' => e = .returned (.int .i64 m) ∧ w = w' := by
  subst hm; exact level_p s w
def PExF (left : Nat) : Prop :=
  ∀ (li : Int), li = left → ∀ (x : Ex) (A : Option Addr) (c : Nat) (F : Nat → Prop) (w : World), ArgsIn w F (.slice A x.args.length c) x.args → ExZ x →
    Calls Tryz.prog 106 #[.agg #[.int .i64 x.kind, .int .i64 x.n, .string x.text, .slice A x.args.length c, .int .i64 x.pos], .int .i64 li] w fun e w' => e = .returned (.int .i64 (exF x left)) ∧ Below w.heap.size w w'

set_option maxRecDepth 100000 in
set_option maxHeartbeats 8000000 in
theorem pexF_step (left : Nat) (h40 : left ≤ 40) (ih : 1 ≤ left → PExF (left - 1)) : PExF left := by
  intro li hli x A c F w hA hZ
  subst hli
  cases x with | mk k n t xs p =>
  simp only [Ex.kind, Ex.n, Ex.text, Ex.args, Ex.pos] at hA ⊢
  by_cases hl0 : left = 0
  · subst hl0
    have e : exF (.mk k n t xs p) 0 = 2 := by rw [exF]; rfl
    rw [e]; clear hA hZ ih e
    go_enter Tryz.func106, Tryz.ntmps106
    go_wp2_with fail
    go_ret
    exact ⟨rfl, (Below.refl _ _).alloc (Nat.le_refl _) _⟩
  have h1 : 1 ≤ left := by omega
  have hl1 : (1 : Int) ≤ (left : Int) := by omega
  have hzt : t.size ≤ maxLen := hZ.args.1
  have hzl : xs.length ≤ 281474976710656 := hZ.args.2.1
  obtain ⟨bn, hbn⟩ : ∃ b, nameB t = b := ⟨_, rfl⟩
  obtain ⟨m, hm2⟩ : ∃ m, lv t.data.toList = m := ⟨_, rfl⟩
  have HN := Lib.hid hbn; have HM := Lib.hid hm2
  have HA := Lib.hid hA; have HZ := Lib.hid hZ; have IH := Lib.hid (ih h1); have HZT := Lib.hid hzt
  clear hA hZ ih hzt hl0 hbn hm2
  go_enter Tryz.func106, Tryz.ntmps106
  go_upto_block 0 with (fail)
  have HB0 := Lib.hid ((Below.refl w.heap.size w).alloc (Nat.le_refl _) (.cells #[.int .i64 k, .int .i64 n, .string t, .slice A xs.length c, .int .i64 p] 186))
  have HQ := Lib.hid (heap_alloc_new w (.cells #[.int .i64 k, .int .i64 n, .string t, .slice A xs.length c, .int .i64 p] 186))
  generalize w.alloc _ = wa at HB0 HQ ⊢
  go_cut [6] (fun u W => u = .bool (okEx k n t xs.length) ∧ W = wa)
  case first =>
    obtain ⟨⟨c0, c1, c2, c3, c4⟩, -⟩ := facts5 HQ.out
    by_cases ho : k < 1 ∨ 8 < k
    · have HO := Lib.hid (oko (n := n) (t := t) (L := xs.length) ho)
      rcases ho with ho | ho
      all_goals
        go_wp2_with fail
        all_goals try (exfalso; omega)
        all_goals
          go_meet
          case rel => exact ⟨by rw [HO.out], rfl⟩
    obtain rfl | rfl | rfl | rfl | rfl | rfl | rfl | rfl : k = 1 ∨ k = 2 ∨ k = 3 ∨ k = 4 ∨ k = 5 ∨ k = 6 ∨ k = 7 ∨ k = 8 := by omega
    · clear ho
      go_wp2_with fail
      all_goals
        go_meet
        case rel => exact ⟨congrArg Value.bool (by first | rfl | (rw [Bool.eq_iff_iff]; simp [ok1]; all_goals omega)), rfl⟩
    · clear ho
      cases hz0 : (n == 0) with
      | true =>
        go_wp2_with fail
        all_goals
          go_meet
          case rel => exact ⟨congrArg Value.bool (by first | rfl | (rw [Bool.eq_iff_iff]; simp [ok2]; have g0 := beq_iff_eq.1 hz0; all_goals omega)), rfl⟩
      | false =>
        cases hz1 : (n == 1) with
        | true =>
          go_wp2_with fail
          all_goals
            go_meet
            case rel => exact ⟨congrArg Value.bool (by first | rfl | (rw [Bool.eq_iff_iff]; simp [ok2]; have g0 := beq_iff_eq.1 hz1; all_goals omega)), rfl⟩
        | false =>
          go_wp2_with fail
          all_goals
            go_meet
            case rel => exact ⟨congrArg Value.bool (by first | rfl | (rw [Bool.eq_iff_iff]; simp [ok2]; have g0 := beq_eq_false_iff_ne.1 hz0; have g1 := beq_eq_false_iff_ne.1 hz1; all_goals omega)), rfl⟩
    · clear ho
      cases bn with
      | true =>
        go_wp2_with fail
        refine (isName_pb t _ HN.out HZT.out _).mono ?_
        rintro e w7 ⟨rfl, rfl⟩
        go_wp2_with fail
        all_goals
          go_meet
          case rel => exact ⟨congrArg Value.bool (by first | rfl | (rw [Bool.eq_iff_iff]; simp [ok3, HN.out]; all_goals omega)), rfl⟩
      | false =>
        go_wp2_with fail
        refine (isName_pb t _ HN.out HZT.out _).mono ?_
        rintro e w7 ⟨rfl, rfl⟩
        go_wp2_with fail
        all_goals
          go_meet
          case rel => exact ⟨congrArg Value.bool (by first | rfl | (rw [Bool.eq_iff_iff]; simp [ok3, HN.out]; all_goals omega)), rfl⟩
    · clear ho
      go_wp2_with fail
      all_goals
        go_meet
        case rel => exact ⟨congrArg Value.bool (by first | rfl | (rw [Bool.eq_iff_iff]; simp [ok4]; all_goals omega)), rfl⟩
    · clear ho
      go_wp2_with fail
      all_goals
        go_meet
        case rel => exact ⟨congrArg Value.bool (by first | rfl | (rw [Bool.eq_iff_iff]; simp [ok5]; all_goals omega)), rfl⟩
    · clear ho
      cases hz2 : ((xs.length : Int) == 2) with
      | true =>
        go_wp2_with fail
        refine (level_pm t m HM.out _).mono ?_
        rintro e w7 ⟨rfl, rfl⟩
        go_wp2_with fail
        all_goals
          go_meet
          case rel => exact ⟨congrArg Value.bool (by first | rfl | (rw [Bool.eq_iff_iff]; simp [ok6, HM.out]; have g0 := beq_iff_eq.1 hz2; omega)), rfl⟩
      | false =>
        go_wp2_with fail
        all_goals
          go_meet
          case rel => exact ⟨congrArg Value.bool (by first | rfl | (rw [Bool.eq_iff_iff]; simp [ok6, HM.out]; have g0 := beq_eq_false_iff_ne.1 hz2; omega)), rfl⟩
    · clear ho
      cases bn with
      | true =>
        go_wp2_with fail
        refine (isName_pb t _ HN.out HZT.out _).mono ?_
        rintro e w7 ⟨rfl, rfl⟩
        go_wp2_with fail
        all_goals
          go_meet
          case rel => exact ⟨congrArg Value.bool (by first | rfl | (rw [Bool.eq_iff_iff]; simp [ok7, HN.out]; all_goals omega)), rfl⟩
      | false =>
        go_wp2_with fail
        refine (isName_pb t _ HN.out HZT.out _).mono ?_
        rintro e w7 ⟨rfl, rfl⟩
        go_wp2_with fail
        all_goals
          go_meet
          case rel => exact ⟨congrArg Value.bool (by first | rfl | (rw [Bool.eq_iff_iff]; simp [ok7, HN.out]; all_goals omega)), rfl⟩
    · clear ho
      go_wp2_with fail
      all_goals
        go_meet
        case rel => exact ⟨congrArg Value.bool (by first | rfl | (rw [Bool.eq_iff_iff]; simp [ok8]; all_goals omega)), rfl⟩
  case rest =>
    obtain ⟨rfl, hw⟩ := hcut
    subst hw
    clear HN HM HZT
    obtain ⟨ok, hok⟩ : ∃ b, okEx k n t xs.length = b := ⟨_, rfl⟩
    have HO := Lib.hid hok
    rw [hok]
    clear hok
    obtain ⟨⟨c0, c1, c2, c3, c4⟩, -⟩ := facts5 HQ.out
    cases ok with
    | false =>
      go_wp2_with fail
      go_ret
      exact ⟨by rw [exF, headF_3 h1 HO.out]; rfl, HB0.out⟩
    | true =>
      by_cases hb : 6 < xs.length ∨ (k = 8 ∧ 15 < n)
      · have HH := Lib.hid (headF_2 h1 HO.out hb)
        by_cases h6 : 6 < xs.length
        · have h6' : (6 : Int) < (xs.length : Int) := by omega
          clear hb h6
          go_wp2_with fail
          go_ret
          exact ⟨by rw [exF, HH.out]; rfl, HB0.out⟩
        · obtain ⟨rfl, h15⟩ := hb.resolve_left h6
          have h6' : (xs.length : Int) ≤ 6 := by omega
          clear hb h6
          go_wp2_with fail
          go_ret
          exact ⟨by rw [exF, HH.out]; rfl, HB0.out⟩
      · have HH := Lib.hid (headF_0 h1 HO.out hb)
        have h6' : (xs.length : Int) ≤ 6 := by omega
        have HB8 : Hid (¬ (k = 8 ∧ 15 < n)) := Lib.hid (fun e => hb (.inr e))
        clear hb
        go_upto_region 23 with (fail)
        go_cut [92] (fun u W => u = .bool false ∧ W = wc)
        case first =>
          by_cases h8 : k = 8
          · subst h8
            have h15 : n ≤ 15 := by have := HB8.out; omega
            go_wp2_with fail
            go_meet
            case rel => exact ⟨congrArg Value.bool (by rw [Bool.or_eq_false_iff]; constructor <;> exact decide_eq_false (by omega)), rfl⟩
          · have e8 : (k == 8) = false := beq_eq_false_iff_ne.2 h8
            clear h8
            go_wp2_with fail
            go_meet
            case rel => exact ⟨congrArg Value.bool (decide_eq_false (by omega)), rfl⟩
        case rest =>
          obtain ⟨rfl, hw⟩ := hcut
          subst hw
          obtain ⟨⟨c0', c1', c2', c3', c4'⟩, -⟩ := facts5 HQ.out
          clear c0 c1 c2 c3 c4
          go_wp2_with fail
          clear c0' c1' c2' c3' c4'
          go_loopw [96] (fun i wr => ∃ j : Nat, j ≤ xs.length ∧ i = .int .i64 j ∧ Hid (exsF (xs.take j) (left - 1) = 0) ∧ Hid (Below w.heap.size w wr)) (fun i _ => xs.length - (intOf i).toNat)
          case atStart => exact ⟨0, Nat.zero_le _, rfl, Lib.hid (by rw [List.take_zero, exsF]), HB0⟩
          case round =>
            obtain ⟨j, hj, rfl, HE, HB⟩ := hrel
            by_cases hlt : j < xs.length
            · obtain ⟨y, hy⟩ : ∃ y, xs[j]? = some y := ⟨_, List.getElem?_eq_getElem hlt⟩
              obtain ⟨g, off, A', c', rfl, hFg, hg, hka, q0, q1, q2, q3, q4⟩ := HA.out.at j y hy
              have b0 := (HB.out.cell (p := ⟨g, off + j * 5, none⟩) hg).trans q0
              have b1 := (HB.out.cell (p := ⟨g, off + j * 5 + 1, none⟩) hg).trans q1
              have b2 := (HB.out.cell (p := ⟨g, off + j * 5 + 2, none⟩) hg).trans q2
              have b3 := (HB.out.cell (p := ⟨g, off + j * 5 + 3, none⟩) hg).trans q3
              have b4 := (HB.out.cell (p := ⟨g, off + j * 5 + 4, none⟩) hg).trans q4
              have HY := Lib.hid hy; have HKA := Lib.hid hka
              have HZY := Lib.hid (HZ.out.args.2.2 y (List.mem_of_getElem? hy))
              clear hy hka q0 q1 q2 q3 q4 hFg
              have k0 : (0 : Int) ≤ (j : Int) := by omega
              have k1 : (j : Int) < (xs.length : Int) := by omega
              go_wp2_with fail
              clear b0 b1 b2 b3 b4
              have HBa := Lib.hid (HB.out.alloc HB.out.size (.cells #[.int .i64 y.kind, .int .i64 y.n, .string y.text, .slice A' y.args.length c', .int .i64 y.pos] 186))
              refine (IH.out _ (by omega) y A' c' F _ (HKA.out.keep (F' := F) (fun q h1 h2 => ⟨h1, Nat.lt_of_lt_of_le h2 HBa.out.size, HBa.out.block q h2⟩)) HZY.out).mono ?_
              rintro e w8 ⟨rfl, hb8⟩
              have HB8 := Lib.hid (HBa.out.trans (hb8.mono HBa.out.size))
              clear hb8 HBa
              obtain ⟨z, hz⟩ : ∃ z, exF y (left - 1) = z := ⟨_, rfl⟩
              rw [hz]
              have HZ2 := Lib.hid hz
              clear hz
              by_cases hz0 : z = 0
              · subst hz0
                go_wp2_with fail
                go_roundw
                case rel => exact ⟨j + 1, by omega, by go_num, Lib.hid (exsF_snoc HY.out HE.out HZ2.out), HB8⟩
                case measure => simp [intOf]; omega
              · have e0 : (z != 0) = true := by simpa using hz0
                have HZ0 := Lib.hid hz0; clear hz0
                go_wp2_with fail
                go_ret
                exact ⟨by rw [exF, HH.out]; exact congrArg (fun q => Ending.returned (Value.int .i64 q)) (by rw [exsF_hit HY.out HE.out (by rw [HZ2.out]; exact HZ0.out), HZ2.out]), HB8.out⟩
            · have hje : j = xs.length := by omega
              have HF : Hid (exsF xs (left - 1) = 0) := Lib.hid (by have := HE.out; rw [hje, List.take_length] at this; exact this)
              clear hje
              go_wp2_with fail
              go_ret
              exact ⟨by rw [exF, HH.out]; exact congrArg (fun q => Ending.returned (Value.int .i64 q)) HF.out.symm, HB.out⟩
theorem pexF_r : ∀ left, left ≤ 40 → PExF left := by
  intro left
  induction left with
  | zero => exact fun h => pexF_step 0 h (fun e => by omega)
  | succ left ih => exact fun h => pexF_step (left + 1) h (fun _ => ih (by omega))
end Go.Proofs.YtmngofgminlloaaGreatDoor

namespace Go.Proofs.YtmngofgminlloaaGreatDoor
open Go.RowKit Tw

def PSmsF (left : Nat) : Prop :=
  ∀ (li : Int), li = left → ∀ (l : List Sm) (A : Option Addr) (c : Nat) (F : Nat → Prop) (w : World), StmtsIn w F (.slice A l.length c) l → (∀ s ∈ l, SmZ s) → l.length ≤ 281474976710656 →
    Calls Tryz.prog 50 #[.slice A l.length c, .int .i64 li] w fun e w' => e = .returned (.int .i64 (smsF l left)) ∧ Below w.heap.size w w'

set_option maxRecDepth 100000 in
set_option maxHeartbeats 16000000 in
theorem psmsF_step (left : Nat) (h40 : left ≤ 40) (ih : 1 ≤ left → PSmsF (left - 1)) : PSmsF left := by
  intro li hli l A c F w hA hZ hlen
  subst hli
  have HA := Lib.hid hA; have HZ := Lib.hid hZ; have IH := Lib.hid ih
  clear hA hZ ih
  go_enter Tryz.func50, Tryz.ntmps50
  go_wp2_with fail
  go_loopw [12] (fun i wr => ∃ j : Nat, j ≤ l.length ∧ i = .int .i64 j ∧ Hid (smsF (l.take j) left = 0) ∧ Hid (Below w.heap.size w wr)) (fun i _ => l.length - (intOf i).toNat)
  case atStart => exact ⟨0, Nat.zero_le _, rfl, Lib.hid (by rw [List.take_zero, smsF]), Lib.hid (Below.refl _ _)⟩
  case round =>
    obtain ⟨j, hj, rfl, HE, HB⟩ := hrel
    by_cases hlt : j < l.length
    · obtain ⟨s, hs⟩ : ∃ s, l[j]? = some s := ⟨_, List.getElem?_eq_getElem hlt⟩
      obtain ⟨g, off, Aa, ca, Ab, cb, Ae, ce, rfl, -, hg, hka, hkb, hke, hc⟩ := HA.out.at j s hs
      have b0 := (HB.out.cell (p := ⟨g, off + j * 10, none⟩) hg).trans (hc 0 _ rfl)
      have b1 := (HB.out.cell (p := ⟨g, off + j * 10 + 1, none⟩) hg).trans (hc 1 _ rfl)
      have b2 := (HB.out.cell (p := ⟨g, off + j * 10 + 2, none⟩) hg).trans (hc 2 _ rfl)
      have b3 := (HB.out.cell (p := ⟨g, off + j * 10 + 3, none⟩) hg).trans (hc 3 _ rfl)
      have b4 := (HB.out.cell (p := ⟨g, off + j * 10 + 4, none⟩) hg).trans (hc 4 _ rfl)
      have b5 := (HB.out.cell (p := ⟨g, off + j * 10 + 5, none⟩) hg).trans (hc 5 _ rfl)
      have b6 := (HB.out.cell (p := ⟨g, off + j * 10 + 6, none⟩) hg).trans (hc 6 _ rfl)
      have b7 := (HB.out.cell (p := ⟨g, off + j * 10 + 7, none⟩) hg).trans (hc 7 _ rfl)
      have b8 := (HB.out.cell (p := ⟨g, off + j * 10 + 8, none⟩) hg).trans (hc 8 _ rfl)
      have b9 := (HB.out.cell (p := ⟨g, off + j * 10 + 9, none⟩) hg).trans (hc 9 _ rfl)
      have hin : s ∈ l := List.mem_of_getElem? hs
      have HS := Lib.hid hs; have HKA := Lib.hid hka; have HKB := Lib.hid hkb; have HKE := Lib.hid hke; have HZS := Lib.hid (HZ.out s hin)
      clear hs hka hkb hke hc hin
      have k0 : (0 : Int) ≤ (j : Int) := by omega
      have k1 : (j : Int) < (l.length : Int) := by omega
      by_cases hl0 : left = 0
      · subst hl0
        go_wp2_with fail
        go_ret
        have e : smF s 0 = 2 := by cases s with | mk => rw [smF]; rfl
        exact ⟨by rw [smsF_hit HS.out HE.out (by rw [e]; decide), e]; rfl, HB.out.alloc HB.out.size _⟩
      · have hl1 : 1 ≤ left := by omega
        have hl2 : (1 : Int) ≤ (left : Int) := by omega
        go_upto_region 6 with (fail)
        clear b0 b1 b2 b3 b4 b5 b6 b7 b8 b9
        have HBa := Lib.hid (HB.out.alloc HB.out.size (.cells #[.int .i64 s.kind, .string s.name, .int .i64 s.a.kind, .int .i64 s.a.n, .string s.a.text, .slice Aa s.a.args.length ca, .int .i64 s.a.pos, .slice Ab s.body.length cb, .slice Ae s.els.length ce, .int .i64 s.pos] 188))
        have HQ := Lib.hid (heap_alloc_new wr (.cells #[.int .i64 s.kind, .string s.name, .int .i64 s.a.kind, .int .i64 s.a.n, .string s.a.text, .slice Aa s.a.args.length ca, .int .i64 s.a.pos, .slice Ab s.body.length cb, .slice Ae s.els.length ce, .int .i64 s.pos] 188))
        generalize wr.alloc _ = wa at HBa HQ ⊢
        have hb6 := lt_of_some HQ.out
        generalize wr.heap.size = b6 at HQ hb6 ⊢
        obtain ⟨bn, hbn⟩ : ∃ b, nameB s.name = b := ⟨_, rfl⟩
        have HN := Lib.hid hbn
        have HZN := Lib.hid HZS.out.parts.1
        obtain ⟨kd, hkd⟩ : ∃ k, s.kind = k := ⟨_, rfl⟩
        rw [hkd] at HQ
        have HKD := Lib.hid hkd
        clear hbn hkd
        obtain ⟨bad, hbd⟩ : ∃ b, (decide (kd < 1) || (decide (7 < kd) || (decide (kd ≤ 2) && !bn))) = b := ⟨_, rfl⟩
        have HBD := Lib.hid hbd; clear hbd
        go_cut [41] (fun u W => u = .bool bad ∧ W = wa)
        case first =>
          obtain ⟨⟨c0, c1, -⟩, -⟩ := facts10 HQ.out
          by_cases q1 : kd < 1
          · have HV : Hid (bad = true) := Lib.hid (by rw [← HBD.out]; simp [q1])
            go_wp2_with fail
            go_meet
            case rel => exact ⟨by rw [HV.out], rfl⟩
          by_cases q7 : 7 < kd
          · have HV : Hid (bad = true) := Lib.hid (by rw [← HBD.out]; simp [q7])
            have q1' : 1 ≤ kd := by omega
            clear q1
            go_wp2_with fail
            go_meet
            case rel => exact ⟨by rw [HV.out], rfl⟩
          have q1' : 1 ≤ kd := by omega
          have q7' : kd ≤ 7 := by omega
          by_cases q2 : kd ≤ 2
          · have HV : Hid (bad = !bn) := Lib.hid (by rw [← HBD.out]; simp [q1, q7, q2])
            clear q1 q7
            cases e1 : (kd == 1) with
            | true =>
              go_wp2_with fail
              refine (isName_pb s.name bn HN.out HZN.out _).mono ?_
              rintro e w7 ⟨rfl, rfl⟩
              go_wp2_with fail
              all_goals
                go_meet
                case rel => exact ⟨congrArg Value.bool (by rw [HV.out]; simp [show ¬ kd < 1 by omega, show ¬ 7 < kd by omega]), rfl⟩
            | false =>
              have e2 : (kd == 2) = true := beq_iff_eq.2 (by have := beq_eq_false_iff_ne.1 e1; omega)
              go_wp2_with fail
              refine (isName_pb s.name bn HN.out HZN.out _).mono ?_
              rintro e w7 ⟨rfl, rfl⟩
              go_wp2_with fail
              all_goals
                go_meet
                case rel => exact ⟨congrArg Value.bool (by rw [HV.out]; simp [show ¬ kd < 1 by omega, show ¬ 7 < kd by omega]), rfl⟩
          · have HV : Hid (bad = false) := Lib.hid (by rw [← HBD.out]; simp [q1, q7, q2])
            have e1 : (kd == 1) = false := beq_eq_false_iff_ne.2 (by omega)
            have e2 : (kd == 2) = false := beq_eq_false_iff_ne.2 (by omega)
            clear q1 q7 q2
            go_wp2_with fail
            all_goals
              go_meet
              case rel => exact ⟨congrArg Value.bool (by rw [HV.out]; simp [show ¬ kd < 1 by omega, show ¬ 7 < kd by omega]), rfl⟩
        case rest =>
          obtain ⟨rfl, hw⟩ := hcut
          subst hw
          have HP : Hid (bad = true ↔ (s.kind < 1 ∨ 7 < s.kind ∨ (s.kind ≤ 2 ∧ nameB s.name = false))) := Lib.hid (by
            rw [← HBD.out, HKD.out, HN.out]; cases bn <;> simp)
          cases bad with
          | true =>
            have H3 := Lib.hid (smF_3 (s := s) (left := left) hl1 (HP.out.1 rfl))
            go_wp2_with fail
            go_ret
            exact ⟨by rw [smsF_hit HS.out HE.out (by rw [H3.out]; decide), H3.out]; rfl, HBa.out⟩
          | false =>
            have HOK : Hid (¬ (s.kind < 1 ∨ 7 < s.kind ∨ (s.kind ≤ 2 ∧ nameB s.name = false))) := Lib.hid (fun e => absurd (HP.out.2 e) (by decide))
            clear HP HBD HN HZN
            obtain ⟨⟨c0, c1, c2, c3, c4', c5, c6, c7, c8, c9⟩, -⟩ := facts10 HQ.out
            go_wp2_with fail
            clear c0 c1 c2 c3 c4' c5 c6 c7 c8 c9
            refine (pexF_r (left - 1) (by omega) _ (by omega) s.a Aa ca F _ (HKA.out.keep (F' := F) (fun q h1 h2 => ⟨h1, Nat.lt_of_lt_of_le h2 HBa.out.size, HBa.out.block q h2⟩)) HZS.out.parts.2.1).mono ?_
            rintro e w8 ⟨rfl, hb8⟩
            replace HQ := Lib.hid ((hb8.block b6 hb6).trans HQ.out)
            have HB8 := Lib.hid (HBa.out.trans (hb8.mono HBa.out.size))
            clear hb8 HBa
            obtain ⟨z, hz⟩ : ∃ z, exF s.a (left - 1) = z := ⟨_, rfl⟩
            rw [hz]
            have HZ2 := Lib.hid hz
            clear hz
            by_cases hz0 : z = 0
            · subst hz0
              have HR := Lib.hid (smF_b hl1 HOK.out HZ2.out)
              have hb8 := lt_of_some HQ.out
              by_cases hk34 : kd = 3 ∨ kd = 4
              · obtain ⟨zb, hzb⟩ : ∃ z, smsF s.body (left - 1) = z := ⟨_, rfl⟩
                have HZB := Lib.hid hzb; clear hzb
                go_upto_region 11 with (fail)
                go_cut [57] (fun u W => u = .bool true ∧ W = w8)
                case first =>
                  have c0 := (facts10 HQ.out).1.1
                  rcases hk34 with hk | hk
                  all_goals
                    subst hk
                    go_wp2_with fail
                    go_meet
                    case rel => exact ⟨rfl, rfl⟩
                case rest =>
                  obtain ⟨rfl, hw⟩ := hcut
                  subst hw
                  have c7 := (facts10 HQ.out).1.2.2.2.2.2.2.2.1
                  go_wp2_with fail
                  clear c7
                  refine (IH.out hl1 _ (by omega) s.body Ab cb F _ (HKB.out.keep (F' := F) (fun q h1 h2 => ⟨h1, Nat.lt_of_lt_of_le h2 HB8.out.size, HB8.out.block q h2⟩)) HZS.out.parts.2.2.2.2.1 HZS.out.parts.2.2.1).mono ?_
                  rintro e w9 ⟨rfl, hb9⟩
                  replace HQ := Lib.hid ((hb9.block b6 hb8).trans HQ.out)
                  have HB9 := Lib.hid (HB8.out.trans (hb9.mono HB8.out.size))
                  clear hb9 HB8
                  rw [HZB.out]
                  by_cases hzb0 : zb = 0
                  · subst hzb0
                    have HR2 : Hid (smF s left = if s.kind = 3 then smsF s.els (left - 1) else 0) := Lib.hid (by rw [HR.out, if_neg (fun e => e.2 HZB.out)])
                    have hb9 := lt_of_some HQ.out
                    have c0 := (facts10 HQ.out).1.1
                    by_cases hk3 : kd = 3
                    · have HR3 : Hid (smF s left = smsF s.els (left - 1)) := Lib.hid (by rw [HR2.out, if_pos (by rw [HKD.out, hk3])])
                      subst hk3
                      have c8 := (facts10 HQ.out).1.2.2.2.2.2.2.2.2.1
                      go_wp2_with fail
                      clear c0 c8
                      refine (IH.out hl1 _ (by omega) s.els Ae ce F _ (HKE.out.keep (F' := F) (fun q h1 h2 => ⟨h1, Nat.lt_of_lt_of_le h2 HB9.out.size, HB9.out.block q h2⟩)) HZS.out.parts.2.2.2.2.2 HZS.out.parts.2.2.2.1).mono ?_
                      rintro e w10 ⟨rfl, hb10⟩
                      have HB10 := Lib.hid (HB9.out.trans (hb10.mono HB9.out.size))
                      clear hb10
                      obtain ⟨ze, hze⟩ : ∃ z, smsF s.els (left - 1) = z := ⟨_, rfl⟩
                      rw [hze]
                      have HZE := Lib.hid (HR3.out.trans hze)
                      clear hze
                      by_cases hze0 : ze = 0
                      · subst hze0
                        go_wp2_with fail
                        go_roundw
                        case rel => exact ⟨j + 1, by omega, by go_num, Lib.hid (smsF_snoc HS.out HE.out HZE.out), HB10⟩
                        case measure => simp [intOf]; omega
                      · have e0 : (ze != 0) = true := by simpa using hze0
                        have HZ0 := Lib.hid hze0; clear hze0
                        go_wp2_with fail
                        go_ret
                        exact ⟨by rw [smsF_hit HS.out HE.out (by rw [HZE.out]; exact HZ0.out), HZE.out]; rfl, HB10.out⟩
                    · have HR3 : Hid (smF s left = 0) := Lib.hid (by rw [HR2.out, if_neg (by rw [HKD.out]; exact hk3)])
                      have e3 : (kd == 3) = false := beq_eq_false_iff_ne.2 hk3
                      clear hk3
                      go_wp2_with fail
                      go_roundw
                      case rel => exact ⟨j + 1, by omega, by go_num, Lib.hid (smsF_snoc HS.out HE.out HR3.out), HB9⟩
                      case measure => simp [intOf]; omega
                  · have HR2 : Hid (smF s left = zb) := Lib.hid (by rw [HR.out, if_pos ⟨by rw [HKD.out]; exact hk34, by rw [HZB.out]; exact hzb0⟩, HZB.out])
                    have e0 : (zb != 0) = true := by simpa using hzb0
                    have HZ0 := Lib.hid hzb0; clear hzb0 hk34
                    go_wp2_with fail
                    go_ret
                    exact ⟨by rw [smsF_hit HS.out HE.out (by rw [HR2.out]; exact HZ0.out), HR2.out]; rfl, HB9.out⟩
              · have HR2 : Hid (smF s left = 0) := Lib.hid (by rw [HR.out, if_neg (fun e => hk34 (by rw [← HKD.out]; exact e.1)), if_neg (fun e => hk34 (.inl (by rw [← HKD.out]; exact e)))])
                have e3 : (kd == 3) = false := beq_eq_false_iff_ne.2 (by omega)
                have e4 : (kd == 4) = false := beq_eq_false_iff_ne.2 (by omega)
                clear hk34
                have c0 := (facts10 HQ.out).1.1
                go_wp2_with fail
                go_roundw
                case rel => exact ⟨j + 1, by omega, by go_num, Lib.hid (smsF_snoc HS.out HE.out HR2.out), HB8⟩
                case measure => simp [intOf]; omega
            · have HR2 := Lib.hid (smF_a (s := s) hl1 HOK.out hz0 HZ2.out)
              have e0 : (z != 0) = true := by simpa using hz0
              have HZ0 := Lib.hid hz0; clear hz0
              go_wp2_with fail
              go_ret
              exact ⟨by rw [smsF_hit HS.out HE.out (by rw [HR2.out]; exact HZ0.out), HR2.out]; rfl, HB8.out⟩
    · have hje : j = l.length := by omega
      have HF : Hid (smsF l left = 0) := Lib.hid (by have := HE.out; rw [hje, List.take_length] at this; exact this)
      clear hje
      go_wp2_with fail
      go_ret
      exact ⟨by rw [HF.out]; rfl, HB.out⟩
theorem psmsF_r : ∀ left, left ≤ 40 → PSmsF left := by
  intro left
  induction left with
  | zero => exact fun h => psmsF_step 0 h (fun e => by omega)
  | succ left ih => exact fun h => psmsF_step (left + 1) h (fun _ => ih (by omega))
end Go.Proofs.YtmngofgminlloaaGreatDoor
