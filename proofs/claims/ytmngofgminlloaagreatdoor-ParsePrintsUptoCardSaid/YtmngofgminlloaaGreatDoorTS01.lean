/-
  Made scripts as plain data: their texts, what the maker may make of its numbers, bounds. No program in sight.
  The reference's maker of scripts: its numbers (Below, Source.N); the frame of its state.
  The reference's maker of scripts: expressions of type int.
-/
import Derived.Test.YtmngofgminlloaaGreatDoorTT05
import Derived.Lib.ItoaLen
import Derived.Test.YtmngofgminlloaaGreatDoorTT11
import Derived.Test.YtmngofgminlloaaGreatDoorTT08
import Derived.Test.YtmngofgminlloaaGreatDoorShelf
import Derived.Deep.DeepCutAuto
import Derived.Outline
import Derived.Deep.RegionHeld3
set_option linter.all false
namespace Go.Proofs.YtmngofgminlloaaGreatDoor
open Go.RowKit Tw

/-- Expressions of made scripts. -/
inductive GE where
  | var (s : ByteArray) | lit (n : Nat) | neg (x : GE) | call (f : Nat) (x y : GE) | host (k : Nat) (x : GE) | bin (o : Nat) (x y : GE)
  | not (x : GE) | and (x y : GE) | or (x y : GE) | tf (k : Nat) | cmp (o : Nat) (x y : GE)
/-- Statements of made scripts. -/
inductive GL where
  | nil | set (s : ByteArray) (x : GE) (r : GL) | yield (x : GE) (r : GL) | ite (c : GE) (a b r : GL) | loop (i n : Nat) (l r : GL) | run (x : GE) (r : GL) | ret (x : GE) (r : GL) | bind (i : Nat) (x : GE) (r : GL)

def numT (n : Nat) : ByteArray := ⟨(Lib.itoa (n : Int)).toArray⟩
def binT (o : Nat) : ByteArray := match o with | 0 => ⟨#[43]⟩ | 1 => ⟨#[45]⟩ | 2 => ⟨#[42]⟩ | 3 => ⟨#[47]⟩ | _ => ⟨#[37]⟩
def cmpT (o : Nat) : ByteArray := match o with | 0 => ⟨#[32, 60, 32]⟩ | 1 => ⟨#[32, 60, 61, 32]⟩ | 2 => ⟨#[32, 62, 32]⟩ | 3 => ⟨#[32, 62, 61, 32]⟩ | 4 => ⟨#[32, 61, 61, 32]⟩ | _ => ⟨#[32, 33, 61, 32]⟩
def tfT (k : Nat) : ByteArray := match k with | 0 => ⟨#[116, 114, 117, 101]⟩ | _ => ⟨#[102, 97, 108, 115, 101]⟩
def vT (m : Nat) : ByteArray := ⟨#[118]⟩ ++ numT m
def iT (m : Nat) : ByteArray := ⟨#[105]⟩ ++ numT m
def GE.txt : GE → ByteArray
  | .var s => s
  | .lit n => numT n
  | .neg x => ⟨#[45, 40]⟩ ++ x.txt ++ ⟨#[41]⟩
  | .call f x y => ⟨#[102]⟩ ++ numT f ++ ⟨#[40]⟩ ++ x.txt ++ ⟨#[44, 32]⟩ ++ y.txt ++ ⟨#[41]⟩
  | .host k x => ⟨#[64]⟩ ++ numT k ++ ⟨#[40]⟩ ++ x.txt ++ ⟨#[41]⟩
  | .bin o x y => ⟨#[40]⟩ ++ x.txt ++ ⟨#[32]⟩ ++ binT o ++ ⟨#[32]⟩ ++ y.txt ++ ⟨#[41]⟩
  | .not x => ⟨#[33, 40]⟩ ++ x.txt ++ ⟨#[41]⟩
  | .and x y => ⟨#[40]⟩ ++ x.txt ++ ⟨#[32, 38, 38, 32]⟩ ++ y.txt ++ ⟨#[41]⟩
  | .or x y => ⟨#[40]⟩ ++ x.txt ++ ⟨#[32, 124, 124, 32]⟩ ++ y.txt ++ ⟨#[41]⟩
  | .tf k => tfT k
  | .cmp o x y => x.txt ++ cmpT o ++ y.txt
def GL.txt : GL → ByteArray
  | .nil => ⟨#[]⟩
  | .set s x r => (s ++ ⟨#[32, 61, 32]⟩ ++ x.txt ++ ⟨#[59, 32]⟩) ++ r.txt
  | .yield x r => (⟨#[121, 105, 101, 108, 100, 32]⟩ ++ x.txt ++ ⟨#[59, 32]⟩) ++ r.txt
  | .ite c a b r => (⟨#[105, 102, 32]⟩ ++ c.txt ++ ⟨#[32, 123, 32]⟩ ++ a.txt ++ ⟨#[125, 32, 101, 108, 115, 101, 32, 123, 32]⟩ ++ b.txt ++ ⟨#[125, 32]⟩) ++ r.txt
  | .loop i n l r => (⟨#[108, 101, 116, 32]⟩ ++ iT i ++ ⟨#[32, 61, 32, 48, 59, 32, 119, 104, 105, 108, 101, 32]⟩ ++ iT i ++ ⟨#[32, 60, 32]⟩ ++ numT n ++ ⟨#[32, 123, 32]⟩ ++ l.txt ++ iT i ++ ⟨#[32, 61, 32]⟩ ++ iT i ++ ⟨#[32, 43, 32, 49, 59, 32, 125, 32]⟩) ++ r.txt
  | .run x r => (x.txt ++ ⟨#[59, 32]⟩) ++ r.txt
  | .ret x r => (⟨#[114, 101, 116, 117, 114, 110, 32]⟩ ++ x.txt ++ ⟨#[59, 32]⟩) ++ r.txt
  | .bind i x r => (⟨#[108, 101, 116, 32]⟩ ++ vT i ++ ⟨#[32, 61, 32]⟩ ++ x.txt ++ ⟨#[59, 32]⟩) ++ r.txt
def GL.app : GL → GL → GL
  | .nil, b => b
  | .set s x r, b => .set s x (r.app b)
  | .yield x r, b => .yield x (r.app b)
  | .ite c a d r, b => .ite c a d (r.app b)
  | .loop i n l r, b => .loop i n l (r.app b)
  | .run x r, b => .run x (r.app b)
  | .ret x r, b => .ret x (r.app b)
  | .bind i x r, b => .bind i x (r.app b)
theorem none_app (b : ByteArray) : (⟨#[]⟩ : ByteArray) ++ b = b := by
  apply ByteArray.ext
  simp [ByteArray.data_append]
theorem app_none (b : ByteArray) : b ++ (⟨#[]⟩ : ByteArray) = b := by
  apply ByteArray.ext
  simp [ByteArray.data_append]
theorem GL.txt_app (a b : GL) : (a.app b).txt = a.txt ++ b.txt := by
  induction a with
  | nil => simp only [GL.app, GL.txt, none_app]
  | _ => simp only [GL.app, GL.txt, ByteArray.append_assoc, *]

/-- A number below n is drawn at i: it is one of the source's, or 0 at the end. -/
def Nx (N n i k i' : Nat) : Prop := k < n ∧ ((i < N ∧ i' = i + 1) ∨ (i = N ∧ i' = N ∧ k = 0))
/-- What num may make. -/
inductive GNum (N : Nat) (ns : List ByteArray) (low : Nat) : Nat → Nat → GE → Nat → Prop
  | var {d i i1 i2 k j : Nat} {s : ByteArray} : Nx N 9 i k i1 → Nx N ns.length i1 j i2 → ns[j]? = some s → GNum N ns low d i (.var s) i2
  | lit {d i i1 i2 k n : Nat} : Nx N 9 i k i1 → Nx N 20 i1 n i2 → GNum N ns low d i (.lit n) i2
  | neg {d i i2 : Nat} {x : GE} : i < N → GNum N ns low d (i + 1) x i2 → GNum N ns low (d + 1) i (.neg x) i2
  | call {d i i2 i3 i4 f : Nat} {x y : GE} : i < N → Nx N low (i + 1) f i2 → GNum N ns low d i2 x i3 → GNum N ns low d i3 y i4 → GNum N ns low (d + 1) i (.call f x y) i4
  | host {d i i2 i3 k : Nat} {x : GE} : i < N → Nx N 4 (i + 1) k i2 → GNum N ns low d i2 x i3 → GNum N ns low (d + 1) i (.host k x) i3
  | bin {d i i2 i3 i4 o : Nat} {x y : GE} : i < N → GNum N ns low d (i + 1) x i2 → Nx N 5 i2 o i3 → GNum N ns low d i3 y i4 → GNum N ns low (d + 1) i (.bin o x y) i4
/-- What flag may make. -/
inductive GFlag (N : Nat) (ns : List ByteArray) (low : Nat) : Nat → Nat → GE → Nat → Prop
  | not {d i i1 i2 k : Nat} {x : GE} : Nx N 6 i k i1 → GFlag N ns low d i1 x i2 → GFlag N ns low (d + 1) i (.not x) i2
  | and {d i i2 i3 : Nat} {x y : GE} : i < N → GFlag N ns low d (i + 1) x i2 → GFlag N ns low d i2 y i3 → GFlag N ns low (d + 1) i (.and x y) i3
  | or {d i i2 i3 : Nat} {x y : GE} : i < N → GFlag N ns low d (i + 1) x i2 → GFlag N ns low d i2 y i3 → GFlag N ns low (d + 1) i (.or x y) i3
  | tf {d i i2 k : Nat} : i < N → Nx N 2 (i + 1) k i2 → GFlag N ns low d i (.tf k) i2
  | cmp {d i i1 i2 i3 i4 k o : Nat} {x y : GE} : Nx N 6 i k i1 → GNum N ns low 1 i1 x i2 → Nx N 6 i2 o i3 → GNum N ns low 1 i3 y i4 → GFlag N ns low d i (.cmp o x y) i4

/-- The maker's state: the names that can be seen, how many were made, the place in the source. -/
structure Ms where
  ns : List ByteArray
  m : Nat
  i : Nat
/-- What stmt may make, where its blocks are B's. -/
inductive Stm (N low : Nat) (B : Ms → GL → Ms → Prop) : Ms → GL → Ms → Prop
  | set {ns : List ByteArray} {m i i1 i2 i3 j : Nat} {s : ByteArray} {x : GE} : Nx N 8 i 0 i1 → Nx N ns.length i1 j i2 → ns[j]? = some s → GNum N ns low 2 i2 x i3 → Stm N low B ⟨ns, m, i⟩ (.set s x .nil) ⟨ns, m, i3⟩
  | yield {ns : List ByteArray} {m i i2 : Nat} {x : GE} : i < N → GNum N ns low 2 (i + 1) x i2 → Stm N low B ⟨ns, m, i⟩ (.yield x .nil) ⟨ns, m, i2⟩
  | ite {ns : List ByteArray} {m i i2 : Nat} {c : GE} {a b : GL} {s1 s2 : Ms} : i < N → GFlag N ns low 2 (i + 1) c i2 → B ⟨ns, m, i2⟩ a s1 → B s1 b s2 → Stm N low B ⟨ns, m, i⟩ (.ite c a b .nil) s2
  | loop {ns : List ByteArray} {m i i2 n : Nat} {l : GL} {s2 : Ms} : i < N → Nx N 4 (i + 1) n i2 → B ⟨ns, m + 1, i2⟩ l s2 → Stm N low B ⟨ns, m, i⟩ (.loop (m + 1) n l .nil) s2
  | run {ns : List ByteArray} {m i i2 : Nat} {x : GE} : i < N → GNum N ns low 2 (i + 1) x i2 → Stm N low B ⟨ns, m, i⟩ (.run x .nil) ⟨ns, m, i2⟩
  | ret {ns : List ByteArray} {m i i2 i3 k : Nat} {x : GE} : i < N → Nx N 8 (i + 1) k i2 → GNum N ns low 1 i2 x i3 → Stm N low B ⟨ns, m, i⟩ (.ret x .nil) ⟨ns, m, i3⟩
  | bind {ns : List ByteArray} {m i i1 i2 : Nat} {x : GE} : (i < i1 ∧ i1 ≤ N ∨ i = N ∧ i1 = N) → GNum N ns low 2 i1 x i2 → Stm N low B ⟨ns, m, i⟩ (.bind (m + 1) x .nil) ⟨ns ++ [vT (m + 1)], m + 1, i2⟩
inductive Run (S : Ms → GL → Ms → Prop) : Nat → Ms → GL → Ms → Prop
  | nil {s : Ms} : Run S 0 s .nil s
  | snoc {j : Nat} {s s1 s2 : Ms} {g x : GL} : Run S j s g s1 → S s1 x s2 → Run S (j + 1) s (g.app x) s2
/-- A block: up to three statements; its names are no longer seen behind it. -/
def BlkOf (N : Nat) (S : Ms → GL → Ms → Prop) (s : Ms) (g : GL) (s' : Ms) : Prop := ∃ j i1 s2, Nx N 4 s.i j i1 ∧ Run S j ⟨s.ns, s.m, i1⟩ g s2 ∧ s' = ⟨s.ns, s2.m, s2.i⟩
def noB : Ms → GL → Ms → Prop := fun _ _ _ => False
/-- What stmts may make. -/
def Blk (N low : Nat) : Nat → Ms → GL → Ms → Prop
  | 0 => BlkOf N (Stm N low noB)
  | d + 1 => BlkOf N (Stm N low (Blk N low d))
/-- What stmt at depth d may make. -/
def StmD (N low : Nat) : Nat → Ms → GL → Ms → Prop
  | 0 => Stm N low noB
  | d + 1 => Stm N low (Blk N low d)
theorem blk_eq (N low d : Nat) : Blk N low d = BlkOf N (StmD N low d) := by cases d <;> rfl

theorem sz_mk (a : Array UInt8) : ByteArray.size ⟨a⟩ = a.size := rfl
/-- Bounds that hang on the depth alone. -/
theorem numT_size (n : Nat) (h : n ≤ 2000000) : (numT n).size ≤ 21 := by
  have := Lib.itoa_length_le (n : Int) (by omega) (by omega)
  simpa [numT, ByteArray.size] using this
theorem GNum.bound {N : Nat} {ns : List ByteArray} {low d i i' : Nat} {x : GE} (hns : ∀ s ∈ ns, s.size ≤ 22) (hl : low ≤ 2) (h : GNum N ns low d i x i') : x.txt.size ≤ 80 * 2 ^ d * 2 - 80 := by
  have hb : ∀ o, (binT o).size = 1 := by intro o; unfold binT; split <;> rfl
  have hp : ∀ d : Nat, 1 ≤ 2 ^ d := fun d => Nat.one_le_two_pow
  induction h with
  | @var d i i1 i2 k j s _ _ hs => have := hns _ (List.mem_of_getElem? hs); have := hp d; simp only [GE.txt]; omega
  | @lit d i i1 i2 k n _ h => have := numT_size n (by have := h.1; omega); have := hp d; simp only [GE.txt]; omega
  | @neg d _ _ _ _ _ ih => have := hp d; simp only [GE.txt, ByteArray.size_append, Nat.pow_succ, sz_mk, List.size_toArray, List.length_cons, List.length_nil]; omega
  | @call d i i2 i3 i4 f x y _ hf _ _ ih1 ih2 =>
    have := numT_size f (by have := hf.1; omega)
    have := hp d
    simp only [GE.txt, ByteArray.size_append, Nat.pow_succ, sz_mk, List.size_toArray, List.length_cons, List.length_nil]; omega
  | @host d i i2 i3 k x _ hf _ ih =>
    have := numT_size k (by have := hf.1; omega)
    have := hp d
    simp only [GE.txt, ByteArray.size_append, Nat.pow_succ, sz_mk, List.size_toArray, List.length_cons, List.length_nil]; omega
  | @bin d i i2 i3 i4 o x y _ _ _ _ ih1 ih2 =>
    have := hp d
    simp only [GE.txt, ByteArray.size_append, Nat.pow_succ, hb, sz_mk, List.size_toArray, List.length_cons, List.length_nil]; omega
theorem GFlag.bound {N : Nat} {ns : List ByteArray} {low d i i' : Nat} {x : GE} (hns : ∀ s ∈ ns, s.size ≤ 22) (hl : low ≤ 2) (h : GFlag N ns low d i x i') : x.txt.size ≤ 500 * 2 ^ d * 2 - 400 := by
  have hc : ∀ o, (cmpT o).size ≤ 4 := by intro o; unfold cmpT; split <;> decide
  have ht : ∀ o, (tfT o).size ≤ 5 := by intro o; unfold tfT; split <;> decide
  have hp : ∀ d : Nat, 1 ≤ 2 ^ d := fun d => Nat.one_le_two_pow
  induction h with
  | @not d _ _ _ _ _ _ _ ih => have := hp d; simp only [GE.txt, ByteArray.size_append, Nat.pow_succ, sz_mk, List.size_toArray, List.length_cons, List.length_nil]; omega
  | @and d _ _ _ _ _ _ _ _ ih1 ih2 => have := hp d; simp only [GE.txt, ByteArray.size_append, Nat.pow_succ, sz_mk, List.size_toArray, List.length_cons, List.length_nil]; omega
  | @or d _ _ _ _ _ _ _ _ ih1 ih2 => have := hp d; simp only [GE.txt, ByteArray.size_append, Nat.pow_succ, sz_mk, List.size_toArray, List.length_cons, List.length_nil]; omega
  | @tf d _ _ k _ _ => have := ht k; have := hp d; simp only [GE.txt]; omega
  | @cmp d i i1 i2 i3 i4 k o x y _ h1 _ h2 => have := h1.bound hns hl; have := h2.bound hns hl; have := hc o; have := hp d; simp only [GE.txt, ByteArray.size_append]; omega
/-- How many names a block at depth d makes at most; how long its text is at most. -/
def mkB : Nat → Nat
  | 0 => 3
  | d + 1 => 3 * (1 + 2 * mkB d)
def szB : Nat → Nat
  | 0 => 3 * 5000
  | d + 1 => 3 * (5000 + 2 * szB d)
def NsOk (ns : List ByteArray) : Prop := ∀ s ∈ ns, s.size ≤ 22
theorem vT_size (m : Nat) (h : m ≤ 2000000) : (vT m).size ≤ 22 := by
  have := numT_size m h; simp only [vT, ByteArray.size_append, sz_mk, List.size_toArray, List.length_cons, List.length_nil]; omega
theorem iT_size (m : Nat) (h : m ≤ 2000000) : (iT m).size ≤ 22 := by
  have := numT_size m h; simp only [iT, ByteArray.size_append, sz_mk, List.size_toArray, List.length_cons, List.length_nil]; omega
/-- What a step from s to s' keeps in bounds: M names at most are made, the text is of Z bytes at most. -/
def Bnd (M Z : Nat) (s : Ms) (g : GL) (s' : Ms) : Prop := NsOk s.ns → s.m + M ≤ 2000000 → s.m ≤ s'.m ∧ s'.m ≤ s.m + M ∧ g.txt.size ≤ Z ∧ NsOk s'.ns ∧ s'.ns.length ≤ s.ns.length + 1
theorem Stm.bound {N low M Z : Nat} {B : Ms → GL → Ms → Prop} (hl : low ≤ 2) (hB : ∀ s g s', B s g s' → Bnd M Z s g s' ∧ s'.ns = s.ns) {s : Ms} {g : GL} {s' : Ms} (h : Stm N low B s g s') : Bnd (1 + 2 * M) (5000 + 2 * Z) s g s' := by
  cases h with
  | @set ns m i i1 i2 i3 j s x _ _ hs hx =>
    intro hn hm
    have := hn _ (List.mem_of_getElem? hs)
    have := hx.bound hn hl
    refine ⟨Nat.le_refl _, Nat.le_add_right _ _, ?_, hn, Nat.le_add_right _ _⟩
    simp only [GL.txt, ByteArray.size_append, sz_mk, List.size_toArray, List.length_cons, List.length_nil]; omega
  | @yield ns m i i2 x _ hx =>
    intro hn hm
    have := hx.bound hn hl
    refine ⟨Nat.le_refl _, Nat.le_add_right _ _, ?_, hn, Nat.le_add_right _ _⟩
    simp only [GL.txt, ByteArray.size_append, sz_mk, List.size_toArray, List.length_cons, List.length_nil]; omega
  | @ite ns m i i2 c a b s1 s2 _ hc ha hb =>
    intro hn hm
    have := hc.bound hn hl
    obtain ⟨h1, h2⟩ := hB _ _ _ ha
    obtain ⟨a1, a2, a3, a4, a5⟩ := h1 hn (by simp only at hm ⊢; omega)
    obtain ⟨h3, h4⟩ := hB _ _ _ hb
    simp only at a2 hm a1
    obtain ⟨b1, b2, b3, b4, b5⟩ := h3 a4 (by omega)
    refine ⟨by simp only; omega, by simp only; omega, ?_, b4, by rw [h4, h2]; simp⟩
    simp only [GL.txt, ByteArray.size_append, sz_mk, List.size_toArray, List.length_cons, List.length_nil]; omega
  | @loop ns m i i2 n l s2 _ hk hl' =>
    intro hn hm
    obtain ⟨h1, h2⟩ := hB _ _ _ hl'
    simp only at hm
    obtain ⟨a1, a2, a3, a4, a5⟩ := h1 hn (by simp only; omega)
    simp only at a1 a2
    have := iT_size (m + 1) (by omega)
    have := numT_size n (by have := hk.1; omega)
    refine ⟨by simp only; omega, by simp only; omega, ?_, a4, by rw [h2]; simp⟩
    simp only [GL.txt, ByteArray.size_append, sz_mk, List.size_toArray, List.length_cons, List.length_nil]; omega
  | @run ns m i i2 x _ hx =>
    intro hn hm
    have := hx.bound hn hl
    refine ⟨Nat.le_refl _, Nat.le_add_right _ _, ?_, hn, Nat.le_add_right _ _⟩
    simp only [GL.txt, ByteArray.size_append, sz_mk, List.size_toArray, List.length_cons, List.length_nil]; omega
  | @ret ns m i i2 i3 k x _ _ hx =>
    intro hn hm
    have := hx.bound hn hl
    refine ⟨Nat.le_refl _, Nat.le_add_right _ _, ?_, hn, Nat.le_add_right _ _⟩
    simp only [GL.txt, ByteArray.size_append, sz_mk, List.size_toArray, List.length_cons, List.length_nil]; omega
  | @bind ns m i i1 i2 x _ hx =>
    intro hn hm
    have := hx.bound hn hl
    simp only at hm
    have := vT_size (m + 1) (by omega)
    refine ⟨Nat.le_succ _, by simp only; omega, ?_, ?_, by simp⟩
    · simp only [GL.txt, ByteArray.size_append, sz_mk, List.size_toArray, List.length_cons, List.length_nil]; omega
    · intro s hs
      rcases List.mem_append.1 hs with h | h
      · exact hn s h
      · simp at h; subst h; assumption
theorem Run.bound {S : Ms → GL → Ms → Prop} {M Z : Nat} (hS : ∀ s g s', S s g s' → Bnd M Z s g s') {j : Nat} {s : Ms} {g : GL} {s' : Ms} (h : Run S j s g s') :
    NsOk s.ns → s.m + j * M ≤ 2000000 → s.m ≤ s'.m ∧ s'.m ≤ s.m + j * M ∧ g.txt.size ≤ j * Z ∧ NsOk s'.ns ∧ s'.ns.length ≤ s.ns.length + j := by
  induction h with
  | nil => intro hn _; exact ⟨Nat.le_refl _, by simp, by simp [GL.txt, ByteArray.size], hn, by simp⟩
  | @snoc j s s1 s2 g x _ h2 ih =>
    intro hn hm
    rw [Nat.succ_mul] at hm
    obtain ⟨a1, a2, a3, a4, a5⟩ := ih hn (by omega)
    obtain ⟨b1, b2, b3, b4, b5⟩ := hS _ _ _ h2 a4 (by omega)
    refine ⟨by omega, by rw [Nat.succ_mul]; omega, ?_, b4, by omega⟩
    rw [GL.txt_app, ByteArray.size_append, Nat.succ_mul]; omega
theorem BlkOf.bound {N : Nat} {S : Ms → GL → Ms → Prop} {M Z : Nat} (hS : ∀ s g s', S s g s' → Bnd M Z s g s') {s : Ms} {g : GL} {s' : Ms} (h : BlkOf N S s g s') : Bnd (3 * M) (3 * Z) s g s' ∧ s'.ns = s.ns := by
  obtain ⟨j, i1, s2, hj, hr, rfl⟩ := h
  have h3 : j ≤ 3 := by have := hj.1; omega
  have m1 := Nat.mul_le_mul_right M h3
  have m2 := Nat.mul_le_mul_right Z h3
  refine ⟨fun hn hm => ?_, rfl⟩
  obtain ⟨a1, a2, a3, a4, a5⟩ := hr.bound hS hn (by simp only; omega)
  simp only at a1 a2
  exact ⟨a1, by simp only; omega, by omega, hn, by simp⟩
theorem Blk.bound {N low : Nat} (hl : low ≤ 2) : ∀ (d : Nat) (s : Ms) (g : GL) (s' : Ms), Blk N low d s g s' → Bnd (mkB d) (szB d) s g s' ∧ s'.ns = s.ns := by
  intro d
  induction d with
  | zero => intro s g s' h; exact BlkOf.bound (fun s g s' h => Stm.bound (M := 0) (Z := 0) hl (fun _ _ _ h => h.elim) h) h
  | succ d ih => intro s g s' h; exact BlkOf.bound (fun s g s' h => Stm.bound hl ih h) h
def mkS : Nat → Nat
  | 0 => 1
  | d + 1 => 1 + 2 * mkB d
def szS : Nat → Nat
  | 0 => 5000
  | d + 1 => 5000 + 2 * szB d
theorem mk_eq (d : Nat) : mkB d = 3 * mkS d := by cases d <;> rfl
theorem StmD.bound {N low : Nat} (hl : low ≤ 2) (d : Nat) (s : Ms) (g : GL) (s' : Ms) (h : StmD N low d s g s') : Bnd (mkS d) (szS d) s g s' := by
  cases d with
  | zero => exact Stm.bound (M := 0) (Z := 0) hl (fun _ _ _ h => h.elim) h
  | succ d => exact Stm.bound hl (Blk.bound hl d) h
end Go.Proofs.YtmngofgminlloaaGreatDoor

namespace Go.Proofs.YtmngofgminlloaaGreatDoor
open Go.RowKit Tw

set_option maxRecDepth 100000 in
set_option maxHeartbeats 1000000 in
theorem below_b (x n : Int) (h1 : 1 ≤ n) (h2 : n ≤ 4000000000) (w : World) : Calls Tryz.prog 21 #[.int .i64 x, .int .i64 n] w fun e w' => (∃ k : Int, e = .returned (.int .i64 k) ∧ 0 ≤ k ∧ k < n) ∧ w' = w := by
  have hlt : x.tmod n < n := Int.tmod_lt_of_pos x (by omega)
  have hgt : -n < x.tmod n := by
    have := Int.tmod_lt_of_pos (-x) (show 0 < n by omega)
    rw [Int.neg_tmod] at this
    omega
  have hn0 : ¬ n = 0 := by omega
  go_enter Tryz.func21, Tryz.ntmps21
  by_cases hneg : x.tmod n < 0
  · go_wp2_with fail
    go_ret
    exact ⟨⟨_, rfl, by omega, by omega⟩, rfl⟩
  · go_wp2_with fail
    go_ret
    exact ⟨⟨_, rfl, by omega, by omega⟩, rfl⟩

/-- The maker's state: the source of numbers (its block qb: the numbers are the caller's), the scripter (its block sb). -/
structure Sc (w0 wv w : World) (sb qb : Nat) (A0 : Option Addr) (n0 c0 : Nat) (i : Nat) (An : Option Addr) (cn : Nat) (ns : List ByteArray) (made low : Nat) : Prop where
  sblk : w.heap[sb]? = some (.cells #[.pointer (some ⟨qb, 0, none⟩), .slice An ns.length cn, .int .i64 made, .int .i64 low] 144 (0, 0))
  qblk : w.heap[qb]? = some (.cells #[.slice A0 n0 c0, .int .i64 i] 209 (0, 0))
  nums : ∀ j, j < n0 → ∃ g off v, A0 = some ⟨g, off, none⟩ ∧ g < qb ∧ w.cell? ⟨g, off + j, none⟩ = some (.int .i64 v)
  row : GRow strElem w (sb + 1) 9 1 (.slice An ns.length cn) ns
  sz : NsOk ns
  nl : ns.length ≤ 100
  i0 : i ≤ n0
  n60 : n0 ≤ 60
  m1 : made ≤ 1000000
  l1 : low ≤ 2
  b0 : 10 < qb
  q : qb < sb
  s : sb < w.heap.size
  gl : Glob w
  bel : Below qb w0 w
  gr : wv.grownBy w (some qb)
section
variable {w0 wv w w' : World} {sb qb : Nat} {A0 : Option Addr} {n0 c0 i : Nat} {An : Option Addr} {cn : Nat} {ns : List ByteArray} {made low : Nat}
theorem Sc.below (h : Sc w0 wv w sb qb A0 n0 c0 i An cn ns made low) (hb : Below w.heap.size w w') : Sc w0 wv w' sb qb A0 n0 c0 i An cn ns made low := by
  have hq := h.q; have hs := h.s
  exact ⟨(hb.block sb hs).trans h.sblk, (hb.block qb (by omega)).trans h.qblk, fun j hj => by
    obtain ⟨g, off, v, h1, h2, h3⟩ := h.nums j hj
    exact ⟨g, off, v, h1, h2, (hb.cell (p := ⟨g, off + j, none⟩) (by show g < w.heap.size; omega)).trans h3⟩, h.row.below hb, h.sz, h.nl, h.i0, h.n60, h.m1, h.l1, h.b0, hq, Nat.lt_of_lt_of_le hs hb.size, h.gl.to hb, h.bel.trans (hb.mono (by omega)), grown_trans h.gr (grown_of_below hb _)⟩
theorem below_setq (w : World) (qb j : Nat) (u : Value) (hq : qb < w.heap.size) : Below qb w (w.setCell ⟨qb, j, none⟩ u) :=
  ⟨rfl, rfl, rfl, by simp, fun k hk => Below.heap_setCell w ⟨qb, j, none⟩ u k (by simp; omega)⟩
theorem Sc.setI (h : Sc w0 wv w sb qb A0 n0 c0 i An cn ns made low) (hi : i < n0) : Sc w0 wv (w.setCell ⟨qb, 1, none⟩ (.int .i64 ((i : Int) + 1))) sb qb A0 n0 c0 (i + 1) An cn ns made low := by
  have hq := h.q; have hs := h.s; have hb := h.b0
  have hg := grown_set w qb 1 (.int .i64 ((i : Int) + 1))
  exact ⟨(hg.block sb hs (by simp; omega)).trans h.sblk, by simpa using heap_setCell_same w qb 1 _ _ (.int .i64 ((i : Int) + 1)) h.qblk, fun j hj => by
    obtain ⟨g, off, v, h1, h2, h3⟩ := h.nums j hj
    exact ⟨g, off, v, h1, h2, (World.cell?_of_block (a := ⟨g, off + j, none⟩) (hg.block g (by omega) (by simp; omega))).trans h3⟩,
    h.row.kept hg (fun k e => .inl (by cases e; omega)), h.sz, h.nl, hi, h.n60, h.m1, h.l1, h.b0, hq, Nat.lt_of_lt_of_le hs hg.size, h.gl.same hg.size (fun g hg' => hg.block g (by omega) (by simp; omega)), h.bel.trans (below_setq w qb 1 _ (by omega)), grown_trans h.gr hg⟩
end
set_option maxRecDepth 100000 in
set_option maxHeartbeats 2000000 in
/-- The next number. -/
theorem n_c {w0 wv w : World} {sb qb : Nat} {A0 : Option Addr} {n0 c0 i : Nat} {An : Option Addr} {cn : Nat} {ns : List ByteArray} {made low : Nat} (n : Int) (h1 : 1 ≤ n) (h2 : n ≤ 4000000000) (h : Sc w0 wv w sb qb A0 n0 c0 i An cn ns made low) :
    Calls Tryz.prog 69 #[.pointer (some ⟨qb, 0, none⟩), .int .i64 n] w fun e w' => (∃ (k i' : Nat), e = .returned (.int .i64 k) ∧ k < n ∧ Nx n0 n.toNat i k i' ∧ Sc w0 wv w' sb qb A0 n0 c0 i' An cn ns made low) := by
  have HS := Lib.hid h
  have c0' : w.cell? ⟨qb, 0, none⟩ = some (.slice A0 n0 c0) := Lib.cell_of_heap h.qblk 0
  have c1 : w.cell? ⟨qb, 1, none⟩ = some (.int .i64 i) := Lib.cell_of_heap h.qblk 1
  have f1 : w.frozen? ⟨qb, 1, none⟩ = false := Lib.frozen_of_heap h.qblk 1
  have hn60 := h.n60; have hi0 := h.i0
  have hqs : qb < w.heap.size := Nat.lt_trans h.q h.s
  by_cases hi : i < n0
  · obtain ⟨g, off, v, rfl, hg, hc⟩ := h.nums i hi
    have hgn : g ≠ qb := by omega
    have hgn' : qb ≠ g := by omega
    have k0 : (0 : Int) ≤ (i : Int) := by omega
    have k1 : (i : Int) < (n0 : Int) := by omega
    have q0 : (0 : Int) ≤ (i : Int) + 1 - 1 := by omega
    have q1 : (i : Int) + 1 - 1 < (n0 : Int) := by omega
    have q2 : ((i : Int) + 1 - 1) = (i : Int) := by omega
    clear h
    go_enter Tryz.func69, Tryz.ntmps69
    go_upto_region 1 with (fail)
    go_quiet (fail)
    go_upto_region 4 with (fail)
    have HS1 : Hid (Sc w0 wv ((w.drewN nq).setCell ⟨qb, 1, none⟩ (.int .i64 ((i : Int) + 1))) sb qb (some ⟨g, off, none⟩) n0 c0 (i + 1) An cn ns made low) := Lib.hid ((HS.out.below (below_drewN (Below.refl _ _) nq)).setI hi)
    clear c0' c1 f1 hc
    generalize (World.drewN w nq).setCell _ _ = w1 at HS1 ⊢
    have c0' : w1.cell? ⟨qb, 0, none⟩ = some (.slice (some ⟨g, off, none⟩) n0 c0) := Lib.cell_of_heap HS1.out.qblk 0
    have c1 : w1.cell? ⟨qb, 1, none⟩ = some (.int .i64 ((i : Int) + 1)) := by simpa using Lib.cell_of_heap HS1.out.qblk 1
    obtain ⟨g', off', v', hA, -, hc⟩ := HS1.out.nums i hi
    obtain ⟨rfl, rfl⟩ : g = g' ∧ off = off' := by injection hA with hA; injection hA with h1 h2; exact ⟨h1, h2⟩
    clear hA
    have w0 : IntKind.i64.wrap (i : Int) = (i : Int) := IntWalk.i64_in _ (by omega)
    go_region_law (first | (go_simp; go_at_call 21; refine (below_b v' n h1 h2 _).mono ?_; rintro e w8 ⟨⟨k, rfl, hk0, hk1⟩, rfl⟩))
    all_goals
      go_wp2_with fail
      go_ret
      obtain ⟨kn, rfl⟩ := Int.eq_ofNat_of_zero_le hk0
      exact ⟨kn, i + 1, rfl, hk1, ⟨by omega, .inl ⟨hi, rfl⟩⟩, HS1.out.below (bel_drew _)⟩
  · have k1 : (n0 : Int) ≤ (i : Int) := by omega
    clear h
    go_enter Tryz.func69, Tryz.ntmps69
    go_upto_region 1 with (fail)
    go_quiet (fail)
    go_wp2_with fail
    go_ret
    have := HS.out.i0
    exact ⟨0, i, rfl, by show (0 : Int) < n; omega, ⟨by omega, .inr ⟨by omega, by omega, rfl⟩⟩, HS.out.below (below_drewN (Below.refl _ _) _)⟩
theorem itoa_s {w0 wv w : World} {sb qb : Nat} {A0 : Option Addr} {n0 c0 i : Nat} {An : Option Addr} {cn : Nat} {ns : List ByteArray} {made low : Nat} (n : Nat) (h1 : n ≤ 2000000) (h : Sc w0 wv w sb qb A0 n0 c0 i An cn ns made low) :
    Calls Tryz.prog 70 #[.int .i64 n] w fun e w' => ∃ s : ByteArray, e = .returned (.string s) ∧ Hid (s = numT n) ∧ s.size ≤ 21 ∧ Sc w0 wv w' sb qb A0 n0 c0 i An cn ns made low := by
  refine (Tryz.strconv_Itoa (n : Int) (by omega) (by omega) w h.gl.pow).mono ?_
  rintro e w' ⟨rfl, k, os, rfl⟩
  exact ⟨_, rfl, Lib.hid rfl, numT_size n h1, h.below (below_grow w k os)⟩
theorem Sc.reb {w0 wv w : World} {sb qb : Nat} {A0 : Option Addr} {n0 c0 i : Nat} {An : Option Addr} {cn : Nat} {ns : List ByteArray} {made low : Nat} (h : Sc w0 wv w sb qb A0 n0 c0 i An cn ns made low) : Sc w0 w w sb qb A0 n0 c0 i An cn ns made low :=
  { h with gr := grown_of_below (Below.refl _ _) _ }
theorem Sc.tr {w0 wv w w' : World} {sb qb : Nat} {A0 : Option Addr} {n0 c0 i i' : Nat} {An : Option Addr} {cn : Nat} {ns : List ByteArray} {made low : Nat} (h : Sc w0 wv w sb qb A0 n0 c0 i An cn ns made low) (h' : Sc w0 w w' sb qb A0 n0 c0 i' An cn ns made low) : Sc w0 wv w' sb qb A0 n0 c0 i' An cn ns made low :=
  { h' with gr := grown_trans h.gr h'.gr }
theorem Sc.c0 {w0 wv w : World} {sb qb : Nat} {A0 : Option Addr} {n0 c0 i : Nat} {An : Option Addr} {cn : Nat} {ns : List ByteArray} {made low : Nat} (h : Sc w0 wv w sb qb A0 n0 c0 i An cn ns made low) : w.cell? ⟨sb, 0, none⟩ = some (.pointer (some ⟨qb, 0, none⟩)) ∧ w.cell? ⟨sb, 1, none⟩ = some (.slice An ns.length cn) ∧ w.cell? ⟨sb, 2, none⟩ = some (.int .i64 made) ∧ w.cell? ⟨sb, 3, none⟩ = some (.int .i64 low) :=
  ⟨Lib.cell_of_heap h.sblk 0, Lib.cell_of_heap h.sblk 1, Lib.cell_of_heap h.sblk 2, Lib.cell_of_heap h.sblk 3⟩
/-- The name k. -/
theorem Sc.name {w0 wv w : World} {sb qb : Nat} {A0 : Option Addr} {n0 c0 i : Nat} {cn : Nat} {ns : List ByteArray} {made low : Nat} {g : Nat} (h : Sc w0 wv w sb qb A0 n0 c0 i (some ⟨g, 0, none⟩) cn ns made low) (k : Nat) (s : ByteArray) (hs : ns[k]? = some s) : w.cell? ⟨g, k, none⟩ = some (.string s) := by
  rcases own_cells h.row.1 with ⟨e, _⟩ | ⟨g', cap, e, hb, hg, hc⟩
  · cases e
  · injection e with e; injection e with e; injection e with e
    subst e
    exact hc _ _ (by simpa using flat_at strElem.cells 1 (fun _ => rfl) ns k _ hs 0 _ rfl)
theorem Sc.arr {w0 wv w : World} {sb qb : Nat} {A0 : Option Addr} {n0 c0 i : Nat} {An : Option Addr} {cn : Nat} {ns : List ByteArray} {made low : Nat} (h : Sc w0 wv w sb qb A0 n0 c0 i An cn ns made low) (hn : 0 < ns.length) : ∃ g, An = some ⟨g, 0, none⟩ := by
  rcases own_cells h.row.1 with ⟨e, e2⟩ | ⟨g', cap, e, _⟩
  · omega
  · injection e with e; exact ⟨g', e⟩
end Go.Proofs.YtmngofgminlloaaGreatDoor

namespace Go.Proofs.YtmngofgminlloaaGreatDoor
open Go.RowKit Tw

/-- A text of num. -/
def NumA (N : Nat) (ns : List ByteArray) (low d i : Nat) (s : ByteArray) (i' : Nat) : Prop := ∃ g : GE, s = g.txt ∧ GNum N ns low d i g i'
theorem NumA.size {N : Nat} {ns : List ByteArray} {low d i : Nat} {s : ByteArray} {i' : Nat} (hd : d ≤ 4) (hns : NsOk ns) (hl : low ≤ 2) (h : NumA N ns low d i s i') : s.size ≤ 6000 := by
  obtain ⟨g, rfl, hg⟩ := h
  have := hg.bound hns hl
  have h2 : 2 ^ d ≤ 2 ^ 4 := Nat.pow_le_pow_right (by decide) hd
  simp only [show 2 ^ 4 = 16 from rfl] at h2
  omega
section
variable {N : Nat} {ns : List ByteArray} {low d i i1 i2 i3 i4 : Nat} {s t u : ByteArray}
theorem NumA.var {k j : Nat} (h1 : Nx N 9 i k i1) (h2 : Nx N ns.length i1 j i2) (h3 : ns[j]? = some s) : NumA N ns low d i s i2 := ⟨_, rfl, .var h1 h2 h3⟩
theorem NumA.lit {k n : Nat} (h1 : Nx N 9 i k i1) (h2 : Nx N 20 i1 n i2) (h3 : s = numT n) : NumA N ns low d i s i2 := ⟨.lit n, h3, .lit h1 h2⟩
theorem Nx.got {n k : Nat} (h : Nx N n i k i1) (hk : 0 < k) : i < N ∧ i1 = i + 1 := by
  rcases h.2 with h | ⟨_, _, h⟩
  · exact h
  · omega
theorem NumA.neg {k : Nat} (h0 : Nx N 9 i k i1) (hk : 0 < k) (h : NumA N ns low (d - 1) i1 s i2) (hd : 1 ≤ d) : NumA N ns low d i (⟨#[45, 40]⟩ ++ s ++ ⟨#[41]⟩) i2 := by
  obtain ⟨hi, rfl⟩ := h0.got hk
  obtain ⟨d, rfl⟩ : ∃ e, d = e + 1 := ⟨d - 1, by omega⟩
  obtain ⟨g, rfl, hg⟩ := h
  exact ⟨_, rfl, .neg hi hg⟩
theorem NumA.call {k f : Nat} (h0 : Nx N 9 i k i1) (hk : 0 < k) (hf : Nx N low i1 f i2) (hu : u = numT f) (h : NumA N ns low (d - 1) i2 s i3) (h' : NumA N ns low (d - 1) i3 t i4) (hd : 1 ≤ d) : NumA N ns low d i (⟨#[102]⟩ ++ u ++ ⟨#[40]⟩ ++ s ++ ⟨#[44, 32]⟩ ++ t ++ ⟨#[41]⟩) i4 := by
  obtain ⟨hi, rfl⟩ := h0.got hk
  obtain ⟨d, rfl⟩ : ∃ e, d = e + 1 := ⟨d - 1, by omega⟩
  obtain ⟨g, rfl, hg⟩ := h
  obtain ⟨g', rfl, hg'⟩ := h'
  subst hu
  exact ⟨_, rfl, .call hi hf hg hg'⟩
theorem NumA.host {k f : Nat} (h0 : Nx N 9 i k i1) (hk : 0 < k) (hf : Nx N 4 i1 f i2) (hu : u = numT f) (h : NumA N ns low (d - 1) i2 s i3) (hd : 1 ≤ d) : NumA N ns low d i (⟨#[64]⟩ ++ u ++ ⟨#[40]⟩ ++ s ++ ⟨#[41]⟩) i3 := by
  obtain ⟨hi, rfl⟩ := h0.got hk
  obtain ⟨d, rfl⟩ : ∃ e, d = e + 1 := ⟨d - 1, by omega⟩
  obtain ⟨g, rfl, hg⟩ := h
  subst hu
  exact ⟨_, rfl, .host hi hf hg⟩
theorem NumA.bin {k o : Nat} (h0 : Nx N 9 i k i1) (hk : 0 < k) (h : NumA N ns low (d - 1) i1 s i2) (ho : Nx N 5 i2 o i3) (hu : u = binT o) (h' : NumA N ns low (d - 1) i3 t i4) (hd : 1 ≤ d) : NumA N ns low d i (⟨#[40]⟩ ++ s ++ ⟨#[32]⟩ ++ u ++ ⟨#[32]⟩ ++ t ++ ⟨#[41]⟩) i4 := by
  obtain ⟨hi, rfl⟩ := h0.got hk
  obtain ⟨d, rfl⟩ : ∃ e, d = e + 1 := ⟨d - 1, by omega⟩
  obtain ⟨g, rfl, hg⟩ := h
  obtain ⟨g', rfl, hg'⟩ := h'
  subst hu
  exact ⟨_, rfl, .bin hi hg ho hg'⟩
end
/-- What num(d) answers. -/
def NumR (w0 wv : World) (sb qb : Nat) (A0 : Option Addr) (n0 c0 : Nat) (An : Option Addr) (cn : Nat) (ns : List ByteArray) (made low d i : Nat) (e : Ending) (w' : World) : Prop :=
  ∃ (s : ByteArray) (i' : Nat), e = .returned (.string s) ∧ s.size ≤ 6000 ∧ Hid (NumA n0 ns low d i s i') ∧ Sc w0 wv w' sb qb A0 n0 c0 i' An cn ns made low
def NumC (d : Nat) : Prop :=
  ∀ {w0 wv w : World} {sb qb : Nat} {A0 : Option Addr} {n0 c0 i : Nat} {An : Option Addr} {cn : Nat} {ns : List ByteArray} {made low : Nat}, Sc w0 wv w sb qb A0 n0 c0 i An cn ns made low → Calls Tryz.prog 72 #[.pointer (some ⟨sb, 0, none⟩), .int .i64 d] w (NumR w0 wv sb qb A0 n0 c0 An cn ns made low d i)
theorem num_ret {w0 wv w' : World} {sb qb : Nat} {A0 : Option Addr} {n0 c0 i : Nat} {An : Option Addr} {cn : Nat} {ns : List ByteArray} {made low : Nat} {d i' : Nat} {s : ByteArray} (hd : d ≤ 4) (hA : NumA n0 ns low d i s i') (hS : Sc w0 wv w' sb qb A0 n0 c0 i' An cn ns made low) : NumR w0 wv sb qb A0 n0 c0 An cn ns made low d i (.returned (.string s)) w' :=
  ⟨s, i', rfl, hA.size hd hS.sz hS.l1, Lib.hid hA, hS⟩
theorem Sc.c3 {w0 wv w : World} {sb qb : Nat} {A0 : Option Addr} {n0 c0 i : Nat} {An : Option Addr} {cn : Nat} {ns : List ByteArray} {made low : Nat} (h : Sc w0 wv w sb qb A0 n0 c0 i An cn ns made low) : w.cell? ⟨sb, 0, none⟩ = some (.pointer (some ⟨qb, 0, none⟩)) ∧ w.cell? ⟨sb, 1, none⟩ = some (.slice An ns.length cn) ∧ w.cell? ⟨sb, 3, none⟩ = some (.int .i64 low) := ⟨h.c0.1, h.c0.2.1, h.c0.2.2.2⟩
theorem Sc.dr {w0 wv w : World} {sb qb : Nat} {A0 : Option Addr} {n0 c0 i : Nat} {An : Option Addr} {cn : Nat} {ns : List ByteArray} {made low : Nat} (h : Sc w0 wv w sb qb A0 n0 c0 i An cn ns made low) : Sc w0 wv w.drew sb qb A0 n0 c0 i An cn ns made low := h.below (bel_drew _)
set_option maxRecDepth 10000 in
theorem bin_at (k : Nat) (h : (k : Int) < 5) : ∃ t : ByteArray, (∀ h', Utf8.encode ((⟨#[43, 45, 42, 47, 37]⟩ : ByteArray)[k]'h').toNat = t) ∧ t.size = 1 ∧ Hid (t = binT k) := by
  have hc : k = 0 ∨ k = 1 ∨ k = 2 ∨ k = 3 ∨ k = 4 := by omega
  rcases hc with rfl | rfl | rfl | rfl | rfl
  · exact ⟨binT 0, fun _ => by kernel_rfl, by kernel_rfl, Lib.hid rfl⟩
  · exact ⟨binT 1, fun _ => by kernel_rfl, by kernel_rfl, Lib.hid rfl⟩
  · exact ⟨binT 2, fun _ => by kernel_rfl, by kernel_rfl, Lib.hid rfl⟩
  · exact ⟨binT 3, fun _ => by kernel_rfl, by kernel_rfl, Lib.hid rfl⟩
  · exact ⟨binT 4, fun _ => by kernel_rfl, by kernel_rfl, Lib.hid rfl⟩
theorem nn (k : Nat) : (0 : Int) ≤ (k : Int) := Int.natCast_nonneg k
theorem low_le {k low : Nat} (h : (k : Int) < (low : Int)) (h2 : low ≤ 2) : k ≤ 2000000 := by omega
theorem nl_a {a : Nat} (h : a ≤ 21) : ¬ 9223372036854775807 < 1 + a ∧ ¬ 9223372036854775807 < 1 + a + 1 := by omega
theorem nl_b {a b : Nat} (h : a ≤ 21) (h2 : b ≤ 6000) : ¬ 9223372036854775807 < 1 + a + 1 + b ∧ ¬ 9223372036854775807 < 1 + a + 1 + b + 2 := by omega
theorem nl_c {a b c : Nat} (h : a ≤ 21) (h2 : b ≤ 6000) (h3 : c ≤ 6000) : ¬ 9223372036854775807 < 1 + a + 1 + b + 2 + c ∧ ¬ 9223372036854775807 < 1 + a + 1 + b + 2 + c + 1 := by omega
theorem nl_d {a : Nat} (h : a ≤ 6000) : ¬ 9223372036854775807 < 1 + a ∧ ¬ 9223372036854775807 < 1 + a + 1 := by omega
theorem nl_e {a : Nat} (h : a ≤ 6000) : ¬ 9223372036854775807 < 1 + a + 1 + 1 ∧ ¬ 9223372036854775807 < 1 + a + 1 + 1 + 1 := by omega
theorem nl_f {a b : Nat} (h : a ≤ 6000) (h2 : b ≤ 6000) : ¬ 9223372036854775807 < 1 + a + 1 + 1 + 1 + b ∧ ¬ 9223372036854775807 < 1 + a + 1 + 1 + 1 + b + 1 := by omega
theorem some_at {α : Type} (l : List α) (k : Nat) (h : (k : Int) < (l.length : Int)) : ∃ s, l[k]? = some s := ⟨_, List.getElem?_eq_getElem (by omega)⟩
set_option maxRecDepth 100000 in
set_option maxHeartbeats 16000000 in
theorem num_step (d : Nat) (hd : d ≤ 4) (ih : 1 ≤ d → NumC (d - 1)) : NumC d := by
  intro w0 wv w sb qb A0 n0 c0 i An cn ns made low h
  have IH : 1 ≤ d → ∀ {w0 wv w : World} {sb qb : Nat} {A0 : Option Addr} {n0 c0 i : Nat} {An : Option Addr} {cn : Nat} {ns : List ByteArray} {made low : Nat}, Sc w0 wv w sb qb A0 n0 c0 i An cn ns made low → Calls Tryz.prog 72 #[.pointer (some ⟨sb, 0, none⟩), .int .i64 ((d : Int) - 1)] w (NumR w0 wv sb qb A0 n0 c0 An cn ns made low (d - 1) i) := by
    intro h1 w0 wv w sb qb A0 n0 c0 i An cn ns made low h
    have := ih h1 h
    rw [show ((d - 1 : Nat) : Int) = (d : Int) - 1 by omega] at this
    exact this
  have HIH := Lib.hid IH; have HS := Lib.hid h
  clear IH ih
  obtain ⟨c0', c1, c2, c3⟩ := h.c0
  have hl1 := h.l1
  clear h
  go_enter Tryz.func72, Tryz.ntmps72
  go_wp2_with fail
  refine (n_c 9 (by decide) (by decide) HS.out).mono ?_
  rintro e w1 ⟨k, i1, rfl, hk1, HX, hS⟩
  replace HX := Lib.hid HX
  replace HS := Lib.hid hS
  clear hS c0' c1 c2 c3
  obtain ⟨c0', c1, c2, c3⟩ := HS.out.c0
  by_cases hv : k < 2 ∧ 0 < ns.length
  · obtain ⟨hk2, hn⟩ := hv
    have hk2' : decide ((k : Int) < 2) = true := by simp; omega
    obtain ⟨g, rfl⟩ := HS.out.arr hn
    have hnn : (0 : Int) < (ns.length : Int) := by omega
    have hnl := HS.out.nl
    have hq1 : (1 : Int) ≤ (ns.length : Int) := by omega
    have hq2 : (ns.length : Int) ≤ 4000000000 := by omega
    go_upto_region 3 with (fail)
    have hSd := HS.out.dr
    go_region_law (first | (go_simp; go_at_call 69; refine (n_c _ hq1 hq2 hSd).mono ?_; rintro e w8 ⟨k2, i2, rfl, hk21, HX2, hS8⟩; obtain ⟨s8, hs8⟩ := some_at ns k2 hk21; have d8 := hS8.name k2 s8 hs8; have HS8 := Lib.hid hS8; have HN8 := Lib.hid hs8; replace HX2 := Lib.hid HX2; obtain ⟨e0, e1, e2, e3⟩ := hS8.c0; have k20 := nn k2; clear hs8 hS8))
    all_goals
      go_wp2_with fail
      go_ret
      exact num_ret hd (.var HX.out HX2.out HN8.out) (by first | exact HS8.out | exact HS8.out.dr)
  by_cases hk2 : k < 2
  · have hnn : (ns.length : Int) ≤ 0 := by omega
    clear hv
    go_wp2_with fail
    refine (n_c 20 (by omega) (by omega) HS.out).mono ?_
    rintro e w2 ⟨k2, i2, rfl, hk2, HXk2, hS⟩
    replace HS := Lib.hid hS
    clear hS
    replace HXk2 := Lib.hid HXk2
    go_wp2_with fail
    refine (itoa_s k2 (by omega) HS.out).mono ?_
    rintro e w3 ⟨s2, rfl, HTs2, hzs2, hS⟩
    replace HS := Lib.hid hS
    clear hS
    go_wp2_with fail
    go_ret
    exact num_ret hd (.lit HX.out HXk2.out HTs2.out) HS.out
  have hk2' : (2 : Int) ≤ k := by omega
  clear hv hk2
  by_cases hk4 : k < 4
  · have hk4' : (k : Int) < 4 := by omega
    go_wp2_with fail
    refine (n_c 20 (by omega) (by omega) HS.out).mono ?_
    rintro e w2 ⟨k2, i2, rfl, hk2, HXk2, hS⟩
    replace HS := Lib.hid hS
    clear hS
    replace HXk2 := Lib.hid HXk2
    go_wp2_with fail
    refine (itoa_s k2 (by omega) HS.out).mono ?_
    rintro e w3 ⟨s2, rfl, HTs2, hzs2, hS⟩
    replace HS := Lib.hid hS
    clear hS
    go_wp2_with fail
    go_ret
    exact num_ret hd (.lit HX.out HXk2.out HTs2.out) HS.out
  have hk4' : (4 : Int) ≤ k := by omega
  clear hk4 hk2'
  by_cases hd0 : d = 0
  · subst hd0
    go_wp2_with fail
    refine (n_c 20 (by omega) (by omega) HS.out).mono ?_
    rintro e w2 ⟨k2, i2, rfl, hk2, HXk2, hS⟩
    replace HS := Lib.hid hS
    clear hS
    replace HXk2 := Lib.hid HXk2
    go_wp2_with fail
    refine (itoa_s k2 (by omega) HS.out).mono ?_
    rintro e w3 ⟨s2, rfl, HTs2, hzs2, hS⟩
    replace HS := Lib.hid hS
    clear hS
    go_wp2_with fail
    go_ret
    exact num_ret hd (.lit HX.out HXk2.out HTs2.out) HS.out
  have hd1 : 1 ≤ d := by omega
  have hd1' : (1 : Int) ≤ (d : Int) := by omega
  have hd2' : ((d : Int) == 0) = false := beq_eq_false_iff_ne.2 (by omega)
  clear hd0
  by_cases hk : k = 4
  · subst hk
    go_wp2_with fail
    refine (HIH.out hd1 HS.out).mono ?_
    rintro e w2 ⟨s2, i2, rfl, hzs2, HAs2, hS⟩
    replace HS := Lib.hid hS
    clear hS
    go_wp2_with fail
    go_ret
    exact num_ret hd (.neg HX.out (by decide) HAs2.out hd1) HS.out
  by_cases hk6 : k = 6
  · subst hk6
    clear hk
    go_wp2_with fail
    refine (n_c 4 (by omega) (by omega) HS.out).mono ?_
    rintro e w2 ⟨k2, i2, rfl, hk2, HXk2, hS⟩
    replace HS := Lib.hid hS
    clear hS
    replace HXk2 := Lib.hid HXk2
    go_wp2_with fail
    refine (itoa_s k2 (by omega) HS.out).mono ?_
    rintro e w3 ⟨s2, rfl, HTs2, hzs2, hS⟩
    replace HS := Lib.hid hS
    clear hS
    go_wp2_with fail
    refine (HIH.out hd1 HS.out).mono ?_
    rintro e w4 ⟨s3, i3, rfl, hzs3, HAs3, hS⟩
    replace HS := Lib.hid hS
    clear hS
    go_wp2_with fail
    go_ret
    exact num_ret hd (.host HX.out (by decide) HXk2.out HTs2.out HAs3.out hd1) HS.out
  by_cases hk5 : k = 5 ∧ 0 < low
  · obtain ⟨rfl, hlow⟩ := hk5
    have hlow' : (1 : Int) ≤ (low : Int) := by omega
    have hlow2 : (low : Int) ≤ 4000000000 := by omega
    have hlow3 : (0 : Int) < (low : Int) := by omega
    clear hk hk6
    go_upto_region 9 with (fail)
    have HSd := Lib.hid HS.out.dr
    clear HS
    have hwd : IntKind.i64.wrap ((d : Int) - 1) = (d : Int) - 1 := IntWalk.i64_in _ (by omega)
    go_region_held3 (fun W => W.cell? ⟨sb, 0, none⟩ = some (.pointer (some ⟨qb, 0, none⟩)) ∧ W.cell? ⟨sb, 1, none⟩ = some (.slice An ns.length cn) ∧ W.cell? ⟨sb, 3, none⟩ = some (.int .i64 low))
      (first | (with_reducible exact HSd.out.c3) | (with_reducible assumption))
      (first
        | (go_at_call 69; refine (n_c _ hlow' hlow2 HSd.out).mono ?_; rintro e w2 ⟨k2, i2, rfl, hk2, HX2, hS8⟩; have q8 := hS8.c3; have HS2 := Lib.hid hS8; replace HX2 := Lib.hid HX2; clear hS8)
        | (go_at_call 70; refine (itoa_s k2 (low_le hk2 hl1) HS2.out).mono ?_; rintro e w3 ⟨s3, rfl, HT3, hz3, hS8⟩; have q8 := hS8.c3; have HS3 := Lib.hid hS8; clear hS8; have f1 := nl_a hz3)
        | (go_at_call 72; refine (HIH.out hd1 HS4.out).mono ?_; rintro e w5 ⟨s5, i5, rfl, hz5, HA5, hS8⟩; have q8 := hS8.c3; have HS5 := Lib.hid hS8; clear hS8; have f5 := nl_c hz3 hz4 hz5)
        | (go_at_call 72; refine (HIH.out hd1 HS3.out).mono ?_; rintro e w4 ⟨s4, i4, rfl, hz4, HA4, hS8⟩; have q8 := hS8.c3; have HS4 := Lib.hid hS8; clear hS8; have f3 := nl_b hz3 hz4))
    go_wp2_with fail
    go_ret
    exact num_ret hd (.call HX.out (by decide) HX2.out HT3.out HA4.out HA5.out hd1) HS5.out
  · have e4 : ((k : Int) == 4) = false := beq_eq_false_iff_ne.2 (by omega)
    have e6 : ((k : Int) == 6) = false := beq_eq_false_iff_ne.2 (by omega)
    have hk0 : 0 < k := by omega
    have hx : ((k : Int) == 5) = false ∨ (k = 5 ∧ (low : Int) ≤ 0) := by
      rcases Nat.lt_or_ge 0 low with h | h
      · exact .inl (beq_eq_false_iff_ne.2 (by intro e; exact hk5 ⟨by omega, h⟩))
      · by_cases h5 : k = 5
        · exact .inr ⟨h5, by omega⟩
        · exact .inl (beq_eq_false_iff_ne.2 (by omega))
    clear hk5 hk6 hk
    rcases hx with e5 | ⟨e5, hl0⟩
    · skip
      go_upto_region 12 with (fail)
      have HSd := Lib.hid HS.out.dr
      clear HS
      have hwd : IntKind.i64.wrap ((d : Int) - 1) = (d : Int) - 1 := IntWalk.i64_in _ (by omega)
      go_region_held3 (fun W => W.cell? ⟨sb, 0, none⟩ = some (.pointer (some ⟨qb, 0, none⟩)) ∧ W.cell? ⟨sb, 1, none⟩ = some (.slice An ns.length cn) ∧ W.cell? ⟨sb, 3, none⟩ = some (.int .i64 low))
        (first | (with_reducible exact HSd.out.c3) | (with_reducible assumption))
        (first
          | (go_at_call 69; refine (n_c _ (by omega) (by omega) HS2.out).mono ?_; rintro e w3 ⟨k3, i3, rfl, hk3, HX3, hS8⟩; have q8 := hS8.c3; have HS3 := Lib.hid hS8; replace HX3 := Lib.hid HX3; clear hS8; have j0 := nn k3; obtain ⟨t3, ht3, hz3, HT3⟩ := bin_at k3 hk3; have f3 := nl_e hz2)
          | (go_at_call 72; refine (HIH.out hd1 HS3.out).mono ?_; rintro e w4 ⟨s4, i4, rfl, hz4, HA4, hS8⟩; have q8 := hS8.c3; have HS4 := Lib.hid hS8; clear hS8; have f4 := nl_f hz2 hz4)
          | (go_at_call 72; refine (HIH.out hd1 HSd.out).mono ?_; rintro e w2 ⟨s2, i2, rfl, hz2, HA2, hS8⟩; have q8 := hS8.c3; have HS2 := Lib.hid hS8; clear hS8; have f1 := nl_d hz2))
      all_goals
        go_wp2_with fail
        go_ret
        exact num_ret hd (.bin HX.out hk0 HA2.out HX3.out HT3.out HA4.out hd1) HS4.out
    · subst e5
      go_upto_region 12 with (fail)
      have HSd := Lib.hid HS.out.dr
      clear HS
      have hwd : IntKind.i64.wrap ((d : Int) - 1) = (d : Int) - 1 := IntWalk.i64_in _ (by omega)
      go_region_held3 (fun W => W.cell? ⟨sb, 0, none⟩ = some (.pointer (some ⟨qb, 0, none⟩)) ∧ W.cell? ⟨sb, 1, none⟩ = some (.slice An ns.length cn) ∧ W.cell? ⟨sb, 3, none⟩ = some (.int .i64 low))
        (first | (with_reducible exact HSd.out.c3) | (with_reducible assumption))
        (first
          | (go_at_call 69; refine (n_c _ (by omega) (by omega) HS2.out).mono ?_; rintro e w3 ⟨k3, i3, rfl, hk3, HX3, hS8⟩; have q8 := hS8.c3; have HS3 := Lib.hid hS8; replace HX3 := Lib.hid HX3; clear hS8; have j0 := nn k3; obtain ⟨t3, ht3, hz3, HT3⟩ := bin_at k3 hk3; have f3 := nl_e hz2)
          | (go_at_call 72; refine (HIH.out hd1 HS3.out).mono ?_; rintro e w4 ⟨s4, i4, rfl, hz4, HA4, hS8⟩; have q8 := hS8.c3; have HS4 := Lib.hid hS8; clear hS8; have f4 := nl_f hz2 hz4)
          | (go_at_call 72; refine (HIH.out hd1 HSd.out).mono ?_; rintro e w2 ⟨s2, i2, rfl, hz2, HA2, hS8⟩; have q8 := hS8.c3; have HS2 := Lib.hid hS8; clear hS8; have f1 := nl_d hz2))
      all_goals
        go_wp2_with fail
        go_ret
        exact num_ret hd (.bin HX.out hk0 HA2.out HX3.out HT3.out HA4.out hd1) HS4.out
end Go.Proofs.YtmngofgminlloaaGreatDoor
