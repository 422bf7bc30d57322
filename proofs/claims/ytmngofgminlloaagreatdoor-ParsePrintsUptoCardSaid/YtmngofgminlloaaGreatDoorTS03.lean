/-
  The reference's maker of scripts: Script2: whatever the numbers, its text is a made script's.
  Made scripts are short: at most 4000 bytes. No program in sight.
  The words of a text by its pieces. No program in sight.
  The pieces of made scripts: their texts; the scanner takes them as they stand. No program in sight.
  The scanner takes the pieces of made scripts as they stand. No program in sight.
-/
import Derived.Test.YtmngofgminlloaaGreatDoorTS02
import Derived.Test.YtmngofgminlloaaGreatDoorTT03
set_option linter.all false
namespace Go.Proofs.YtmngofgminlloaaGreatDoor
open Go.RowKit Tw

def pq : List ByteArray := [⟨#[112]⟩, ⟨#[113]⟩]
def funT (j : Nat) (g : GL) (x : GE) : ByteArray := ⟨#[102, 117, 110, 32, 102]⟩ ++ numT j ++ ⟨#[40, 112, 58, 32, 105, 110, 116, 44, 32, 113, 58, 32, 105, 110, 116, 41, 58, 32, 105, 110, 116, 32, 123, 32]⟩ ++ g.txt ++ ⟨#[114, 101, 116, 117, 114, 110, 32]⟩ ++ x.txt ++ ⟨#[59, 32, 125, 10]⟩
def funsT : Nat → List (GL × GE) → ByteArray
  | _, [] => ⟨#[]⟩
  | j, (g, x) :: r => funT j g x ++ funsT (j + 1) r
theorem funsT_snoc (g : GL) (x : GE) : ∀ (fs : List (GL × GE)) (j : Nat), funsT j (fs ++ [(g, x)]) = funsT j fs ++ funT (j + fs.length) g x := by
  intro fs
  induction fs with
  | nil => intro j; simp only [List.nil_append, funsT, app_none, none_app, List.length_nil, Nat.add_zero]
  | cons a fs ih =>
    obtain ⟨g', x'⟩ := a
    intro j
    simp only [List.cons_append, funsT, ih, ByteArray.append_assoc, List.length_cons]
    rw [show j + 1 + fs.length = j + (fs.length + 1) by omega]
/-- The functions ahead of main. -/
inductive GFuns (N : Nat) : Nat → Nat → List (GL × GE) → Nat → Nat → Prop
  | nil {i : Nat} : GFuns N 0 i [] 0 i
  | snoc {j i m1 i1 m2 i2 i3 : Nat} {fs : List (GL × GE)} {g : GL} {x : GE} : GFuns N j i fs m1 i1 → Blk N j 2 ⟨pq, m1, i1⟩ g ⟨pq, m2, i2⟩ → GNum N pq j 2 i2 x i3 → GFuns N (j + 1) i (fs ++ [(g, x)]) m2 i3
theorem GFuns.len {N j i m i' : Nat} {fs : List (GL × GE)} (h : GFuns N j i fs m i') : fs.length = j := by
  induction h with
  | nil => rfl
  | snoc _ _ _ ih => simp [ih]
def scriptT (fs : List (GL × GE)) (g : GL) (x : GE) : ByteArray := funsT 0 fs ++ ⟨#[102, 117, 110, 32, 109, 97, 105, 110, 40, 41, 58, 32, 105, 110, 116, 32, 123, 32]⟩ ++ g.txt ++ ⟨#[114, 101, 116, 117, 114, 110, 32]⟩ ++ x.txt ++ ⟨#[59, 32, 125]⟩
/-- A made script: its text is t. -/
def GScript (N : Nat) (t : ByteArray) : Prop := ∃ (k : Nat) (fs : List (GL × GE)) (g : GL) (x : GE) (i0 m1 i1 m2 i2 i3 : Nat), N ≤ 60 ∧ Nx N 3 0 k i0 ∧ GFuns N k i0 fs m1 i1 ∧ Blk N k 3 ⟨[], m1, i1⟩ g ⟨[], m2, i2⟩ ∧ GNum N [] k 2 i2 x i3 ∧ t = scriptT fs g x

/-- The text of the first functions. -/
def FunsA (N j i : Nat) (t : ByteArray) (m' i' : Nat) : Prop := ∃ fs : List (GL × GE), t = funsT 0 fs ∧ GFuns N j i fs m' i'
theorem FunsA.snoc {N j i m1 i1 m2 i2 i3 : Nat} {t a b z : ByteArray} (h : FunsA N j i t m1 i1) (hz : z = numT j) (ha : BlkA N j 2 ⟨pq, m1, i1⟩ a ⟨pq, m2, i2⟩) (hb : NumA N pq j 2 i2 b i3) :
    FunsA N (j + 1) i (t ++ (⟨#[102, 117, 110, 32, 102]⟩ ++ z ++ ⟨#[40, 112, 58, 32, 105, 110, 116, 44, 32, 113, 58, 32, 105, 110, 116, 41, 58, 32, 105, 110, 116, 32, 123, 32]⟩ ++ a ++ ⟨#[114, 101, 116, 117, 114, 110, 32]⟩ ++ b ++ ⟨#[59, 32, 125, 10]⟩)) m2 i3 := by
  obtain ⟨fs, rfl, hf⟩ := h
  obtain ⟨g, rfl, hg⟩ := ha
  obtain ⟨x, rfl, hx⟩ := hb
  subst hz
  refine ⟨_, ?_, .snoc hf hg hx⟩
  rw [funsT_snoc, hf.len, Nat.zero_add]
  rfl
theorem FunsA.script {N k i0 m1 i1 m2 i2 i3 : Nat} {t a b : ByteArray} (hN : N ≤ 60) (h0 : Nx N 3 0 k i0) (h : FunsA N k i0 t m1 i1) (ha : BlkA N k 3 ⟨[], m1, i1⟩ a ⟨[], m2, i2⟩) (hb : NumA N [] k 2 i2 b i3) :
    GScript N (t ++ ⟨#[102, 117, 110, 32, 109, 97, 105, 110, 40, 41, 58, 32, 105, 110, 116, 32, 123, 32]⟩ ++ a ++ ⟨#[114, 101, 116, 117, 114, 110, 32]⟩ ++ b ++ ⟨#[59, 32, 125]⟩) := by
  obtain ⟨fs, rfl, hf⟩ := h
  obtain ⟨g, rfl, hg⟩ := ha
  obtain ⟨x, rfl, hx⟩ := hb
  exact ⟨k, fs, g, x, i0, m1, i1, m2, i2, i3, hN, h0, hf, hg, hx, rfl⟩
theorem pq_ok : NsOk pq := by intro s hs; simp only [pq, List.mem_cons, List.mem_nil_iff, or_false] at hs; rcases hs with rfl | rfl <;> decide

set_option maxRecDepth 100000 in
theorem from_c (A : Option Addr) (n c : Nat) (w : World) : Calls Tryz.prog 68 #[.slice A n c] w fun e w' => e = .returned (.pointer (some ⟨w.heap.size, 0, none⟩)) ∧ w' = w.alloc (.cells #[.slice A n c, .int .i64 0] 209) := by
  go_enter Tryz.func68, Tryz.ntmps68
  go_wp2_with fail
  go_ret
  exact ⟨rfl, rfl⟩
theorem Sc.start {w : World} {A0 : Option Addr} {n0 c0 : Nat} (hG : Glob w) (h : ∀ j, j < n0 → ∃ g off v, A0 = some ⟨g, off, none⟩ ∧ g < w.heap.size ∧ w.cell? ⟨g, off + j, none⟩ = some (.int .i64 v)) (hn : n0 ≤ 60) :
    Sc w ((w.alloc (.cells #[.slice A0 n0 c0, .int .i64 0] 209)).alloc (.cells #[.pointer (some ⟨w.heap.size, 0, none⟩), .slice none 0 0, .int .i64 0, .int .i64 0] 144))
      ((w.alloc (.cells #[.slice A0 n0 c0, .int .i64 0] 209)).alloc (.cells #[.pointer (some ⟨w.heap.size, 0, none⟩), .slice none 0 0, .int .i64 0, .int .i64 0] 144)) (w.heap.size + 1) w.heap.size A0 n0 c0 0 none 0 [] 0 0 := by
  have hb : ∀ k, k < w.heap.size → ((w.alloc (.cells #[.slice A0 n0 c0, .int .i64 0] 209)).alloc (.cells #[.pointer (some ⟨w.heap.size, 0, none⟩), .slice none 0 0, .int .i64 0, .int .i64 0] 144)).heap[k]? = w.heap[k]? := fun k hk =>
    (heap_alloc_old _ _ (by simp; omega)).trans (heap_alloc_old w _ hk)
  have hB := ((Below.refl w.heap.size w).alloc (Nat.le_refl _) (.cells #[.slice A0 n0 c0, .int .i64 0] 209)).alloc (by simp) (.cells #[.pointer (some ⟨w.heap.size, 0, none⟩), .slice none 0 0, .int .i64 0, .int .i64 0] 144)
  refine ⟨by simpa using heap_alloc_new (w.alloc (.cells #[.slice A0 n0 c0, .int .i64 0] 209)) (.cells #[.pointer (some ⟨w.heap.size, 0, none⟩), .slice none 0 0, .int .i64 0, .int .i64 0] 144), (heap_alloc_old _ _ (by simp)).trans (heap_alloc_new w _), fun j hj => ?_, GRow.nil _ _ _ _ _, by intro s hs; simp at hs, by simp, Nat.zero_le _, hn, by omega, by omega, hG.big, by omega, by simp, hG.to hB, hB, grown_of_below (Below.refl _ _) _⟩
  obtain ⟨g, off, v, h1, h2, h3⟩ := h j hj
  exact ⟨g, off, v, h1, h2, (World.cell?_of_block (a := ⟨g, off + j, none⟩) (hb g h2)).trans h3⟩
/-- The names p, q. -/
theorem Sc.setP {w0 wv w : World} {sb qb : Nat} {A0 : Option Addr} {n0 c0 i : Nat} {An : Option Addr} {cn : Nat} {ns : List ByteArray} {made low : Nat} (h : Sc w0 wv w sb qb A0 n0 c0 i An cn ns made low) (j : Nat) (hj : j ≤ 2) {W : World} (hW : W = ((w.setCell ⟨sb, 1, none⟩ (.slice (some ⟨w.heap.size, 0, none⟩) 2 2)).setCell ⟨sb, 3, none⟩ (.int .i64 j)).alloc (.cells #[.string ⟨#[112]⟩, .string ⟨#[113]⟩] 9)) :
    Sc w0 W W sb qb A0 n0 c0 i (some ⟨w.heap.size, 0, none⟩) 2 pq made j := by
  subst hW
  have hs := h.s; have hq := h.q
  have g1 := grown_set w sb 1 (.slice (some ⟨w.heap.size, 0, none⟩) 2 2)
  have b1 := heap_setCell_same w sb 1 _ _ (.slice (some ⟨w.heap.size, 0, none⟩) 2 2) h.sblk
  have z1 : (w.setCell ⟨sb, 1, none⟩ (.slice (some ⟨w.heap.size, 0, none⟩) 2 2)).heap.size = w.heap.size := by simp
  generalize w.setCell ⟨sb, 1, none⟩ (.slice (some ⟨w.heap.size, 0, none⟩) 2 2) = w2 at g1 b1 z1 ⊢
  have g2 := grown_set w2 sb 3 (.int .i64 j)
  have b2 := heap_setCell_same w2 sb 3 _ _ (.int .i64 j) b1
  have z2 : (w2.setCell ⟨sb, 3, none⟩ (.int .i64 j)).heap.size = w2.heap.size := by simp
  generalize w2.setCell ⟨sb, 3, none⟩ (.int .i64 j) = w3 at g2 b2 z2 ⊢
  have hB := (Below.refl w3.heap.size w3).alloc (Nat.le_refl _) (.cells #[.string ⟨#[112]⟩, .string ⟨#[113]⟩] 9)
  have hn := heap_alloc_new w3 (.cells #[.string ⟨#[112]⟩, .string ⟨#[113]⟩] 9)
  rw [z2, z1] at hn
  generalize w3.alloc (.cells #[.string ⟨#[112]⟩, .string ⟨#[113]⟩] 9) = w4 at hB hn ⊢
  have hz := hB.size
  refine h.turn (by simpa [pq] using (hB.block sb (by omega)).trans b2) (fun k hk => (hB.block k (by omega)).trans ((g2.block k (by omega) (by simp; omega)).trans (g1.block k (by omega) (by simp; omega)))) (by omega) (hB.os.trans (g2.os.trans g1.os)) (hB.tape.trans (g2.tape.trans g1.tape)) (hB.output.trans (g2.output.trans g1.output)) ?_ pq_ok (by decide) h.m1 hj
  exact ⟨⟨rfl, .inr ⟨w.heap.size, 2, _, rfl, by omega, hn, by decide, by decide, rfl, rfl⟩⟩, fun a _ => trivial⟩
theorem Sc.set0 {w0 wv w : World} {sb qb : Nat} {A0 : Option Addr} {n0 c0 i : Nat} {An : Option Addr} {cn : Nat} {ns : List ByteArray} {made low : Nat} (h : Sc w0 wv w sb qb A0 n0 c0 i An cn ns made low) (j : Nat) (hj : j ≤ 2) {W : World} (hW : W = (w.setCell ⟨sb, 1, none⟩ (.slice none 0 0)).setCell ⟨sb, 3, none⟩ (.int .i64 j)) :
    Sc w0 W W sb qb A0 n0 c0 i none 0 [] made j := by
  subst hW
  have hs := h.s; have hq := h.q
  have g1 := grown_set w sb 1 (.slice none 0 0)
  have b1 := heap_setCell_same w sb 1 _ _ (.slice none 0 0) h.sblk
  generalize w.setCell ⟨sb, 1, none⟩ (.slice none 0 0) = w2 at g1 b1 ⊢
  have g2 := grown_set w2 sb 3 (.int .i64 j)
  have b2 := heap_setCell_same w2 sb 3 _ _ (.int .i64 j) b1
  generalize w2.setCell ⟨sb, 3, none⟩ (.int .i64 j) = w3 at g2 b2 ⊢
  have hz2 := g1.size
  exact h.turn (by simpa using b2) (fun k hk => (g2.block k (by omega) (by simp; omega)).trans (g1.block k (by omega) (by simp; omega))) (by have := g2.size; omega) (g2.os.trans g1.os) (g2.tape.trans g1.tape) (g2.output.trans g1.output) (GRow.nil _ _ _ _ _) (by intro s hs; simp at hs) (by decide) h.m1 hj

theorem Sc.frz3 {w0 wv w : World} {sb qb : Nat} {A0 : Option Addr} {n0 c0 i : Nat} {An : Option Addr} {cn : Nat} {ns : List ByteArray} {made low : Nat} (h : Sc w0 wv w sb qb A0 n0 c0 i An cn ns made low) : w.frozen? ⟨sb, 3, none⟩ = false := Lib.frozen_of_heap h.sblk 3
theorem both_all : ∀ d : Nat, d ≤ 3 → MStmtC d ∧ MStmtsC d := by
  intro d
  induction d with
  | zero =>
    intro h
    have this : MStmtC 0 := stmt_step 0 h (by omega)
    exact ⟨this, stmts_step 0 h this⟩
  | succ d ih =>
    intro h
    have this : MStmtC (d + 1) := stmt_step (d + 1) h (fun _ => (ih (by omega)).2)
    exact ⟨this, stmts_step (d + 1) h this⟩
theorem stmts_all (d : Nat) (h : d ≤ 3) : MStmtsC d := (both_all d h).2

/-- The loop's state behind kk functions. -/
def LoopF (w0 : World) (sb qb : Nat) (A0 : Option Addr) (n0 c0 i0 kk : Nat) (t : ByteArray) (W : World) : Prop :=
  ∃ (ns : List ByteArray) (m' i' : Nat) (An' : Option Addr) (cn' low : Nat), FunsA n0 kk i0 t m' i' ∧ t.size ≤ kk * 3900000 ∧ m' ≤ kk * 129 ∧ Sc w0 W W sb qb A0 n0 c0 i' An' cn' ns m' low

set_option maxRecDepth 100000 in
set_option maxHeartbeats 16000000 in
/-- Script2 of numbers that lie in memory. -/
theorem script2_c (A : Option Addr) (n c : Nat) (w : World) (hG : Glob w) (hnc : n ≤ c) (h : ∀ j, j < n → ∃ g off v, A = some ⟨g, off, none⟩ ∧ g < w.heap.size ∧ w.cell? ⟨g, off + j, none⟩ = some (.int .i64 v)) :
    Calls Tryz.prog 19 #[.slice A n c] w fun e w' => ∃ (t : ByteArray) (N : Nat), e = .returned (.string t) ∧ t.size ≤ 12000000 ∧ Hid (GScript N t) ∧ Below w.heap.size w w' := by
  obtain ⟨N, hN⟩ : ∃ N, N = min n 60 := ⟨_, rfl⟩
  have hN60 : N ≤ 60 := by omega
  have hNn : N ≤ n := by omega
  have HST := Lib.hid (Sc.start (c0 := c) (n0 := N) hG (fun j hj => h j (by omega)) hN60)
  have HS3 : Hid (∀ {w0 wv w : World} {sb qb : Nat} {A0 : Option Addr} {n0 c0 i : Nat} {An : Option Addr} {cn : Nat} {ns : List ByteArray} {made low : Nat}, Sc w0 wv w sb qb A0 n0 c0 i An cn ns made low → made + mkB 3 ≤ 900000 → ns.length + 3 * (3 + 1) ≤ 90 → Calls Tryz.prog 71 #[.pointer (some ⟨sb, 0, none⟩), .int .i64 3] w (MStmtsR w0 sb qb A0 n0 c0 ns made low 3 i)) := Lib.hid (stmts_all 3 (by decide))
  have HS2 : Hid (∀ {w0 wv w : World} {sb qb : Nat} {A0 : Option Addr} {n0 c0 i : Nat} {An : Option Addr} {cn : Nat} {ns : List ByteArray} {made low : Nat}, Sc w0 wv w sb qb A0 n0 c0 i An cn ns made low → made + mkB 2 ≤ 900000 → ns.length + 3 * (2 + 1) ≤ 90 → Calls Tryz.prog 71 #[.pointer (some ⟨sb, 0, none⟩), .int .i64 2] w (MStmtsR w0 sb qb A0 n0 c0 ns made low 2 i)) := Lib.hid (stmts_all 2 (by decide))
  have HN : Hid (∀ {w0 wv w : World} {sb qb : Nat} {A0 : Option Addr} {n0 c0 i : Nat} {An : Option Addr} {cn : Nat} {ns : List ByteArray} {made low : Nat}, Sc w0 wv w sb qb A0 n0 c0 i An cn ns made low → Calls Tryz.prog 72 #[.pointer (some ⟨sb, 0, none⟩), .int .i64 2] w (NumR w0 wv sb qb A0 n0 c0 An cn ns made low 2 i)) := Lib.hid (num_all 2 (by decide))
  have e60 : n ≤ 60 ∧ N = n ∨ 60 < n ∧ N = 60 := by omega
  have HE := Lib.hid e60
  clear h hN e60 hG
  go_enter Tryz.func19, Tryz.ntmps19
  go_upto_region 1 with (fail)
  go_cut [3] (fun v W => v = .pointer (some ⟨w.heap.size + 1, 0, none⟩) ∧ Hid (Sc w W W (w.heap.size + 1) w.heap.size A N c 0 none 0 [] 0 0))
  case first =>
    have HMN : Hid ((min (n : Int) 60).toNat = N) := Lib.hid (by have := HE.out; omega)
    have h2 : (n : Int) ≤ (c : Int) := by omega
    have h3 : (0 : Int) ≤ (n : Int) := by omega
    have h4 : (0 : Int) ≤ min (n : Int) 60 := by omega
    have h5 : min (n : Int) 60 ≤ (c : Int) := by omega
    go_wp2_with (go_at_call 68; refine (from_c _ _ _ _).mono ?_; rintro e w' ⟨rfl, rfl⟩)
    go_meet
    case rel =>
      refine ⟨rfl, ?_⟩
      rw [HMN.out]
      exact HST
  case rest =>
    obtain ⟨rfl, HS⟩ := hcut
    clear HST HE hnc hNn
    have hqz : 10 < w.heap.size := HS.out.b0
    generalize hsb : w.heap.size + 1 = sb at HS
    obtain ⟨c0', c1, c2, c3⟩ := HS.out.c0
    go_wp2_with fail
    refine (n_c 3 (by decide) (by decide) HS.out).mono ?_
    rintro e w1 ⟨k, i0, rfl, hk1, HX, hS⟩
    replace HX := Lib.hid HX
    replace HS := Lib.hid hS.reb
    clear hS c0' c1 c2 c3
    have hk2 : k ≤ 2 := by omega
    go_wp2_with fail
    go_loopw [5, 21] (fun o j wr => ∃ (kk : Nat) (t : ByteArray), o = .string t ∧ j = .int .i64 kk ∧ kk ≤ k ∧ Hid (LoopF w sb w.heap.size A N c i0 kk t wr))
      (fun _ j _ => (4 - intOf j).toNat)
    case atStart => exact ⟨0, ⟨#[]⟩, rfl, rfl, Nat.zero_le _, Lib.hid ⟨[], 0, i0, none, 0, 0, ⟨[], rfl, .nil⟩, by simp [ByteArray.size], by simp, HS.out⟩⟩
    case round =>
      obtain ⟨kk, t, rfl, rfl, hkj, HLS⟩ := hrel
      obtain ⟨ns', m', i', An', cn', low', hA, htz, hmz, hS⟩ := HLS.out
      have HA := Lib.hid hA
      have HS' := Lib.hid hS
      clear hA hS HLS HS
      by_cases hlt : kk < k
      · have hlt' : (kk : Int) < (k : Int) := by omega
        have ht2 : t.size ≤ 7800000 := by have := Nat.mul_le_mul_right 3900000 (show kk ≤ 2 by omega); omega
        have hm2 : m' ≤ 258 := by have := Nat.mul_le_mul_right 129 (show kk ≤ 2 by omega); omega
        have HTZ := Lib.hid (And.intro htz hmz)
        clear htz hmz
        obtain ⟨d0, d1, d2, d3⟩ := HS'.out.c0
        obtain ⟨q1, q2⟩ := HS'.out.frz
        have q3 := HS'.out.frz3
        have hs := HS'.out.s
        go_upto_region 8 with (fail)
        have HP := Lib.hid (HS'.out.setP kk (by omega) rfl)
        clear d0 d1 d2 d3 q1 q2 q3 hs HS'
        generalize ((wr.setCell _ _).setCell _ _).alloc _ = w2 at HP ⊢
        generalize wr.heap.size = gp at HP ⊢
        go_wp2_with fail
        refine (itoa_s kk (by omega) HP.out).mono ?_
        rintro e w3 ⟨s3, rfl, HT3, hz3, hS⟩
        replace HP := Lib.hid hS
        clear hS
        go_wp2_with fail
        refine (HS2.out HP.out (by have : mkB 2 = 129 := rfl; omega) (by decide)).mono ?_
        rintro e w4 ⟨s4, m4, i4, An4, cn4, rfl, hz4, hm4, HA4, hS⟩
        replace HP := Lib.hid hS
        have HM4 := Lib.hid hm4
        clear hS hm4
        go_wp2_with fail
        refine (HN.out HP.out).mono ?_
        rintro e w5 ⟨s5, i5, rfl, hz5, HA5, hS⟩
        replace HP := Lib.hid hS.reb
        clear hS
        have HLS : Hid (LoopF w sb w.heap.size A N c i0 (kk + 1) (t ++ (⟨#[102, 117, 110, 32, 102]⟩ ++ s3 ++ ⟨#[40, 112, 58, 32, 105, 110, 116, 44, 32, 113, 58, 32, 105, 110, 116, 41, 58, 32, 105, 110, 116, 32, 123, 32]⟩ ++ s4 ++ ⟨#[114, 101, 116, 117, 114, 110, 32]⟩ ++ s5 ++ ⟨#[59, 32, 125, 10]⟩)) w5) :=
          Lib.hid ⟨pq, m4, i5, An4, cn4, kk, HA.out.snoc HT3.out HA4.out HA5.out, by
            have := HTZ.out.1
            simp only [ByteArray.size_append, sz_mk, List.size_toArray, List.length_cons, List.length_nil]
            omega, by have := HTZ.out.2; have := HM4.out; have : mkB 2 = 129 := rfl; omega, HP.out⟩
        go_wp2_with fail
        go_roundw
        case rel => exact ⟨kk + 1, _, rfl, by go_num, hlt, HLS⟩
        case measure => simp [intOf]; omega
      · obtain rfl : kk = k := by omega
        have ht2 : t.size ≤ 7800000 := by have := Nat.mul_le_mul_right 3900000 (show kk ≤ 2 by omega); omega
        have hm2 : m' ≤ 258 := by have := Nat.mul_le_mul_right 129 (show kk ≤ 2 by omega); omega
        clear htz hmz
        obtain ⟨d0, d1, d2, d3⟩ := HS'.out.c0
        obtain ⟨q1, q2⟩ := HS'.out.frz
        have q3 := HS'.out.frz3
        go_upto_region 11 with (fail)
        have HP := Lib.hid (HS'.out.set0 kk hk2 rfl)
        clear d0 d1 d2 d3 q1 q2 q3 HS'
        generalize (wr.setCell _ _).setCell _ _ = w2 at HP ⊢
        go_wp2_with fail
        refine (HS3.out HP.out (by have : mkB 3 = 777 := rfl; omega) (by decide)).mono ?_
        rintro e w4 ⟨s4, m4, i4, An4, cn4, rfl, hz4, hm4, HA4, hS⟩
        replace HP := Lib.hid hS
        clear hS hm4
        go_wp2_with fail
        refine (HN.out HP.out).mono ?_
        rintro e w5 ⟨s5, i5, rfl, hz5, HA5, hS⟩
        replace HP := Lib.hid hS.reb
        clear hS
        go_wp2_with fail
        go_ret
        refine ⟨_, N, rfl, ?_, Lib.hid (FunsA.script hN60 HX.out HA.out HA4.out HA5.out), HP.out.bel⟩
        simp only [ByteArray.size_append, sz_mk, List.size_toArray, List.length_cons, List.length_nil]
        omega
end Go.Proofs.YtmngofgminlloaaGreatDoor

namespace Go.Proofs.YtmngofgminlloaaGreatDoor
open Go.RowKit Tw

theorem nDigits_le (k : Nat) : ∀ u : Nat, u < 10 ^ (k + 1) → Lib.nDigits u ≤ k + 1 := by
  induction k with
  | zero => intro u h; rw [Lib.nDigits_small (by simpa using h)]; omega
  | succ k ih =>
    intro u h
    by_cases h10 : u < 10
    · rw [Lib.nDigits_small h10]; omega
    · rw [Lib.nDigits_big h10]
      have := ih (u / 10) (by rw [Nat.pow_succ] at h; omega)
      omega
theorem numT_len (n : Nat) : (numT n).size = Lib.nDigits n := by
  have : (Lib.itoa (n : Int)) = Lib.decDigits n := by unfold Lib.itoa; rw [if_neg (by omega)]; simp
  unfold numT
  rw [this]
  show (Lib.decDigits n).toArray.size = _
  rw [List.size_toArray, Lib.decDigits_length]
theorem numT_le (k n : Nat) (h : n < 10 ^ (k + 1)) : (numT n).size ≤ k + 1 := by rw [numT_len]; exact nDigits_le k n h
def NsS (ns : List ByteArray) : Prop := ∀ s ∈ ns, s.size ≤ 5
theorem Nx.le {N n i k i' : Nat} (h : Nx N n i k i') : i ≤ i' ∧ i' ≤ N ∧ i ≤ N := by
  rcases h.2 with h | h <;> omega
theorem GNum.sz {N : Nat} {ns : List ByteArray} {low d i i' : Nat} {x : GE} (hns : NsS ns) (hl : low ≤ 2) (h : GNum N ns low d i x i') : i ≤ i' ∧ i' ≤ N ∧ x.txt.size ≤ 5 + 20 * (i' - i) := by
  have hb : ∀ o, (binT o).size = 1 := by intro o; unfold binT; split <;> rfl
  induction h with
  | var h1 h2 hs => have := hns _ (List.mem_of_getElem? hs); have := h1.le; have := h2.le; simp only [GE.txt]; omega
  | @lit d i i1 i2 k n h1 h => have := numT_le 1 n (by have := h.1; omega); have := h1.le; have := h.le; simp only [GE.txt]; omega
  | neg h1 _ ih => simp only [GE.txt, ByteArray.size_append, sz_mk, List.size_toArray, List.length_cons, List.length_nil]; omega
  | @call d i i2 i3 i4 f x y h1 hf _ _ ih1 ih2 =>
    have := numT_le 0 f (by have := hf.1; omega)
    have := hf.le
    simp only [GE.txt, ByteArray.size_append, sz_mk, List.size_toArray, List.length_cons, List.length_nil]; omega
  | @host d i i2 i3 k x h1 hf _ ih =>
    have := numT_le 0 k (by have := hf.1; omega)
    have := hf.le
    simp only [GE.txt, ByteArray.size_append, sz_mk, List.size_toArray, List.length_cons, List.length_nil]; omega
  | @bin d i i2 i3 i4 o x y h1 _ ho _ ih1 ih2 =>
    have := ho.le
    simp only [GE.txt, ByteArray.size_append, hb, sz_mk, List.size_toArray, List.length_cons, List.length_nil]; omega
theorem GFlag.sz {N : Nat} {ns : List ByteArray} {low d i i' : Nat} {x : GE} (hns : NsS ns) (hl : low ≤ 2) (hd : d ≤ 2) (h : GFlag N ns low d i x i') : i ≤ i' ∧ i' ≤ N ∧ x.txt.size ≤ 14 + 3 * d + 20 * (i' - i) := by
  have hc : ∀ o, (cmpT o).size ≤ 4 := by intro o; unfold cmpT; split <;> decide
  have ht : ∀ o, (tfT o).size ≤ 5 := by intro o; unfold tfT; split <;> decide
  induction h with
  | @not d _ _ _ _ _ h1 _ ih => have := h1.le; have := ih (by omega); simp only [GE.txt, ByteArray.size_append, sz_mk, List.size_toArray, List.length_cons, List.length_nil]; omega
  | @and d _ _ _ _ _ _ _ _ ih1 ih2 => have := ih1 (by omega); have := ih2 (by omega); simp only [GE.txt, ByteArray.size_append, sz_mk, List.size_toArray, List.length_cons, List.length_nil]; omega
  | @or d _ _ _ _ _ _ _ _ ih1 ih2 => have := ih1 (by omega); have := ih2 (by omega); simp only [GE.txt, ByteArray.size_append, sz_mk, List.size_toArray, List.length_cons, List.length_nil]; omega
  | @tf d _ _ k _ h2 => have := ht k; have := h2.le; simp only [GE.txt]; omega
  | @cmp d i i1 i2 i3 i4 k o x y h0 h1 ho h2 => have := h0.le; have := h1.sz hns hl; have := ho.le; have := h2.sz hns hl; have := hc o; simp only [GE.txt, ByteArray.size_append]; omega
/-- What a step keeps, told by the numbers that it took. -/
def SzB (N Z : Nat) (s : Ms) (g : GL) (s' : Ms) : Prop := s.m ≤ s'.m ∧ (NsS s.ns → s'.m ≤ 9998 → s.i ≤ s'.i ∧ s'.i ≤ N ∧ g.txt.size ≤ Z + 60 * (s'.i - s.i) ∧ NsS s'.ns)
theorem vT_le (m : Nat) (h : m ≤ 9998) : (vT m).size ≤ 5 := by
  have := numT_le 3 m (by omega); simp only [vT, ByteArray.size_append, sz_mk, List.size_toArray, List.length_cons, List.length_nil]; omega
theorem iT_le (m : Nat) (h : m ≤ 9998) : (iT m).size ≤ 5 := by
  have := numT_le 3 m (by omega); simp only [iT, ByteArray.size_append, sz_mk, List.size_toArray, List.length_cons, List.length_nil]; omega
theorem Stm.sz {N low : Nat} {B : Ms → GL → Ms → Prop} (hl : low ≤ 2) (hB : ∀ s g s', B s g s' → SzB N 0 s g s' ∧ s'.ns = s.ns) {s : Ms} {g : GL} {s' : Ms} (h : Stm N low B s g s') : SzB N 20 s g s' := by
  refine ⟨?_, ?_⟩
  · cases h with
    | ite _ _ ha hb => have h1 := (hB _ _ _ ha).1.1; have h2 := (hB _ _ _ hb).1.1; exact Nat.le_trans h1 h2
    | loop _ _ hb => have h1 := (hB _ _ _ hb).1.1; simp only at h1 ⊢; omega
    | bind _ _ => exact Nat.le_succ _
    | _ => exact Nat.le_refl _
  cases h with
  | @set ns m i i1 i2 i3 j s x h0 h1 hs hx =>
    intro hn hm
    have := hn _ (List.mem_of_getElem? hs)
    have := h0.le; have := h1.le
    have := hx.sz hn hl
    refine ⟨by simp only; omega, by simp only; omega, ?_, hn⟩
    simp only [GL.txt, ByteArray.size_append, sz_mk, List.size_toArray, List.length_cons, List.length_nil]; omega
  | @yield ns m i i2 x h0 hx =>
    intro hn hm
    have := hx.sz hn hl
    refine ⟨by simp only; omega, by simp only; omega, ?_, hn⟩
    simp only [GL.txt, ByteArray.size_append, sz_mk, List.size_toArray, List.length_cons, List.length_nil]; omega
  | @ite ns m i i2 c a b s1 s2 h0 hc ha hb =>
    intro hn hm
    have := hc.sz hn hl (by decide)
    obtain ⟨h1, h2⟩ := hB _ _ _ ha
    obtain ⟨h3, h4⟩ := hB _ _ _ hb
    obtain ⟨b1, b2, b4, b5⟩ := h3.2 (by rw [h2]; exact hn) hm
    obtain ⟨a1, a2, a4, a5⟩ := h1.2 hn (by have := h3.1; omega)
    simp only at a1 a4
    refine ⟨by simp only; omega, b2, ?_, b5⟩
    simp only [GL.txt, ByteArray.size_append, sz_mk, List.size_toArray, List.length_cons, List.length_nil]; omega
  | @loop ns m i i2 n l s2 h0 hk hl' =>
    intro hn hm
    obtain ⟨h1, h2⟩ := hB _ _ _ hl'
    obtain ⟨a1, a2, a4, a5⟩ := h1.2 hn hm
    have a3 := h1.1
    simp only at a1 a3 a4
    have := iT_le (m + 1) (by omega)
    have := numT_le 0 n (by have := hk.1; omega)
    have := hk.le
    refine ⟨by simp only; omega, a2, ?_, a5⟩
    simp only [GL.txt, ByteArray.size_append, sz_mk, List.size_toArray, List.length_cons, List.length_nil]; omega
  | @run ns m i i2 x h0 hx =>
    intro hn hm
    have := hx.sz hn hl
    refine ⟨by simp only; omega, by simp only; omega, ?_, hn⟩
    simp only [GL.txt, ByteArray.size_append, sz_mk, List.size_toArray, List.length_cons, List.length_nil]; omega
  | @ret ns m i i2 i3 k x h0 h1 hx =>
    intro hn hm
    have := h1.le
    have := hx.sz hn hl
    refine ⟨by simp only; omega, by simp only; omega, ?_, hn⟩
    simp only [GL.txt, ByteArray.size_append, sz_mk, List.size_toArray, List.length_cons, List.length_nil]; omega
  | @bind ns m i i1 i2 x h0 hx =>
    intro hn hm
    have := hx.sz hn hl
    have := vT_le (m + 1) hm
    refine ⟨by simp only; omega, by simp only; omega, ?_, ?_⟩
    · simp only [GL.txt, ByteArray.size_append, sz_mk, List.size_toArray, List.length_cons, List.length_nil]; omega
    · intro s hs
      rcases List.mem_append.1 hs with h | h
      · exact hn s h
      · simp at h; subst h; assumption
theorem Run.sz {N : Nat} {S : Ms → GL → Ms → Prop} (hS : ∀ s g s', S s g s' → SzB N 20 s g s') {j : Nat} {s : Ms} {g : GL} {s' : Ms} (h : Run S j s g s') : s.m ≤ s'.m ∧ (NsS s.ns → s.i ≤ N → s'.m ≤ 9998 → s.i ≤ s'.i ∧ s'.i ≤ N ∧ g.txt.size ≤ 20 * j + 60 * (s'.i - s.i) ∧ NsS s'.ns) := by
  induction h with
  | nil => exact ⟨Nat.le_refl _, fun hn hi _ => ⟨Nat.le_refl _, hi, by simp [GL.txt, ByteArray.size], hn⟩⟩
  | @snoc j s s1 s2 g x h1 h2 ih =>
    have h3 := hS _ _ _ h2
    refine ⟨Nat.le_trans ih.1 h3.1, fun hn hi hm => ?_⟩
    obtain ⟨a1, a2, a3, a4⟩ := ih.2 hn hi (by have := h3.1; omega)
    obtain ⟨b1, b2, b3, b4⟩ := h3.2 a4 hm
    refine ⟨by omega, b2, ?_, b4⟩
    rw [GL.txt_app, ByteArray.size_append]; omega
theorem BlkOf.sz {N : Nat} {S : Ms → GL → Ms → Prop} (hS : ∀ s g s', S s g s' → SzB N 20 s g s') {s : Ms} {g : GL} {s' : Ms} (h : BlkOf N S s g s') : SzB N 0 s g s' ∧ s'.ns = s.ns := by
  obtain ⟨j, i1, s2, hj, hr, rfl⟩ := h
  have h0 := hr.sz hS
  refine ⟨⟨h0.1, fun hn hm => ?_⟩, rfl⟩
  have hle := hj.le
  obtain ⟨a1, a2, a3, a4⟩ := h0.2 hn hle.2.1 hm
  simp only at a1 a2 a3 hm ⊢
  refine ⟨by omega, a2, ?_, hn⟩
  have hj3 : j ≤ 3 := by have := hj.1; omega
  rcases hj.2 with ⟨h1, h2⟩ | ⟨h1, h2, h3⟩
  · omega
  · subst h3; omega
theorem Blk.sz {N low : Nat} (hl : low ≤ 2) : ∀ (d : Nat) (s : Ms) (g : GL) (s' : Ms), Blk N low d s g s' → SzB N 0 s g s' ∧ s'.ns = s.ns := by
  intro d
  induction d with
  | zero => intro s g s' h; exact BlkOf.sz (fun s g s' h => Stm.sz hl (fun _ _ _ h => h.elim) h) h
  | succ d ih => intro s g s' h; exact BlkOf.sz (fun s g s' h => Stm.sz hl ih h) h
theorem GFuns.mono {N j i m i' : Nat} {fs : List (GL × GE)} (hj : j ≤ 2) (hi : i ≤ N) (h : GFuns N j i fs m i') : m ≤ 129 * j ∧ i ≤ i' ∧ i' ≤ N ∧ (funsT 0 fs).size ≤ 60 * j + 60 * (i' - i) := by
  induction h with
  | nil => exact ⟨by simp, Nat.le_refl _, hi, by simp [funsT, ByteArray.size]⟩
  | @snoc j i m1 i1 m2 i2 i3 fs g x h1 h2 h3 ih =>
    obtain ⟨a1, a2, a3, a4⟩ := ih (by omega) hi
    have hb := (Blk.bound (low := j) (by omega) 2 _ _ _ h2).1 pq_ok (by simp only; have : mkB 2 = 129 := rfl; omega)
    have hs := (Blk.sz (low := j) (by omega) 2 _ _ _ h2).1.2 (by intro s hs; simp only [pq, List.mem_cons, List.mem_nil_iff, or_false] at hs; rcases hs with rfl | rfl <;> decide) (by have := hb.2.1; simp only at this ⊢; have : mkB 2 = 129 := rfl; omega)
    have hx := h3.sz (by intro s hs; simp only [pq, List.mem_cons, List.mem_nil_iff, or_false] at hs; rcases hs with rfl | rfl <;> decide) (by omega)
    have hm := hb.2.1
    simp only at hs hm
    have : mkB 2 = 129 := rfl
    have hz := numT_le 0 j (by omega)
    refine ⟨by omega, by omega, by omega, ?_⟩
    rw [funsT_snoc, h1.len]
    simp only [funT, Nat.zero_add, ByteArray.size_append, sz_mk, List.size_toArray, List.length_cons, List.length_nil]
    omega
/-- A made script has at most 4000 bytes. -/
theorem GScript.short {N : Nat} {t : ByteArray} (h : GScript N t) : t.size ≤ 4000 := by
  obtain ⟨k, fs, g, x, i0, m1, i1, m2, i2, i3, hN, h0, hf, hg, hx, rfl⟩ := h
  have hk : k ≤ 2 := by have := h0.1; omega
  have hi := h0.le
  obtain ⟨a1, a2, a3, a4⟩ := hf.mono hk hi.2.1
  have hb := (Blk.bound (low := k) hk 3 _ _ _ hg).1 (by intro s hs; simp at hs) (by simp only; have : mkB 3 = 777 := rfl; omega)
  have hm := hb.2.1
  simp only at hm
  have : mkB 3 = 777 := rfl
  have hs := (Blk.sz (low := k) hk 3 _ _ _ hg).1.2 (by intro s hs; simp at hs) (by simp only; omega)
  have hx' := hx.sz (by intro s hs; simp at hs) hk
  simp only at hs
  simp only [scriptT, ByteArray.size_append, sz_mk, List.size_toArray, List.length_cons, List.length_nil]
  omega
end Go.Proofs.YtmngofgminlloaaGreatDoor

namespace Go.Proofs.YtmngofgminlloaaGreatDoor
open Go.RowKit Tw

/-- The words of a rest of a text that begins at k. -/
inductive Scan : Bs → Nat → List Wd → Prop
  | nil {k : Nat} : Scan [] k []
  | sp {c : UInt8} {l : Bs} {k : Nat} {ws : List Wd} : isSp c = true → Scan l (k + 1) ws → Scan (c :: l) k ws
  | word {w l : Bs} {k c : Nat} {ws : List Wd} : Tw.tok (w ++ l) = .word c w.length → 0 < w.length → Scan l (k + w.length) ws → Scan (w ++ l) k (⟨c, ⟨w.toArray⟩, k⟩ :: ws)
theorem ext_take {s : ByteArray} {k n : Nat} {w l : Bs} (h : s.data.toList.drop k = w ++ l) (hn : w.length = n) : s.extract k (k + n) = ⟨w.toArray⟩ := by
  apply ByteArray.ext
  rw [ByteArray.data_extract]
  apply Array.toList_inj.1
  rw [Array.toList_extract]
  simp only [List.extract_eq_take_drop]
  rw [h, show k + n - k = n by omega, ← hn, List.take_left]
theorem Scan.lex {s : ByteArray} {l : Bs} {k : Nat} {ws : List Wd} (h : Scan l k ws) : s.data.toList.drop k = l → k ≤ s.size → ∀ acc, Lex s k acc (none, acc ++ ws) := by
  have hsz : s.data.toList.length = s.size := by rw [Array.length_toList]; rfl
  induction h with
  | nil =>
    intro hd hk acc
    rw [List.append_nil]
    have : s.data.toList.length ≤ _ := List.drop_eq_nil_iff.1 hd
    exact .done (by omega)
  | @sp c l k ws hc _ ih =>
    intro hd hk acc
    have hlt : k < s.size := by
      rcases Nat.lt_or_ge k s.size with h | h
      · exact h
      · rw [List.drop_eq_nil_iff.2 (by omega)] at hd; cases hd
    refine .skip hlt (n := 1) (by rw [hd]; simp [Tw.tok, hc]) (ih ?_ (by omega) acc)
    rw [← List.drop_drop, hd]; rfl
  | @word w l k c ws ht hw _ ih =>
    intro hd hk acc
    have hlen : (s.data.toList.drop k).length = w.length + l.length := by rw [hd, List.length_append]
    rw [List.length_drop] at hlen
    have hlt : k < s.size := by omega
    have h2 := ih (by rw [← List.drop_drop, hd, List.drop_left]) (by omega) (acc ++ [⟨c, ⟨w.toArray⟩, k⟩])
    rw [List.append_assoc] at h2
    refine .word hlt (n := w.length) (k := c) (by rw [hd]; exact ht) ?_
    rw [ext_take hd rfl]
    exact h2
theorem Scan.whole {s : ByteArray} {ws : List Wd} (h : Scan s.data.toList 0 ws) : Lex s 0 [] (none, ws) := by
  have := h.lex (s := s) rfl (Nat.zero_le _) []
  simpa using this

/-- What must not stand behind a word of letters and digits. -/
def NotA (l : Bs) : Prop := ∀ c, l.head? = some c → isA c = false
theorem run_word {w l : Bs} (hw : ∀ c ∈ w, isA c = true) (hl : NotA l) : runLen isA (w ++ l) = w.length := by
  unfold runLen
  rw [List.takeWhile_append_of_pos hw]
  cases l with
  | nil => simp
  | cons c l => have := hl c rfl; simp [this]
theorem take_word {w l : Bs} : (w ++ l).take w.length = w := List.take_left
theorem isA_parts {c : UInt8} (h : isA c = true) : isSp c = false ∧ (c == 35) = false := by
  simp only [isA, isD, isL, isSp, Bool.or_eq_true, Bool.and_eq_true, decide_eq_true_eq] at h ⊢
  refine ⟨?_, beq_eq_false_iff_ne.2 ?_⟩
  · simp; omega
  · intro e; subst e; revert h; decide
/-- A name. -/
theorem tok_name {w l : Bs} (h : isName w = true) (hl : NotA l) : Tw.tok (w ++ l) = .word 2 w.length := by
  simp only [isName, Bool.and_eq_true, decide_eq_true_eq, Bool.not_eq_true', List.all_eq_true] at h
  obtain ⟨⟨⟨⟨h1, h2⟩, h3⟩, h4⟩, h5⟩ := h
  cases w with
  | nil => simp at h1
  | cons c w =>
    have hc := h5 c (List.mem_cons_self ..)
    obtain ⟨hs, hh⟩ := isA_parts hc
    have hL : isL c = true := h3
    have hD : isD c = false := by
      simp only [isL, isD, Bool.or_eq_true, Bool.and_eq_true, decide_eq_true_eq] at hL ⊢
      simp; omega
    have hr := run_word h5 hl
    have ht := take_word (w := c :: w) (l := l)
    unfold Tw.tok
    simp only [List.cons_append, List.headD_cons] at hr ht ⊢
    simp only [hs, hh, hD, hL, hr, ht, h4, Bool.false_eq_true, if_false, if_true]
    rw [if_neg (by simp only [decide_eq_true_eq]; omega)]
/-- A key word. -/
theorem tok_key {w l : Bs} (h : w ∈ keyTexts) (hl : NotA l) : Tw.tok (w ++ l) = .word 3 w.length := by
  have hall : ∀ c ∈ w, isA c = true := by
    have : keyTexts.all (fun w => w.all isA) = true := by decide
    exact fun c hc => List.all_eq_true.1 (List.all_eq_true.1 this w h) c hc
  have hne : w ≠ [] ∧ isL (w.headD 0) = true := by
    have : keyTexts.all (fun w => !w.isEmpty && isL (w.headD 0)) = true := by decide
    have := List.all_eq_true.1 this w h
    simp at this
    exact ⟨this.1, by simpa using this.2⟩
  have hk : isKey w = true := by unfold isKey; exact List.contains_iff_mem.2 h
  cases w with
  | nil => exact absurd rfl hne.1
  | cons c w =>
    have hc := hall c (List.mem_cons_self ..)
    obtain ⟨hs, hh⟩ := isA_parts hc
    have hL : isL c = true := hne.2
    have hD : isD c = false := by
      simp only [isL, isD, Bool.or_eq_true, Bool.and_eq_true, decide_eq_true_eq] at hL ⊢
      simp; omega
    have hr := run_word hall hl
    have ht := take_word (w := c :: w) (l := l)
    unfold Tw.tok
    simp only [List.cons_append, List.headD_cons] at hr ht ⊢
    simp only [hs, hh, hD, hL, hr, ht, hk, Bool.false_eq_true, if_false, if_true]
/-- A numeral. -/
theorem tok_numeral {w l : Bs} (h : isNum w = true) (h0 : w ≠ []) (hl : NotA l) : Tw.tok (w ++ l) = .word 1 w.length := by
  have h5 : ∀ c ∈ w, isD c = true := by
    simp only [isNum, Bool.and_eq_true, List.all_eq_true] at h
    exact h.2
  have hall : ∀ c ∈ w, isA c = true := fun c hc => by simp [isA, h5 c hc]
  cases w with
  | nil => exact absurd rfl h0
  | cons c w =>
    have hc := hall c (List.mem_cons_self ..)
    obtain ⟨hs, hh⟩ := isA_parts hc
    have hD := h5 c (List.mem_cons_self ..)
    have hr := run_word hall hl
    have ht := take_word (w := c :: w) (l := l)
    unfold Tw.tok
    simp only [List.cons_append, List.headD_cons] at hr ht ⊢
    simp only [hs, hh, hD, hr, ht, h, Bool.false_eq_true, if_false, if_true]
/-- A sign of one byte that begins no longer one. -/
theorem tok_one {c : UInt8} {l : Bs} (h : c ∈ ([40, 41, 123, 125, 44, 59, 58, 64, 43, 45, 42, 47, 37] : Bs)) : Tw.tok (c :: l) = .word 4 1 := by
  have hs : ∀ c ∈ ([40, 41, 123, 125, 44, 59, 58, 64, 43, 45, 42, 47, 37] : Bs), isSp c = false ∧ (c == 35) = false ∧ isD c = false ∧ isL c = false ∧ sign1.contains c = true ∧ (sign2.all fun w => w.headD 0 != c) = true := by decide
  obtain ⟨h1, h2, h3, h4, h5, h6⟩ := hs c h
  have h7 : sign2.contains ((c :: l).take 2) = false := by
    rw [← Bool.not_eq_true, List.contains_iff_mem]
    intro hm
    have := List.all_eq_true.1 h6 _ hm
    simp at this
  have h8 : signLen (c :: l) = 1 := by
    unfold signLen
    rw [h7]
    simp only [List.headD_cons, h5, List.length_cons]
    simp
  unfold Tw.tok
  simp only [List.headD_cons, h1, h2, h3, h4, h8, Bool.false_eq_true, if_false]
theorem tok_two {w l : Bs} (h : w ∈ sign2) : Tw.tok (w ++ l) = .word 4 2 := by
  have hs : ∀ w ∈ sign2, isSp (w.headD 0) = false ∧ (w.headD 0 == 35) = false ∧ isD (w.headD 0) = false ∧ isL (w.headD 0) = false ∧ w.length = 2 := by decide
  obtain ⟨h1, h2, h3, h4, h5⟩ := hs w h
  have hne : w ≠ [] := by intro e; rw [e] at h5; cases h5
  have hd : (w ++ l).headD 0 = w.headD 0 := by cases w with | nil => exact absurd rfl hne | cons c w => rfl
  have h8 : signLen (w ++ l) = 2 := by
    unfold signLen
    have : (w ++ l).take 2 = w := by rw [← h5]; exact List.take_left
    rw [this, List.contains_iff_mem.2 h]
    rfl
  unfold Tw.tok
  simp only [hd, h1, h2, h3, h4, h8, Bool.false_eq_true, if_false]
theorem tok_cmp {c d : UInt8} {l : Bs} (h : c ∈ ([60, 62, 61, 33] : Bs)) (hd : d = 32 ∨ d = 40) : Tw.tok (c :: d :: l) = .word 4 1 := by
  have hs : ∀ c ∈ ([60, 62, 61, 33] : Bs), isSp c = false ∧ (c == 35) = false ∧ isD c = false ∧ isL c = false ∧ sign1.contains c = true ∧ sign2.contains [c, 32] = false ∧ sign2.contains [c, 40] = false := by decide
  obtain ⟨h1, h2, h3, h4, h5, h6, h7⟩ := hs c h
  have h8 : signLen (c :: d :: l) = 1 := by
    unfold signLen
    have : (c :: d :: l).take 2 = [c, d] := rfl
    rw [this]
    rcases hd with rfl | rfl
    · rw [h6]; simp only [List.headD_cons, h5, List.length_cons]; simp
    · rw [h7]; simp only [List.headD_cons, h5, List.length_cons]; simp
  unfold Tw.tok
  simp only [List.headD_cons, h1, h2, h3, h4, h8, Bool.false_eq_true, if_false]

/-- A piece of a text: a blank, or a word of a kind. -/
inductive Pc where
  | sp (c : UInt8) | w (k : Nat) (t : Bs)
def Pc.txt : Pc → Bs
  | .sp c => [c]
  | .w _ t => t
def pcsT (l : List Pc) : Bs := l.flatMap Pc.txt
/-- The words of pieces, from a place on. -/
def pcsW : List Pc → Nat → List Wd
  | [], _ => []
  | .sp _ :: l, k => pcsW l (k + 1)
  | .w c t :: l, k => ⟨c, ⟨t.toArray⟩, k⟩ :: pcsW l (k + t.length)
/-- The scanner takes the pieces as they stand. -/
def PcsOK : List Pc → Prop
  | [] => True
  | .sp c :: l => isSp c = true ∧ PcsOK l
  | .w c t :: l => Tw.tok (t ++ pcsT l) = .word c t.length ∧ 0 < t.length ∧ PcsOK l
theorem pcsT_cons (p : Pc) (l : List Pc) : pcsT (p :: l) = p.txt ++ pcsT l := rfl
theorem pcsT_app (a b : List Pc) : pcsT (a ++ b) = pcsT a ++ pcsT b := by simp [pcsT]
theorem PcsOK.scan : ∀ (l : List Pc) (k : Nat), PcsOK l → Scan (pcsT l) k (pcsW l k)
  | [], _, _ => .nil
  | .sp c :: l, k, h => .sp h.1 (PcsOK.scan l (k + 1) h.2)
  | .w c t :: l, k, h => .word h.1 h.2.1 (PcsOK.scan l (k + t.length) h.2.2)
end Go.Proofs.YtmngofgminlloaaGreatDoor

namespace Go.Proofs.YtmngofgminlloaaGreatDoor
open Go.RowKit Tw

def numL (n : Nat) : Bs := Lib.itoa (n : Int)
theorem numT_l (n : Nat) : (numT n).data.toList = numL n := rfl
def binL (o : Nat) : Bs := match o with | 0 => [43] | 1 => [45] | 2 => [42] | 3 => [47] | _ => [37]
def cmpL (o : Nat) : Bs := match o with | 0 => [60] | 1 => [60, 61] | 2 => [62] | 3 => [62, 61] | 4 => [61, 61] | _ => [33, 61]
def tfL (k : Nat) : Bs := match k with | 0 => [116, 114, 117, 101] | _ => [102, 97, 108, 115, 101]
def vL (m : Nat) : Bs := 118 :: numL m
def iL (m : Nat) : Bs := 105 :: numL m
def fL (m : Nat) : Bs := 102 :: numL m
def GE.pcs : GE → List Pc
  | .var s => [.w 2 s.data.toList]
  | .lit n => [.w 1 (numL n)]
  | .neg x => [.w 4 [45], .w 4 [40]] ++ x.pcs ++ [.w 4 [41]]
  | .call f x y => [.w 2 (fL f)] ++ [.w 4 [40]] ++ x.pcs ++ [.w 4 [44], .sp 32] ++ y.pcs ++ [.w 4 [41]]
  | .host k x => [.w 4 [64]] ++ [.w 1 (numL k)] ++ [.w 4 [40]] ++ x.pcs ++ [.w 4 [41]]
  | .bin o x y => [.w 4 [40]] ++ x.pcs ++ [.sp 32] ++ [.w 4 (binL o)] ++ [.sp 32] ++ y.pcs ++ [.w 4 [41]]
  | .not x => [.w 4 [33], .w 4 [40]] ++ x.pcs ++ [.w 4 [41]]
  | .and x y => [.w 4 [40]] ++ x.pcs ++ [.sp 32, .w 4 [38, 38], .sp 32] ++ y.pcs ++ [.w 4 [41]]
  | .or x y => [.w 4 [40]] ++ x.pcs ++ [.sp 32, .w 4 [124, 124], .sp 32] ++ y.pcs ++ [.w 4 [41]]
  | .tf k => [.w 3 (tfL k)]
  | .cmp o x y => x.pcs ++ [.sp 32] ++ [.w 4 (cmpL o)] ++ [.sp 32] ++ y.pcs
def GL.pcs : GL → List Pc
  | .nil => []
  | .set s x r => [.w 2 s.data.toList] ++ [.sp 32, .w 4 [61], .sp 32] ++ x.pcs ++ [.w 4 [59], .sp 32] ++ r.pcs
  | .yield x r => [.w 3 [121, 105, 101, 108, 100], .sp 32] ++ x.pcs ++ [.w 4 [59], .sp 32] ++ r.pcs
  | .ite c a b r => [.w 3 [105, 102], .sp 32] ++ c.pcs ++ [.sp 32, .w 4 [123], .sp 32] ++ a.pcs ++ [.w 4 [125], .sp 32, .w 3 [101, 108, 115, 101], .sp 32, .w 4 [123], .sp 32] ++ b.pcs ++ [.w 4 [125], .sp 32] ++ r.pcs
  | .loop i n l r => [.w 3 [108, 101, 116], .sp 32] ++ [.w 2 (iL i)] ++ [.sp 32, .w 4 [61], .sp 32, .w 1 [48], .w 4 [59], .sp 32, .w 3 [119, 104, 105, 108, 101], .sp 32] ++ [.w 2 (iL i)] ++ [.sp 32, .w 4 [60], .sp 32] ++ [.w 1 (numL n)] ++ [.sp 32, .w 4 [123], .sp 32] ++ l.pcs ++ [.w 2 (iL i)] ++ [.sp 32, .w 4 [61], .sp 32] ++ [.w 2 (iL i)] ++ [.sp 32, .w 4 [43], .sp 32, .w 1 [49], .w 4 [59], .sp 32, .w 4 [125], .sp 32] ++ r.pcs
  | .run x r => x.pcs ++ [.w 4 [59], .sp 32] ++ r.pcs
  | .ret x r => [.w 3 [114, 101, 116, 117, 114, 110], .sp 32] ++ x.pcs ++ [.w 4 [59], .sp 32] ++ r.pcs
  | .bind i x r => [.w 3 [108, 101, 116], .sp 32] ++ [.w 2 (vL i)] ++ [.sp 32, .w 4 [61], .sp 32] ++ x.pcs ++ [.w 4 [59], .sp 32] ++ r.pcs
theorem none_l : (⟨#[]⟩ : ByteArray).data.toList = [] := rfl
theorem app_l (a b : ByteArray) : (a ++ b).data.toList = a.data.toList ++ b.data.toList := by rw [ByteArray.data_append, Array.toList_append]
theorem binT_l : ∀ o : Nat, (binT o).data.toList = binL o
  | 0 => rfl | 1 => rfl | 2 => rfl | 3 => rfl | _ + 4 => rfl
theorem cmpT_l : ∀ o : Nat, (cmpT o).data.toList = 32 :: (cmpL o ++ [32])
  | 0 => rfl | 1 => rfl | 2 => rfl | 3 => rfl | 4 => rfl | _ + 5 => rfl
theorem tfT_l : ∀ o : Nat, (tfT o).data.toList = tfL o
  | 0 => rfl | _ + 1 => rfl
theorem vT_l (m : Nat) : (vT m).data.toList = vL m := by unfold vT vL; rw [app_l, numT_l]; rfl
theorem iT_l (m : Nat) : (iT m).data.toList = iL m := by unfold iT iL; rw [app_l, numT_l]; rfl
theorem pcsT_nil : pcsT [] = [] := rfl
theorem GE.txt_l (x : GE) : x.txt.data.toList = pcsT x.pcs := by
  induction x <;> simp only [GE.txt, GE.pcs, app_l, pcsT_app, pcsT_cons, pcsT_nil, Pc.txt, numT_l, binT_l, cmpT_l, tfT_l, fL, *] <;> simp
theorem GL.txt_l (g : GL) : g.txt.data.toList = pcsT g.pcs := by
  induction g <;> simp only [GL.txt, GL.pcs, app_l, pcsT_app, pcsT_cons, pcsT_nil, Pc.txt, numT_l, vT_l, iT_l, GE.txt_l, none_l, *] <;> simp
end Go.Proofs.YtmngofgminlloaaGreatDoor

namespace Go.Proofs.YtmngofgminlloaaGreatDoor
open Go.RowKit Tw

theorem numL_dec (n : Nat) : numL n = Lib.decDigits n := by unfold numL Lib.itoa; rw [if_neg (by omega)]; simp
theorem numL_len (n : Nat) : (numL n).length = Lib.nDigits n := by rw [numL_dec, Lib.decDigits_length]
theorem numL_D (n : Nat) : ∀ c ∈ numL n, isD c = true := by
  intro c hc
  rw [numL_dec, Lib.decDigits_eq] at hc
  obtain ⟨t, _, rfl⟩ := List.mem_map.1 hc
  have hd : ∀ q : Fin 10, isD (UInt8.ofNat (48 + q.val)) = true := by decide
  exact hd ⟨n / 10 ^ (Lib.nDigits n - 1 - t) % 10, Nat.mod_lt _ (by decide)⟩
theorem numL_ne (n : Nat) : numL n ≠ [] := by
  intro h
  have h1 := numL_len n
  rw [h] at h1
  have := Lib.nDigits_pos n
  simp at h1; omega
/-- A letter and a number are a name. -/
theorem name_num {c : UInt8} (hc : isL c = true) (n : Nat) (hn : n < 10 ^ 10) : isName (c :: numL n) = true := by
  have hl : (numL n).length ≤ 10 := by rw [numL_len]; exact nDigits_le 9 n hn
  have hk : isKey (c :: numL n) = false := by
    unfold isKey
    rw [← Bool.not_eq_true, List.contains_iff_mem]
    intro hm
    have h2 : keyTexts.all (fun w => !isD (w.getD 1 97)) = true := by decide
    have h3 := List.all_eq_true.1 h2 _ hm
    obtain ⟨d, l, hd⟩ : ∃ d l, numL n = d :: l := by
      cases h : numL n with
      | nil => exact absurd h (numL_ne n)
      | cons d l => exact ⟨d, l, rfl⟩
    have h4 := numL_D n d (by rw [hd]; exact List.mem_cons_self ..)
    rw [hd] at h3
    simp [h4] at h3
  simp only [isName, Bool.and_eq_true, decide_eq_true_eq, Bool.not_eq_true', List.all_eq_true]
  refine ⟨⟨⟨⟨by simp, by simp; omega⟩, hc⟩, hk⟩, ?_⟩
  intro x hx
  rcases List.mem_cons.1 hx with rfl | hx
  · simp [isA, hc]
  · simp [isA, numL_D n x hx]
theorem num_num (n : Nat) (h : n < 100) : isNum (numL n) = true := by
  rw [numL_dec]
  by_cases h1 : n < 10
  · rw [Lib.decDigits_one h1]
    have : ∀ q : Fin 10, isNum [UInt8.ofNat (48 + q.val)] = true := by decide
    exact this ⟨n, h1⟩
  · rw [Lib.decDigits_two h1 h]
    have : ∀ a : Fin 10, ∀ b : Fin 10, a.val ≠ 0 → isNum [UInt8.ofNat (48 + a.val), UInt8.ofNat (48 + b.val)] = true := by decide
    exact this ⟨n / 10, by omega⟩ ⟨n % 10, by omega⟩ (by simp only; omega)

/-- What the pieces of an expression want. -/
def GE.okW : GE → Prop
  | .var s => isName s.data.toList = true
  | .lit n => n < 100
  | .neg x => x.okW
  | .call f x y => f < 100 ∧ x.okW ∧ y.okW
  | .host k x => k < 100 ∧ x.okW
  | .bin _ x y => x.okW ∧ y.okW
  | .not x => x.okW
  | .and x y => x.okW ∧ y.okW
  | .or x y => x.okW ∧ y.okW
  | .tf _ => True
  | .cmp _ x y => x.okW ∧ y.okW
def GL.okW : GL → Prop
  | .nil => True
  | .set s x r => isName s.data.toList = true ∧ x.okW ∧ r.okW
  | .yield x r => x.okW ∧ r.okW
  | .ite c a b r => c.okW ∧ a.okW ∧ b.okW ∧ r.okW
  | .loop i n l r => i < 10 ^ 10 ∧ n < 100 ∧ l.okW ∧ r.okW
  | .run x r => x.okW ∧ r.okW
  | .ret x r => x.okW ∧ r.okW
  | .bind i x r => i < 10 ^ 10 ∧ x.okW ∧ r.okW
theorem notA_sp (l : List Pc) : NotA (pcsT (.sp 32 :: l)) := by intro c hc; simp [pcsT_cons, Pc.txt] at hc; subst hc; decide
theorem notA_sg {c : UInt8} (h : isA c = false) (t : Bs) (l : List Pc) (k : Nat) : NotA (pcsT (.w k (c :: t) :: l)) := by intro d hd; simp [pcsT_cons, Pc.txt] at hd; subst hd; exact h
theorem ok_sp {l : List Pc} (h : PcsOK l) : PcsOK (.sp 32 :: l) := ⟨by decide, h⟩
theorem ok_one {c : UInt8} {l : List Pc} (hc : c ∈ ([40, 41, 123, 125, 44, 59, 58, 64, 43, 45, 42, 47, 37] : Bs)) (h : PcsOK l) : PcsOK (.w 4 [c] :: l) := ⟨tok_one hc, by simp, h⟩
theorem ok_two {w : Bs} {l : List Pc} (hw : w ∈ sign2) (h : PcsOK l) : PcsOK (.w 4 w :: l) := by
  have hs : ∀ w ∈ sign2, w.length = 2 := by decide
  refine ⟨by rw [hs w hw]; exact tok_two hw, by rw [hs w hw]; decide, h⟩
theorem ok_eq {c : UInt8} {l : List Pc} (hc : c ∈ ([60, 62, 61, 33] : Bs)) (h : PcsOK (.sp 32 :: l)) : PcsOK (.w 4 [c] :: .sp 32 :: l) := ⟨tok_cmp hc (.inl rfl), by simp, h⟩
theorem ok_bang {l : List Pc} (h : PcsOK (.w 4 [40] :: l)) : PcsOK (.w 4 [33] :: .w 4 [40] :: l) := ⟨tok_cmp (c := 33) (by decide) (.inr rfl), by simp, h⟩
theorem ok_name {w : Bs} {l : List Pc} (hw : isName w = true) (hl : NotA (pcsT l)) (h : PcsOK l) : PcsOK (.w 2 w :: l) := ⟨tok_name hw hl, by simp only [isName, Bool.and_eq_true, decide_eq_true_eq] at hw; omega, h⟩
theorem ok_key {w : Bs} {l : List Pc} (hw : w ∈ keyTexts) (hl : NotA (pcsT l)) (h : PcsOK l) : PcsOK (.w 3 w :: l) := ⟨tok_key hw hl, by
  have hs : ∀ w ∈ keyTexts, 0 < w.length := by decide
  exact hs w hw, h⟩
theorem ok_num {n : Nat} {l : List Pc} (hn : n < 100) (hl : NotA (pcsT l)) (h : PcsOK l) : PcsOK (.w 1 (numL n) :: l) := ⟨tok_numeral (num_num n hn) (numL_ne n) hl, List.length_pos_iff.2 (numL_ne n), h⟩
theorem bin_sign (o : Nat) : ∃ c, binL o = [c] ∧ c ∈ ([40, 41, 123, 125, 44, 59, 58, 64, 43, 45, 42, 47, 37] : Bs) := by unfold binL; split <;> exact ⟨_, rfl, by decide⟩
theorem ok_cmpL (o : Nat) {l : List Pc} (h : PcsOK (.sp 32 :: l)) : PcsOK (.w 4 (cmpL o) :: .sp 32 :: l) := by
  unfold cmpL; split <;> first | exact ok_eq (by decide) h | exact ok_two (by decide) h
theorem tf_key (k : Nat) : tfL k ∈ keyTexts := by unfold tfL; split <;> decide
theorem GE.good (x : GE) : ∀ rest : List Pc, x.okW → PcsOK rest → NotA (pcsT rest) → PcsOK (x.pcs ++ rest) := by
  induction x with
  | var s => intro rest h hr hn; exact ok_name h hn hr
  | lit n => intro rest h hr hn; exact ok_num h hn hr
  | neg x ih =>
    intro rest h hr hn
    simp only [GE.pcs, List.append_assoc, List.cons_append, List.nil_append]
    exact ok_one (by decide) (ok_one (by decide) (ih _ h (ok_one (by decide) hr) (notA_sg (by decide) _ _ _)))
  | call f x y ihx ihy =>
    intro rest h hr hn
    simp only [GE.pcs, List.append_assoc, List.cons_append, List.nil_append]
    exact ok_name (name_num (c := 102) (by decide) f (by have := h.1; omega)) (notA_sg (by decide) _ _ _) (ok_one (by decide) (ihx _ h.2.1 (ok_one (by decide) (ok_sp (ihy _ h.2.2 (ok_one (by decide) hr) (notA_sg (by decide) _ _ _)))) (notA_sg (by decide) _ _ _)))
  | host k x ih =>
    intro rest h hr hn
    simp only [GE.pcs, List.append_assoc, List.cons_append, List.nil_append]
    exact ok_one (by decide) (ok_num h.1 (notA_sg (by decide) _ _ _) (ok_one (by decide) (ih _ h.2 (ok_one (by decide) hr) (notA_sg (by decide) _ _ _))))
  | bin o x y ihx ihy =>
    intro rest h hr hn
    obtain ⟨c, hc, hm⟩ := bin_sign o
    simp only [GE.pcs, List.append_assoc, List.cons_append, List.nil_append, hc]
    exact ok_one (by decide) (ihx _ h.1 (ok_sp (ok_one hm (ok_sp (ihy _ h.2 (ok_one (by decide) hr) (notA_sg (by decide) _ _ _))))) (notA_sp _))
  | not x ih =>
    intro rest h hr hn
    simp only [GE.pcs, List.append_assoc, List.cons_append, List.nil_append]
    exact ok_bang (ok_one (by decide) (ih _ h (ok_one (by decide) hr) (notA_sg (by decide) _ _ _)))
  | and x y ihx ihy =>
    intro rest h hr hn
    simp only [GE.pcs, List.append_assoc, List.cons_append, List.nil_append]
    exact ok_one (by decide) (ihx _ h.1 (ok_sp (ok_two (by decide) (ok_sp (ihy _ h.2 (ok_one (by decide) hr) (notA_sg (by decide) _ _ _))))) (notA_sp _))
  | or x y ihx ihy =>
    intro rest h hr hn
    simp only [GE.pcs, List.append_assoc, List.cons_append, List.nil_append]
    exact ok_one (by decide) (ihx _ h.1 (ok_sp (ok_two (by decide) (ok_sp (ihy _ h.2 (ok_one (by decide) hr) (notA_sg (by decide) _ _ _))))) (notA_sp _))
  | tf k => intro rest h hr hn; exact ok_key (tf_key k) hn hr
  | cmp o x y ihx ihy =>
    intro rest h hr hn
    simp only [GE.pcs, List.append_assoc, List.cons_append, List.nil_append]
    exact ihx _ h.1 (ok_sp (ok_cmpL o (ok_sp (ihy _ h.2 hr hn)))) (notA_sp _)
theorem GL.good (g : GL) : ∀ rest : List Pc, g.okW → PcsOK rest → PcsOK (g.pcs ++ rest) := by
  induction g with
  | nil => intro rest _ hr; exact hr
  | set s x r ih =>
    intro rest h hr
    simp only [GL.pcs, List.append_assoc, List.cons_append, List.nil_append]
    exact ok_name h.1 (notA_sp _) (ok_sp (ok_eq (by decide) (ok_sp (x.good _ h.2.1 (ok_one (by decide) (ok_sp (ih _ h.2.2 hr))) (notA_sg (by decide) _ _ _)))))
  | yield x r ih =>
    intro rest h hr
    simp only [GL.pcs, List.append_assoc, List.cons_append, List.nil_append]
    exact ok_key (by decide) (notA_sp _) (ok_sp (x.good _ h.1 (ok_one (by decide) (ok_sp (ih _ h.2 hr))) (notA_sg (by decide) _ _ _)))
  | ite c a b r iha ihb ih =>
    intro rest h hr
    simp only [GL.pcs, List.append_assoc, List.cons_append, List.nil_append]
    have t1 := ok_one (c := 125) (by decide) (ok_sp (ih _ h.2.2.2 hr))
    have t2 := ok_one (c := 123) (by decide) (ok_sp (ihb _ h.2.2.1 t1))
    have t3 := ok_one (c := 125) (by decide) (ok_sp (ok_key (w := [101, 108, 115, 101]) (by decide) (notA_sp _) (ok_sp t2)))
    have t4 := ok_one (c := 123) (by decide) (ok_sp (iha _ h.2.1 t3))
    exact ok_key (by decide) (notA_sp _) (ok_sp (c.good _ h.1 (ok_sp t4) (notA_sp _)))
  | loop i n l r ihl ih =>
    intro rest h hr
    simp only [GL.pcs, List.append_assoc, List.cons_append, List.nil_append]
    have hv := name_num (c := 105) (by decide) i h.1
    have h0 : ∀ l : List Pc, PcsOK l → NotA (pcsT l) → PcsOK (.w 1 [48] :: l) := fun l h h' => ⟨tok_numeral (by decide) (by decide) h', by decide, h⟩
    have h1 : ∀ l : List Pc, PcsOK l → NotA (pcsT l) → PcsOK (.w 1 [49] :: l) := fun l h h' => ⟨tok_numeral (by decide) (by decide) h', by decide, h⟩
    have tail := ok_name hv (notA_sp _) (ok_sp (ok_eq (c := 61) (by decide) (ok_sp (ok_name hv (notA_sp _) (ok_sp (ok_one (c := 43) (by decide) (ok_sp (h1 _ (ok_one (c := 59) (by decide) (ok_sp (ok_one (c := 125) (by decide) (ok_sp (ih _ h.2.2.2 hr))))) (notA_sg (by decide) _ _ _)))))))))
    have t1 := ok_one (c := 123) (by decide) (ok_sp (ihl _ h.2.2.1 tail))
    have t2 := ok_eq (c := 60) (by decide) (ok_sp (ok_num h.2.1 (notA_sp _) (ok_sp t1)))
    have t3 := ok_one (c := 59) (by decide) (ok_sp (ok_key (w := [119, 104, 105, 108, 101]) (by decide) (notA_sp _) (ok_sp (ok_name hv (notA_sp _) (ok_sp t2)))))
    have t4 := ok_eq (c := 61) (by decide) (ok_sp (h0 _ t3 (notA_sg (by decide) _ _ _)))
    exact ok_key (by decide) (notA_sp _) (ok_sp (ok_name hv (notA_sp _) (ok_sp t4)))
  | run x r ih =>
    intro rest h hr
    simp only [GL.pcs, List.append_assoc, List.cons_append, List.nil_append]
    exact x.good _ h.1 (ok_one (by decide) (ok_sp (ih _ h.2 hr))) (notA_sg (by decide) _ _ _)
  | ret x r ih =>
    intro rest h hr
    simp only [GL.pcs, List.append_assoc, List.cons_append, List.nil_append]
    exact ok_key (by decide) (notA_sp _) (ok_sp (x.good _ h.1 (ok_one (by decide) (ok_sp (ih _ h.2 hr))) (notA_sg (by decide) _ _ _)))
  | bind i x r ih =>
    intro rest h hr
    simp only [GL.pcs, List.append_assoc, List.cons_append, List.nil_append]
    exact ok_key (by decide) (notA_sp _) (ok_sp (ok_name (name_num (c := 118) (by decide) i h.1) (notA_sp _) (ok_sp (ok_eq (by decide) (ok_sp (x.good _ h.2.1 (ok_one (by decide) (ok_sp (ih _ h.2.2 hr))) (notA_sg (by decide) _ _ _)))))))
end Go.Proofs.YtmngofgminlloaaGreatDoor
