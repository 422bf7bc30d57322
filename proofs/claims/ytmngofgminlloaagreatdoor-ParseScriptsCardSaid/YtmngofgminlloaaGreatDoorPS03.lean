/-
  The reference's maker of scripts: Script2: whatever the numbers, its text is a made script's.
  The walk of the law ParseScripts: for all numbers, places and bytes it returns true, and what was there is as it was. Condition: the library's variables are as the row lists them.
-/
import Derived.Test.YtmngofgminlloaaGreatDoorPS02
import Derived.Test.YtmngofgminlloaaGreatDoorPT23
import Derived.Laws.IdiomStrings
namespace Go.Proofs.YtmngofgminlloaaGreatDoor
open Go.RowKit Tw

def pq : List ByteArray := [⟨#[112]⟩, ⟨#[113]⟩]
def funT (j : Nat) (g : GL) (x : GE) : ByteArray := ⟨#[102, 117, 110, 32, 102]⟩ ++ numT j ++ ⟨#[40, 112, 58, 32, 105, 110, 116, 44, 32, 113, 58, 32, 105, 110, 116, 41, 58, 32, 105, 110, 116, 32, 123, 32]⟩ ++ g.txt ++ ⟨#[114, 101, 116, 117, 114, 110, 32]⟩ ++ x.txt ++ ⟨#[59, 32, 125, 10]⟩
def funsT : Nat → List (GL × GE) → ByteArray
  | _, [] => ⟨#[]⟩
  | j, (g, x) :: r => funT j g x ++ funsT (j + 1) r
theorem funsT_snoc (g : GL) (x : GE) : ∀ (fs : List (GL × GE)) (j : Nat), funsT j (fs ++ [(g, x)]) = funsT j fs ++ funT (j + fs.length) g x := by
  intro fs
  induction fs with
  | nil => intro j; simp only [List.nil_append, funsT, app_none, none_app, List.length_nil, Nat.add_zero]
  | cons a fs ih =>
    obtain ⟨g', x'⟩ := a
    intro j
    simp only [List.cons_append, funsT, ih, ByteArray.append_assoc, List.length_cons]
    rw [show j + 1 + fs.length = j + (fs.length + 1) by omega]
/-- The functions ahead of main. -/
inductive GFuns (N : Nat) : Nat → Nat → List (GL × GE) → Nat → Nat → Prop
  | nil {i : Nat} : GFuns N 0 i [] 0 i
  | snoc {j i m1 i1 m2 i2 i3 : Nat} {fs : List (GL × GE)} {g : GL} {x : GE} : GFuns N j i fs m1 i1 → Blk N j 2 ⟨pq, m1, i1⟩ g ⟨pq, m2, i2⟩ → GNum N pq j 2 i2 x i3 → GFuns N (j + 1) i (fs ++ [(g, x)]) m2 i3
theorem GFuns.len {N j i m i' : Nat} {fs : List (GL × GE)} (h : GFuns N j i fs m i') : fs.length = j := by
  induction h with
  | nil => rfl
  | snoc _ _ _ ih => simp [ih]
def scriptT (fs : List (GL × GE)) (g : GL) (x : GE) : ByteArray := funsT 0 fs ++ ⟨#[102, 117, 110, 32, 109, 97, 105, 110, 40, 41, 58, 32, 105, 110, 116, 32, 123, 32]⟩ ++ g.txt ++ ⟨#[114, 101, 116, 117, 114, 110, 32]⟩ ++ x.txt ++ ⟨#[59, 32, 125]⟩
/-- A made script: its text is t. -/
def GScript (N : Nat) (t : ByteArray) : Prop := ∃ (k : Nat) (fs : List (GL × GE)) (g : GL) (x : GE) (i0 m1 i1 m2 i2 i3 : Nat), N ≤ 60 ∧ Nx N 3 0 k i0 ∧ GFuns N k i0 fs m1 i1 ∧ Blk N k 3 ⟨[], m1, i1⟩ g ⟨[], m2, i2⟩ ∧ GNum N [] k 2 i2 x i3 ∧ t = scriptT fs g x

/-- The text of the first functions. -/
def FunsA (N j i : Nat) (t : ByteArray) (m' i' : Nat) : Prop := ∃ fs : List (GL × GE), t = funsT 0 fs ∧ GFuns N j i fs m' i'
theorem FunsA.snoc {N j i m1 i1 m2 i2 i3 : Nat} {t a b z : ByteArray} (h : FunsA N j i t m1 i1) (hz : z = numT j) (ha : BlkA N j 2 ⟨pq, m1, i1⟩ a ⟨pq, m2, i2⟩) (hb : NumA N pq j 2 i2 b i3) :
    FunsA N (j + 1) i (t ++ (⟨#[102, 117, 110, 32, 102]⟩ ++ z ++ ⟨#[40, 112, 58, 32, 105, 110, 116, 44, 32, 113, 58, 32, 105, 110, 116, 41, 58, 32, 105, 110, 116, 32, 123, 32]⟩ ++ a ++ ⟨#[114, 101, 116, 117, 114, 110, 32]⟩ ++ b ++ ⟨#[59, 32, 125, 10]⟩)) m2 i3 := by
  obtain ⟨fs, rfl, hf⟩ := h
  obtain ⟨g, rfl, hg⟩ := ha
  obtain ⟨x, rfl, hx⟩ := hb
  subst hz
  refine ⟨_, ?_, .snoc hf hg hx⟩
  rw [funsT_snoc, hf.len, Nat.zero_add]
  rfl
theorem FunsA.script {N k i0 m1 i1 m2 i2 i3 : Nat} {t a b : ByteArray} (hN : N ≤ 60) (h0 : Nx N 3 0 k i0) (h : FunsA N k i0 t m1 i1) (ha : BlkA N k 3 ⟨[], m1, i1⟩ a ⟨[], m2, i2⟩) (hb : NumA N [] k 2 i2 b i3) :
    GScript N (t ++ ⟨#[102, 117, 110, 32, 109, 97, 105, 110, 40, 41, 58, 32, 105, 110, 116, 32, 123, 32]⟩ ++ a ++ ⟨#[114, 101, 116, 117, 114, 110, 32]⟩ ++ b ++ ⟨#[59, 32, 125]⟩) := by
  obtain ⟨fs, rfl, hf⟩ := h
  obtain ⟨g, rfl, hg⟩ := ha
  obtain ⟨x, rfl, hx⟩ := hb
  exact ⟨k, fs, g, x, i0, m1, i1, m2, i2, i3, hN, h0, hf, hg, hx, rfl⟩
theorem pq_ok : NsOk pq := by intro s hs; simp only [pq, List.mem_cons, List.mem_nil_iff, or_false] at hs; rcases hs with rfl | rfl <;> decide

set_option maxRecDepth 100000 in
theorem from_c (A : Option Addr) (n c : Nat) (w : World) : Calls Tryz.prog 68 #[.slice A n c] w fun e w' => e = .returned (.pointer (some ⟨w.heap.size, 0, none⟩)) ∧ w' = w.alloc (.cells #[.slice A n c, .int .i64 0] 209) := by
  go_enter Tryz.func68, Tryz.ntmps68
  go_wp2_with fail
  go_ret
  exact ⟨rfl, rfl⟩
theorem Sc.start {w : World} {A0 : Option Addr} {n0 c0 : Nat} (hG : Glob w) (h : ∀ j, j < n0 → ∃ g off v, A0 = some ⟨g, off, none⟩ ∧ g < w.heap.size ∧ w.cell? ⟨g, off + j, none⟩ = some (.int .i64 v)) (hn : n0 ≤ 60) :
    Sc w ((w.alloc (.cells #[.slice A0 n0 c0, .int .i64 0] 209)).alloc (.cells #[.pointer (some ⟨w.heap.size, 0, none⟩), .slice none 0 0, .int .i64 0, .int .i64 0] 144))
      ((w.alloc (.cells #[.slice A0 n0 c0, .int .i64 0] 209)).alloc (.cells #[.pointer (some ⟨w.heap.size, 0, none⟩), .slice none 0 0, .int .i64 0, .int .i64 0] 144)) (w.heap.size + 1) w.heap.size A0 n0 c0 0 none 0 [] 0 0 := by
  have hb : ∀ k, k < w.heap.size → ((w.alloc (.cells #[.slice A0 n0 c0, .int .i64 0] 209)).alloc (.cells #[.pointer (some ⟨w.heap.size, 0, none⟩), .slice none 0 0, .int .i64 0, .int .i64 0] 144)).heap[k]? = w.heap[k]? := fun k hk =>
    (heap_alloc_old _ _ (by simp; omega)).trans (heap_alloc_old w _ hk)
  have hB := ((Below.refl w.heap.size w).alloc (Nat.le_refl _) (.cells #[.slice A0 n0 c0, .int .i64 0] 209)).alloc (by simp) (.cells #[.pointer (some ⟨w.heap.size, 0, none⟩), .slice none 0 0, .int .i64 0, .int .i64 0] 144)
  refine ⟨by simpa using heap_alloc_new (w.alloc (.cells #[.slice A0 n0 c0, .int .i64 0] 209)) (.cells #[.pointer (some ⟨w.heap.size, 0, none⟩), .slice none 0 0, .int .i64 0, .int .i64 0] 144), (heap_alloc_old _ _ (by simp)).trans (heap_alloc_new w _), fun j hj => ?_, GRow.nil _ _ _ _ _, by intro s hs; simp at hs, by simp, Nat.zero_le _, hn, by omega, by omega, hG.big, by omega, by simp, hG.to hB, hB, grown_of_below (Below.refl _ _) _⟩
  obtain ⟨g, off, v, h1, h2, h3⟩ := h j hj
  exact ⟨g, off, v, h1, h2, (World.cell?_of_block (a := ⟨g, off + j, none⟩) (hb g h2)).trans h3⟩
/-- The names p, q. -/
theorem Sc.setP {w0 wv w : World} {sb qb : Nat} {A0 : Option Addr} {n0 c0 i : Nat} {An : Option Addr} {cn : Nat} {ns : List ByteArray} {made low : Nat} (h : Sc w0 wv w sb qb A0 n0 c0 i An cn ns made low) (j : Nat) (hj : j ≤ 2) {W : World} (hW : W = ((w.setCell ⟨sb, 1, none⟩ (.slice (some ⟨w.heap.size, 0, none⟩) 2 2)).setCell ⟨sb, 3, none⟩ (.int .i64 j)).alloc (.cells #[.string ⟨#[112]⟩, .string ⟨#[113]⟩] 9)) :
    Sc w0 W W sb qb A0 n0 c0 i (some ⟨w.heap.size, 0, none⟩) 2 pq made j := by
  subst hW
  have hs := h.s; have hq := h.q
  have g1 := grown_set w sb 1 (.slice (some ⟨w.heap.size, 0, none⟩) 2 2)
  have b1 := heap_setCell_same w sb 1 _ _ (.slice (some ⟨w.heap.size, 0, none⟩) 2 2) h.sblk
  have z1 : (w.setCell ⟨sb, 1, none⟩ (.slice (some ⟨w.heap.size, 0, none⟩) 2 2)).heap.size = w.heap.size := by simp
  generalize w.setCell ⟨sb, 1, none⟩ (.slice (some ⟨w.heap.size, 0, none⟩) 2 2) = w2 at g1 b1 z1 ⊢
  have g2 := grown_set w2 sb 3 (.int .i64 j)
  have b2 := heap_setCell_same w2 sb 3 _ _ (.int .i64 j) b1
  have z2 : (w2.setCell ⟨sb, 3, none⟩ (.int .i64 j)).heap.size = w2.heap.size := by simp
  generalize w2.setCell ⟨sb, 3, none⟩ (.int .i64 j) = w3 at g2 b2 z2 ⊢
  have hB := (Below.refl w3.heap.size w3).alloc (Nat.le_refl _) (.cells #[.string ⟨#[112]⟩, .string ⟨#[113]⟩] 9)
  have hn := heap_alloc_new w3 (.cells #[.string ⟨#[112]⟩, .string ⟨#[113]⟩] 9)
  rw [z2, z1] at hn
  generalize w3.alloc (.cells #[.string ⟨#[112]⟩, .string ⟨#[113]⟩] 9) = w4 at hB hn ⊢
  have hz := hB.size
  refine h.turn (by simpa [pq] using (hB.block sb (by omega)).trans b2) (fun k hk => (hB.block k (by omega)).trans ((g2.block k (by omega) (by simp; omega)).trans (g1.block k (by omega) (by simp; omega)))) (by omega) (hB.os.trans (g2.os.trans g1.os)) (hB.tape.trans (g2.tape.trans g1.tape)) (hB.output.trans (g2.output.trans g1.output)) ?_ pq_ok (by decide) h.m1 hj
  exact ⟨⟨rfl, .inr ⟨w.heap.size, 2, _, rfl, by omega, hn, by decide, by decide, rfl, rfl⟩⟩, fun a _ => trivial⟩
theorem Sc.set0 {w0 wv w : World} {sb qb : Nat} {A0 : Option Addr} {n0 c0 i : Nat} {An : Option Addr} {cn : Nat} {ns : List ByteArray} {made low : Nat} (h : Sc w0 wv w sb qb A0 n0 c0 i An cn ns made low) (j : Nat) (hj : j ≤ 2) {W : World} (hW : W = (w.setCell ⟨sb, 1, none⟩ (.slice none 0 0)).setCell ⟨sb, 3, none⟩ (.int .i64 j)) :
    Sc w0 W W sb qb A0 n0 c0 i none 0 [] made j := by
  subst hW
  have hs := h.s; have hq := h.q
  have g1 := grown_set w sb 1 (.slice none 0 0)
  have b1 := heap_setCell_same w sb 1 _ _ (.slice none 0 0) h.sblk
  generalize w.setCell ⟨sb, 1, none⟩ (.slice none 0 0) = w2 at g1 b1 ⊢
  have g2 := grown_set w2 sb 3 (.int .i64 j)
  have b2 := heap_setCell_same w2 sb 3 _ _ (.int .i64 j) b1
  generalize w2.setCell ⟨sb, 3, none⟩ (.int .i64 j) = w3 at g2 b2 ⊢
  have hz2 := g1.size
  exact h.turn (by simpa using b2) (fun k hk => (g2.block k (by omega) (by simp; omega)).trans (g1.block k (by omega) (by simp; omega))) (by have := g2.size; omega) (g2.os.trans g1.os) (g2.tape.trans g1.tape) (g2.output.trans g1.output) (GRow.nil _ _ _ _ _) (by intro s hs; simp at hs) (by decide) h.m1 hj

theorem Sc.frz3 {w0 wv w : World} {sb qb : Nat} {A0 : Option Addr} {n0 c0 i : Nat} {An : Option Addr} {cn : Nat} {ns : List ByteArray} {made low : Nat} (h : Sc w0 wv w sb qb A0 n0 c0 i An cn ns made low) : w.frozen? ⟨sb, 3, none⟩ = false := Lib.frozen_of_heap h.sblk 3
theorem both_all : ∀ d : Nat, d ≤ 3 → MStmtC d ∧ MStmtsC d := by
  intro d
  induction d with
  | zero =>
    intro h
    have this : MStmtC 0 := stmt_step 0 h (by omega)
    exact ⟨this, stmts_step 0 h this⟩
  | succ d ih =>
    intro h
    have this : MStmtC (d + 1) := stmt_step (d + 1) h (fun _ => (ih (by omega)).2)
    exact ⟨this, stmts_step (d + 1) h this⟩
theorem stmts_all (d : Nat) (h : d ≤ 3) : MStmtsC d := (both_all d h).2

/-- The loop's state behind kk functions. -/
def LoopF (w0 : World) (sb qb : Nat) (A0 : Option Addr) (n0 c0 i0 kk : Nat) (t : ByteArray) (W : World) : Prop :=
  ∃ (ns : List ByteArray) (m' i' : Nat) (An' : Option Addr) (cn' low : Nat), FunsA n0 kk i0 t m' i' ∧ t.size ≤ kk * 3900000 ∧ m' ≤ kk * 129 ∧ Sc w0 W W sb qb A0 n0 c0 i' An' cn' ns m' low

set_option maxRecDepth 100000 in
set_option maxHeartbeats 16000000 in
/-- Script2 of numbers that lie in memory. -/
theorem script2_c (A : Option Addr) (n c : Nat) (w : World) (hG : Glob w) (hnc : n ≤ c) (h : ∀ j, j < n → ∃ g off v, A = some ⟨g, off, none⟩ ∧ g < w.heap.size ∧ w.cell? ⟨g, off + j, none⟩ = some (.int .i64 v)) :
    Calls Tryz.prog 19 #[.slice A n c] w fun e w' => ∃ (t : ByteArray) (N : Nat), e = .returned (.string t) ∧ t.size ≤ 12000000 ∧ Hid (GScript N t) ∧ Below w.heap.size w w' := by
  obtain ⟨N, hN⟩ : ∃ N, N = min n 60 := ⟨_, rfl⟩
  have hN60 : N ≤ 60 := by omega
  have hNn : N ≤ n := by omega
  have HST := Lib.hid (Sc.start (c0 := c) (n0 := N) hG (fun j hj => h j (by omega)) hN60)
  have HS3 : Hid (∀ {w0 wv w : World} {sb qb : Nat} {A0 : Option Addr} {n0 c0 i : Nat} {An : Option Addr} {cn : Nat} {ns : List ByteArray} {made low : Nat}, Sc w0 wv w sb qb A0 n0 c0 i An cn ns made low → made + mkB 3 ≤ 900000 → ns.length + 3 * (3 + 1) ≤ 90 → Calls Tryz.prog 71 #[.pointer (some ⟨sb, 0, none⟩), .int .i64 3] w (MStmtsR w0 sb qb A0 n0 c0 ns made low 3 i)) := Lib.hid (stmts_all 3 (by decide))
  have HS2 : Hid (∀ {w0 wv w : World} {sb qb : Nat} {A0 : Option Addr} {n0 c0 i : Nat} {An : Option Addr} {cn : Nat} {ns : List ByteArray} {made low : Nat}, Sc w0 wv w sb qb A0 n0 c0 i An cn ns made low → made + mkB 2 ≤ 900000 → ns.length + 3 * (2 + 1) ≤ 90 → Calls Tryz.prog 71 #[.pointer (some ⟨sb, 0, none⟩), .int .i64 2] w (MStmtsR w0 sb qb A0 n0 c0 ns made low 2 i)) := Lib.hid (stmts_all 2 (by decide))
  have HN : Hid (∀ {w0 wv w : World} {sb qb : Nat} {A0 : Option Addr} {n0 c0 i : Nat} {An : Option Addr} {cn : Nat} {ns : List ByteArray} {made low : Nat}, Sc w0 wv w sb qb A0 n0 c0 i An cn ns made low → Calls Tryz.prog 72 #[.pointer (some ⟨sb, 0, none⟩), .int .i64 2] w (NumR w0 wv sb qb A0 n0 c0 An cn ns made low 2 i)) := Lib.hid (num_all 2 (by decide))
  have e60 : n ≤ 60 ∧ N = n ∨ 60 < n ∧ N = 60 := by omega
  have HE := Lib.hid e60
  clear h hN e60 hG
  go_enter Tryz.func19, Tryz.ntmps19
  go_upto_region 1 with (fail)
  go_cut [3] (fun v W => v = .pointer (some ⟨w.heap.size + 1, 0, none⟩) ∧ Hid (Sc w W W (w.heap.size + 1) w.heap.size A N c 0 none 0 [] 0 0))
  case first =>
    have HMN : Hid ((min (n : Int) 60).toNat = N) := Lib.hid (by have := HE.out; omega)
    have h2 : (n : Int) ≤ (c : Int) := by omega
    have h3 : (0 : Int) ≤ (n : Int) := by omega
    have h4 : (0 : Int) ≤ min (n : Int) 60 := by omega
    have h5 : min (n : Int) 60 ≤ (c : Int) := by omega
    go_wp2_with (go_at_call 68; refine (from_c _ _ _ _).mono ?_; rintro e w' ⟨rfl, rfl⟩)
    go_meet
    case rel =>
      refine ⟨rfl, ?_⟩
      rw [HMN.out]
      exact HST
  case rest =>
    obtain ⟨rfl, HS⟩ := hcut
    clear HST HE hnc hNn
    have hqz : 10 < w.heap.size := HS.out.b0
    generalize hsb : w.heap.size + 1 = sb at HS
    obtain ⟨c0', c1, c2, c3⟩ := HS.out.c0
    go_wp2_with fail
    refine (n_c 3 (by decide) (by decide) HS.out).mono ?_
    rintro e w1 ⟨k, i0, rfl, hk1, HX, hS⟩
    replace HX := Lib.hid HX
    replace HS := Lib.hid hS.reb
    clear hS c0' c1 c2 c3
    have hk2 : k ≤ 2 := by omega
    go_wp2_with fail
    go_loopw [5, 21] (fun o j wr => ∃ (kk : Nat) (t : ByteArray), o = .string t ∧ j = .int .i64 kk ∧ kk ≤ k ∧ Hid (LoopF w sb w.heap.size A N c i0 kk t wr))
      (fun _ j _ => (4 - intOf j).toNat)
    case atStart => exact ⟨0, ⟨#[]⟩, rfl, rfl, Nat.zero_le _, Lib.hid ⟨[], 0, i0, none, 0, 0, ⟨[], rfl, .nil⟩, by simp [ByteArray.size], by simp, HS.out⟩⟩
    case round =>
      obtain ⟨kk, t, rfl, rfl, hkj, HLS⟩ := hrel
      obtain ⟨ns', m', i', An', cn', low', hA, htz, hmz, hS⟩ := HLS.out
      have HA := Lib.hid hA
      have HS' := Lib.hid hS
      clear hA hS HLS HS
      by_cases hlt : kk < k
      · have hlt' : (kk : Int) < (k : Int) := by omega
        have ht2 : t.size ≤ 7800000 := by have := Nat.mul_le_mul_right 3900000 (show kk ≤ 2 by omega); omega
        have hm2 : m' ≤ 258 := by have := Nat.mul_le_mul_right 129 (show kk ≤ 2 by omega); omega
        have HTZ := Lib.hid (And.intro htz hmz)
        clear htz hmz
        obtain ⟨d0, d1, d2, d3⟩ := HS'.out.c0
        obtain ⟨q1, q2⟩ := HS'.out.frz
        have q3 := HS'.out.frz3
        have hs := HS'.out.s
        go_upto_region 8 with (fail)
        have HP := Lib.hid (HS'.out.setP kk (by omega) rfl)
        clear d0 d1 d2 d3 q1 q2 q3 hs HS'
        generalize ((wr.setCell _ _).setCell _ _).alloc _ = w2 at HP ⊢
        generalize wr.heap.size = gp at HP ⊢
        go_wp2_with fail
        refine (itoa_s kk (by omega) HP.out).mono ?_
        rintro e w3 ⟨s3, rfl, HT3, hz3, hS⟩
        replace HP := Lib.hid hS
        clear hS
        go_wp2_with fail
        refine (HS2.out HP.out (by have : mkB 2 = 129 := rfl; omega) (by decide)).mono ?_
        rintro e w4 ⟨s4, m4, i4, An4, cn4, rfl, hz4, hm4, HA4, hS⟩
        replace HP := Lib.hid hS
        have HM4 := Lib.hid hm4
        clear hS hm4
        go_wp2_with fail
        refine (HN.out HP.out).mono ?_
        rintro e w5 ⟨s5, i5, rfl, hz5, HA5, hS⟩
        replace HP := Lib.hid hS.reb
        clear hS
        have HLS : Hid (LoopF w sb w.heap.size A N c i0 (kk + 1) (t ++ (⟨#[102, 117, 110, 32, 102]⟩ ++ s3 ++ ⟨#[40, 112, 58, 32, 105, 110, 116, 44, 32, 113, 58, 32, 105, 110, 116, 41, 58, 32, 105, 110, 116, 32, 123, 32]⟩ ++ s4 ++ ⟨#[114, 101, 116, 117, 114, 110, 32]⟩ ++ s5 ++ ⟨#[59, 32, 125, 10]⟩)) w5) :=
          Lib.hid ⟨pq, m4, i5, An4, cn4, kk, HA.out.snoc HT3.out HA4.out HA5.out, by
            have := HTZ.out.1
            simp only [ByteArray.size_append, sz_mk, List.size_toArray, List.length_cons, List.length_nil]
            omega, by have := HTZ.out.2; have := HM4.out; have : mkB 2 = 129 := rfl; omega, HP.out⟩
        go_wp2_with fail
        go_roundw
        case rel => exact ⟨kk + 1, _, rfl, by go_num, hlt, HLS⟩
        case measure => simp [intOf]; omega
      · obtain rfl : kk = k := by omega
        have ht2 : t.size ≤ 7800000 := by have := Nat.mul_le_mul_right 3900000 (show kk ≤ 2 by omega); omega
        have hm2 : m' ≤ 258 := by have := Nat.mul_le_mul_right 129 (show kk ≤ 2 by omega); omega
        clear htz hmz
        obtain ⟨d0, d1, d2, d3⟩ := HS'.out.c0
        obtain ⟨q1, q2⟩ := HS'.out.frz
        have q3 := HS'.out.frz3
        go_upto_region 11 with (fail)
        have HP := Lib.hid (HS'.out.set0 kk hk2 rfl)
        clear d0 d1 d2 d3 q1 q2 q3 HS'
        generalize (wr.setCell _ _).setCell _ _ = w2 at HP ⊢
        go_wp2_with fail
        refine (HS3.out HP.out (by have : mkB 3 = 777 := rfl; omega) (by decide)).mono ?_
        rintro e w4 ⟨s4, m4, i4, An4, cn4, rfl, hz4, hm4, HA4, hS⟩
        replace HP := Lib.hid hS
        clear hS hm4
        go_wp2_with fail
        refine (HN.out HP.out).mono ?_
        rintro e w5 ⟨s5, i5, rfl, hz5, HA5, hS⟩
        replace HP := Lib.hid hS.reb
        clear hS
        go_wp2_with fail
        go_ret
        refine ⟨_, N, rfl, ?_, Lib.hid (FunsA.script hN60 HX.out HA.out HA4.out HA5.out), HP.out.bel⟩
        simp only [ByteArray.size_append, sz_mk, List.size_toArray, List.length_cons, List.length_nil]
        omega
end Go.Proofs.YtmngofgminlloaaGreatDoor

namespace Go.Proofs.YtmngofgminlloaaGreatDoor
open Go.RowKit Tw

theorem GScript.pos {N : Nat} {t : ByteArray} (h : GScript N t) : 1 ≤ t.size := by
  obtain ⟨k, fs, g, x, i0, m1, i1, m2, i2, i3, _, _, _, _, _, rfl⟩ := h
  simp only [scriptT, ByteArray.size_append, sz_mk, List.size_toArray, List.length_cons, List.length_nil]
  omega
theorem bytesRow_sz (s : ByteArray) (cap : Nat) : s.size ≤ (bytesRow s cap).size := by
  have : s.data.size = s.size := rfl
  simp only [bytesRow, Array.size_append, Array.size_map, Array.size_replicate, this]
  omega
/-- The bytes of t lie in a new block. -/
def CutAt (w : World) (G : Nat) (t : ByteArray) : Prop := ∃ cs lo hi, w.heap[G]? = some (.cells cs 5 (lo, hi)) ∧ t.size ≤ cs.size ∧ cs.size ≤ lo ∧ ∀ j (h : j < t.data.size), cs[j]? = some (.int .u8 (t.data[j].toNat : Int))
theorem CutAt.new (w : World) (t : ByteArray) (cap : Nat) : CutAt (w.alloc (.cells (bytesRow t cap) 5 ((bytesRow t cap).size, (bytesRow t cap).size + 1))).drew w.heap.size t := by
  refine ⟨bytesRow t cap, (bytesRow t cap).size, (bytesRow t cap).size + 1, ?_, bytesRow_sz t cap, Nat.le_refl _, fun j h => bytesRow_at t cap j h⟩
  show (w.heap.push _)[w.heap.size]? = _
  simp
theorem CutAt.below {w w' : World} {G : Nat} {t : ByteArray} (h : CutAt w G t) (hb : Below w.heap.size w w') : CutAt w' G t := by
  obtain ⟨cs, lo, hi, h1, h2⟩ := h
  exact ⟨cs, lo, hi, (hb.block G (lt_of_some h1)).trans h1, h2⟩
theorem CutAt.at {w : World} {G : Nat} {t : ByteArray} (h : CutAt w G t) {k : Nat} (hk : k < t.size) : (∃ v, w.cell? ⟨G, k, none⟩ = some v) ∧ w.frozen? ⟨G, k, none⟩ = false := by
  obtain ⟨cs, lo, hi, h1, h2, h3, h4⟩ := h
  refine ⟨⟨_, (Lib.cell_of_heap h1 k).trans (h4 k hk)⟩, ?_⟩
  unfold World.frozen?
  rw [h1]
  simp
  omega
theorem CutAt.back {w : World} {G : Nat} {t : ByteArray} (h : CutAt w G t) {k : Nat} (hk : k < t.size) (b : UInt8) (cap : Nat) :
    ∃ u : ByteArray, u.size = t.size ∧ ∀ (P : Program) (src dst e : TypeId), P.underlying src = some (.slice e) → P.underlying e = some (.int .u8) → P.underlying dst = some .string →
      (convert src dst (.slice (some ⟨G, 0, none⟩) t.size cap)).run P (w.setCell ⟨G, k, none⟩ (.int .u8 (b.toNat : Int))) = .ok (.string u) (w.setCell ⟨G, k, none⟩ (.int .u8 (b.toNat : Int))) := by
  obtain ⟨cs, lo, hi, h1, h2, h3, h4⟩ := h
  have hsz : t.data.size = t.size := rfl
  refine ⟨⟨(t.data.toList.set k b).toArray⟩, by rw [sz_mk, List.size_toArray, List.length_set, Array.length_toList]; rfl, fun P src dst e h5 h6 h7 => ?_⟩
  have hl : (t.data.toList.set k b).length = t.size := by rw [List.length_set, Array.length_toList]; rfl
  have hset : (w.setCell ⟨G, k, none⟩ (.int .u8 (b.toNat : Int))).heap[G]? = some (.cells (cs.setIfInBounds k (.int .u8 (b.toNat : Int))) 5 (lo, hi)) := by
    simp [World.setCell, Array.getElem?_modify, h1]
  have := run_convert_bytes_back (P := P) (w.setCell ⟨G, k, none⟩ (.int .u8 (b.toNat : Int))) src dst e ⟨G, 0, none⟩ cap (t.data.toList.set k b) h5 h6 h7 (fun j hj => by
    have hj' : j < t.data.size := by rw [hl] at hj; exact hj
    have e0 : (⟨G, 0, none⟩ : Addr).add j = ⟨G, j, none⟩ := by unfold Addr.add; split <;> simp_all
    rw [e0, Lib.cell_of_heap hset j]
    by_cases hjk : j = k
    · subst hjk
      have : j < cs.size := by omega
      simp [Array.getElem?_setIfInBounds, this]
    · have hkj : ¬ k = j := fun e => hjk e.symm
      rw [Array.getElem?_setIfInBounds, if_neg hkj, h4 j hj', List.getElem_set_ne hkj]
      simp)
  rw [hl] at this
  exact this

set_option maxRecDepth 100000 in
set_option maxHeartbeats 8000000 in
theorem parseScripts_any (A : Option Addr) (n c : Nat) (i : Int) (b : UInt8) (w : World) (hG : Glob w) (hnc : n ≤ c) (h : ∀ j, j < n → ∃ g off v, A = some ⟨g, off, none⟩ ∧ g < w.heap.size ∧ w.cell? ⟨g, off + j, none⟩ = some (.int .i64 v)) :
    Calls Tryz.prog 7 #[.slice A n c, .int .i64 i, .int .u8 b.toNat] w fun e w' => e = .returned (.bool true) ∧ Below w.heap.size w w' := by
  have HG := Lib.hid hG
  have HC := Lib.hid (script2_c A n c w hG hnc h)
  clear hG hnc h
  go_enter Tryz.func7, Tryz.ntmps7
  go_wp2_with fail
  refine HC.out.mono ?_
  rintro e w1 ⟨t, N, rfl, htz, HT, hB⟩
  have HB := Lib.hid hB
  have hp := HT.out.pos
  clear hB HC
  go_wp2_with fail
  refine (parseTells_any t w1 (by unfold maxLen; omega) (HG.out.to HB.out)).mono ?_
  rintro e w2 ⟨rfl, hB⟩
  replace HB := Lib.hid (HB.out.trans (hB.mono HB.out.size))
  clear hB
  go_upto_region 4 with (fail)
  have hcv := run_bytes_of_string (P := Tryz.prog) w2 9 50 5 t Tryz.underlying9 Tryz.underlying50 Tryz.underlying5
  generalize grownCap w2 t.size 0 5 = cap at hcv
  go_upto_region 5 with (fail)
  have HQ := Lib.hid (CutAt.new w2 t cap)
  have HB3 : Hid (Below w.heap.size w (w2.alloc (.cells (bytesRow t cap) 5 ((bytesRow t cap).size, (bytesRow t cap).size + 1))).drew) := Lib.hid ((HB.out.alloc HB.out.size _).drew)
  have HZ := Lib.hid HB.out.size
  clear hcv HB
  generalize (w2.alloc _).drew = w3 at HQ HB3 ⊢
  generalize w2.heap.size = G at HQ HZ ⊢
  go_wp2_with fail
  refine (below_b i t.size (by omega) (by omega) w3).mono ?_
  rintro e w4 ⟨⟨k, rfl, hk0, hk1⟩, rfl⟩
  obtain ⟨kk, rfl⟩ := Int.eq_ofNat_of_zero_le hk0
  have hkk : kk < t.size := by omega
  obtain ⟨⟨v, hv⟩, hf⟩ := HQ.out.at hkk
  obtain ⟨u, huz, hcv⟩ := HQ.out.back hkk b cap
  have hcv := hcv Tryz.prog 50 9 5 Tryz.underlying50 Tryz.underlying5 Tryz.underlying9
  have HU := Lib.hid huz
  clear huz
  go_wp2_with fail
  have HB4 := Lib.hid (HB3.out.setCell (p := ⟨G, kk, none⟩) HZ.out (.int .u8 (b.toNat : Int)))
  clear hcv hv hf
  generalize World.setCell _ _ _ = w5 at HB4 ⊢
  refine (parseTells_any u w5 (by have := HU.out; unfold maxLen; omega) (HG.out.to HB4.out)).mono ?_
  rintro e w6 ⟨rfl, hB⟩
  replace HB4 := Lib.hid (HB4.out.trans (hB.mono HB4.out.size))
  clear hB
  go_wp2_with fail
  go_ret
  exact ⟨rfl, HB4.out⟩
end Go.Proofs.YtmngofgminlloaaGreatDoor
