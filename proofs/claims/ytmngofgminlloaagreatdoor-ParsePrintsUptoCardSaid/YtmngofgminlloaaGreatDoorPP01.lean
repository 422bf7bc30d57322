/-
  DERIVED: THE SHELF's CONTRACTS AT THIS DUMP, IN PLAIN WORDS (tools/lay-plain.mjs out of 'TryzShelf.lean', which tools/lay-shelf.mjs wrote): THE SAME DECLARATIONS UNDER THE SAME NAMES: 'import', 'namespace', 'open', 'def', 'theorem' AND NOTHING ELSE: no command of the shelf's: FOR A HAND-IN. Each laying: the table of numbers ('.._ren') and one theorem, a field a fact of the dump's own or the kernel's comparison; each contract: ONE APPLICATION.
  The contracts of strings.Builder's methods where the builder is the printer's embedded one (a block of type writer), and what the printer's frame is.
  Where the pieces of a text stand among its words; operands and operators. No program in sight.
  What an expression is (De) is one thing; and what statements, parameters, functions and scripts are (Ds, Dp, Df, Du), in plain Lean.
  The pieces of made scripts: their texts; the scanner takes them as they stand. No program in sight.
  What a reader makes of the expressions of made scripts. No program in sight.
  The derivations of made expressions. No program in sight.
  Made statements with any names of variables: their pieces, their trees. No program in sight.
  The derivations of made statements. No program in sight.
  Compiled scripts, in plain Lean: operations with the height of the stack ahead of each. No program in sight.
  Compiled scripts are sound, in plain Lean: expressions. No program in sight.
  When two scripts are the same in what their kinds use (with positions, if q), in plain Lean.
-/
import Derived.Shelf.Strings.Builder1
import Derived.Shelf.Strings.Trim
import Derived.Shelf.Small.Utf8
import Derived.Shelf.Small.Strs
import Derived.Shelf.Strings.BuilderF
import Derived.Shelf.Strings.BuilderK
import Derived.Shelf.Strconv.Atoi
import Derived.Shelf.Strconv.Itoa0
import Derived.Shelf.Strconv.Itoa1
import Derived.Shelf.LaysM
import Derived.Shelf.Strconv.Itoa2
import Derived.Shelf.Strconv.Itoa3
import Derived.Shelf.Strconv.AtoiErrFast
import Derived.Shelf.Strconv.ParseIntEmpty
import Derived.Shelf.Strconv.AtoiFail
import Derived.Shelf.Strconv.Clone
import Derived.Shelf.Strconv.SyntaxError
import Derived.Shelf.LaysC
import Derived.Shelf.Strconv.ToError
import Derived.Shelf.Strconv.AtoiErr
import Derived.Shelf.Strconv.ErrVar
import Derived.Shelf.Strconv.Lower
import Derived.Shelf.Strconv.ParseUint10
import Derived.Shelf.Strconv.ParseUint10Empty
import Derived.Shelf.Strconv.ParseUint10Any
import Derived.Shelf.Strconv.ParseInt10
import Derived.Shelf.Strconv.AtoiLong
import Derived.Shelf.Strconv.AtoiInnerAll
import Derived.Shelf.Strconv.RangeError
import Derived.Shelf.Strconv.ToErrorRange
import Derived.Shelf.Strconv.AtoiAll
import Derived.Shelf.Strconv.ParseUintEmpty
import Derived.Shelf.Strconv.ParseUint10b64
import Derived.Shelf.Strconv.ParseUint10b32
import Derived.Shelf.Strconv.ParseUint10b16
import Derived.Shelf.Strconv.ParseUint10b8
import Derived.Shelf.Strconv.ParseUint10At
import Derived.Ground.MpProg
import Derived.Shelf.Pu.ParseUintPublic10
import Derived.Shelf.Pu.ErrVarParseUint
import Derived.Shelf.Strings.Search1
import Derived.Shelf.Strings.Search2
import Derived.Shelf.Strings.Search3
import Derived.Shelf.Strings.Cut
import Derived.Shelf.Strings.Shaped
import Derived.Shelf.Strings.Prefix
import Derived.Shelf.Strings.Fields
import Derived.Shelf.Strings.SplitShaped
import Derived.Shelf.Unicode.Latin
import Derived.Shelf.Strings.Runes
import Derived.Shelf.Strings.AsciiSet
import Derived.Shelf.Bits.Mul64
import Derived.Shelf.Unicode.DecodeSlow
import Derived.Shelf.Unicode.DecodeAny
import Derived.Shelf.Unicode.Is16White
import Derived.Shelf.Unicode.IsSpaceAny
import Derived.Shelf.Unicode.DecodeLast
import Derived.Shelf.Unicode.Is16WhiteD
import Derived.Shelf.Unicode.IsSpaceAnyD
import Derived.Shelf.Strings.FieldsAny
import Derived.Shelf.Strings.FieldsFuncAny
import Derived.Shelf.Unicode.Is16Any
import Derived.Shelf.Unicode.Is32Any
import Derived.Shelf.Unicode.ExclAny
import Derived.Shelf.Strings.BuilderCap
import Derived.Shelf.Slices.Turned
import Derived.Shelf.Slices.Equal
import Derived.Ground.Names2Prog
import Derived.Shelf.Slices.Clone
import Derived.Shelf.Slices.Empties2
import Derived.Test.YtmngofgminlloaaGreatDoorProg
import Derived.Test.YtmngofgminlloaaGreatDoorShelf
import Derived.Test.YtmngofgminlloaaGreatDoorTT08
import Derived.Lib.Builder
import Derived.Lib.AppendStr
import Derived.Lib.UnsafeStr
import Derived.Laws.Externs
import Derived.Test.YtmngofgminlloaaGreatDoorTS03
import Derived.Test.YtmngofgminlloaaGreatDoorTT07
import Derived.Test.YtmngofgminlloaaGreatDoorTT09
import Derived.Test.YtmngofgminlloaaGreatDoorTT16
import Derived.Test.YtmngofgminlloaaGreatDoorTT11
set_option linter.all false
namespace Go.Proofs
open Go.Shelf
def Tryz.lays111_ren : Go.Shelf.Ren := ⟨fun | 111 => 30 | n => n, fun | 28 => 29 | 3 => 3 | 4 => 4 | 0 => 0 | n => n, fun | n => n⟩
theorem Tryz.lays111 : Go.Proofs.Lays.n111 Tryz.prog Tryz.lays111_ren := {
  mixed := by kernel_rfl
  f111 := Tryz.func30.trans (congrArg some (by kernel_rfl))
  t0 := Tryz.underlying0
  a0 := Tryz.isAgg0
  z0 := Tryz.sizeOf0
  v0 := Tryz.zeroValue0
  t3 := Tryz.underlying3
  a3 := Tryz.isAgg3
  z3 := Tryz.sizeOf3
  v3 := Tryz.zeroValue3
  t4 := Tryz.underlying4
  a4 := Tryz.isAgg4
  z4 := Tryz.sizeOf4
  v4 := Tryz.zeroValue4
  t28 := Tryz.underlying29
  a28 := Tryz.isAgg29
  z28 := Tryz.sizeOf29
  v28 := Tryz.zeroValue29 }
open Go.RowKit Go.Lib in
/-- slices.Equal at []int: "Equal reports whether two slices are equal: the same length and all elements equal. If the lengths are different, Equal returns false. Otherwise, the elements are compared in increasing index order, and the comparison stops at the first unequal pair. Empty and nil slices are considered equal.": IT RETURNS WHETHER THE TWO LISTS OF ELEMENTS ARE ONE; the world is as it was but for the count of draws (the test 's1[i] != s2[i]' has two reads, whose order the model draws, once a round). 'xs', 'ys': what the cells behind the two addresses hold (the spare capacity too, if you have it); 'xs.take n', 'ys.take m': the elements. THE TWO SLICES MAY OVERLAP. (LAID: no walk: one application.) -/
theorem Tryz.slices_Equal_int (b1 o1 n c b2 o2 m d : Nat) (xs ys : List Int) (w : World) (hx : n ≤ xs.length) (hy : m ≤ ys.length) (hbig : n ≤ 9223372036854775807) (hbig2 : m ≤ 9223372036854775807) (hc1 : ∀ j, j < xs.length → w.cell? ⟨b1, o1 + j, none⟩ = some (.int .i64 (xs.getD j 0))) (hc2 : ∀ j, j < ys.length → w.cell? ⟨b2, o2 + j, none⟩ = some (.int .i64 (ys.getD j 0))) :
    Calls Tryz.prog 30 #[.slice (some ⟨b1, o1, none⟩) n c, .slice (some ⟨b2, o2, none⟩) m d] w fun e w' => e = .returned (.bool (xs.take n == ys.take m)) ∧ ∃ q, w' = w.drewN q := Any.slices_Equal_int Tryz.lays111 b1 o1 n c b2 o2 m d xs ys w hx hy hbig hbig2 hc1 hc2
open Go.RowKit Go.Lib in
/-- The same where the first is of length 0 (a nil one too): no cell is asked for. (LAID: no walk: one application.) -/
theorem Tryz.slices_Equal_int_empty (a1 a2 : Option Addr) (c m d : Nat) (w : World) (hbig2 : m ≤ 9223372036854775807) :
    Calls Tryz.prog 30 #[.slice a1 0 c, .slice a2 m d] w fun e w' => e = .returned (.bool (decide (m = 0))) ∧ w' = w := Any.slices_Equal_int_empty Tryz.lays111 a1 a2 c m d w hbig2
def Tryz.lays193_ren : Go.Shelf.Ren := ⟨fun | 193 => 59 | n => n, fun | 31 => 28 | 9 => 9 | 4 => 4 | 3 => 3 | 0 => 0 | n => n, fun | n => n⟩
theorem Tryz.lays193 : Go.Proofs.Lays.n193 Tryz.prog Tryz.lays193_ren := {
  mixed := by kernel_rfl
  f193 := Tryz.func59.trans (congrArg some (by kernel_rfl))
  t0 := Tryz.underlying0
  a0 := Tryz.isAgg0
  z0 := Tryz.sizeOf0
  v0 := Tryz.zeroValue0
  t3 := Tryz.underlying3
  a3 := Tryz.isAgg3
  z3 := Tryz.sizeOf3
  v3 := Tryz.zeroValue3
  t4 := Tryz.underlying4
  a4 := Tryz.isAgg4
  z4 := Tryz.sizeOf4
  v4 := Tryz.zeroValue4
  t9 := Tryz.underlying9
  a9 := Tryz.isAgg9
  z9 := Tryz.sizeOf9
  v9 := Tryz.zeroValue9
  t31 := Tryz.underlying28
  a31 := Tryz.isAgg28
  z31 := Tryz.sizeOf28
  v31 := Tryz.zeroValue28 }
open Go.RowKit Go.Lib in
/-- slices.Equal at []string: "Equal reports whether two slices are equal: the same length and all elements equal. If the lengths are different, Equal returns false. Otherwise, the elements are compared in increasing index order, and the comparison stops at the first unequal pair. Empty and nil slices are considered equal.": IT RETURNS WHETHER THE TWO LISTS OF ELEMENTS ARE ONE; the world is as it was but for the count of draws (the test 's1[i] != s2[i]' has two reads, whose order the model draws, once a round). 'xs', 'ys': what the cells behind the two addresses hold (the spare capacity too, if you have it); 'xs.take n', 'ys.take m': the elements. THE TWO SLICES MAY OVERLAP. (LAID: no walk: one application.) -/
theorem Tryz.slices_Equal_string (b1 o1 n c b2 o2 m d : Nat) (xs ys : List ByteArray) (w : World) (hx : n ≤ xs.length) (hy : m ≤ ys.length) (hbig : n ≤ 9223372036854775807) (hbig2 : m ≤ 9223372036854775807) (hc1 : ∀ j, j < xs.length → w.cell? ⟨b1, o1 + j, none⟩ = some (.string (xs.getD j ByteArray.empty))) (hc2 : ∀ j, j < ys.length → w.cell? ⟨b2, o2 + j, none⟩ = some (.string (ys.getD j ByteArray.empty))) :
    Calls Tryz.prog 59 #[.slice (some ⟨b1, o1, none⟩) n c, .slice (some ⟨b2, o2, none⟩) m d] w fun e w' => e = .returned (.bool (decide (xs.take n = ys.take m))) ∧ ∃ q, w' = w.drewN q := Any.slices_Equal_string Tryz.lays193 b1 o1 n c b2 o2 m d xs ys w hx hy hbig hbig2 hc1 hc2
open Go.RowKit Go.Lib in
/-- The same where the first is of length 0 (a nil one too): no cell is asked for. (LAID: no walk: one application.) -/
theorem Tryz.slices_Equal_string_empty (a1 a2 : Option Addr) (c m d : Nat) (w : World) (hbig2 : m ≤ 9223372036854775807) :
    Calls Tryz.prog 59 #[.slice a1 0 c, .slice a2 m d] w fun e w' => e = .returned (.bool (decide (m = 0))) ∧ w' = w := Any.slices_Equal_string_empty Tryz.lays193 a1 a2 c m d w hbig2
end Go.Proofs

namespace Go.Proofs.YtmngofgminlloaaGreatDoor
open Go.RowKit Tw

theorem wSize : (Tryz.prog.info? 100).map (·.size) = some 2 := by kernel_rfl
theorem wLies : liesAt Tryz.prog Tryz.prog.depth 102 (2 / Tryz.prog.cellsOf 102) 0 100 1 = true := by kernel_rfl
theorem wByte : (Tryz.prog.info? 5).map (fun i => (i.zero, i.size, i.bytes)) = some (some (.int .u8 0), 1, 1) := by kernel_rfl

set_option maxHeartbeats 1000000 in
set_option maxRecDepth 100000 in
theorem wCopy_used (b : Nat) (w : World) (h0 : w.cell? ⟨b, 0, none⟩ = some (.pointer (some ⟨b, 0, none⟩))) :
    Calls Tryz.prog 100 #[.pointer (some ⟨b, 0, none⟩)] w fun e w' => e = .returned (.tuple #[]) ∧ w' = w := by
  obtain ⟨j, hj, _⟩ := Option.map_eq_some_iff.1 wSize
  go_enter Tryz.func100, Tryz.ntmps100
  go_wp2
  rw [Lib.run_neq_ptr_same w _ Tryz.underlying98 hj]
  go_wp2
  go_end0
  exact ⟨rfl, rfl⟩

set_option maxHeartbeats 1000000 in
set_option maxRecDepth 100000 in
theorem wCopy_fresh (b : Nat) (w : World) (h0 : w.cell? ⟨b, 0, none⟩ = some (.pointer none)) (hsh : w.shape? b = some (102, 2)) (hfz : w.frozen? ⟨b, 0, none⟩ = false) :
    Calls Tryz.prog 100 #[.pointer (some ⟨b, 0, none⟩)] w fun e w' => e = .returned (.tuple #[]) ∧ w' = w.setCell ⟨b, 0, none⟩ (.pointer (some ⟨b, 0, none⟩)) := by
  obtain ⟨j, hj, hjs⟩ := Option.map_eq_some_iff.1 wSize
  go_enter Tryz.func100, Tryz.ntmps100
  go_wp2
  rw [Lib.run_to_unsafe w ⟨b, 0, none⟩ Tryz.underlying98 Tryz.underlying241 hj (by rw [hjs]; decide) hsh (Nat.zero_lt_succ 1)]
  simp only [Result.andThen]
  rw [Oper.upon_value]
  go_wp2
  rw [run_callFunc_extern Tryz.func159 (by kernel_rfl) (by kernel_rfl) (by kernel_rfl) (e := Extern.AbiNoEscape.same) (by kernel_rfl)]
  rw [Lib.run_noEscape]
  simp only [Result.andThen]
  rw [Oper.upon_value]
  go_wp2
  rw [Lib.run_from_unsafe w ⟨b, 0, none⟩ Tryz.underlying241 Tryz.underlying98 hj hsh wLies]
  simp only [Result.andThen]
  rw [Oper.upon_value]
  go_wp2
  go_end0
  exact ⟨rfl, rfl⟩

/-- Blocks that are neither a printer's nor bytes are as they were. -/
structure Kw (w w' : World) : Prop where
  size : w.heap.size ≤ w'.heap.size
  blk : ∀ (k : Nat) (cs : Array Value) (t : Nat) (fr : Nat × Nat), w.heap[k]? = some (Obj.cells cs t fr) → t ≠ 102 → t ≠ 5 → w'.heap[k]? = w.heap[k]?
theorem Kw.refl (w : World) : Kw w w := ⟨Nat.le_refl _, fun _ _ _ _ _ _ _ => rfl⟩
theorem Kw.trans {w w1 w2 : World} (h : Kw w w1) (h' : Kw w1 w2) : Kw w w2 :=
  ⟨Nat.le_trans h.size h'.size, fun k cs t fr hk h1 h2 => (h'.blk k cs t fr ((h.blk k cs t fr hk h1 h2).trans hk) h1 h2).trans (h.blk k cs t fr hk h1 h2)⟩
theorem Kw.of {w w' : World} (h : Below w.heap.size w w') : Kw w w' := ⟨h.size, fun k _ _ _ hk _ _ => h.block k (lt_of_some hk)⟩
theorem Kw.set {w : World} {b j n : Nat} {v : Value} (hb : w.shape? b = some (102, n)) : Kw w (w.setCell ⟨b, j, none⟩ v) := by
  refine ⟨(grown_set w b j v).size, fun k cs t fr hk h1 h2 => (grown_set w b j v).block k (lt_of_some hk) fun e => ?_⟩
  have : k = b := by simpa using e
  subst this
  simp [World.shape?, hk] at hb
  exact h1 hb.1
theorem Kw.app {w w' : World} {base n : Nat} {v : Value} {xs : List Value} (hown : w.ownsRow base 5 1 v n xs) (hg : w.grownBy w' v.ownBlock) : Kw w w' := by
  refine ⟨hg.size, fun k cs t fr hk h1 h2 => hg.block k (lt_of_some hk) fun e0 => ?_⟩
  rcases hown.2 with ⟨rfl, _⟩ | ⟨g, cap, cur, rfl, _, hg2, _⟩
  · cases e0
  · have : k = g := by simpa [Value.ownBlock] using e0
    subst this
    rw [hk] at hg2
    injection hg2 with hg2
    injection hg2 with _ e2
    exact h2 e2
theorem wCopy_any (B b : Nat) (bs : List Value) (w : World) (h : Lib.IsBuilder 102 5 B b bs w) :
    Calls Tryz.prog 100 #[.pointer (some ⟨b, 0, none⟩)] w fun e w' => e = .returned (.tuple #[]) ∧ (Lib.BuilderAt 102 5 B b (.pointer (some ⟨b, 0, none⟩)) bs w' ∧ Below B w w' ∧ Kw w w') := by
  rcases h with h | h
  · refine (wCopy_fresh b w h.cell0 h.shape h.frozen0).mono ?_
    rintro e w' ⟨rfl, rfl⟩
    exact ⟨rfl, h.used _, (Below.refl B w).setCell (p := ⟨b, 0, none⟩) h.1 _, .set h.shape⟩
  · refine (wCopy_used b w h.cell0).mono ?_
    rintro e w' ⟨rfl, rfl⟩
    exact ⟨rfl, h, Below.refl B _, .refl _⟩

set_option maxHeartbeats 2000000 in
set_option maxRecDepth 100000 in
theorem wString_any (B b : Nat) (bs : List Value) (s : ByteArray) (w : World) (h : Lib.IsBuilder 102 5 B b bs w) (hlen : bs.length + s.size ≤ 140737488355328) :
    Calls Tryz.prog 41 #[.pointer (some ⟨b, 0, none⟩), .string s] w fun e w' => e = .returned (.tuple #[.int .i64 s.size, .nilIface]) ∧ (Lib.BuilderAt 102 5 B b (.pointer (some ⟨b, 0, none⟩)) (bs ++ Lib.strCells s) w' ∧ Below B w w' ∧ Kw w w') := by
  obtain ⟨i0, hi, hz0, hz1, hz2⟩ := info_parts wByte
  go_enter Tryz.func41, Tryz.ntmps41
  go_wp2_with (go_at_call 100; refine (wCopy_any B b bs _ h).mono ?_)
  rintro e w1 ⟨rfl, h1, hb1, hk1⟩
  obtain ⟨hB, v, hbk, hown, hne⟩ := h1
  have hlt : b < w1.heap.size := by
    rcases Nat.lt_or_ge b w1.heap.size with h' | h'
    · exact h'
    · simp [Array.getElem?_eq_none h'] at hbk
  have c0 : w1.cell? ⟨b, 0, none⟩ = some (.pointer (some ⟨b, 0, none⟩)) := by rw [Lib.cell_of_heap hbk]; rfl
  have c1 : w1.cell? ⟨b, 1, none⟩ = some v := by rw [Lib.cell_of_heap hbk]; rfl
  go_wp2_with (at_builtin; refine Lib.wpList_append_own_string _ rfl _ _ 50 9 rfl B 5 i0 Tryz.underlying50 Tryz.underlying9 hi hz0 hz1 hz2 _ _ _ rfl hown s rfl ?c3 ?c4 ?c5 ?_)
  case c3 => unfold maxLen; omega
  case c4 => omega
  case c5 => have := hb1.size; omega
  intro v' w2 hown' hgrow _
  have hb2 : w2.heap[b]? = some (.cells #[.pointer (some ⟨b, 0, none⟩), v] 102 (0, 0)) := by
    rw [hgrow.block b hlt (fun e => hne e.symm)]
    exact hbk
  have d0 : w2.cell? ⟨b, 0, none⟩ = some (.pointer (some ⟨b, 0, none⟩)) := by rw [Lib.cell_of_heap hb2]; rfl
  have d1 : w2.cell? ⟨b, 1, none⟩ = some v := by rw [Lib.cell_of_heap hb2]; rfl
  have f1 : w2.frozen? ⟨b, 1, none⟩ = false := Lib.frozen_of_heap hb2 1
  obtain ⟨ao, n', cap, rfl⟩ : ∃ ao n' cap, v' = .slice ao n' cap := by
    rcases hown'.2 with ⟨hv, _⟩ | ⟨g, cap, cur, hv, _⟩
    · exact ⟨_, _, _, hv⟩
    · exact ⟨_, _, _, hv⟩
  go_wp2
  go_ret2
  refine ⟨rfl, ?_, ?_, (hk1.trans (.app hown hgrow)).trans (.set (n := 2) (by simp [World.shape?, hb2]))⟩
  · exact Lib.BuilderAt.put (T := 102) (e := 5) hB hb2 (bs' := bs ++ Lib.strCells s) (by simpa [Lib.strCells_length] using hown') (by decide)
  · exact (hb1.grown hgrow (by have := hb1.size; omega) (fun k hk => (hown.lt k hk).1)).setCell (p := ⟨b, 1, none⟩) hB _

set_option maxHeartbeats 1000000 in
set_option maxRecDepth 100000 in
theorem wText_full (B b : Nat) (l : List UInt8) (w : World) (h : Lib.IsBuilder 102 5 B b (Lib.byteCells l) w) (h0 : l ≠ []) :
    Calls Tryz.prog 45 #[.pointer (some ⟨b, 0, none⟩)] w fun e w' => e = .returned (.string ⟨l.toArray⟩) ∧ Below B w w' := by
  obtain ⟨p, hB, v, hbk, hown, hne⟩ : ∃ p, Lib.BuilderAt 102 5 B b p (Lib.byteCells l) w := by
    rcases h with h | h
    · exact ⟨_, h⟩
    · exact ⟨_, h⟩
  have hl0 : l.length ≠ 0 := by simpa using h0
  rw [Lib.byteCells_length] at hown
  obtain ⟨g, cap, cur, rfl, hbg, hg, hnc, hcm, hcs, htake⟩ : ∃ g cap cur, v = .slice (some ⟨g, 0, none⟩) l.length cap ∧ B ≤ g ∧ w.heap[g]? = some (.cells cur 5 (0, 0)) ∧ l.length ≤ cap ∧ cap ≤ maxLen ∧ cur.size = cap * 1 ∧ cur.toList.take (l.length * 1) = Lib.byteCells l := by
    rcases hown.2 with ⟨_, hz⟩ | ⟨g, cap, cur, hv, r⟩
    · exact absurd hz hl0
    · exact ⟨g, cap, cur, hv, r⟩
  have c1 : w.drew.cell? ⟨b, 1, none⟩ = some (.slice (some ⟨g, 0, none⟩) l.length cap) := by
    have : w.drew.heap[b]? = some (.cells #[p, .slice (some ⟨g, 0, none⟩) l.length cap] 102 (0, 0)) := hbk
    rw [Lib.cell_of_heap this]; rfl
  have hSD : (Builtin.unsafeSliceData_ #[50] 190 #[.slice (some ⟨g, 0, none⟩) l.length cap]).run Tryz.prog w.drew = .ok (.pointer (some ⟨g, 0, none⟩)) w.drew :=
    Lib.run_unsafeSliceData_row _ _ _ _ _ _ (by omega)
  have hUS : (Builtin.unsafeString_ #[190, 3] 9 #[.pointer (some ⟨g, 0, none⟩), .int .i64 l.length]).run Tryz.prog w.drew = .ok (.string ⟨l.toArray⟩) (w.drew.freeze ⟨g, 0, none⟩ l.length) := by
    refine Lib.run_unsafeString_row w.drew 190 3 9 5 Tryz.underlying190 (by kernel_rfl) g cur.size (by have hg' : w.drew.heap[g]? = some (.cells cur 5 (0, 0)) := hg; simp [World.shape?, hg']) l h0 (by omega) (by unfold maxLen at hcm; omega) ?_
    intro j x hx
    have := hown.cells (g := g) rfl j (.int .u8 x.toNat) (by simp [Lib.byteCells, hx])
    exact this
  have hmx : Tryz.prog.follows Departure.mixedOrders = true := by kernel_rfl
  go_enter Tryz.func45, Tryz.ntmps45
  go_wp2
  go_region_o
  all_goals (go_wp2; go_ret; exact ⟨rfl, Lib.below_freeze (Below.drew (Below.refl B w)) (p := ⟨g, 0, none⟩) hbg _⟩)
set_option maxHeartbeats 2000000 in
set_option maxRecDepth 100000 in
theorem wText_nil (B b : Nat) (p : Value) (w : World) (hbk : w.heap[b]? = some (.cells #[p, .slice none 0 0] 102 (0, 0))) :
    Calls Tryz.prog 45 #[.pointer (some ⟨b, 0, none⟩)] w fun e w' => e = .returned (.string ⟨#[]⟩) ∧ Below B w w' := by
  have hUS : ∀ (W : World) (q : Option Addr), (Builtin.unsafeString_ #[190, 3] 9 #[.pointer q, .int .i64 0]).run Tryz.prog W = .ok (.string .empty) W := fun W q => Lib.run_unsafeString_none W _ _ _ q
  have c1 : w.drew.cell? ⟨b, 1, none⟩ = some (.slice none 0 0) := by
    have : w.drew.heap[b]? = some (.cells #[p, .slice none 0 0] 102 (0, 0)) := hbk
    rw [Lib.cell_of_heap this]; rfl
  have hSD : (Builtin.unsafeSliceData_ #[50] 190 #[.slice none 0 0]).run Tryz.prog w.drew = .ok (.pointer none) w.drew := rfl
  have hmx : Tryz.prog.follows Departure.mixedOrders = true := by kernel_rfl
  go_enter Tryz.func45, Tryz.ntmps45
  go_wp2
  go_region_o
  all_goals (go_wp2; go_ret; exact ⟨rfl, Below.drew (Below.refl B w)⟩)
set_option maxHeartbeats 1000000 in
set_option maxRecDepth 100000 in
theorem wLen_any (B b : Nat) (bs : List Value) (w : World) (h : Lib.IsBuilder 102 5 B b bs w) :
    Calls Tryz.prog 44 #[.pointer (some ⟨b, 0, none⟩)] w fun e w' => e = .returned (.int .i64 bs.length) ∧ w' = w := by
  obtain ⟨p, hB, v, hbk, hown, hne⟩ : ∃ p, Lib.BuilderAt 102 5 B b p bs w := by
    rcases h with h | h
    · exact ⟨_, h⟩
    · exact ⟨_, h⟩
  obtain ⟨ao, cap, rfl⟩ : ∃ ao cap, v = .slice ao bs.length cap := by
    rcases hown.2 with ⟨hv, h0⟩ | ⟨g, cap, cur, hv, _⟩
    · exact ⟨none, 0, by rw [hv, h0]⟩
    · exact ⟨_, _, hv⟩
  have c1 : w.cell? ⟨b, 1, none⟩ = some (.slice ao bs.length cap) := by rw [Lib.cell_of_heap hbk]; rfl
  go_enter Tryz.func44, Tryz.ntmps44
  go_wp2
  go_ret
  exact ⟨rfl, rfl⟩
/-- The frame of the printer: its builder at b holds these bytes; what lay below b is as it was. -/
structure WrF (w0 w : World) (b : Nat) (l : Bs) : Prop where
  bl : Lib.IsBuilder 102 5 b b (Lib.byteCells l) w
  bel : Below b w0 w
  kw : Kw w0 w
  gl : Glob w
  big : 10 < b
section
variable {w0 w w' : World} {b : Nat} {l : Bs}
theorem WrF.lt (h : WrF w0 w b l) : b < w.heap.size := by
  rcases h.bl with h | h
  · exact h.lt
  · exact h.lt
theorem WrF.to (h : WrF w0 w b l) (hb : Below w.heap.size w w') : WrF w0 w' b l := by
  have hlt := h.lt
  have go : ∀ p, Lib.BuilderAt 102 5 b b p (Lib.byteCells l) w → Lib.BuilderAt 102 5 b b p (Lib.byteCells l) w' := fun p hp => by
    obtain ⟨hB, v, hbk, hown, hne⟩ := hp
    exact ⟨hB, v, (hb.block b hlt).trans hbk, own_below hown hb, hne⟩
  exact ⟨h.bl.imp (go _) (go _), h.bel.trans (hb.mono (Nat.le_of_lt hlt)), h.kw.trans (.of hb), h.gl.to hb, h.big⟩
theorem WrF.start (h : Glob w) : WrF w (w.alloc (.cells #[.pointer none, .slice none 0 0] 102)) w.heap.size [] :=
  have hb := (Below.refl w.heap.size w).alloc (Nat.le_refl _) (.cells #[.pointer none, .slice none 0 0] 102)
  ⟨Lib.fresh_isBuilder _ _ _, hb, .of hb, h.to hb, h.big⟩
end
theorem byteCells_app (l : Bs) (s : ByteArray) : Lib.byteCells l ++ Lib.strCells s = Lib.byteCells (l ++ s.data.toList) := by simp [Lib.byteCells, Lib.strCells]
/-- A text is written. -/
theorem wr_c (w0 w : World) (b : Nat) (l : Bs) (s : ByteArray) (h : WrF w0 w b l) (hlen : l.length + s.size ≤ 140737488355328) :
    Calls Tryz.prog 41 #[.pointer (some ⟨b, 0, none⟩), .string s] w fun e w' => e = .returned (.tuple #[.int .i64 s.size, .nilIface]) ∧ WrF w0 w' b (l ++ s.data.toList) := by
  refine (wString_any b b (Lib.byteCells l) s w h.bl (by rw [Lib.byteCells_length]; exact hlen)).mono ?_
  rintro e w' ⟨rfl, h1, h2, h3⟩
  refine ⟨rfl, .inr ?_, h.bel.trans h2, h.kw.trans h3, h.gl.same h2.size (fun g hg => h2.block g (by have := h.big; omega)), h.big⟩
  rw [← byteCells_app]
  exact h1
theorem wText_c (w0 w : World) (b : Nat) (l : Bs) (h : WrF w0 w b l) (h0 : l = [] → ∃ p, w.heap[b]? = some (.cells #[p, .slice none 0 0] 102 (0, 0))) :
    Calls Tryz.prog 45 #[.pointer (some ⟨b, 0, none⟩)] w fun e w' => e = .returned (.string ⟨l.toArray⟩) ∧ Below b w w' := by
  by_cases hl : l = []
  · subst hl
    obtain ⟨p, hp⟩ := h0 rfl
    exact wText_nil b b p w hp
  · exact wText_full b b l w h.bl hl
end Go.Proofs.YtmngofgminlloaaGreatDoor

namespace Go.Proofs.YtmngofgminlloaaGreatDoor
open Go.RowKit Tw

/-- Kinds and texts, whatever the places. -/
def ktW (ws : List Wd) : List (Nat × ByteArray) := ws.map fun x => (x.kind, x.text)
def ktP : List Pc → List (Nat × ByteArray)
  | [] => []
  | .sp _ :: l => ktP l
  | .w c t :: l => (c, ⟨t.toArray⟩) :: ktP l
/-- From the word i on, the words are those of these pieces. -/
def AtP (ws : List Wd) (i : Nat) (l : List Pc) : Prop := ktW (ws.drop i) = ktP l
theorem kt_pcsW : ∀ (l : List Pc) (k : Nat), ktW (pcsW l k) = ktP l
  | [], _ => rfl
  | .sp _ :: l, k => kt_pcsW l (k + 1)
  | .w c t :: l, k => by simp only [pcsW, ktP]; exact congrArg (List.cons _) (kt_pcsW l _)
def nW : List Pc → Nat
  | [] => 0
  | .sp _ :: l => nW l
  | .w _ _ :: l => nW l + 1
theorem nW_app : ∀ (a b : List Pc), nW (a ++ b) = nW a + nW b
  | [], b => by simp [nW]
  | .sp _ :: l, b => by simp only [List.cons_append, nW]; exact nW_app l b
  | .w _ _ :: l, b => by simp only [List.cons_append, nW, nW_app l b]; omega
section
variable {ws : List Wd} {en i : Nat} {l : List Pc} {c : Nat} {t : Bs}
theorem AtP.sp {b : UInt8} (h : AtP ws i (.sp b :: l)) : AtP ws i l := h
theorem AtP.w (h : AtP ws i (.w c t :: l)) : (∃ k, ws[i]? = some ⟨c, ⟨t.toArray⟩, k⟩) ∧ AtP ws (i + 1) l := by
  unfold AtP at h ⊢
  simp only [ktP] at h
  cases hd : ws.drop i with
  | nil => rw [hd] at h; cases h
  | cons x r =>
    rw [hd] at h
    simp only [ktW, List.map_cons] at h
    injection h with h1 h2
    injection h1 with h1 h3
    refine ⟨⟨x.pos, ?_⟩, ?_⟩
    · have := congrArg List.head? hd
      rw [List.head?_drop] at this
      rw [this, ← h1, ← h3]
      rfl
    · rw [← List.drop_drop, hd]; exact h2
theorem AtP.start (l : List Pc) (k : Nat) : AtP (pcsW l k) 0 l := kt_pcsW l k
theorem at_kind {k : Nat} (h : ws[i]? = some ⟨c, ⟨t.toArray⟩, k⟩) : kindAt ws i = c := by unfold kindAt; rw [h]
theorem at_text {k : Nat} (h : ws[i]? = some ⟨c, ⟨t.toArray⟩, k⟩) : textAt ws i = ⟨t.toArray⟩ := by unfold textAt; rw [h]
theorem at_lv {k : Nat} (h : ws[i]? = some ⟨c, ⟨t.toArray⟩, k⟩) : lvAt ws i = lv t := by unfold lvAt; rw [h]
theorem at_is {k : Nat} (s : Bs) (h : ws[i]? = some ⟨c, ⟨t.toArray⟩, k⟩) : isAt ws i ⟨s.toArray⟩ = (t == s) := by
  unfold isAt; rw [h]
  simp only [ByteArray.toList_eq]

/-- An operand, where no operator of its level or higher follows. -/
theorem De.up {x : Ex} {j : Nat} (h : De ws en (.one i) (.ex x j)) : ∀ (n : Nat), n ≤ 6 → (∀ m, n ≤ m → m ≤ 5 → lvAt ws j ≠ m) → De ws en (.lvl n i) (.ex x j) := by
  have key : ∀ q n, n + q = 6 → (∀ m, n ≤ m → m ≤ 5 → lvAt ws j ≠ m) → De ws en (.lvl n i) (.ex x j) := by
    intro q
    induction q with
    | zero => intro n hn _; obtain rfl : n = 6 := by omega
              exact .lvl6 h
    | succ q ih => intro n hn hm; exact .lvl (by omega) (ih (n + 1) (by omega) (fun m h1 h2 => hm m (by omega) h2)) (.stop (hm n (Nat.le_refl _) (by omega)))
  exact fun n hn hm => key (6 - n) n (by omega) hm
/-- From one level down to a lower one. -/
theorem De.down {x : Ex} {j L : Nat} (h : De ws en (.lvl L i) (.ex x j)) (hL : L ≤ 6) : ∀ (n : Nat), n ≤ L → (∀ m, n ≤ m → m < L → lvAt ws j ≠ m) → De ws en (.lvl n i) (.ex x j) := by
  have key : ∀ q n, n + q = L → (∀ m, n ≤ m → m < L → lvAt ws j ≠ m) → De ws en (.lvl n i) (.ex x j) := by
    intro q
    induction q with
    | zero => intro n hn _; obtain rfl : n = L := by omega
              exact h
    | succ q ih => intro n hn hm; exact .lvl (by omega) (ih (n + 1) (by omega) (fun m h1 h2 => hm m (by omega) h2)) (.stop (hm n (Nat.le_refl _) (by omega)))
  exact fun n hn hm => key (L - n) n (by omega) hm
/-- An operator between two operands. -/
theorem De.two {x y : Ex} {j j' L : Nat} (hL : L ≤ 5) (h3 : L ≠ 3) (hx : De ws en (.lvl (L + 1) i) (.ex x j)) (hl : lvAt ws j = L) (hy : De ws en (.lvl (L + 1) (j + 1)) (.ex y j')) (hn : lvAt ws j' ≠ L) : De ws en (.lvl L i) (.ex (twoEx ws en j x y) j') :=
  .lvl (by omega) hx (.go h3 hl hy (.stop hn))
theorem De.comp {x y : Ex} {j j' : Nat} (hx : De ws en (.lvl 4 i) (.ex x j)) (hl : lvAt ws j = 3) (hy : De ws en (.lvl 4 (j + 1)) (.ex y j')) (hn : lvAt ws j' ≠ 3) : De ws en (.lvl 3 i) (.ex (twoEx ws en j x y) j') :=
  .lvl (by omega) hx (.cmp hl hy hn)
end
end Go.Proofs.YtmngofgminlloaaGreatDoor

namespace Go.Proofs.YtmngofgminlloaaGreatDoor
open Go.RowKit Tw

set_option maxHeartbeats 4000000 in
theorem De.det {ws : List Wd} {en : Nat} {q : Qe} {r : Re} (h : De ws en q r) : ∀ r', De ws en q r' → r = r' := by
  induction h with
  | lvl6 _ ih => intro r' h'; cases h' <;> first | (apply ih; assumption) | contradiction
  | lvl hn _ _ ih1 ih2 =>
    intro r' h'
    cases h' with
    | lvl6 => contradiction
    | lvl _ h1 h2 => have e := ih1 _ h1; injection e with e1 e2; subst e1; subst e2; exact ih2 _ h2
    | lvlB _ h1 => have e := ih1 _ h1; cases e
  | lvlB hn _ ih1 =>
    intro r' h'
    cases h' with
    | lvl6 => contradiction
    | lvl _ h1 h2 => have e := ih1 _ h1; cases e
    | lvlB _ h1 => exact ih1 _ h1
  | stop h0 => intro r' h'; cases h' <;> first | rfl | contradiction
  | go h3 h0 _ _ ih1 ih2 =>
    intro r' h'
    cases h' with
    | stop g0 => contradiction
    | go _ _ h1 h2 => have e := ih1 _ h1; injection e with e1 e2; subst e1; subst e2; exact ih2 _ h2
    | goB _ h1 => have e := ih1 _ h1; cases e
    | cmp => contradiction
    | cmpB => contradiction
  | goB h0 _ ih1 =>
    intro r' h'
    cases h' with
    | stop g0 => contradiction
    | go _ _ h1 h2 => have e := ih1 _ h1; cases e
    | goB _ h1 => exact ih1 _ h1
    | cmp _ h1 => have e := ih1 _ h1; cases e
    | cmpB _ h1 => have e := ih1 _ h1; cases e
  | cmp h0 _ hx ih1 =>
    intro r' h'
    cases h' with
    | stop g0 => contradiction
    | go g0 => contradiction
    | goB _ h1 => have e := ih1 _ h1; cases e
    | cmp _ h1 => have e := ih1 _ h1; injection e with e1 e2; subst e1; subst e2; rfl
    | cmpB _ h1 => have e := ih1 _ h1; injection e with e1 e2; subst e1; subst e2; contradiction
  | cmpB h0 _ hx ih1 =>
    intro r' h'
    cases h' with
    | stop g0 => contradiction
    | go g0 => contradiction
    | goB _ h1 => have e := ih1 _ h1; cases e
    | cmp _ h1 => have e := ih1 _ h1; injection e with e1 e2; subst e1; subst e2; contradiction
    | cmpB _ h1 => have e := ih1 _ h1; injection e with e1 e2; subst e1; subst e2; rfl
  | neg h0 _ ih | not h0 _ ih =>
    intro r' h'
    cases h' <;> first
      | (exfalso; omega)
      | (rename_i h1; have e := ih _ h1; first | (cases e; done) | (injection e with e1 e2; subst e1; subst e2; rfl))
  | negB h0 _ ih | notB h0 _ ih | parB h0 _ ih =>
    intro r' h'
    cases h' <;> first
      | (exfalso; omega)
      | (rename_i h1; have e := ih _ h1; first | (cases e; done) | (injection e with e1; subst e1; rfl))
      | (rename_i h1 _; have e := ih _ h1; first | (cases e; done) | (injection e with e1; subst e1; rfl))
  | par h0 _ hc ih | parC h0 _ hc ih =>
    intro r' h'
    cases h' with
    | parB _ h1 => have e := ih _ h1; cases e
    | par _ h1 g | parC _ h1 g => have e := ih _ h1; injection e with e1 e2; subst e1; subst e2; first | rfl | (rw [hc] at g; cases g)
    | _ => exfalso; omega
  | tru h0 | fls h0 | num h0 | nobody h0 => intro r' h'; cases h' <;> first | rfl | (exfalso; omega)
  | host h0 hk hc _ ih | hostB h0 hk hc _ ih =>
    intro r' h'
    cases h' <;> first
      | (exfalso; omega)
      | contradiction
      | (rename_i g _; rw [hc] at g; cases g; done)
      | (rename_i g; rw [hc] at g; cases g; done)
      | (rename_i h1; have e := ih _ h1; first | (cases e; done) | (injection e with e1 e2; subst e1; subst e2; rfl) | (injection e with e1; subst e1; rfl))
  | hostC h0 hk hc =>
    intro r' h'
    cases h' <;> first
      | rfl
      | (exfalso; omega)
      | contradiction
      | (rename_i g _; rw [hc] at g; cases g; done)
  | hostD h0 hk => intro r' h'; cases h' <;> first | rfl | (exfalso; omega) | contradiction
  | var h0 hc =>
    intro r' h'
    cases h' <;> first
      | rfl
      | (exfalso; omega)
      | (rename_i g _; rw [hc] at g; cases g; done)
  | call h0 hc _ ih | callB h0 hc _ ih =>
    intro r' h'
    cases h' <;> first
      | (exfalso; omega)
      | (rename_i g; rw [hc] at g; cases g; done)
      | (rename_i h1; have e := ih _ h1; first | (cases e; done) | (injection e with e1 e2; subst e1; subst e2; rfl) | (injection e with e1; subst e1; rfl))
  | close hc =>
    intro r' h'
    cases h' <;> first | rfl | (rename_i g _ _; rw [hc] at g; cases g; done) | (rename_i g _; rw [hc] at g; cases g; done) | (rename_i g _ _ _; rw [hc] at g; cases g; done)
  | first hc _ _ ih1 ih2 | firstR hc _ _ ih1 ih2 =>
    intro r' h'
    cases h' with
    | close g => rw [hc] at g; cases g
    | first _ h1 h2 => have e := ih1 _ h1; injection e with e1 e2; subst e1; subst e2; have e := ih2 _ h2; first | (cases e; done) | (injection e with e1 e2; subst e1; subst e2; rfl)
    | firstR _ h1 h2 => have e := ih1 _ h1; injection e with e1 e2; subst e1; subst e2; have e := ih2 _ h2; first | (cases e; done) | (injection e with e1; subst e1; rfl)
    | firstB _ h1 => have e := ih1 _ h1; cases e
  | firstB hc _ ih1 =>
    intro r' h'
    cases h' with
    | close g => rw [hc] at g; cases g
    | first _ h1 h2 => have e := ih1 _ h1; cases e
    | firstR _ h1 h2 => have e := ih1 _ h1; cases e
    | firstB _ h1 => exact ih1 _ h1
  | next hc hd _ _ ih1 ih2 | nextR hc hd _ _ ih1 ih2 =>
    intro r' h'
    cases h' with
    | close g => rw [hc] at g; cases g
    | next _ _ h1 h2 => have e := ih1 _ h1; injection e with e1 e2; subst e1; subst e2; have e := ih2 _ h2; first | (cases e; done) | (injection e with e1 e2; subst e1; subst e2; rfl)
    | nextR _ _ h1 h2 => have e := ih1 _ h1; injection e with e1 e2; subst e1; subst e2; have e := ih2 _ h2; first | (cases e; done) | (injection e with e1; subst e1; rfl)
    | nextB _ _ h1 => have e := ih1 _ h1; cases e
    | nextC _ g => rw [hd] at g; cases g
  | nextB hc hd _ ih1 =>
    intro r' h'
    cases h' with
    | close g => rw [hc] at g; cases g
    | next _ _ h1 h2 => have e := ih1 _ h1; cases e
    | nextR _ _ h1 h2 => have e := ih1 _ h1; cases e
    | nextB _ _ h1 => exact ih1 _ h1
    | nextC _ g => rw [hd] at g; cases g
  | nextC hc hd =>
    intro r' h'
    cases h' with
    | close g => rw [hc] at g; cases g
    | next _ g => rw [hd] at g; cases g
    | nextR _ g => rw [hd] at g; cases g
    | nextB _ g => rw [hd] at g; cases g
    | nextC => rfl

end Go.Proofs.YtmngofgminlloaaGreatDoor

namespace Go.Proofs.YtmngofgminlloaaGreatDoor
open Go.RowKit Tw

theorem mk_l (l : List UInt8) : (⟨l.toArray⟩ : ByteArray).data.toList = l := by simp
end Go.Proofs.YtmngofgminlloaaGreatDoor

namespace Go.Proofs.YtmngofgminlloaaGreatDoor
open Go.RowKit Tw

def hqT (c : Nat) (t : Bs) : Nat :=
  if t == [45] then 1 else if t == [33] then 2 else if t == [40] then 3 else if t == [116, 114, 117, 101] then 4 else if t == [102, 97, 108, 115, 101] then 5 else if t == [64] then 6
  else if c = 1 then 7 else if c = 2 then 8 else 0
section
variable {ws : List Wd} {en i : Nat} {c : Nat} {t : Bs}
theorem at_head {k : Nat} (h : ws[i]? = some ⟨c, ⟨t.toArray⟩, k⟩) : headQ ws i = hqT c t := by
  unfold headQ hqT
  rw [show sMinus = ⟨([45] : Bs).toArray⟩ from rfl, show sBang = ⟨([33] : Bs).toArray⟩ from rfl, show sOpen = ⟨([40] : Bs).toArray⟩ from rfl, show sTrue = ⟨([116, 114, 117, 101] : Bs).toArray⟩ from rfl, show sFalse = ⟨([102, 97, 108, 115, 101] : Bs).toArray⟩ from rfl, show sHost = ⟨([64] : Bs).toArray⟩ from rfl]
  rw [at_is _ h, at_is _ h, at_is _ h, at_is _ h, at_is _ h, at_is _ h, at_kind h]
theorem hq_name (h : isName t = true) : hqT 2 t = 8 := by
  have h1 : ∀ s : Bs, s ∈ ([[45], [33], [40], [116, 114, 117, 101], [102, 97, 108, 115, 101], [64]] : List Bs) → (t == s) = false := by
    intro s hs
    rw [beq_eq_false_iff_ne]
    rintro rfl
    have : ∀ s : Bs, s ∈ ([[45], [33], [40], [116, 114, 117, 101], [102, 97, 108, 115, 101], [64]] : List Bs) → isName s = false := by decide
    rw [this _ hs] at h; cases h
  unfold hqT
  rw [h1 [45] (by decide), h1 [33] (by decide), h1 [40] (by decide), h1 [116, 114, 117, 101] (by decide), h1 [102, 97, 108, 115, 101] (by decide), h1 [64] (by decide)]
  rfl
theorem hq_num (n : Nat) : hqT 1 (numL n) = 7 := by
  have h1 : ∀ s : Bs, s ∈ ([[45], [33], [40], [116, 114, 117, 101], [102, 97, 108, 115, 101], [64]] : List Bs) → (numL n == s) = false := by
    intro s hs
    rw [beq_eq_false_iff_ne]
    intro e
    have h2 : ∀ s : Bs, s ∈ ([[45], [33], [40], [116, 114, 117, 101], [102, 97, 108, 115, 101], [64]] : List Bs) → ¬ ∀ c ∈ s, isD c = true := by decide
    exact h2 s hs (e ▸ numL_D n)
  unfold hqT
  rw [h1 [45] (by decide), h1 [33] (by decide), h1 [40] (by decide), h1 [116, 114, 117, 101] (by decide), h1 [102, 97, 108, 115, 101] (by decide), h1 [64] (by decide)]
  rfl
end
end Go.Proofs.YtmngofgminlloaaGreatDoor

namespace Go.Proofs.YtmngofgminlloaaGreatDoor
open Go.RowKit Tw

section
variable {ws : List Wd} {en : Nat}
/-- What stands behind an operand: no opening parenthesis, no operator of these levels. -/
theorem lv_sign (c : UInt8) (h : c ∈ ([41, 44, 59, 123] : Bs)) : lv [c] = 0 := by
  have : ∀ c ∈ ([41, 44, 59, 123] : Bs), lv [c] = 0 := by decide
  exact this c h
theorem is_no {i c k : Nat} {t : Bs} {s : Bs} (h : ws[i]? = some ⟨c, ⟨t.toArray⟩, k⟩) (hne : (t == s) = false) : isAt ws i ⟨s.toArray⟩ = false := by rw [at_is _ h, hne]
theorem is_yes {i c k : Nat} {t : Bs} (h : ws[i]? = some ⟨c, ⟨t.toArray⟩, k⟩) : isAt ws i ⟨t.toArray⟩ = true := by rw [at_is _ h]; simp
theorem AtP.skip : ∀ (a : List Pc) {b : List Pc} {i : Nat}, AtP ws i (a ++ b) → AtP ws (i + nW a) b
  | [], b, i, h => h
  | .sp _ :: l, b, i, h => AtP.skip l h.sp
  | .w _ _ :: l, b, i, h => by
    have := AtP.skip l h.w.2
    rw [show i + 1 + nW l = i + (nW l + 1) by omega] at this
    exact this
/-- An expression in parentheses. -/
theorem par_d {x : Ex} {i j k k' c c' : Nat} (h0 : ws[i]? = some ⟨c, ⟨([40] : Bs).toArray⟩, k⟩) (h : De ws en (.lvl 1 (i + 1)) (.ex x j)) (h1 : ws[j]? = some ⟨c', ⟨([41] : Bs).toArray⟩, k'⟩) : De ws en (.one i) (.ex x (j + 1)) :=
  .par (by rw [at_head h0]; rfl) h (is_yes h1)
theorem name_no {t : Bs} (h : isName t = true) (c : UInt8) (hc : isL c = false) : (t == [c]) = false := by
  rw [beq_eq_false_iff_ne]
  rintro rfl
  simp [isName, hc] at h
theorem num_no (n : Nat) (c : UInt8) (hc : isD c = false) : (numL n == [c]) = false := by
  rw [beq_eq_false_iff_ne]
  intro e
  have := numL_D n c (e ▸ List.mem_cons_self ..)
  rw [hc] at this; cases this
/-- No expression begins with a closing parenthesis. -/
theorem GE.first (x : GE) : x.okW → ∀ (i : Nat) (rest : List Pc), AtP ws i (x.pcs ++ rest) → isAt ws i sClose = false := by
  induction x with
  | var s => intro hw i rest h; obtain ⟨⟨k, hk⟩, _⟩ := h.w; exact is_no (s := [41]) hk (name_no hw 41 (by decide))
  | lit n => intro hw i rest h; obtain ⟨⟨k, hk⟩, _⟩ := h.w; exact is_no (s := [41]) hk (num_no n 41 (by decide))
  | neg x _ => intro hw i rest h; simp only [GE.pcs, List.append_assoc, List.cons_append, List.nil_append] at h; obtain ⟨⟨k, hk⟩, _⟩ := h.w; exact is_no (s := [41]) hk (by decide)
  | call f x y _ _ => intro hw i rest h; simp only [GE.pcs, List.append_assoc, List.cons_append, List.nil_append] at h; obtain ⟨⟨k, hk⟩, _⟩ := h.w; exact is_no (s := [41]) hk (name_no (name_num (c := 102) (by decide) f (by have := hw.1; omega)) 41 (by decide))
  | host k x _ => intro hw i rest h; simp only [GE.pcs, List.append_assoc, List.cons_append, List.nil_append] at h; obtain ⟨⟨k, hk⟩, _⟩ := h.w; exact is_no (s := [41]) hk (by decide)
  | bin o x y _ _ => intro hw i rest h; simp only [GE.pcs, List.append_assoc, List.cons_append, List.nil_append] at h; obtain ⟨⟨k, hk⟩, _⟩ := h.w; exact is_no (s := [41]) hk (by decide)
  | not x _ => intro hw i rest h; simp only [GE.pcs, List.append_assoc, List.cons_append, List.nil_append] at h; obtain ⟨⟨k, hk⟩, _⟩ := h.w; exact is_no (s := [41]) hk (by decide)
  | and x y _ _ => intro hw i rest h; simp only [GE.pcs, List.append_assoc, List.cons_append, List.nil_append] at h; obtain ⟨⟨k, hk⟩, _⟩ := h.w; exact is_no (s := [41]) hk (by decide)
  | or x y _ _ => intro hw i rest h; simp only [GE.pcs, List.append_assoc, List.cons_append, List.nil_append] at h; obtain ⟨⟨k, hk⟩, _⟩ := h.w; exact is_no (s := [41]) hk (by decide)
  | tf k => intro hw i rest h; obtain ⟨⟨k', hk⟩, _⟩ := h.w; exact is_no (s := [41]) hk (by unfold tfL; split <;> decide)
  | cmp o x y ihx _ => intro hw i rest h; simp only [GE.pcs, List.append_assoc] at h; exact ihx hw.1 i _ h
end
end Go.Proofs.YtmngofgminlloaaGreatDoor

namespace Go.Proofs.YtmngofgminlloaaGreatDoor
open Go.RowKit Tw

end Go.Proofs.YtmngofgminlloaaGreatDoor

namespace Go.Proofs.YtmngofgminlloaaGreatDoor
open Go.RowKit Tw

def hsT (c : Nat) (t : Bs) (e : Bool) : Nat :=
  if t == [108, 101, 116] then 1 else if t == [105, 102] then 3 else if t == [119, 104, 105, 108, 101] then 4 else if t == [114, 101, 116, 117, 114, 110] then 5 else if t == [121, 105, 101, 108, 100] then 6
  else if c = 2 ∧ e = true then 2 else 7
section
variable {ws : List Wd} {en : Nat} {ρ : ByteArray → ByteArray}
theorem at_hs {i c k : Nat} {t : Bs} (h : ws[i]? = some ⟨c, ⟨t.toArray⟩, k⟩) : headS ws i = hsT c t (isAt ws (i + 1) sEq) := by
  unfold headS hsT
  rw [show sLet = ⟨([108, 101, 116] : Bs).toArray⟩ from rfl, show sIf = ⟨([105, 102] : Bs).toArray⟩ from rfl, show sWhile = ⟨([119, 104, 105, 108, 101] : Bs).toArray⟩ from rfl, show sReturn = ⟨([114, 101, 116, 117, 114, 110] : Bs).toArray⟩ from rfl, show sYield = ⟨([121, 105, 101, 108, 100] : Bs).toArray⟩ from rfl]
  rw [at_is _ h, at_is _ h, at_is _ h, at_is _ h, at_is _ h, at_kind h]
theorem hs_name {t : Bs} (h : isName t = true) (e : Bool) : hsT 2 t e = if e = true then 2 else 7 := by
  have h1 : ∀ s : Bs, s ∈ ([[108, 101, 116], [105, 102], [119, 104, 105, 108, 101], [114, 101, 116, 117, 114, 110], [121, 105, 101, 108, 100]] : List Bs) → (t == s) = false := by
    intro s hs
    rw [beq_eq_false_iff_ne]
    rintro rfl
    have : ∀ s : Bs, s ∈ ([[108, 101, 116], [105, 102], [119, 104, 105, 108, 101], [114, 101, 116, 117, 114, 110], [121, 105, 101, 108, 100]] : List Bs) → isName s = false := by decide
    rw [this _ hs] at h; cases h
  unfold hsT
  rw [h1 [108, 101, 116] (by decide), h1 [105, 102] (by decide), h1 [119, 104, 105, 108, 101] (by decide), h1 [114, 101, 116, 117, 114, 110] (by decide), h1 [121, 105, 101, 108, 100] (by decide)]
  simp
theorem hs_num (n : Nat) (e : Bool) : hsT 1 (numL n) e = 7 := by
  have h1 : ∀ s : Bs, s ∈ ([[108, 101, 116], [105, 102], [119, 104, 105, 108, 101], [114, 101, 116, 117, 114, 110], [121, 105, 101, 108, 100]] : List Bs) → (numL n == s) = false := by
    intro s hs
    rw [beq_eq_false_iff_ne]
    intro e
    have h2 : ∀ s : Bs, s ∈ ([[108, 101, 116], [105, 102], [119, 104, 105, 108, 101], [114, 101, 116, 117, 114, 110], [121, 105, 101, 108, 100]] : List Bs) → ¬ ∀ c ∈ s, isD c = true := by decide
    exact h2 s hs (e ▸ numL_D n)
  unfold hsT
  rw [h1 [108, 101, 116] (by decide), h1 [105, 102] (by decide), h1 [119, 104, 105, 108, 101] (by decide), h1 [114, 101, 116, 117, 114, 110] (by decide), h1 [121, 105, 101, 108, 100] (by decide)]
  simp
theorem bs_mk (s : ByteArray) : (⟨s.data.toList.toArray⟩ : ByteArray) = s := by cases s; simp
theorem simp_d {i q j k : Nat} {y : Ex} {nm : ByteArray} (hh : headS ws i = k) (h3 : k ≠ 3) (h4 : k ≠ 4) (h1 : k = 1 → kindAt ws (i + 1) = 2 ∧ isAt ws (i + 2) sEq = true) (hq : exprS ws i = q) (hn : nameS ws i = nm) (hd : De ws en (.lvl 1 q) (.ex y j)) (hs : isAt ws j sSemi = true) :
    Ds ws en (.stmt i) (.st (.mk (k : Int) nm y [] [] (posAt ws i en)) (j + 1)) := by
  subst hh hq hn
  exact .simp h3 h4 h1 hd hs
end
end Go.Proofs.YtmngofgminlloaaGreatDoor

namespace Go.Proofs.YtmngofgminlloaaGreatDoor
open Go.RowKit Tw

/-- An operation: what it does, its number. -/
abbrev Cop : Type := Int × Int
abbrev Cops : Type := List (Cop × Nat)
/-- The variables that can be seen, the oldest first, with their numbers. -/
abbrev Vars : Type := List (ByteArray × Int)
def varNo (vs : Vars) (s : ByteArray) : Int := match vs.find? (fun q => decide (q.1 = s)) with | some q => q.2 | none => 0
/-! ### what is sound -/
def popsOf (ps : List Nat) (o : Cop) : Nat :=
  if o.1 = 1 ∨ o.1 = 2 ∨ o.1 = 15 then 0 else if o.1 = 17 then ps.getD o.2.toNat 0 else if o.1 = 20 then (o.2 % 8).toNat
  else if o.1 = 3 ∨ o.1 = 4 ∨ o.1 = 5 ∨ o.1 = 6 ∨ o.1 = 16 ∨ o.1 = 18 ∨ o.1 = 19 then 1 else 2
def pushOf (o : Cop) : Nat := if o.1 = 3 ∨ o.1 = 4 ∨ o.1 = 15 ∨ o.1 = 16 ∨ o.1 = 18 ∨ o.1 = 19 then 0 else 1
/-- Where an operation may continue. -/
def succC (k : Nat) (o : Cop) : List Nat := if o.1 = 18 then [] else if o.1 = 15 then [o.2.toNat] else if o.1 = 16 then [k + 1, o.2.toNat] else [k + 1]
/-- The number of values of an operation's number (0: any). -/
def limC (nf nv len : Nat) (d : Int) : Nat := if d = 1 then 0 else if d = 2 ∨ d = 3 then nv else if d = 15 ∨ d = 16 then len else if d = 17 then nf else if d = 20 then 128 else 1
def OpFit (nf nv len : Nat) (o : Cop) : Prop := 1 ≤ o.1 ∧ o.1 ≤ 20 ∧ (o.1 ≠ 1 → 0 ≤ o.2 ∧ o.2 < limC nf nv len o.1) ∧ (o.1 = 20 → o.2 % 8 ≤ 6)
/-- At k there is an operation with height h ahead of it. -/
def AtC (C : Cops) (k h : Nat) : Prop := ∃ o, C[k]? = some (o, h)
def StepC (ps : List Nat) (nv : Nat) (C : Cops) (k : Nat) (o : Cop) (h : Nat) : Prop :=
  OpFit ps.length nv C.length o ∧ popsOf ps o ≤ h ∧ h - popsOf ps o + pushOf o ≤ 256 ∧ ∀ j ∈ succC k o, AtC C j (h - popsOf ps o + pushOf o)
/-- A function's operations from lo to hi are sound. -/
def BlkX (ps : List Nat) (nv : Nat) (C : Cops) (lo hi : Nat) : Prop := ∀ k, lo ≤ k → k < hi → ∃ o h, C[k]? = some (o, h) ∧ StepC ps nv C k o h
/-- L lies in C at n. -/
def SubC (C : Cops) (n : Nat) (L : Cops) : Prop := ∀ i x, L[i]? = some x → C[n + i]? = some x
section
variable {ps : List Nat} {nv : Nat} {C L L' : Cops} {n lo hi mid k h : Nat} {o : Cop} {x : Cop × Nat}
theorem SubC.app (hs : SubC C n (L ++ L')) : SubC C n L ∧ SubC C (n + L.length) L' := by
  refine ⟨fun i x hi => hs i x ?_, fun i x hi => ?_⟩
  · have : i < L.length := by rcases Nat.lt_or_ge i L.length with h | h; exact h; rw [List.getElem?_eq_none h] at hi; cases hi
    rw [List.getElem?_append_left this]; exact hi
  · have := hs (L.length + i) x (by rw [List.getElem?_append_right (by omega)]; simpa using hi)
    rwa [← Nat.add_assoc] at this
theorem SubC.cons (hs : SubC C n (x :: L)) : C[n]? = some x ∧ SubC C (n + 1) L := by
  refine ⟨by simpa using hs 0 x rfl, fun i y hi => ?_⟩
  have := hs (i + 1) y (by simpa using hi)
  rwa [show n + (i + 1) = n + 1 + i by omega] at this
theorem BlkX.one (ho : C[k]? = some (o, h)) (hs : StepC ps nv C k o h) : BlkX ps nv C k (k + 1) := fun j ha hb => by
  obtain rfl : j = k := by omega
  exact ⟨o, h, ho, hs⟩
end
end Go.Proofs.YtmngofgminlloaaGreatDoor

namespace Go.Proofs.YtmngofgminlloaaGreatDoor
open Go.RowKit Tw

theorem exsF_each : ∀ {l : List Ex} {left : Nat}, exsF l left = 0 → ∀ a ∈ l, exF a left = 0 := by
  intro l
  induction l with
  | nil => intro left _ a ha; cases ha
  | cons b l ih =>
    intro left h a ha
    rw [exsF] at h
    split at h
    · rename_i h0
      rcases List.mem_cons.1 ha with rfl | ha
      · exact h0
      · exact ih h a ha
    · rename_i h0; exact absurd h h0
theorem exF_each {k n : Int} {t : ByteArray} {xs : List Ex} {p : Int} {left : Nat} (h : exF (.mk k n t xs p) left = 0) : 1 ≤ left ∧ okEx k n t xs.length = true ∧ xs.length ≤ 6 ∧ (k = 8 → n ≤ 15) ∧ ∀ a ∈ xs, exF a (left - 1) = 0 := by
  rw [exF] at h
  unfold headF at h
  by_cases h0 : left = 0
  · rw [if_pos h0] at h; simp at h
  rw [if_neg h0] at h
  cases ho : okEx k n t xs.length with
  | false => rw [ho] at h; simp at h
  | true =>
    rw [ho] at h
    by_cases h1 : 6 < xs.length ∨ (k = 8 ∧ 15 < n)
    · simp [h1] at h
    · simp only [Bool.true_eq_false, if_false, if_neg h1] at h
      exact ⟨by omega, rfl, by omega, by omega, exsF_each h⟩
section
variable {us : List Fn} {env : Env} {vs : Vars} {nv : Nat}
variable {ps : List Nat} {C : Cops}
theorem AtC.lt {k h : Nat} (ha : AtC C k h) : k < C.length := by
  obtain ⟨o, h⟩ := ha
  rcases Nat.lt_or_ge k C.length with h1 | h1
  · exact h1
  · rw [List.getElem?_eq_none h1] at h; cases h
/-- The variables that can be seen have numbers below m. -/
def VarsOK (env : Env) (vs : Vars) (m : Nat) : Prop := vs.map Prod.fst = (env.map Prod.fst).reverse ∧ ∀ q ∈ vs, 0 ≤ q.2 ∧ q.2 < m
theorem VarsOK.look {m : Nat} (hv : VarsOK env vs m) {s : ByteArray} (hs : lookE env s ≠ 0) : 0 ≤ varNo vs s ∧ varNo vs s < m := by
  have h1 := lookE_mem hs
  have h2 : s ∈ vs.map Prod.fst := by rw [hv.1, List.mem_reverse]; exact List.mem_map_of_mem (f := Prod.fst) h1
  obtain ⟨q, hq, e⟩ := List.mem_map.1 h2
  unfold varNo
  cases hf : vs.find? (fun q => decide (q.1 = s)) with
  | none => have := List.find?_eq_none.1 hf q hq; simp [e] at this
  | some q' => exact hv.2 _ (List.mem_of_find?_eq_some hf)
end
end Go.Proofs.YtmngofgminlloaaGreatDoor

namespace Go.Proofs.YtmngofgminlloaaGreatDoor
open Go.RowKit Tw

inductive SameE (q : Bool) : Ex → Ex → Prop
  | mk {a b : Ex} (hk : a.kind = b.kind) (hp : q = true → a.pos = b.pos) (hl : a.args.length = b.args.length) (hn : a.kind = 1 ∨ a.kind = 2 ∨ a.kind = 8 → a.n = b.n) (ht : a.kind = 3 ∨ a.kind = 7 ∨ a.kind = 6 → a.text = b.text)
      (hr : ∀ (k : Nat) (x y : Ex), a.args[k]? = some x → b.args[k]? = some y → SameE q x y) : SameE q a b
inductive SameS (q : Bool) : Sm → Sm → Prop
  | mk {a b : Sm} (hk : a.kind = b.kind) (hp : q = true → a.pos = b.pos) (he : SameE q a.a b.a) (hn : a.kind ≤ 2 → a.name = b.name)
      (hb : a.kind = 3 ∨ a.kind = 4 → a.body.length = b.body.length) (hb2 : a.kind = 3 ∨ a.kind = 4 → ∀ (k : Nat) (x y : Sm), a.body[k]? = some x → b.body[k]? = some y → SameS q x y)
      (hl : a.kind = 3 → a.els.length = b.els.length) (hl2 : a.kind = 3 → ∀ (k : Nat) (x y : Sm), a.els[k]? = some x → b.els[k]? = some y → SameS q x y) : SameS q a b
def SameL (q : Bool) (l m : List Sm) : Prop := l.length = m.length ∧ ∀ (k : Nat) (x y : Sm), l[k]? = some x → m[k]? = some y → SameS q x y
structure SameF (q : Bool) (f g : Fn) : Prop where
  name : f.name = g.name
  names : f.names = g.names
  types : f.types = g.types
  out : f.out = g.out
  pos : q = true → f.pos = g.pos
  body : SameL q f.body g.body
def SameU (q : Bool) (l m : List Fn) : Prop := l.length = m.length ∧ ∀ (k : Nat) (x y : Fn), l[k]? = some x → m[k]? = some y → SameF q x y

end Go.Proofs.YtmngofgminlloaaGreatDoor
