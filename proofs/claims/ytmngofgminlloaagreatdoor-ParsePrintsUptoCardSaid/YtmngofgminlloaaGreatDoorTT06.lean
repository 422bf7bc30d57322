/-
  The contract of the reference's Words: the same words, or the position of an error, as Split's.
-/
import Derived.Test.YtmngofgminlloaaGreatDoorTT05
import Derived.Laws.StructEq
import Derived.Deep.QuietTactic
import Derived.BigQuiet
import Derived.Shelf.Unicode.PredsPay
import Derived.Lib.Fields
import Derived.RegionTactic
import Derived.Deep.RegionWith
import Derived.Deep.RegionHeld3
import Derived.Deep.DrawnRows
set_option linter.all false
namespace Go.Proofs.YtmngofgminlloaaGreatDoor
open Go.RowKit Tw Go.Shelf

/-- What is known in a round: the words so far lie in a row of the call's own; the word in the making lies in a block b. -/
structure St (w wK : World) (b : Nat) (cs : Array Value) (v : Value) (l : List Wd) : Prop where
  own : wK.ownsRow w.heap.size 46 3 v l.length (wcells l)
  bel : Below w.heap.size w wK
  blk : wK.heap[b]? = some (.cells cs 46 (0, 0))
  ne : v.ownBlock ≠ some b
  le : w.heap.size ≤ b
theorem own_below {w w' : World} {base e size n : Nat} {v : Value} {xs : List Value} (h : w.ownsRow base e size v n xs) (hb : Below w.heap.size w w') : w'.ownsRow base e size v n xs := by
  refine h.kept (row := none) ⟨hb.os, hb.tape, hb.output, hb.size, fun k hk _ => hb.block k hk⟩ ?_
  cases hv : v.ownBlock with
  | none => exact .inl rfl
  | some k => exact .inr (by simp)
theorem own_set {w : World} {base e size n : Nat} {v : Value} {xs : List Value} (h : w.ownsRow base e size v n xs) {p : Addr} (u : Value) (hne : v.ownBlock ≠ some p.block) : (w.setCell p u).ownsRow base e size v n xs := by
  refine h.kept (row := some p.block) ⟨rfl, rfl, rfl, by simp [World.setCell], fun k hk hn => Below.heap_setCell w p u k (fun e => hn (by rw [e]))⟩ (.inr hne)
theorem blk_lt {w : World} {b : Nat} {o : Obj} (h : w.heap[b]? = some o) : b < w.heap.size := by
  rcases Nat.lt_or_ge b w.heap.size with hlt | hge
  · exact hlt
  · rw [Array.getElem?_eq_none hge] at h; cases h
theorem St.next {w wK wL : World} {b : Nat} {cs : Array Value} {v : Value} {l : List Wd} (h : St w wK b cs v l) (hb : Below wK.heap.size wK wL) : St w wL b cs v l :=
  ⟨own_below h.own hb, h.bel.trans (hb.mono h.bel.size), (hb.block b (blk_lt h.blk)).trans h.blk, h.ne, h.le⟩
theorem St.start {w wr : World} {v : Value} {l : List Wd} (cs : Array Value) (hown : wr.ownsRow w.heap.size 46 3 v l.length (wcells l)) (hb : Below w.heap.size w wr) : St w (wr.alloc (.cells cs 46)) wr.heap.size cs v l :=
  ⟨hown.alloc _, hb.alloc hb.size _, heap_alloc_new wr _, fun h => by have := (hown.lt _ h).2; omega, hb.size⟩
theorem St.cell {w wK : World} {b : Nat} {cs : Array Value} {v : Value} {l : List Wd} (h : St w wK b cs v l) (j : Nat) : wK.cell? ⟨b, j, none⟩ = cs[j]? := Lib.cell_of_heap h.blk j
theorem St.frozen {w wK : World} {b : Nat} {cs : Array Value} {v : Value} {l : List Wd} (h : St w wK b cs v l) (j : Nat) : wK.frozen? ⟨b, j, none⟩ = false := Lib.frozen_of_heap h.blk j

/-- What the call knows of the library's variables. -/
structure Glob (w : World) : Prop where
  maxLen : MaxLenAt w
  errs : ErrVars w
  pow : Lib.TabIs Tryz.prog w "internal/strconv.uint64pow10" .u64 Lib.pow10Tab
  spc : Lib.TabIs Tryz.prog w "strings.asciiSpace" .u8 Lib.asciiSpaceTab
  big : 10 < w.heap.size


theorem Glob.to {w w' : World} (h : Glob w) (hb : Below w.heap.size w w') : Glob w' where
  maxLen := h.maxLen.below hb (by have := h.big; show 2 < _; omega)
  errs := by
    obtain ⟨⟨v1, h1, e1⟩, v2, h2, e2⟩ := h.errs
    have := h.big
    exact ⟨⟨v1, (hb.cell (p := ⟨3, 0, none⟩) (by show 3 < _; omega)).trans h1, e1⟩, v2, (hb.cell (p := ⟨4, 0, none⟩) (by show 4 < _; omega)).trans h2, e2⟩
  pow := TabIs_below (g := 5) (by kernel_rfl) h.pow hb
  spc := TabIs_below (g := 0) (by kernel_rfl) h.spc hb
  big := Nat.lt_of_lt_of_le h.big hb.size

theorem index_nl (l : Bs) : (Lib.index l [10] = -1 ∧ runLen (fun c => c != 10) l = l.length) ∨ (0 ≤ Lib.index l [10] ∧ (Lib.index l [10]).toNat = runLen (fun c => c != 10) l) := by
  induction l with
  | nil => left; exact ⟨by simp [Lib.index], rfl⟩
  | cons b l ih =>
    rw [Lib.index]
    by_cases hb : b = 10
    · subst hb; right; simp [List.isPrefixOf, runLen]
    · have h1 : ((10 : UInt8) == b) = false := by simpa using fun e => hb e.symm
      have h2 : ([10] : Bs).isPrefixOf (b :: l) = false := by simp [List.isPrefixOf, h1]
      have h3 : runLen (fun c => c != 10) (b :: l) = 1 + runLen (fun c => c != 10) l := by simp [runLen, hb]; omega
      rw [h2, h3, List.length_cons]
      rcases ih with ⟨i1, i2⟩ | ⟨i1, i2⟩
      · left; rw [i1, i2]; exact ⟨by simp, by omega⟩
      · right
        have h4 : (Lib.index l [10] == -1) = false := by rw [beq_eq_false_iff_ne]; omega
        simp only [h4, Bool.false_eq_true, if_false]
        omega
theorem cut_nl (l : Bs) : (Lib.cut l [10]).1.length = runLen (fun c => c != 10) l := by
  have hr := run_le (fun c => c != 10) l
  unfold Lib.cut
  rcases index_nl l with ⟨h1, h2⟩ | ⟨h1, h2⟩
  · rw [h1, if_neg (by omega)]; exact h2.symm
  · rw [if_pos h1, h2]; simp; omega
theorem cut_c (s : ByteArray) (k : Nat) (w : World) (hs : s.size ≤ 4000) (hm : MaxLenAt w) :
    Calls Tryz.prog 75 #[.string (s.extract k s.size), .string ⟨#[10]⟩] w fun e w' => (∃ (a b : ByteArray) (c : Bool), e = .returned (.tuple #[.string a, .string b, .bool c]) ∧ a.size = runLen (fun c => c != 10) (s.data.toList.drop k)) ∧ Below w.heap.size w w' := by
  obtain ⟨m, hm⟩ := hm
  refine (Tryz.strings_Cut (s.extract k s.size) ⟨#[10]⟩ m w (by simp; omega) hm).mono ?_
  rintro e w' ⟨rfl, n, rfl⟩
  refine ⟨⟨_, _, _, rfl, ?_⟩, below_drewN (Below.refl _ _) n⟩
  rw [← cut_nl, all_ext]
  rfl

/-- The numeral of a number, as a string. -/
def decB (u : Nat) : ByteArray := ⟨(Lib.decDigits u).toArray⟩
theorem fmt_c (u : Nat) (hu : u < 18446744073709551616) (w : World) (hp : Lib.TabIs Tryz.prog w "internal/strconv.uint64pow10" .u64 Lib.pow10Tab) :
    Calls Tryz.prog 77 #[.int .u64 u, .int .i64 10] w fun e w' => e = .returned (.string (decB u)) ∧ Below w.heap.size w w' := fmtU u hu w hp

theorem blk_two (w : World) (b : Nat) (u0 u1 : Value) (o : Obj) : (((w.setCell ⟨b, 0, none⟩ u0).setCell ⟨b, 1, none⟩ u1).alloc o).heap[w.heap.size]? = some o := by
  have := heap_alloc_new ((w.setCell ⟨b, 0, none⟩ u0).setCell ⟨b, 1, none⟩ u1) o
  simpa [World.setCell] using this
theorem blk_one (w : World) (b : Nat) (u : Value) (o : Obj) : ((w.setCell ⟨b, 1, none⟩ u).alloc o).heap[w.heap.size]? = some o := by
  have := heap_alloc_new (w.setCell ⟨b, 1, none⟩ u) o
  simpa [World.setCell] using this
theorem below_of_drew {w w' : World} (h : Below w.drew.heap.size w.drew w') : Below w.heap.size w w' := ⟨h.os, h.tape, h.output, h.size, h.block⟩

theorem run_all (p : UInt8 → Bool) (l : Bs) : (l.take (l.takeWhile p).length).all p = true := by
  induction l with
  | nil => rfl
  | cons c l ih => cases h : p c <;> simp [h]; simpa using ih

def sigs : List Bs := [[60, 61], [62, 61], [61, 61], [33, 61], [38, 38], [124, 124], [43], [45], [42], [47], [37], [60], [62], [61], [33], [40], [41], [123], [125], [44], [59], [58], [64]]
def fstep (D : Bs) (n : Nat) (p : Bs) : Nat := if n = 0 ∧ Lib.hasPrefix D p = true then p.length else n
def firstLen (ps : List Bs) (D : Bs) : Nat := ps.foldl (fstep D) 0
theorem fold_keep (D : Bs) (ps : List Bs) : ∀ n, n ≠ 0 → ps.foldl (fstep D) n = n := by
  induction ps with
  | nil => intro n _; rfl
  | cons p ps ih =>
    intro n hn
    have : fstep D n p = n := by unfold fstep; rw [if_neg (fun h => hn h.1)]
    rw [List.foldl_cons, this]; exact ih n hn
theorem fold_len (D : Bs) (L : Nat) (hL : L ≠ 0) (ps : List Bs) (h : ∀ p ∈ ps, p.length = L) : ps.foldl (fstep D) 0 = if ps.any (Lib.hasPrefix D) then L else 0 := by
  induction ps with
  | nil => rfl
  | cons p ps ih =>
    rw [List.foldl_cons, List.any_cons]
    have hp := h p (List.mem_cons_self ..)
    cases hx : Lib.hasPrefix D p
    · have : fstep D 0 p = 0 := by unfold fstep; rw [if_neg (by simp [hx])]
      rw [this, ih (fun q hq => h q (List.mem_cons_of_mem _ hq))]; simp
    · have : fstep D 0 p = L := by unfold fstep; rw [if_pos ⟨rfl, hx⟩, hp]
      rw [this, fold_keep D ps L hL]; simp
theorem sigs_split : sigs = sign2 ++ sign1.map (fun c => [c]) := by decide
theorem any2 (D : Bs) : sign2.any (Lib.hasPrefix D) = sign2.contains (D.take 2) := by
  rcases D with _ | ⟨a, _ | ⟨b, r⟩⟩
  · decide
  · simp [sign2, Lib.hasPrefix, List.isPrefixOf]
  · rw [Bool.eq_iff_iff]
    simp [sign2, Lib.hasPrefix, List.isPrefixOf]
    simp only [eq_comm]
theorem any1 (D : Bs) : (sign1.map (fun c => [c])).any (Lib.hasPrefix D) = (sign1.contains (D.headD 0) && decide (0 < D.length)) := by
  rcases D with _ | ⟨a, r⟩
  · decide
  · rw [Bool.eq_iff_iff]
    simp [Lib.hasPrefix, List.isPrefixOf]
theorem first_sign (D : Bs) : firstLen sigs D = signLen D := by
  unfold firstLen
  rw [sigs_split, List.foldl_append, fold_len D 2 (by decide) sign2 (by decide), any2]
  unfold signLen
  cases h : sign2.contains (D.take 2)
  · simp only [Bool.false_eq_true, if_false]
    rw [fold_len D 1 (by decide) _ (by simp), any1]
  · simp only [if_true]
    exact fold_keep D _ 2 (by decide)

def sigB (j : Nat) : ByteArray := ⟨(sigs.getD j []).toArray⟩
def sigArr : Array Value := (sigs.map fun x => Value.string ⟨x.toArray⟩).toArray
theorem sigArr_at (j : Nat) (h : j < 23) : sigArr[j]? = some (.string (sigB j)) := by
  have : j < sigs.length := h
  simp [sigArr, sigB, this, List.getD_eq_getElem?_getD]
theorem fields_c (w : World) (ht : Lib.TabIs Tryz.prog w "strings.asciiSpace" .u8 Lib.asciiSpaceTab) :
    Calls Tryz.prog 79 #[.string ⟨#[60, 61, 32, 62, 61, 32, 61, 61, 32, 33, 61, 32, 38, 38, 32, 124, 124, 32, 43, 32, 45, 32, 42, 32, 47, 32, 37, 32, 60, 32, 62, 32, 61, 32, 33, 32, 40, 32, 41, 32, 123, 32, 125, 32, 44, 32, 59, 32, 58, 32, 64]⟩] w fun e w' => e = .returned (.slice (some ⟨w.heap.size, 0, none⟩) 23 23) ∧ w.alloc (.cells sigArr 9) = w' := by
  refine (Tryz.strings_Fields _ w (by decide) (ascii_of_all (by decide)) ht).mono ?_
  rintro e w' ⟨rfl, rfl⟩
  have hf : Lib.fields (ByteArray.data ⟨#[60, 61, 32, 62, 61, 32, 61, 61, 32, 33, 61, 32, 38, 38, 32, 124, 124, 32, 43, 32, 45, 32, 42, 32, 47, 32, 37, 32, 60, 32, 62, 32, 61, 32, 33, 32, 40, 32, 41, 32, 123, 32, 125, 32, 44, 32, 59, 32, 58, 32, 64]⟩).toList = sigs := by decide +kernel
  rw [hf]
  exact ⟨rfl, rfl⟩
theorem pref_c (s : ByteArray) (k j : Nat) (w : World) (t : Bool) (ht : Lib.hasPrefix (s.data.toList.drop k) (sigs.getD j []) = t) :
    Calls Tryz.prog 80 #[.string (s.extract k s.size), .string (sigB j)] w fun e w' => e = .returned (.bool t) ∧ w = w' := by
  refine (Tryz.strings_HasPrefix _ _ w).mono ?_
  rintro e w' ⟨rfl, rfl⟩
  refine ⟨?_, rfl⟩
  rw [all_ext, ← ht]
  rfl
theorem sigB_size (j : Nat) : (sigB j).size = (sigs.getD j []).length := by simp [sigB, ByteArray.size]
theorem first_succ (D : Bs) (j : Nat) (h : j < 23) : firstLen (sigs.take (j + 1)) D = fstep D (firstLen (sigs.take j) D) (sigs.getD j []) := by
  have hl : j < sigs.length := h
  unfold firstLen
  rw [List.take_succ_eq_append_getElem hl, List.foldl_append, List.getD_eq_getElem?_getD, List.getElem?_eq_getElem hl]
  rfl
theorem St.set_ {w wK : World} {b : Nat} {cs : Array Value} {v : Value} {l : List Wd} (h : St w wK b cs v l) (j : Nat) (u : Value) : St w (wK.setCell ⟨b, j, none⟩ u) b (cs.setIfInBounds j u) v l :=
  ⟨own_set h.own _ h.ne, h.bel.setCell (p := ⟨b, j, none⟩) h.le _, by have := h.blk; simp [World.setCell, Array.getElem?_modify, this], h.ne, h.le⟩
theorem St.alloc {w wK : World} {b : Nat} {cs : Array Value} {v : Value} {l : List Wd} (h : St w wK b cs v l) (o : Obj) : St w (wK.alloc o) b cs v l :=
  ⟨h.own.alloc o, h.bel.alloc h.bel.size o, (Below.heap_alloc wK o b (blk_lt h.blk)).trans h.blk, h.ne, h.le⟩
set_option maxRecDepth 100000 in
set_option maxHeartbeats 8000000 in
theorem words_any (s : ByteArray) (w : World) (r : Option Nat × List Wd) (hs : s.size ≤ 4000) (hm : Glob w) (hr : Lex s 0 [] r) :
    Calls Tryz.prog 20 #[.string s] w fun e w' => ∃ v, e = .returned (.tuple #[v, .int .i64 (posOf r), .int .i64 (codeOf r)]) ∧ w'.ownsRow w.heap.size 46 3 v r.2.length (wcells r.2) ∧ Below w.heap.size w w' := by
  have HR := Lib.hid hr; clear hr
  have HG := Lib.hid hm; clear hm
  go_enter Tryz.func20, Tryz.ntmps20
  go_wp2_with fail
  go_loopw [5, 6] (fun v i wr => ∃ (k : Nat) (l : List Wd), k ≤ s.size ∧ i = .int .i64 k ∧ l.length ≤ k ∧ wr.ownsRow w.heap.size 46 3 v l.length (wcells l) ∧ Below w.heap.size w wr ∧ Hid (Lex s k l r)) (fun _ i _ => s.size - (intOf i).toNat)
  case atStart => exact ⟨0, [], Nat.zero_le _, rfl, Nat.zero_le _, World.ownsRow_nil _ _ _ _, Below.refl _ _, HR⟩
  case round =>
    obtain ⟨k, l, hk, rfl, hl, hown, hb, HL⟩ := hrel
    have hsz := hb.size
    by_cases hlt : k < s.size
    case neg =>
      have HE := Lib.hid (HL.out.go_done (by omega))
      go_wp2_with fail
      go_ret3
      exact ⟨_, by rw [HE.out]; rfl, by rw [HE.out]; exact hown, hb⟩
    obtain ⟨m, hm⟩ : ∃ m, runLen isA (s.data.toList.drop k) = m := ⟨_, rfl⟩
    have hmk : k + m ≤ s.size := by have := run_le isA (s.data.toList.drop k); rw [hm, List.length_drop, size_len] at this; omega
    have HM := Lib.hid hm; clear hm
    go_wp2_with fail
    refine (trimA s k _).mono ?_
    rintro e w1 ⟨⟨y, rfl, hy⟩, hb1⟩
    rw [HM.out] at hy
    have hyy : ((s.size - k : Nat) : Int) - (y.size : Int) = (m : Int) := by omega
    have HS1 : Hid (St w (w1.alloc (.cells #[.int .i64 0, .string ⟨#[]⟩, .int .i64 k] 46)) w1.heap.size #[.int .i64 0, .string ⟨#[]⟩, .int .i64 k] u5 l) := Lib.hid (St.start _ (own_below hown hb1) (hb.trans (hb1.mono hsz)))
    have HB1 := Lib.hid hb1
    clear hb1 hown hy
    go_wp2_with fail
    obtain ⟨b, hbb⟩ : ∃ b, b = w1.heap.size := ⟨_, rfl⟩
    cases hS : isSp s[k]
    case true =>
      have HL' := Lib.hid (HL.out.go_skip hlt (tok_sp hlt hS))
      refine (in_S s k hlt true _ hS).mono ?_
      rintro e w2 ⟨rfl, hb2⟩
      have HS2 := Lib.hid (HS1.out.next hb2)
      clear hb2 hS
      go_wp2_with fail
      go_roundw
      case rel => exact ⟨k + 1, l, by omega, by go_num, by omega, HS2.out.own, HS2.out.bel, HL'⟩
      case measure => simp [intOf]; omega
    refine (in_S s k hlt false _ hS).mono ?_
    rintro e w2 ⟨rfl, hb2⟩
    have HS2 := Lib.hid (HS1.out.next hb2)
    clear hb2
    rw [← hbb] at HS2 ⊢
    clear hbb HS1 HB1
    by_cases hH : s[k] = 35
    · have HL' := Lib.hid (HL.out.go_skip hlt (tok_hash hlt hS hH))
      have e4 : (((s.extract k s.size)[0]'(by simp; omega)).toNat == 35) = true := by
        have := head_get (s.extract k s.size) (by simp; omega)
        rw [all_ext, head_drop s k hlt, hH] at this
        rw [← this]; rfl
      have e4' : ((((s.extract k s.size)[0]'(by simp; omega)).toNat : Int) == 35) = true := by rw [beq_iff_eq] at e4 ⊢; omega
      clear e4 hH hS
      go_wp2_with fail
      refine (cut_c s k _ hs (HG.out.to HS2.out.bel).maxLen).mono ?_
      rintro e w3 ⟨⟨a, bb, c, rfl, ha⟩, hb3⟩
      have HS3 := Lib.hid (HS2.out.next hb3)
      have HL2 : Hid (Lex s (k + a.size) l r) := Lib.hid (by rw [ha]; exact HL'.out)
      have hak : k + a.size ≤ s.size := by have := run_le (fun c => c != 10) (s.data.toList.drop k); rw [List.length_drop, size_len] at this; omega
      have hak' : 0 < a.size := by
        rw [ha, run_yes s (fun c => c != 10) k hlt ?_]
        · omega
        · have := e4'; rw [beq_iff_eq] at this
          have h2 := head_get (s.extract k s.size) (by simp; omega)
          rw [all_ext, head_drop s k hlt] at h2
          rw [bne_iff_ne, h2]; intro h3; rw [h3] at this; revert this; decide
      clear hb3 ha
      go_wp2_with fail
      go_roundw
      case rel => exact ⟨k + a.size, l, by omega, by go_num, by omega, HS3.out.own, HS3.out.bel, HL2⟩
      case measure => simp [intOf]; omega
    have e4 : ((((s.extract k s.size)[0]'(by simp; omega)).toNat : Int) == 35) = false := by
      have := head_get (s.extract k s.size) (by simp; omega)
      rw [all_ext, head_drop s k hlt] at this
      rw [beq_eq_false_iff_ne, ← this]; intro h; exact hH (UInt8.toNat_inj.1 (show s[k].toNat = 35 by omega))
    cases hD : isD s[k]
    case true =>
      have HT := Lib.hid (tok_num hlt hD)
      have hm1 : 0 < m := by have := run_yes s isA k hlt (by simp [isA, hD]); rw [HM.out] at this; omega
      have HD := Lib.hid hD
      clear hD hS hH
      go_wp2_with fail
      refine (in_D s k hlt true _ HD.out).mono ?_
      rintro e w3 ⟨rfl, hb3⟩
      have HS3 := Lib.hid (HS2.out.next hb3)
      clear hb3
      have HX : Hid (((s.extract k s.size).extract 0 m).data.toList = (s.data.toList.drop k).take m) := Lib.hid (cut_ext s k m)
      have hXs : ((s.extract k s.size).extract 0 m).size = m := by simp; omega
      have HXs := Lib.hid hXs; clear hXs
      go_wp2_with fail
      refine (parse62 ((s.extract k s.size).extract 0 m) (by rw [HXs.out]; omega) (by rw [HXs.out]; omega) _ (HG.out.to HS3.out.bel).errs (by have := (HG.out.to HS3.out.bel).big; omega)).mono ?_
      rintro e w4 ⟨⟨u, ev, rfl, hu, hcase⟩, hb4⟩
      have HS4 := Lib.hid (HS3.out.next hb4)
      clear hb4
      rcases hcase with ⟨hok, rfl⟩ | ⟨hno, te, pe, rfl⟩
      case inr =>
        have hN : isNum ((s.data.toList.drop k).take m) = false := by
          cases hN : isNum ((s.data.toList.drop k).take m)
          · rfl
          · exfalso
            obtain ⟨u', h1, _⟩ := num_ok _ (by intro h; have := HXs.out; rw [← size_len, HX.out, h] at this; simp at this; omega) hN
            exact hno u' (by rw [HX.out]; exact h1)
        have HR2 := Lib.hid (HL.out.go_bad hlt (by rw [HT.out, HM.out, hN]; rfl))
        clear hno hN
        go_wp2_with fail
        go_quiet (fail)
        go_wp2_with fail
        go_ret3
        exact ⟨_, by rw [HR2.out]; rfl, by rw [HR2.out]; exact World.ownsRow_nil _ _ _ _, below_drewN HS4.out.bel _⟩
      case inl =>
        have HOK := Lib.hid hok
        clear hok
        have HU := Lib.hid hu; clear hu
        have HP := Lib.hid (HG.out.to HS4.out.bel).pow
        by_cases hgood : Lib.decDigits u = (s.data.toList.drop k).take m ∧ m ≤ 12
        case pos =>
          obtain ⟨hg1, hg2⟩ := hgood
          have hN : isNum ((s.data.toList.drop k).take m) = true := by
            rw [← hg1]; apply num_of; rw [hg1, ← HX.out, size_len, HXs.out]; exact hg2
          have HL2 : Hid (Lex s (k + m) (l ++ [⟨1, s.extract k (k + m), k⟩]) r) := Lib.hid (by
            have := HL.out.go_word hlt (c := 1) (n := m) (by rw [HT.out, HM.out, hN]; rfl)
            exact this)
          have hcmp : ((decB u).toList == ((s.extract k s.size).extract 0 m).toList) = true := by
            rw [beq_iff_eq, ByteArray.toList_eq, ByteArray.toList_eq, HX.out]; exact hg1
          clear hN hg1
          go_wp2_with fail
          have hmz : m ≤ s.size - k := by omega
          have i0 : (0 : Int) ≤ (m : Int) := by omega
          have i1 : (m : Int) ≤ ((s.size - k : Nat) : Int) := by omega
          have i2 : ((0 : Int) ≤ (m : Int) ∧ (m : Int) ≤ ((s.size - k : Nat) : Int)) := ⟨i0, i1⟩
          go_region_held3 (fun _ => True) (trivial) (first | (go_at_call 77; refine (fmt_c u HU.out _ (by exact HP.out)).mono ?_; rintro e w5 ⟨rfl, hb5⟩))
          have HS5 := Lib.hid (HS4.out.next (below_of_drew hb5))
          clear hb5
          have c0 : w5.cell? ⟨b, 0, none⟩ = some (.int .i64 0) := HS5.out.cell 0
          have c1 : w5.cell? ⟨b, 1, none⟩ = some (.string ⟨#[]⟩) := HS5.out.cell 1
          have c2 : w5.cell? ⟨b, 2, none⟩ = some (.int .i64 k) := HS5.out.cell 2
          have f0 : w5.frozen? ⟨b, 0, none⟩ = false := HS5.out.frozen 0
          have f1 : w5.frozen? ⟨b, 1, none⟩ = false := HS5.out.frozen 1
          go_wp2_with (at_builtin; go_must (refine wpList_app1 elemWord rfl _ _ rfl w.heap.size _ l.length (wcells l) rfl ((own_set (own_set HS5.out.own _ HS5.out.ne) _ HS5.out.ne).alloc _) w5.heap.size 1 #[.int .i64 1, .string ((s.extract k s.size).extract 0 m), .int .i64 k] rfl (blk_two _ _ _ _ _) rfl (by simp [Value.oneCell']) (by omega) (by have := HS5.out.bel.size; simp; omega) ?_); intro g cap w9 hown9 hgrow _ _; have hb9 := below_app (((HS5.out.bel.setCell (p := ⟨b, 0, none⟩) HS5.out.le _).setCell (p := ⟨b, 1, none⟩) HS5.out.le _).alloc (by have := HS5.out.bel.size; simp; omega) _) ((own_set (own_set HS5.out.own _ HS5.out.ne) _ HS5.out.ne).alloc _) (Nat.le_refl _) (by have := HS5.out.bel.size; simp; omega) hgrow; clear hgrow)
          go_roundw
          case rel => exact ⟨k + m, l ++ [⟨1, s.extract k (k + m), k⟩], by omega, by go_num, by simp; omega, by rw [wcells_snoc, List.length_append, ← cut_eq]; exact hown9, hb9, HL2⟩
          case measure => simp [intOf]; omega
        case neg =>
          have hN : isNum ((s.data.toList.drop k).take m) = false := by
            cases hN : isNum ((s.data.toList.drop k).take m)
            · rfl
            · exfalso
              obtain ⟨u', h1, h2⟩ := num_ok _ (by intro h; have := HXs.out; rw [← size_len, HX.out, h] at this; simp at this; omega) hN
              rw [← HX.out, HOK.out] at h1
              cases h1
              have h3 := (isNum_parts _ hN).1
              rw [← HX.out, size_len, HXs.out] at h3
              exact hgood ⟨h2, h3⟩
          have HR2 := Lib.hid (HL.out.go_bad hlt (by rw [HT.out, HM.out, hN]; rfl))
          clear hN
          have hmz : m ≤ s.size - k := by omega
          have i0 : (0 : Int) ≤ (m : Int) := by omega
          have i1 : (m : Int) ≤ ((s.size - k : Nat) : Int) := by omega
          by_cases hq : Lib.decDigits u = (s.data.toList.drop k).take m
          · have h12 : 12 < m := by
              rcases Nat.lt_or_ge 12 m with h | h
              · exact h
              · exact absurd ⟨hq, h⟩ hgood
            have hcmp : ((decB u).toList == ((s.extract k s.size).extract 0 m).toList) = true := by
              rw [beq_iff_eq, ByteArray.toList_eq, ByteArray.toList_eq, HX.out]; exact hq
            clear hq hgood
            go_wp2_with fail
            go_region_held3 (fun _ => True) (trivial) (first | (go_at_call 77; refine (fmt_c u HU.out _ (by exact HP.out)).mono ?_; rintro e w5 ⟨rfl, hb5⟩))
            have HB5 := Lib.hid (HS4.out.bel.trans ((below_of_drew hb5).mono HS4.out.bel.size))
            clear hb5
            go_wp2_with fail
            go_ret3
            exact ⟨_, by rw [HR2.out]; rfl, by rw [HR2.out]; exact World.ownsRow_nil _ _ _ _, HB5.out⟩
          · have hcmp : ((decB u).toList == ((s.extract k s.size).extract 0 m).toList) = false := by
              rw [beq_eq_false_iff_ne, ByteArray.toList_eq, ByteArray.toList_eq, HX.out]; exact hq
            clear hq hgood
            go_wp2_with fail
            first | (go_region_with (go_at_call 77; refine (fmt_c u HU.out _ (by exact HP.out)).mono ?_; rintro e w5 ⟨rfl, hb5⟩)) | fail
            all_goals have HB5 := Lib.hid (HS4.out.bel.trans ((below_of_drew hb5).mono HS4.out.bel.size))
            all_goals clear hb5
            all_goals go_wp2_with fail
            all_goals go_ret3
            all_goals exact ⟨_, by rw [HR2.out]; rfl, by rw [HR2.out]; exact World.ownsRow_nil _ _ _ _, HB5.out⟩
    cases hLt : isL s[k]
    case true =>
      have HT := Lib.hid (tok_let hlt hLt)
      have hm1 : 0 < m := by have := run_yes s isA k hlt (by simp [isA, hLt]); rw [HM.out] at this; omega
      have HX : Hid (((s.extract k s.size).extract 0 m).data.toList = (s.data.toList.drop k).take m) := Lib.hid (cut_ext s k m)
      have HA : Hid (((s.extract k s.size).extract 0 m).data.toList.all isA = true) := Lib.hid (by
        rw [HX.out, ← HM.out]; unfold runLen
        exact run_all isA _)
      have HD := Lib.hid hD
      clear hD hLt hS hH
      go_wp2_with fail
      refine (in_D s k hlt false _ HD.out).mono ?_
      rintro e w3 ⟨rfl, hb3⟩
      have HS3 := Lib.hid (HS2.out.next hb3)
      clear hb3
      cases hK : isKey ((s.data.toList.drop k).take m)
      case true =>
        have HL2 : Hid (Lex s (k + m) (l ++ [⟨3, s.extract k (k + m), k⟩]) r) := Lib.hid (HL.out.go_word hlt (c := 3) (n := m) (by rw [HT.out, HM.out, hK]; rfl))
        have HK : Hid (isKey ((s.extract k s.size).extract 0 m).data.toList = true) := Lib.hid (by rw [HX.out]; exact hK)
        clear hK
        go_wp2_with fail
        refine (key_c _ true _ HA.out HK.out (HG.out.to HS3.out.bel).maxLen).mono ?_
        rintro e w4 ⟨rfl, rfl⟩
        have c0 : w3.cell? ⟨b, 0, none⟩ = some (.int .i64 0) := HS3.out.cell 0
        have c1 : w3.cell? ⟨b, 1, none⟩ = some (.string ⟨#[]⟩) := HS3.out.cell 1
        have c2 : w3.cell? ⟨b, 2, none⟩ = some (.int .i64 k) := HS3.out.cell 2
        have f0 : w3.frozen? ⟨b, 0, none⟩ = false := HS3.out.frozen 0
        have f1 : w3.frozen? ⟨b, 1, none⟩ = false := HS3.out.frozen 1
        go_wp2_with (at_builtin; go_must (refine wpList_app1 elemWord rfl _ _ rfl w.heap.size _ l.length (wcells l) rfl ((own_set (own_set HS3.out.own _ HS3.out.ne) _ HS3.out.ne).alloc _) w3.heap.size 1 #[.int .i64 3, .string ((s.extract k s.size).extract 0 m), .int .i64 k] rfl (blk_two _ _ _ _ _) rfl (by simp [Value.oneCell']) (by omega) (by have := HS3.out.bel.size; simp; omega) ?_); intro g cap w9 hown9 hgrow _ _; have hb9 := below_app (((HS3.out.bel.setCell (p := ⟨b, 0, none⟩) HS3.out.le _).setCell (p := ⟨b, 1, none⟩) HS3.out.le _).alloc (by have := HS3.out.bel.size; simp; omega) _) ((own_set (own_set HS3.out.own _ HS3.out.ne) _ HS3.out.ne).alloc _) (Nat.le_refl _) (by have := HS3.out.bel.size; simp; omega) hgrow; clear hgrow)
        go_roundw
        case rel => exact ⟨k + m, l ++ [⟨3, s.extract k (k + m), k⟩], by omega, by go_num, by simp; omega, by rw [wcells_snoc, List.length_append, ← cut_eq]; exact hown9, hb9, HL2⟩
        case measure => simp [intOf]; omega
      case false =>
        have HK : Hid (isKey ((s.extract k s.size).extract 0 m).data.toList = false) := Lib.hid (by rw [HX.out]; exact hK)
        by_cases h16 : 16 < m
        · have HR2 := Lib.hid (HL.out.go_bad hlt (by rw [HT.out, HM.out, hK, if_neg (by simp), if_pos (by simp; omega)]))
          clear hK
          go_wp2_with fail
          refine (key_c _ false _ HA.out HK.out (HG.out.to HS3.out.bel).maxLen).mono ?_
          rintro e w4 ⟨rfl, rfl⟩
          go_wp2_with fail
          go_ret3
          exact ⟨_, by rw [HR2.out]; rfl, by rw [HR2.out]; exact World.ownsRow_nil _ _ _ _, HS3.out.bel⟩
        · have HL2 : Hid (Lex s (k + m) (l ++ [⟨2, s.extract k (k + m), k⟩]) r) := Lib.hid (HL.out.go_word hlt (c := 2) (n := m) (by rw [HT.out, HM.out, hK, if_neg (by simp), if_neg (by simp; omega)]))
          clear hK
          go_wp2_with fail
          refine (key_c _ false _ HA.out HK.out (HG.out.to HS3.out.bel).maxLen).mono ?_
          rintro e w4 ⟨rfl, rfl⟩
          have c0 : w3.cell? ⟨b, 0, none⟩ = some (.int .i64 0) := HS3.out.cell 0
          have c1 : w3.cell? ⟨b, 1, none⟩ = some (.string ⟨#[]⟩) := HS3.out.cell 1
          have c2 : w3.cell? ⟨b, 2, none⟩ = some (.int .i64 k) := HS3.out.cell 2
          have f0 : w3.frozen? ⟨b, 0, none⟩ = false := HS3.out.frozen 0
          have f1 : w3.frozen? ⟨b, 1, none⟩ = false := HS3.out.frozen 1
          go_wp2_with (at_builtin; go_must (refine wpList_app1 elemWord rfl _ _ rfl w.heap.size _ l.length (wcells l) rfl ((own_set (own_set HS3.out.own _ HS3.out.ne) _ HS3.out.ne).alloc _) w3.heap.size 1 #[.int .i64 2, .string ((s.extract k s.size).extract 0 m), .int .i64 k] rfl (blk_two _ _ _ _ _) rfl (by simp [Value.oneCell']) (by omega) (by have := HS3.out.bel.size; simp; omega) ?_); intro g cap w9 hown9 hgrow _ _; have hb9 := below_app (((HS3.out.bel.setCell (p := ⟨b, 0, none⟩) HS3.out.le _).setCell (p := ⟨b, 1, none⟩) HS3.out.le _).alloc (by have := HS3.out.bel.size; simp; omega) _) ((own_set (own_set HS3.out.own _ HS3.out.ne) _ HS3.out.ne).alloc _) (Nat.le_refl _) (by have := HS3.out.bel.size; simp; omega) hgrow; clear hgrow)
          go_roundw
          case rel => exact ⟨k + m, l ++ [⟨2, s.extract k (k + m), k⟩], by omega, by go_num, by simp; omega, by rw [wcells_snoc, List.length_append, ← cut_eq]; exact hown9, hb9, HL2⟩
          case measure => simp [intOf]; omega
    have hm0 : m = 0 := by
      rw [← HM.out, run_no s isA k hlt (by simp [isA, hD, hLt])]
    obtain ⟨n, hn⟩ : ∃ n, signLen (s.data.toList.drop k) = n := ⟨_, rfl⟩
    have HT := Lib.hid (tok_sign hlt hS hH hD hLt hn)
    have hnl : n ≤ s.size - k := by have := (signLen_le (s.data.toList.drop k)).1; rw [hn, List.length_drop, size_len] at this; exact this
    have HN := Lib.hid hn
    have HD := Lib.hid hD
    clear hD hLt hS hH hn
    subst hm0
    have c0 : w2.cell? ⟨b, 0, none⟩ = some (.int .i64 0) := HS2.out.cell 0
    have f0 : w2.frozen? ⟨b, 0, none⟩ = false := HS2.out.frozen 0
    have HSP := Lib.hid (HG.out.to (HS2.out.set_ 0 (.int .i64 4)).bel).spc
    go_wp2_with fail
    refine (fields_c _ HSP.out).mono ?_
    rintro e w4 ⟨rfl, hw4⟩
    have HS4 : Hid (St w w4 b #[.int .i64 4, .string ⟨#[]⟩, .int .i64 k] u5 l) := Lib.hid (by rw [← hw4]; exact (HS2.out.set_ 0 (.int .i64 4)).alloc _)
    obtain ⟨q, hq⟩ : ∃ q, q = (w2.setCell ⟨b, 0, none⟩ (.int .i64 4)).heap.size := ⟨_, rfl⟩
    have HQ : Hid (w4.heap[q]? = some (.cells sigArr 9 (0, 0))) := Lib.hid (by rw [← hw4, hq]; exact heap_alloc_new _ _)
    rw [← hq]
    clear hw4 hq c0 f0
    go_wp2_with fail
    go_loop [38, 8] (fun i x => ∃ j c : Nat, j ≤ 23 ∧ i = .int .i64 j ∧ x = .int .i64 c ∧ Hid (firstLen (sigs.take j) (s.data.toList.drop k) = c)) (fun i _ => 23 - (intOf i).toNat)
    case atStart => exact ⟨0, 0, by omega, rfl, rfl, Lib.hid rfl⟩
    case round =>
      obtain ⟨j, c, hj, rfl, rfl, HF⟩ := hrel
      by_cases hjl : j < 23
      · have cj : w4.cell? ⟨q, j, none⟩ = some (.string (sigB j)) := by rw [Lib.cell_of_heap HQ.out]; exact sigArr_at j hjl
        by_cases h0 : c = 0
        · subst h0
          cases hp : Lib.hasPrefix (s.data.toList.drop k) (sigs.getD j [])
          · have HF2 : Hid (firstLen (sigs.take (j + 1)) (s.data.toList.drop k) = 0) := Lib.hid (by rw [first_succ _ j hjl, HF.out]; unfold fstep; rw [if_neg (by rw [hp]; simp)])
            have HP := Lib.hid hp; clear hp
            go_wp2_with fail
            refine (pref_c s k j _ false HP.out).mono ?_
            rintro e w5 ⟨rfl, rfl⟩
            go_wp2_with fail
            go_round
            case rel => exact ⟨j + 1, 0, by omega, by go_num, rfl, HF2⟩
            case measure => simp [intOf]; omega
          · have HF2 : Hid (firstLen (sigs.take (j + 1)) (s.data.toList.drop k) = (sigB j).size) := Lib.hid (by rw [first_succ _ j hjl, HF.out]; unfold fstep; rw [if_pos ⟨rfl, hp⟩, sigB_size])
            have HP := Lib.hid hp; clear hp
            go_wp2_with fail
            refine (pref_c s k j _ true HP.out).mono ?_
            rintro e w5 ⟨rfl, rfl⟩
            go_wp2_with fail
            go_round
            case rel => exact ⟨j + 1, (sigB j).size, by omega, by go_num, rfl, HF2⟩
            case measure => simp [intOf]; omega
        · have HF2 : Hid (firstLen (sigs.take (j + 1)) (s.data.toList.drop k) = c) := Lib.hid (by rw [first_succ _ j hjl, HF.out]; unfold fstep; rw [if_neg (fun h => h0 h.1)])
          have h0' : ((c : Int) == 0) = false := by rw [beq_eq_false_iff_ne]; omega
          clear h0
          go_wp2_with fail
          go_round
          case rel => exact ⟨j + 1, c, by omega, by go_num, rfl, HF2⟩
          case measure => simp [intOf]; omega
      · obtain rfl : j = 23 := by omega
        have hcn : c = n := by rw [← HF.out, ← HN.out]; exact first_sign _
        subst hcn
        by_cases h0 : c = 0
        · subst h0
          have HR2 := Lib.hid (HL.out.go_bad hlt (by rw [HT.out]; rfl))
          go_wp2_with fail
          go_ret3
          exact ⟨_, by rw [HR2.out]; rfl, by rw [HR2.out]; exact World.ownsRow_nil _ _ _ _, HS4.out.bel⟩
        · have HL2 : Hid (Lex s (k + c) (l ++ [⟨4, s.extract k (k + c), k⟩]) r) := Lib.hid (HL.out.go_word hlt (c := 4) (n := c) (by rw [HT.out, if_neg h0]))
          have h0' : ((c : Int) == 0) = false := by rw [beq_eq_false_iff_ne]; omega
          have h1 : 1 ≤ c := by omega
          clear h0
          have c0 : w4.cell? ⟨b, 0, none⟩ = some (.int .i64 4) := HS4.out.cell 0
          have c1 : w4.cell? ⟨b, 1, none⟩ = some (.string ⟨#[]⟩) := HS4.out.cell 1
          have c2 : w4.cell? ⟨b, 2, none⟩ = some (.int .i64 k) := HS4.out.cell 2
          have f1 : w4.frozen? ⟨b, 1, none⟩ = false := HS4.out.frozen 1
          go_wp2_with (at_builtin; go_must (refine wpList_app1 elemWord rfl _ _ rfl w.heap.size _ l.length (wcells l) rfl ((own_set HS4.out.own _ HS4.out.ne).alloc _) w4.heap.size 1 #[.int .i64 4, .string ((s.extract k s.size).extract 0 c), .int .i64 k] rfl (blk_one _ _ _ _) rfl (by simp [Value.oneCell']) (by omega) (by have := HS4.out.bel.size; simp; omega) ?_); intro g cap w9 hown9 hgrow _ _; have hb9 := below_app ((HS4.out.bel.setCell (p := ⟨b, 1, none⟩) HS4.out.le _).alloc (by have := HS4.out.bel.size; simp; omega) _) ((own_set HS4.out.own _ HS4.out.ne).alloc _) (Nat.le_refl _) (by have := HS4.out.bel.size; simp; omega) hgrow; clear hgrow)
          go_roundw
          case rel => exact ⟨k + c, l ++ [⟨4, s.extract k (k + c), k⟩], by omega, by go_num, by simp; omega, by rw [wcells_snoc, List.length_append, ← cut_eq]; exact hown9, hb9, HL2⟩
          case measure => simp [intOf]; omega
end Go.Proofs.YtmngofgminlloaaGreatDoor
