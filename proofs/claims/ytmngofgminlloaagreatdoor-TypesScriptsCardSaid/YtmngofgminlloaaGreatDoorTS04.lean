/-
  Made scripts are words. No program in sight.
  The scanner takes a made script whole: its words are those of its pieces. No program in sight.
  The walk of the law TypesScripts: for all numbers and places it returns true, and what was there is as it was. Condition: the library's variables are as the row lists them.
-/
import Derived.Test.YtmngofgminlloaaGreatDoorTS03
import Derived.Test.YtmngofgminlloaaGreatDoorTT26
set_option linter.all false
namespace Go.Proofs.YtmngofgminlloaaGreatDoor
open Go.RowKit Tw

def NsN (ns : List ByteArray) : Prop := ∀ s ∈ ns, isName s.data.toList = true
theorem GNum.okW {N : Nat} {ns : List ByteArray} {low d i i' : Nat} {x : GE} (hns : NsN ns) (hl : low ≤ 2) (h : GNum N ns low d i x i') : x.okW := by
  induction h with
  | var _ _ hs => exact hns _ (List.mem_of_getElem? hs)
  | lit _ h => show _ < 100; have := h.1; omega
  | neg _ _ ih => exact ih
  | call _ hf _ _ ih1 ih2 => exact ⟨by have := hf.1; omega, ih1, ih2⟩
  | host _ hf _ ih => exact ⟨by have := hf.1; omega, ih⟩
  | bin _ _ _ _ ih1 ih2 => exact ⟨ih1, ih2⟩
theorem GFlag.okW {N : Nat} {ns : List ByteArray} {low d i i' : Nat} {x : GE} (hns : NsN ns) (hl : low ≤ 2) (h : GFlag N ns low d i x i') : x.okW := by
  induction h with
  | not _ _ ih => exact ih
  | and _ _ _ ih1 ih2 => exact ⟨ih1, ih2⟩
  | or _ _ _ ih1 ih2 => exact ⟨ih1, ih2⟩
  | tf _ _ => trivial
  | cmp _ h1 _ h2 => exact ⟨h1.okW hns hl, h2.okW hns hl⟩
theorem GL.okW_app (a b : GL) (ha : a.okW) (hb : b.okW) : (a.app b).okW := by
  induction a with
  | nil => exact hb
  | set s x r ih => exact ⟨ha.1, ha.2.1, ih ha.2.2⟩
  | yield x r ih => exact ⟨ha.1, ih ha.2⟩
  | ite c a b r _ _ ih => exact ⟨ha.1, ha.2.1, ha.2.2.1, ih ha.2.2.2⟩
  | loop i n l r _ ih => exact ⟨ha.1, ha.2.1, ha.2.2.1, ih ha.2.2.2⟩
  | run x r ih => exact ⟨ha.1, ih ha.2⟩
  | ret x r ih => exact ⟨ha.1, ih ha.2⟩
  | bind i x r ih => exact ⟨ha.1, ha.2.1, ih ha.2.2⟩
/-- What a step keeps, told of names. -/
def OkS (s : Ms) (g : GL) (s' : Ms) : Prop := s.m ≤ s'.m ∧ (NsN s.ns → s'.m < 10 ^ 10 → g.okW ∧ NsN s'.ns)
theorem Stm.okS {N low : Nat} {B : Ms → GL → Ms → Prop} (hl : low ≤ 2) (hB : ∀ s g s', B s g s' → OkS s g s' ∧ s'.ns = s.ns) {s : Ms} {g : GL} {s' : Ms} (h : Stm N low B s g s') : OkS s g s' := by
  refine ⟨?_, ?_⟩
  · cases h with
    | ite _ _ ha hb => have h1 := (hB _ _ _ ha).1.1; have h2 := (hB _ _ _ hb).1.1; exact Nat.le_trans h1 h2
    | loop _ _ hb => have h1 := (hB _ _ _ hb).1.1; simp only at h1 ⊢; omega
    | bind _ _ => exact Nat.le_succ _
    | _ => exact Nat.le_refl _
  cases h with
  | set h0 h1 hs hx => intro hn hm; exact ⟨⟨hn _ (List.mem_of_getElem? hs), hx.okW hn hl, trivial⟩, hn⟩
  | yield h0 hx => intro hn hm; exact ⟨⟨hx.okW hn hl, trivial⟩, hn⟩
  | @ite ns m i i2 c a b s1 s2 h0 hc ha hb =>
    intro hn hm
    obtain ⟨h1, h2⟩ := hB _ _ _ ha
    obtain ⟨h3, h4⟩ := hB _ _ _ hb
    obtain ⟨b1, b2⟩ := h3.2 (by rw [h2]; exact hn) hm
    obtain ⟨a1, a2⟩ := h1.2 hn (by have := h3.1; omega)
    exact ⟨⟨hc.okW hn hl, a1, b1, trivial⟩, b2⟩
  | @loop ns m i i2 n l s2 h0 hk hl' =>
    intro hn hm
    obtain ⟨h1, h2⟩ := hB _ _ _ hl'
    obtain ⟨a1, a2⟩ := h1.2 hn hm
    have a3 := h1.1
    simp only at a3
    exact ⟨⟨by omega, by have := hk.1; omega, a1, trivial⟩, a2⟩
  | run h0 hx => intro hn hm; exact ⟨⟨hx.okW hn hl, trivial⟩, hn⟩
  | ret h0 h1 hx => intro hn hm; exact ⟨⟨hx.okW hn hl, trivial⟩, hn⟩
  | @bind ns m i i1 i2 x h0 hx =>
    intro hn hm
    refine ⟨⟨hm, hx.okW hn hl, trivial⟩, ?_⟩
    intro s hs
    rcases List.mem_append.1 hs with h | h
    · exact hn s h
    · simp at h; subst h; rw [vT_l]; exact name_num (c := 118) (by decide) _ hm
theorem Run.okS {S : Ms → GL → Ms → Prop} (hS : ∀ s g s', S s g s' → OkS s g s') {j : Nat} {s : Ms} {g : GL} {s' : Ms} (h : Run S j s g s') : OkS s g s' := by
  induction h with
  | nil => exact ⟨Nat.le_refl _, fun hn _ => ⟨trivial, hn⟩⟩
  | @snoc j s s1 s2 g x h1 h2 ih =>
    have h3 := hS _ _ _ h2
    refine ⟨Nat.le_trans ih.1 h3.1, fun hn hm => ?_⟩
    obtain ⟨a1, a2⟩ := ih.2 hn (by have := h3.1; omega)
    obtain ⟨b1, b2⟩ := h3.2 a2 hm
    exact ⟨GL.okW_app _ _ a1 b1, b2⟩
theorem BlkOf.okS {N : Nat} {S : Ms → GL → Ms → Prop} (hS : ∀ s g s', S s g s' → OkS s g s') {s : Ms} {g : GL} {s' : Ms} (h : BlkOf N S s g s') : OkS s g s' ∧ s'.ns = s.ns := by
  obtain ⟨j, i1, s2, hj, hr, rfl⟩ := h
  have h0 := hr.okS hS
  exact ⟨⟨h0.1, fun hn hm => ⟨(h0.2 hn hm).1, hn⟩⟩, rfl⟩
theorem Blk.okS {N low : Nat} (hl : low ≤ 2) : ∀ (d : Nat) (s : Ms) (g : GL) (s' : Ms), Blk N low d s g s' → OkS s g s' ∧ s'.ns = s.ns := by
  intro d
  induction d with
  | zero => intro s g s' h; exact BlkOf.okS (fun s g s' h => Stm.okS hl (fun _ _ _ h => h.elim) h) h
  | succ d ih => intro s g s' h; exact BlkOf.okS (fun s g s' h => Stm.okS hl ih h) h
def funW (j : Nat) (g : GL) (x : GE) : List Pc := [.w 3 [102, 117, 110], .sp 32] ++ [.w 2 (fL j)] ++ [.w 4 [40], .w 2 [112], .w 4 [58], .sp 32, .w 3 [105, 110, 116], .w 4 [44], .sp 32, .w 2 [113], .w 4 [58], .sp 32, .w 3 [105, 110, 116], .w 4 [41], .w 4 [58], .sp 32, .w 3 [105, 110, 116], .sp 32, .w 4 [123], .sp 32] ++ g.pcs ++ [.w 3 [114, 101, 116, 117, 114, 110], .sp 32] ++ x.pcs ++ [.w 4 [59], .sp 32, .w 4 [125], .sp 10]
def funsW : Nat → List (GL × GE) → List Pc
  | _, [] => []
  | j, (g, x) :: r => funW j g x ++ funsW (j + 1) r
def mainW (g : GL) (x : GE) : List Pc := [.w 3 [102, 117, 110], .sp 32, .w 2 [109, 97, 105, 110], .w 4 [40], .w 4 [41], .w 4 [58], .sp 32, .w 3 [105, 110, 116], .sp 32, .w 4 [123], .sp 32] ++ g.pcs ++ [.w 3 [114, 101, 116, 117, 114, 110], .sp 32] ++ x.pcs ++ [.w 4 [59], .sp 32, .w 4 [125]]
def scriptW (fs : List (GL × GE)) (g : GL) (x : GE) : List Pc := funsW 0 fs ++ mainW g x
theorem funT_l (j : Nat) (g : GL) (x : GE) : (funT j g x).data.toList = pcsT (funW j g x) := by
  simp only [funT, funW, app_l, pcsT_app, pcsT_cons, pcsT_nil, Pc.txt, numT_l, GL.txt_l, GE.txt_l, fL]; simp
theorem funsT_l : ∀ (fs : List (GL × GE)) (j : Nat), (funsT j fs).data.toList = pcsT (funsW j fs)
  | [], _ => rfl
  | (g, x) :: r, j => by simp only [funsT, funsW, app_l, pcsT_app, funT_l, funsT_l r (j + 1)]
theorem scriptT_l (fs : List (GL × GE)) (g : GL) (x : GE) : (scriptT fs g x).data.toList = pcsT (scriptW fs g x) := by
  simp only [scriptT, scriptW, mainW, app_l, pcsT_app, pcsT_cons, pcsT_nil, Pc.txt, GL.txt_l, GE.txt_l, funsT_l]; simp
end Go.Proofs.YtmngofgminlloaaGreatDoor

namespace Go.Proofs.YtmngofgminlloaaGreatDoor
open Go.RowKit Tw

theorem ok_nl {l : List Pc} (h : PcsOK l) : PcsOK (.sp 10 :: l) := ⟨by decide, h⟩
theorem fun_good {j : Nat} {g : GL} {x : GE} (hj : j < 100) (hg : g.okW) (hx : x.okW) (rest : List Pc) (hr : PcsOK rest) : PcsOK (funW j g x ++ rest) := by
  simp only [funW, List.append_assoc, List.cons_append, List.nil_append]
  have t1 := ok_one (c := 59) (by decide) (ok_sp (ok_one (c := 125) (by decide) (ok_nl hr)))
  have t2 := ok_key (w := [114, 101, 116, 117, 114, 110]) (by decide) (notA_sp _) (ok_sp (x.good _ hx t1 (notA_sg (by decide) _ _ _)))
  have t3 := ok_one (c := 123) (by decide) (ok_sp (g.good _ hg t2))
  have t4 := ok_one (c := 41) (by decide) (ok_one (c := 58) (by decide) (ok_sp (ok_key (w := [105, 110, 116]) (by decide) (notA_sp _) (ok_sp t3))))
  have t5 := ok_one (c := 58) (by decide) (ok_sp (ok_key (w := [105, 110, 116]) (by decide) (notA_sg (by decide) _ _ _) t4))
  have t6 := ok_one (c := 44) (by decide) (ok_sp (ok_name (w := [113]) (by decide) (notA_sg (by decide) _ _ _) t5))
  have t7 := ok_one (c := 58) (by decide) (ok_sp (ok_key (w := [105, 110, 116]) (by decide) (notA_sg (by decide) _ _ _) t6))
  have t8 := ok_one (c := 40) (by decide) (ok_name (w := [112]) (by decide) (notA_sg (by decide) _ _ _) t7)
  exact ok_key (by decide) (notA_sp _) (ok_sp (ok_name (name_num (c := 102) (by decide) j (by omega)) (notA_sg (by decide) _ _ _) t8))
theorem main_good {g : GL} {x : GE} (hg : g.okW) (hx : x.okW) : PcsOK (mainW g x) := by
  simp only [mainW, List.append_assoc, List.cons_append, List.nil_append]
  have t1 := ok_one (c := 59) (by decide) (ok_sp (ok_one (c := 125) (l := []) (by decide) trivial))
  have t2 := ok_key (w := [114, 101, 116, 117, 114, 110]) (by decide) (notA_sp _) (ok_sp (x.good _ hx t1 (notA_sg (by decide) _ _ _)))
  have t3 := ok_one (c := 123) (by decide) (ok_sp (g.good _ hg t2))
  have t4 := ok_one (c := 41) (by decide) (ok_one (c := 58) (by decide) (ok_sp (ok_key (w := [105, 110, 116]) (by decide) (notA_sp _) (ok_sp t3))))
  exact ok_key (by decide) (notA_sp _) (ok_sp (ok_name (w := [109, 97, 105, 110]) (by decide) (notA_sg (by decide) _ _ _) (ok_one (c := 40) (by decide) t4)))
theorem funs_good : ∀ (fs : List (GL × GE)) (j : Nat), j + fs.length ≤ 100 → (∀ f ∈ fs, f.1.okW ∧ f.2.okW) → ∀ rest, PcsOK rest → PcsOK (funsW j fs ++ rest)
  | [], _, _, _, _, hr => hr
  | (g, x) :: r, j, hl, h, rest, hr => by
    simp only [funsW, List.append_assoc]
    simp only [List.length_cons] at hl
    have h0 := h (g, x) (List.mem_cons_self ..)
    exact fun_good (by omega) h0.1 h0.2 _ (funs_good r (j + 1) (by omega) (fun f hf => h f (List.mem_cons_of_mem _ hf)) rest hr)
theorem pq_name : NsN pq := by intro s hs; simp only [pq, List.mem_cons, List.mem_nil_iff, or_false] at hs; rcases hs with rfl | rfl <;> decide
theorem GFuns.okW {N j i m i' : Nat} {fs : List (GL × GE)} (hj : j ≤ 2) (hi : i ≤ N) (h : GFuns N j i fs m i') : ∀ f ∈ fs, f.1.okW ∧ f.2.okW := by
  induction h with
  | nil => intro f hf; cases hf
  | @snoc j i m1 i1 m2 i2 i3 fs g x h1 h2 h3 ih =>
    intro f hf
    rcases List.mem_append.1 hf with hf | hf
    · exact ih (by omega) hi f hf
    · simp at hf; subst hf
      have a1 := (h1.mono (by omega) hi).1
      have hb := (Blk.bound (low := j) (by omega) 2 _ _ _ h2).1 pq_ok (by simp only; have : mkB 2 = 129 := rfl; omega)
      have hm := hb.2.1
      simp only at hm
      have : mkB 2 = 129 := rfl
      exact ⟨((Blk.okS (low := j) (by omega) 2 _ _ _ h2).1.2 pq_name (by simp only; omega)).1, h3.okW pq_name (by omega)⟩
/-- A made script is the text of pieces that the scanner takes as they stand. -/
theorem GScript.pieces {N : Nat} {t : ByteArray} (h : GScript N t) : ∃ (k : Nat) (fs : List (GL × GE)) (g : GL) (x : GE) (i0 m1 i1 m2 i2 i3 : Nat), Nx N 3 0 k i0 ∧ GFuns N k i0 fs m1 i1 ∧ Blk N k 3 ⟨[], m1, i1⟩ g ⟨[], m2, i2⟩ ∧ GNum N [] k 2 i2 x i3 ∧ t.data.toList = pcsT (scriptW fs g x) ∧ PcsOK (scriptW fs g x) := by
  obtain ⟨k, fs, g, x, i0, m1, i1, m2, i2, i3, hN, h0, hf, hg, hx, rfl⟩ := h
  have hk : k ≤ 2 := by have := h0.1; omega
  have hi := h0.le
  have a1 := (hf.mono hk hi.2.1).1
  have hb := (Blk.bound (low := k) hk 3 _ _ _ hg).1 (by intro s hs; simp at hs) (by simp only; have : mkB 3 = 777 := rfl; omega)
  have hm := hb.2.1
  simp only at hm
  have : mkB 3 = 777 := rfl
  have hnil : NsN [] := by intro s hs; cases hs
  have hgo := ((Blk.okS (low := k) hk 3 _ _ _ hg).1.2 hnil (by simp only; omega)).1
  exact ⟨k, fs, g, x, i0, m1, i1, m2, i2, i3, h0, hf, hg, hx, scriptT_l fs g x, funs_good fs 0 (by have := hf.len; omega) (hf.okW hk hi.2.1) _ (main_good hgo (hx.okW hnil hk))⟩
/-- The words of a made script. -/
theorem GScript.words {N : Nat} {t : ByteArray} (h : GScript N t) : ∃ ws : List Wd, ws ≠ [] ∧ Lex t 0 [] (none, ws) := by
  obtain ⟨k, fs, g, x, i0, m1, i1, m2, i2, i3, _, _, _, _, ht, hok⟩ := h.pieces
  refine ⟨pcsW (scriptW fs g x) 0, ?_, ?_⟩
  · intro he
    have hw : ∀ (l : List Pc) (k : Nat) (c : Nat) (w : Bs), Pc.w c w ∈ l → pcsW l k ≠ [] := by
      intro l
      induction l with
      | nil => intro k c w hm; cases hm
      | cons p l ih =>
        intro k c w hm
        cases p with
        | sp d =>
          rcases List.mem_cons.1 hm with e | hm
          · cases e
          · exact ih _ c w hm
        | w c' w' => simp [pcsW]
    exact hw (scriptW fs g x) 0 3 [102, 117, 110] (by simp [scriptW, mainW]) he
  · have := PcsOK.scan _ 0 hok
    rw [← ht] at this
    exact this.whole
end Go.Proofs.YtmngofgminlloaaGreatDoor

namespace Go.Proofs.YtmngofgminlloaaGreatDoor
open Go.RowKit Tw

/-- Words of texts of at most 4000 bytes in block g. -/
def TxAt (w : World) (g n : Nat) : Prop := ∃ cur, w.heap[g]? = some (.cells cur 46 (0, 0)) ∧ ∀ k, k < n → ∃ (a b : Int) (s : ByteArray), cur[k * 3]? = some (.int .i64 a) ∧ cur[k * 3 + 1]? = some (.string s) ∧ s.size ≤ 4000 ∧ cur[k * 3 + 2]? = some (.int .i64 b)
theorem TxAt.of {w : World} {base : Nat} {v : Value} {ws : List Wd} (h : w.ownsRow base 46 3 v ws.length (wcells ws)) (h0 : ws ≠ []) (hz : ∀ x ∈ ws, x.text.size ≤ 4000) : ∃ g cap, v = .slice (some ⟨g, 0, none⟩) ws.length cap ∧ base ≤ g ∧ TxAt w g ws.length := by
  rcases h.2 with ⟨_, hn⟩ | ⟨g, cap, cur, hv, hb, hg, _, _, _, ht⟩
  · exact absurd (List.eq_nil_of_length_eq_zero hn) h0
  · refine ⟨g, cap, hv, hb, cur, hg, fun k hk => ?_⟩
    obtain ⟨x, hx⟩ : ∃ x, ws[k]? = some x := ⟨_, List.getElem?_eq_getElem hk⟩
    obtain ⟨c0, c1, c2⟩ := wcells_at ws k x hx
    have key : ∀ (j : Nat) (u : Value), (wcells ws)[j]? = some u → cur[j]? = some u := by
      intro j u hu
      rw [← ht, List.getElem?_take] at hu
      split at hu
      · simpa using hu
      · cases hu
    exact ⟨x.kind, x.pos, x.text, key _ _ c0, key _ _ c1, hz x (List.mem_of_getElem? hx), key _ _ c2⟩
theorem TxAt.keep {w w' : World} {g n : Nat} (h : TxAt w g n) (he : w'.heap[g]? = w.heap[g]?) : TxAt w' g n := by
  obtain ⟨cur, h1, h2⟩ := h
  exact ⟨cur, he.trans h1, h2⟩
theorem TxAt.at {w : World} {g n k : Nat} (h : TxAt w g n) (hk : k < n) : g < w.heap.size ∧ ∃ (a b : Int) (s : ByteArray), s.size ≤ 4000 ∧ w.cell? ⟨g, k * 3, none⟩ = some (.int .i64 a) ∧ w.cell? ⟨g, k * 3 + 1, none⟩ = some (.string s) ∧ w.cell? ⟨g, k * 3 + 2, none⟩ = some (.int .i64 b) ∧ w.frozen? ⟨g, k * 3 + 1, none⟩ = false := by
  obtain ⟨cur, h1, h2⟩ := h
  obtain ⟨a, b, s, c0, c1, hs, c2⟩ := h2 k hk
  exact ⟨lt_of_some h1, a, b, s, hs, (Lib.cell_of_heap h1 _).trans c0, (Lib.cell_of_heap h1 _).trans c1, (Lib.cell_of_heap h1 _).trans c2, Lib.frozen_of_heap h1 _⟩
theorem TxAt.set {w : World} {g n k : Nat} (h : TxAt w g n) {s : ByteArray} (hs : s.size ≤ 4000) : TxAt (w.setCell ⟨g, k * 3 + 1, none⟩ (.string s)) g n := by
  obtain ⟨cur, h1, h2⟩ := h
  refine ⟨_, heap_setCell_same w g (k * 3 + 1) _ _ (.string s) h1, fun j hj => ?_⟩
  obtain ⟨a, b, s', c0, c1, hs', c2⟩ := h2 j hj
  by_cases e : j = k
  · subst e
    have hlt := (Array.getElem?_eq_some_iff.1 c1).1
    exact ⟨a, b, s, by rw [Array.getElem?_setIfInBounds_ne (by omega)]; exact c0, by rw [Array.getElem?_setIfInBounds]; simp [hlt], hs, by rw [Array.getElem?_setIfInBounds_ne (by omega)]; exact c2⟩
  · exact ⟨a, b, s', by rw [Array.getElem?_setIfInBounds_ne (by omega)]; exact c0, by rw [Array.getElem?_setIfInBounds_ne (by omega)]; exact c1, hs', by rw [Array.getElem?_setIfInBounds_ne (by omega)]; exact c2⟩
theorem none_typesTell (src : ByteArray) (w : World) (hs : src.size ≤ maxLen) (hG : Glob w) : Calls Tryz.prog 4 #[.agg #[.slice none 0 0], .string src] w fun e w' => e = .returned (.bool true) ∧ Below w.heap.size w w' :=
  typesTell_any [] none 0 (fun _ => True) src w (fns_none _ _) (by intro f hf; cases hf) (by simp) (by simp) hs hG
set_option maxRecDepth 100000 in
set_option maxHeartbeats 8000000 in
theorem typesScripts_any (A : Option Addr) (n c : Nat) (i k : Int) (w : World) (hG : Glob w) (hnc : n ≤ c) (h : ∀ j, j < n → ∃ g off v, A = some ⟨g, off, none⟩ ∧ g < w.heap.size ∧ w.cell? ⟨g, off + j, none⟩ = some (.int .i64 v)) :
    Calls Tryz.prog 5 #[.slice A n c, .int .i64 i, .int .i64 k] w fun e w' => e = .returned (.bool true) ∧ Below w.heap.size w w' := by
  have HG := Lib.hid hG
  have HC := Lib.hid (script2_c A n c w hG hnc h)
  clear hG hnc h
  go_enter Tryz.func5, Tryz.ntmps5
  go_wp2_with fail
  refine HC.out.mono ?_
  rintro e w1 ⟨t, N, rfl, htz, HT, hB⟩
  have HB := Lib.hid hB
  have hsh := HT.out.short
  obtain ⟨ws, hne, hL⟩ := HT.out.words
  have HNE := Lib.hid hne; have HL := Lib.hid hL
  have hsm := (WRes.small (s := t) (p := 0) (e := 0) (ws := ws) (.inr ⟨hsh, (none, ws), hL, rfl, rfl, rfl⟩))
  have HSM := Lib.hid hsm
  have hwl : ws.length ≤ 4000 := hsm.1
  have hw0 : 0 < ws.length := List.length_pos_iff.2 hne
  clear hB HC hne hL hsm
  go_wp2_with fail
  refine (words_any t w1 (none, ws) hsh (HG.out.to HB.out) HL.out).mono ?_
  rintro e w2 ⟨v, he, ho, hb⟩
  have he' : e = .returned (.tuple #[v, .int .i64 0, .int .i64 0]) := he
  obtain ⟨g, cap, rfl, hg0, hTX⟩ := TxAt.of ho HNE.out (fun x hx => HSM.out.2 x hx)
  subst he'
  have HB2 := Lib.hid (HB.out.trans (hb.mono HB.out.size))
  have HTX := Lib.hid hTX
  have hgw : w.heap.size ≤ g := Nat.le_trans HB.out.size hg0
  clear he ho hb hTX HB hg0
  go_wp2_with fail
  refine (below_b i ws.length (by omega) (by omega) w2).mono ?_
  rintro e w3 ⟨⟨x, rfl, hx0, hx1⟩, rfl⟩
  obtain ⟨xn, rfl⟩ := Int.eq_ofNat_of_zero_le hx0
  go_wp2_with fail
  refine (below_b k ws.length (by omega) (by omega) w3).mono ?_
  rintro e w4 ⟨⟨y, rfl, hy0, hy1⟩, rfl⟩
  obtain ⟨yn, rfl⟩ := Int.eq_ofNat_of_zero_le hy0
  obtain ⟨hgs, -, -, s1, -, -, d1, -, f1⟩ := HTX.out.at (k := xn) (by omega)
  obtain ⟨-, -, -, s2, hs2, -, d2, -, -⟩ := HTX.out.at (k := yn) (by omega)
  have HS2 := Lib.hid hs2
  clear hs2
  go_upto_region 4 with (fail)
  have HTX5 := Lib.hid (HTX.out.set (k := xn) HS2.out)
  have HB5 := Lib.hid (HB2.out.setCell (p := ⟨g, xn * 3 + 1, none⟩) hgw (.string s2))
  clear d1 d2 f1 hgs
  generalize World.setCell _ _ _ = w5 at HTX5 HB5 ⊢
  go_wp2_with fail
  go_loopw [39, 11] (fun i x wr => ∃ (j : Nat) (X : ByteArray), j ≤ ws.length ∧ i = .int .i64 j ∧ x = .string X ∧ X.size ≤ j * 4001 ∧ Hid (TxAt wr g ws.length) ∧ Hid (Below w.heap.size w wr)) (fun i x _ => ws.length - (intOf i).toNat)
  case atStart => exact ⟨0, ⟨#[]⟩, Nat.zero_le _, rfl, rfl, by decide, HTX5, HB5⟩
  case round =>
    clear HTX5 HB5 HTX HB2
    obtain ⟨j, X, hj, rfl, rfl, hX, HTX, HB⟩ := hrel
    have i0 : (0 : Int) ≤ (j : Int) := by omega
    by_cases hlt : j < ws.length
    · obtain ⟨hgs, a, b, s, hs, d0, d1, d2, -⟩ := HTX.out.at (k := j) hlt
      have i1 : (j : Int) < (ws.length : Int) := by omega
      have hb := (Below.refl wr.heap.size wr).alloc (Nat.le_refl _) (.cells #[.int .i64 a, .string s, .int .i64 b] 46)
      have HQ := Lib.hid (heap_alloc_new wr (.cells #[.int .i64 a, .string s, .int .i64 b] 46))
      have HTXa := Lib.hid (HTX.out.keep (hb.block g hgs))
      have HBa := Lib.hid (HB.out.trans (hb.mono HB.out.size))
      clear hb hgs
      go_upto_region 8 with (fail)
      clear d0 d1 d2 HTX HB
      generalize wr.alloc _ = wa at HQ HTXa HBa ⊢
      generalize wr.heap.size = bx at HQ ⊢
      have e1 : wa.cell? ⟨bx, 1, none⟩ = some (.string s) := Lib.cell_of_heap HQ.out 1
      have hXz : X.size ≤ 4000 * 4001 := Nat.le_trans hX (Nat.mul_le_mul_right _ (by omega))
      go_wp2_with fail
      go_roundw
      case rel => exact ⟨j + 1, _, by omega, by go_num, rfl, by simp only [ByteArray.size_append, sz_mk, List.size_toArray, List.length_cons, List.length_nil]; omega, HTXa, HBa⟩
      case measure => simp [intOf]; omega
    · have i1 : (ws.length : Int) ≤ (j : Int) := by omega
      have hXz : X.size ≤ maxLen := by
        have : j * 4001 ≤ 4000 * 4001 := Nat.mul_le_mul_right _ (by omega)
        unfold maxLen; omega
      have HXZ := Lib.hid hXz
      clear hXz
      go_wp2_with fail
      refine (none_typesTell t wr (by unfold maxLen; omega) (HG.out.to HB.out)).mono ?_
      rintro e w6 ⟨rfl, hb⟩
      have HB6 := Lib.hid (HB.out.trans (hb.mono HB.out.size))
      clear hb
      go_wp2_with fail
      refine (none_typesTell X w6 HXZ.out (HG.out.to HB6.out)).mono ?_
      rintro e w7 ⟨rfl, hb⟩
      have HB7 := Lib.hid (HB6.out.trans (hb.mono HB6.out.size))
      clear hb
      go_wp2_with fail
      go_ret
      exact ⟨rfl, HB7.out⟩
end Go.Proofs.YtmngofgminlloaaGreatDoor
