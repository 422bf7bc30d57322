/-
  What the law's loop over the words builds. No program in sight.
  The small methods of the program's reader: at, text, take, want, kind, typ; each at a reader whose words lie in an older block; what fails panics with its place.
  More small methods of the program's reader: take, want, kind, typ.
  Precedence climbing (Dc) makes of words what levels make (De), in plain Lean.
  The frame of the program's reader's methods for expressions, and what they answer (ExR, ExprC, UnC, AtomC, ArgsP).
  The program's level(s): how strongly an operator binds.
-/
import Derived.Test.YtmngofgminlloaaGreatDoorTN18
import Derived.Test.YtmngofgminlloaaGreatDoorTN07
import Derived.Test.YtmngofgminlloaaGreatDoorTN08
import Derived.WalkLawsBesides
set_option linter.unusedSimpArgs false
set_option linter.unusedVariables false
namespace Go.Proofs.YtmngofgminlloaaGreatDoor
open Go.RowKit Tw

def nxB (l : List (Nat × Bs)) (k : Nat) : Bool := match l[k]? with | some y => y.2 == [40] | none => false
def pvB (b : Bool) (l : List (Nat × Bs)) : Nat → Bool
  | 0 => b
  | k + 1 => match l[k]? with | some y => y.2 == funB | none => false
theorem rn_at : ∀ (l : List (Nat × Bs)) (b : Bool) (k kd : Nat) (t : Bs), l[k]? = some (kd, t) → (rn b l)[k]? = some (kd, if kd = 2 ∧ (nxB l (k + 1) || pvB b l k) = false then zB ++ t else t)
  | [], _, _, _, _, h => by cases h
  | (kd', t') :: r, b, 0, kd, t, h => by
    simp at h
    obtain ⟨rfl, rfl⟩ := h
    have e : nxB ((kd', t') :: r) (0 + 1) = true ↔ ¬ HdW r := by
      unfold nxB HdW
      cases r with
      | nil => simp
      | cons y r => simp
    simp only [rn, List.getElem?_cons_zero, pvB]
    congr 2
    by_cases hd : HdW r
    · have e1 : nxB ((kd', t') :: r) (0 + 1) = false := by
        cases e0 : nxB ((kd', t') :: r) (0 + 1) with
        | false => rfl
        | true => exact absurd hd (e.1 e0)
      simp [e1, hd]
    · have e1 := e.2 hd
      simp [e1, hd]
  | (kd', t') :: r, b, k + 1, kd, t, h => by
    have ih := rn_at r (t' == funB) k kd t (by simpa using h)
    simp only [rn, List.getElem?_cons_succ, ih]
    have e1 : nxB ((kd', t') :: r) (k + 1 + 1) = nxB r (k + 1) := by unfold nxB; rw [List.getElem?_cons_succ]
    have e2 : pvB b ((kd', t') :: r) (k + 1) = pvB (t' == funB) r k := by
      cases k with
      | zero => rfl
      | succ k => simp only [pvB, List.getElem?_cons_succ]
    rw [e1, e2]
theorem txB_app (a b : List (Nat × Bs)) : txB (a ++ b) = txB a ++ txB b := by simp [txB]
theorem rn_len : ∀ (l : List (Nat × Bs)) (b : Bool), (rn b l).length = l.length
  | [], _ => rfl
  | (_, t) :: r, b => by simp [rn, rn_len r]
def spT : ByteArray := ⟨#[32]⟩
def opT : ByteArray := ⟨#[40]⟩
def fuT : ByteArray := ⟨#[102, 117, 110]⟩
def zT : ByteArray := ⟨#[122, 95]⟩
theorem bytes_eq {a : ByteArray} {l : Bs} : (a.data.toList == l) = decide (a = ⟨l.toArray⟩) := by
  by_cases h : a = ⟨l.toArray⟩
  · subst h; simp
  · have : ¬ a.data.toList = l := fun e => h (ByteArray.ext (by rw [← e]))
    rw [decide_eq_false h]
    simpa using this
/-- The words' names as the law asks for them. -/
def callW (ws : List Wd) (k : Nat) : Bool := (match ws[k + 1]? with | some y => decide (y.text = opT) | none => false) || (match k with | 0 => false | k + 1 => match ws[k]? with | some y => decide (y.text = fuT) | none => false)
theorem callW_eq (ws : List Wd) (k : Nat) : callW ws k = (nxB (ktN ws) (k + 1) || pvB false (ktN ws) k) := by
  have h : ∀ j, (ktN ws)[j]? = ws[j]?.map fun x : Wd => (x.kind, x.text.data.toList) := fun j => by unfold ktN; rw [List.getElem?_map]
  unfold callW nxB
  rw [h]
  congr 1
  · cases ws[k + 1]? with
    | none => rfl
    | some y => exact bytes_eq.symm
  · cases k with
    | zero => rfl
    | succ k =>
      simp only [pvB]
      rw [h]
      cases ws[k]? with
      | none => rfl
      | some y => exact bytes_eq.symm
theorem is_op (s : ByteArray) : decide (s = opT) = (s.toList == [40]) := by rw [ByteArray.toList_eq, bytes_eq]; rfl
theorem is_fu (s : ByteArray) : decide (s = fuT) = (s.toList == [102, 117, 110]) := by rw [ByteArray.toList_eq, bytes_eq]; rfl
section
variable {ws : List Wd} {k : Nat} {y yp : Wd}
theorem callW_0y (h : ws[0 + 1]? = some y) : callW ws 0 = (y.text.toList == [40]) := by
  unfold callW; rw [h]; simp only [is_op, Bool.or_false]
theorem callW_0n (h : ¬ 0 + 1 < ws.length) : callW ws 0 = false := by
  unfold callW; rw [List.getElem?_eq_none (by omega)]; rfl
theorem callW_ky (hk : 0 < k) (hp : ws[k - 1]? = some yp) (h : ws[k + 1]? = some y) : callW ws k = ((y.text.toList == [40]) || (yp.text.toList == [102, 117, 110])) := by
  obtain ⟨j, rfl⟩ : ∃ j, k = j + 1 := ⟨k - 1, by omega⟩
  rw [Nat.add_sub_cancel] at hp
  unfold callW; rw [h]; simp only [is_op, hp, is_fu]
theorem callW_kn (hk : 0 < k) (hp : ws[k - 1]? = some yp) (h : ¬ k + 1 < ws.length) : callW ws k = (yp.text.toList == [102, 117, 110]) := by
  obtain ⟨j, rfl⟩ : ∃ j, k = j + 1 := ⟨k - 1, by omega⟩
  rw [Nat.add_sub_cancel] at hp
  unfold callW; rw [List.getElem?_eq_none (by omega)]; simp only [hp, is_fu, Bool.false_or]
end
/-- The text of the first k words. -/
def TxK (ws : List Wd) (k : Nat) (X : ByteArray) : Prop := X.data.toList = txB ((rn false (ktN ws)).take k) ∧ X.size ≤ 4003 * k
theorem TxK.zero (ws : List Wd) : TxK ws 0 ⟨#[]⟩ := ⟨rfl, by decide⟩
theorem TxK.next {ws : List Wd} {k : Nat} {X : ByteArray} (h : TxK ws k X) {x : Wd} (hx : ws[k]? = some x) (hs : x.text.size ≤ 4000) (y : ByteArray) (hy : y = if x.kind = 2 ∧ callW ws k = false then zT ++ x.text else x.text) : TxK ws (k + 1) (X ++ (y ++ spT)) := by
  have hk : (ktN ws)[k]? = some (x.kind, x.text.data.toList) := by unfold ktN; rw [List.getElem?_map, hx]; rfl
  have hr := rn_at (ktN ws) false k _ _ hk
  rw [← callW_eq] at hr
  have hyl : y.data.toList = if x.kind = 2 ∧ callW ws k = false then zB ++ x.text.data.toList else x.text.data.toList := by
    rw [hy]; split
    · rw [app_l]; rfl
    · rfl
  have hys : y.size ≤ 4002 := by
    rw [hy]; split
    · rw [ByteArray.size_append]; have : zT.size = 2 := rfl; omega
    · omega
  refine ⟨?_, ?_⟩
  · rw [List.take_add_one, txB_app, hr, app_l, app_l, h.1, hyl]
    simp [txB]
    rfl
  · rw [ByteArray.size_append, ByteArray.size_append]
    have : spT.size = 1 := rfl
    have := h.2
    omega
theorem TxK.whole {ws : List Wd} {X : ByteArray} (h : TxK ws ws.length X) : X.data.toList = txB (rn false (ktN ws)) := by
  have hl : (rn false (ktN ws)).length = ws.length := by rw [rn_len]; unfold ktN; rw [List.length_map]
  have := h.1
  rwa [← hl, List.take_length] at this
end Go.Proofs.YtmngofgminlloaaGreatDoor

namespace Go.Proofs.YtmngofgminlloaaGreatDoor
open Go.RowKit Tw

/-- The program's reader: its block holds the words, the place, the text's length. -/
structure Rq (w : World) (rb : Nat) (v : Value) (ws : List Wd) (i en : Nat) : Prop where
  blk : w.heap[rb]? = some (.cells #[v, .int .i64 i, .int .i64 en] 157 (0, 0))
  row : WRow w rb v ws
  len : ws.length ≤ 4000
  pos : i ≤ ws.length
section
variable {w w' : World} {rb : Nat} {v : Value} {ws : List Wd} {i en : Nat}
theorem Rq.lt (h : Rq w rb v ws i en) : rb < w.heap.size := (Array.getElem?_eq_some_iff.1 h.blk).1
theorem Rq.c0 (h : Rq w rb v ws i en) : w.cell? ⟨rb, 0, none⟩ = some v := Lib.cell_of_heap h.blk 0
theorem Rq.c1 (h : Rq w rb v ws i en) : w.cell? ⟨rb, 1, none⟩ = some (.int .i64 i) := Lib.cell_of_heap h.blk 1
theorem Rq.c2 (h : Rq w rb v ws i en) : w.cell? ⟨rb, 2, none⟩ = some (.int .i64 en) := Lib.cell_of_heap h.blk 2
theorem Rq.fz (h : Rq w rb v ws i en) (j : Nat) : w.frozen? ⟨rb, j, none⟩ = false := Lib.frozen_of_heap h.blk j
theorem Rq.keep (h : Rq w rb v ws i en) (hb : Below w.heap.size w w') : Rq w' rb v ws i en :=
  ⟨(hb.block rb h.lt).trans h.blk, h.row.same fun k hk => hb.block k (Nat.lt_trans hk h.lt), h.len, h.pos⟩
theorem Rq.grown {k : Nat} (h : Rq w rb v ws i en) (hg : w.grownBy w' (some k)) (hk : rb < k) : Rq w' rb v ws i en :=
  ⟨(hg.block rb h.lt (by simp; omega)).trans h.blk, h.row.same fun j hj => hg.block j (Nat.lt_trans hj h.lt) (by simp; omega), h.len, h.pos⟩
theorem Rq.setI (h : Rq w rb v ws i en) (j : Nat) (hj : j ≤ ws.length) : Rq (w.setCell ⟨rb, 1, none⟩ (.int .i64 j)) rb v ws j en := by
  refine ⟨?_, h.row.same fun k hk => Below.heap_setCell w ⟨rb, 1, none⟩ _ k (by simp; omega), h.len, hj⟩
  have := heap_setCell_same w rb 1 _ _ (.int .i64 j) h.blk
  simpa using this
end
/-- The reader has failed at a place. -/
def badP (ws : List Wd) (en j : Nat) : Ending := .panicked [{ v := .iface 159 (.agg #[.int .i64 (posAt ws j en)]), recovered := false }]

set_option maxHeartbeats 1000000 in
theorem at_p {w : World} {rb : Nat} {v : Value} {ws : List Wd} {i en : Nat} (h : Rq w rb v ws i en) :
    Calls Tryz.prog 136 #[.pointer (some ⟨rb, 0, none⟩)] w fun e w' => e = .returned (.int .i64 (posAt ws i en)) ∧ Below w.heap.size w w' := by
  obtain ⟨A, cap, rfl, hform⟩ := h.row.form
  have c0 := h.c0; have c1 := h.c1; have c2 := h.c2
  have hn := h.len; have hp := h.pos
  by_cases hlt : i < ws.length
  · obtain ⟨x, hx⟩ : ∃ x, ws[i]? = some x := ⟨_, List.getElem?_eq_getElem hlt⟩
    obtain ⟨g, rfl, hg, d0, d1, d2⟩ := hform i x hx
    have hP : posAt ws i en = x.pos := by unfold posAt; rw [hx]
    rw [hP]
    have k0 : (0 : Int) ≤ (i : Int) := by omega
    have k1 : (i : Int) < (ws.length : Int) := by omega
    clear hx hP hform h d0 d1 c2
    go_enter Tryz.func136, Tryz.ntmps136
    go_wp2_with fail
    go_quiet (fail)
    go_wp2_with fail
    go_quiet (fail)
    go_wp2_with fail
    go_ret
    exact ⟨rfl, below_drewN (below_drewN (Below.refl _ _) _) _⟩
  · have hP : posAt ws i en = en := by unfold posAt; rw [List.getElem?_eq_none (by omega)]
    rw [hP]
    have hi : i = ws.length := by omega
    clear hP hform h
    go_enter Tryz.func136, Tryz.ntmps136
    go_wp2_with fail
    go_quiet (fail)
    go_wp2_with fail
    go_ret
    exact ⟨rfl, below_drewN (Below.refl _ _) _⟩
set_option maxHeartbeats 1000000 in
theorem text_p {w : World} {rb : Nat} {v : Value} {ws : List Wd} {i en : Nat} (h : Rq w rb v ws i en) :
    Calls Tryz.prog 190 #[.pointer (some ⟨rb, 0, none⟩)] w fun e w' => e = .returned (.string (textAt ws i)) ∧ Below w.heap.size w w' := by
  obtain ⟨A, cap, rfl, hform⟩ := h.row.form
  have c0 := h.c0; have c1 := h.c1
  have hn := h.len; have hp := h.pos
  by_cases hlt : i < ws.length
  · obtain ⟨x, hx⟩ : ∃ x, ws[i]? = some x := ⟨_, List.getElem?_eq_getElem hlt⟩
    obtain ⟨g, rfl, hg, d0, d1, d2⟩ := hform i x hx
    have hP : textAt ws i = x.text := by unfold textAt; rw [hx]
    rw [hP]
    have k0 : (0 : Int) ≤ (i : Int) := by omega
    have k1 : (i : Int) < (ws.length : Int) := by omega
    clear hx hP hform h d0 d2
    go_enter Tryz.func190, Tryz.ntmps190
    go_wp2_with fail
    go_quiet (fail)
    go_wp2_with fail
    go_quiet (fail)
    go_wp2_with fail
    go_ret
    exact ⟨rfl, below_drewN (below_drewN (Below.refl _ _) _) _⟩
  · have hP : textAt ws i = ⟨#[]⟩ := by unfold textAt; rw [List.getElem?_eq_none (by omega)]
    rw [hP]
    have hi : i = ws.length := by omega
    clear hP hform h
    go_enter Tryz.func190, Tryz.ntmps190
    go_wp2_with fail
    go_quiet (fail)
    go_wp2_with fail
    go_ret
    exact ⟨rfl, below_drewN (Below.refl _ _) _⟩
/-- Is the text at i this one? (no empty one) -/
theorem isAt_text {ws : List Wd} {i : Nat} {s : ByteArray} (hs : s.toList ≠ []) : isAt ws i s = ((textAt ws i).toList == s.toList) := by
  unfold isAt textAt
  cases ws[i]? with
  | some x => rfl
  | none =>
    symm
    rw [beq_eq_false_iff_ne]
    intro h
    apply hs
    rw [← h]
    simp [ByteArray.toList_eq] <;> rfl
end Go.Proofs.YtmngofgminlloaaGreatDoor

namespace Go.Proofs.YtmngofgminlloaaGreatDoor
open Go.RowKit Tw

set_option maxHeartbeats 1000000 in
theorem take_p {w : World} {rb : Nat} {v : Value} {ws : List Wd} {i en : Nat} (s : ByteArray) (hs : s.toList ≠ []) (t : Bool) (h : Rq w rb v ws i en) (ht : isAt ws i s = t) :
    Calls Tryz.prog 139 #[.pointer (some ⟨rb, 0, none⟩), .string s] w fun e w' => e = .returned (.bool t) ∧ Rq w' rb v ws (if t then i + 1 else i) en ∧ w.grownBy w' (some rb) := by
  have hlt : t = true → i < ws.length := fun e => by subst e; exact isAt_lt ht
  rw [isAt_text hs] at ht
  have HS := Lib.hid (text_p h)
  have HR := Lib.hid h; have HL := Lib.hid hlt
  clear h hlt hs
  generalize textAt ws i = tx at ht HS
  go_enter Tryz.func139, Tryz.ntmps139
  go_wp2_with fail
  refine HS.out.mono ?_
  rintro e w1 ⟨rfl, hb⟩
  have HR1 := Lib.hid (HR.out.keep hb)
  have HG := Lib.hid (grown_of_below hb (some rb))
  clear hb
  have c1 := HR1.out.c1
  have hf := HR1.out.fz 1
  cases t with
  | true =>
    have hn := HR1.out.len
    have hl := HL.out rfl
    go_wp2_with fail
    go_ret
    exact ⟨rfl, HR1.out.setI (i + 1) hl, grown_trans HG.out (grown_set _ _ _ _)⟩
  | false =>
    go_wp2_with fail
    go_ret
    exact ⟨rfl, HR1.out, HG.out⟩
set_option maxHeartbeats 1000000 in
theorem want_p {w : World} {rb : Nat} {v : Value} {ws : List Wd} {i en : Nat} (s : ByteArray) (hs : s.toList ≠ []) (h : Rq w rb v ws i en) (ht : isAt ws i s = true) :
    Calls Tryz.prog 137 #[.pointer (some ⟨rb, 0, none⟩), .string s] w fun e w' => e = .returned (.tuple #[]) ∧ Rq w' rb v ws (i + 1) en ∧ w.grownBy w' (some rb) := by
  have HS := Lib.hid (take_p s hs true h ht)
  clear h ht hs
  go_enter Tryz.func137, Tryz.ntmps137
  go_wp2_with fail
  refine HS.out.mono ?_
  rintro e w1 ⟨rfl, hr, hg⟩
  have HR1 := Lib.hid hr; have HG := Lib.hid hg
  clear hr hg
  go_wp2_with fail
  go_end0
  exact ⟨rfl, by simpa using HR1.out, HG.out⟩
set_option maxHeartbeats 1000000 in
theorem want_pb {w : World} {rb : Nat} {v : Value} {ws : List Wd} {i en : Nat} (s : ByteArray) (hs : s.toList ≠ []) (h : Rq w rb v ws i en) (ht : isAt ws i s = false) :
    Calls Tryz.prog 137 #[.pointer (some ⟨rb, 0, none⟩), .string s] w fun e w' => e = badP ws en i ∧ w.grownBy w' (some rb) := by
  have HS := Lib.hid (take_p s hs false h ht)
  clear h ht hs
  go_enter Tryz.func137, Tryz.ntmps137
  go_wp2_with fail
  refine HS.out.mono ?_
  rintro e w1 ⟨rfl, hr, hg⟩
  have HR1 : Hid (Rq w1 rb v ws i en) := Lib.hid (by simpa using hr)
  have HG := Lib.hid hg
  clear hr hg
  go_wp2_with fail
  refine (at_p HR1.out).mono ?_
  rintro e w2 ⟨rfl, hb⟩
  have HG2 := Lib.hid (grown_trans HG.out (grown_of_below hb _))
  clear hb
  go_wp2_with fail
  exact ⟨rfl, rfl, HG2.out⟩
set_option maxHeartbeats 2000000 in
theorem kind_p {w : World} {rb : Nat} {v : Value} {ws : List Wd} {i en : Nat} (k : Nat) (hk0 : k ≠ 0) (h : Rq w rb v ws i en) (hk : kindAt ws i = k) :
    Calls Tryz.prog 138 #[.pointer (some ⟨rb, 0, none⟩), .int .i64 k] w fun e w' => e = .returned (.string (textAt ws i)) ∧ Rq w' rb v ws (i + 1) en ∧ w.grownBy w' (some rb) := by
  obtain ⟨A, cap, rfl, hform⟩ := h.row.form
  have c0 := h.c0; have c1 := h.c1
  have hn := h.len; have hp := h.pos
  have hf1 := h.fz 1
  have HR := Lib.hid h
  have hlt : i < ws.length := by
    rcases Nat.lt_or_ge i ws.length with h' | h'
    · exact h'
    · unfold kindAt at hk; rw [List.getElem?_eq_none h'] at hk; exact absurd hk.symm hk0
  obtain ⟨x, hx⟩ : ∃ x, ws[i]? = some x := ⟨_, List.getElem?_eq_getElem hlt⟩
  obtain ⟨g, rfl, hg, d0, d1, d2⟩ := hform i x hx
  have hP : textAt ws i = x.text := by unfold textAt; rw [hx]
  rw [hP]
  have hkx : x.kind = k := by unfold kindAt at hk; rw [hx] at hk; exact hk
  subst hkx
  have e0 : (((x.kind : Nat) : Int) != ((x.kind : Nat) : Int)) = false := by simp
  have e1 : ((i : Int) == (ws.length : Int)) = false := beq_eq_false_iff_ne.2 (by omega)
  have k0 : (0 : Int) ≤ (i : Int) := by omega
  have k1 : (i : Int) < (ws.length : Int) := by omega
  have HL := Lib.hid hlt
  clear h hk hform hx hP hk0 d2
  go_enter Tryz.func138, Tryz.ntmps138
  go_wp2_with fail
  go_quiet (fail)
  go_wp2_with fail
  have hgn : g ≠ rb := by omega
  have hgn' : rb ≠ g := by omega
  have q0 : (0 : Int) ≤ (i : Int) + 1 - 1 := by omega
  have q1 : (i : Int) + 1 - 1 < (ws.length : Int) := by omega
  have q2 : ((i : Int) + 1 - 1) = (i : Int) := by omega
  go_quiet (fail)
  go_wp2_with fail
  go_ret
  exact ⟨rfl, ((HR.out.keep (below_drewN (Below.refl _ _) _)).setI (i + 1) HL.out).keep (below_drewN (Below.refl _ _) _), grown_trans (grown_trans (grown_of_below (below_drewN (Below.refl _ _) _) _) (grown_set _ rb 1 _)) (grown_of_below (below_drewN (Below.refl _ _) _) _)⟩
set_option maxHeartbeats 2000000 in
theorem kind_pb {w : World} {rb : Nat} {v : Value} {ws : List Wd} {i en : Nat} (k : Nat) (h : Rq w rb v ws i en) (hk : kindAt ws i ≠ k) :
    Calls Tryz.prog 138 #[.pointer (some ⟨rb, 0, none⟩), .int .i64 k] w fun e w' => e = badP ws en i ∧ w.grownBy w' (some rb) := by
  obtain ⟨A, cap, rfl, hform⟩ := h.row.form
  have c0 := h.c0; have c1 := h.c1
  have hn := h.len; have hp := h.pos
  have HR := Lib.hid h
  by_cases hlt : i < ws.length
  · obtain ⟨x, hx⟩ : ∃ x, ws[i]? = some x := ⟨_, List.getElem?_eq_getElem hlt⟩
    obtain ⟨g, rfl, hg, d0, d1, d2⟩ := hform i x hx
    have hkx : x.kind ≠ k := by unfold kindAt at hk; rw [hx] at hk; exact hk
    have e0 : (((x.kind : Nat) : Int) != ((k : Nat) : Int)) = true := by rw [bne_iff_ne]; omega
    have e1 : ((i : Int) == (ws.length : Int)) = false := beq_eq_false_iff_ne.2 (by omega)
    have k0 : (0 : Int) ≤ (i : Int) := by omega
    have k1 : (i : Int) < (ws.length : Int) := by omega
    clear h hk hform hx d1 d2 hkx
    go_enter Tryz.func138, Tryz.ntmps138
    go_wp2_with fail
    go_quiet (fail)
    go_wp2_with fail
    refine (at_p (HR.out.keep (below_drewN (Below.refl _ _) _))).mono ?_
    rintro e w2 ⟨rfl, hb⟩
    have HG2 := Lib.hid (grown_of_below ((below_drewN (Below.refl w.heap.size w) _).trans hb) (some rb))
    clear hb
    go_wp2_with fail
    exact ⟨rfl, rfl, HG2.out⟩
  · have hi : i = ws.length := by omega
    have e1 : ((i : Int) == (ws.length : Int)) = true := beq_iff_eq.2 (by omega)
    have HI := Lib.hid hi
    clear h hk hform hi
    go_enter Tryz.func138, Tryz.ntmps138
    go_wp2_with fail
    go_quiet (fail)
    go_wp2_with fail
    refine (at_p (HR.out.keep (below_drewN (Below.refl _ _) _))).mono ?_
    rintro e w2 ⟨rfl, hb⟩
    have HG2 := Lib.hid (grown_of_below ((below_drewN (Below.refl w.heap.size w) _).trans hb) (some rb))
    clear hb
    go_wp2_with fail
    exact ⟨rfl, rfl, HG2.out⟩
end Go.Proofs.YtmngofgminlloaaGreatDoor

namespace Go.Proofs.YtmngofgminlloaaGreatDoor
open Go.RowKit Tw

/-- What an expression is, by climbing: lvl m stands for 'operators that bind more strongly than m'. -/
inductive Dc (ws : List Wd) (en : Nat) : Qe → Re → Prop
  | ex {m i j : Nat} {a : Ex} {r : Re} : Dc ws en (.one i) (.ex a j) → Dc ws en (.rest m a j) r → Dc ws en (.lvl m i) r
  | exB {m i j : Nat} : Dc ws en (.one i) (.bad j) → Dc ws en (.lvl m i) (.bad j)
  | stop {m j : Nat} {a : Ex} : lvAt ws j ≤ m → Dc ws en (.rest m a j) (.ex a j)
  | go {m j j' : Nat} {a b : Ex} {r : Re} : m < lvAt ws j → Dc ws en (.lvl (lvAt ws j) (j + 1)) (.ex b j') → ¬ (lvAt ws j = 3 ∧ lvAt ws j' = 3) → Dc ws en (.rest m (twoEx ws en j a b) j') r → Dc ws en (.rest m a j) r
  | goB {m j j' : Nat} {a : Ex} : m < lvAt ws j → Dc ws en (.lvl (lvAt ws j) (j + 1)) (.bad j') → Dc ws en (.rest m a j) (.bad j')
  | cmpB {m j j' : Nat} {a b : Ex} : m < lvAt ws j → lvAt ws j = 3 → Dc ws en (.lvl (lvAt ws j) (j + 1)) (.ex b j') → lvAt ws j' = 3 → Dc ws en (.rest m a j) (.bad j')
  | neg {i j : Nat} {y : Ex} : headQ ws i = 1 → Dc ws en (.one (i + 1)) (.ex y j) → Dc ws en (.one i) (.ex (.mk 4 0 sNone [y] (posAt ws i en)) j)
  | negB {i j : Nat} : headQ ws i = 1 → Dc ws en (.one (i + 1)) (.bad j) → Dc ws en (.one i) (.bad j)
  | not {i j : Nat} {y : Ex} : headQ ws i = 2 → Dc ws en (.one (i + 1)) (.ex y j) → Dc ws en (.one i) (.ex (.mk 5 0 sNone [y] (posAt ws i en)) j)
  | notB {i j : Nat} : headQ ws i = 2 → Dc ws en (.one (i + 1)) (.bad j) → Dc ws en (.one i) (.bad j)
  | par {i j : Nat} {x : Ex} : headQ ws i = 3 → Dc ws en (.lvl 0 (i + 1)) (.ex x j) → isAt ws j sClose = true → Dc ws en (.one i) (.ex x (j + 1))
  | parB {i j : Nat} : headQ ws i = 3 → Dc ws en (.lvl 0 (i + 1)) (.bad j) → Dc ws en (.one i) (.bad j)
  | parC {i j : Nat} {x : Ex} : headQ ws i = 3 → Dc ws en (.lvl 0 (i + 1)) (.ex x j) → isAt ws j sClose = false → Dc ws en (.one i) (.bad j)
  | tru {i : Nat} : headQ ws i = 4 → Dc ws en (.one i) (.ex (.mk 2 1 sNone [] (posAt ws i en)) (i + 1))
  | fls {i : Nat} : headQ ws i = 5 → Dc ws en (.one i) (.ex (.mk 2 0 sNone [] (posAt ws i en)) (i + 1))
  | host {i j : Nat} {l : List Ex} : headQ ws i = 6 → kindAt ws (i + 1) = 1 → isAt ws (i + 2) sOpen = true → Dc ws en (.args 0 (i + 3)) (.exs l j) → Dc ws en (.one i) (.ex (.mk 8 (numV (textAt ws (i + 1))) sNone l (posAt ws i en)) j)
  | hostB {i j : Nat} : headQ ws i = 6 → kindAt ws (i + 1) = 1 → isAt ws (i + 2) sOpen = true → Dc ws en (.args 0 (i + 3)) (.bad j) → Dc ws en (.one i) (.bad j)
  | hostC {i : Nat} : headQ ws i = 6 → kindAt ws (i + 1) = 1 → isAt ws (i + 2) sOpen = false → Dc ws en (.one i) (.bad (i + 2))
  | hostD {i : Nat} : headQ ws i = 6 → kindAt ws (i + 1) ≠ 1 → Dc ws en (.one i) (.bad (i + 1))
  | num {i : Nat} : headQ ws i = 7 → Dc ws en (.one i) (.ex (.mk 1 (numV (textAt ws i)) sNone [] (posAt ws i en)) (i + 1))
  | var {i : Nat} : headQ ws i = 8 → isAt ws (i + 1) sOpen = false → Dc ws en (.one i) (.ex (.mk 3 0 (textAt ws i) [] (posAt ws i en)) (i + 1))
  | call {i j : Nat} {l : List Ex} : headQ ws i = 8 → isAt ws (i + 1) sOpen = true → Dc ws en (.args 0 (i + 2)) (.exs l j) → Dc ws en (.one i) (.ex (.mk 7 0 (textAt ws i) l (posAt ws i en)) j)
  | callB {i j : Nat} : headQ ws i = 8 → isAt ws (i + 1) sOpen = true → Dc ws en (.args 0 (i + 2)) (.bad j) → Dc ws en (.one i) (.bad j)
  | nobody {i : Nat} : headQ ws i = 0 → Dc ws en (.one i) (.bad i)
  | close {k i : Nat} : isAt ws i sClose = true → Dc ws en (.args k i) (.exs [] (i + 1))
  | first {i j j' : Nat} {x : Ex} {l : List Ex} : isAt ws i sClose = false → Dc ws en (.lvl 0 i) (.ex x j) → Dc ws en (.args 1 j) (.exs l j') → Dc ws en (.args 0 i) (.exs (x :: l) j')
  | firstR {i j j' : Nat} {x : Ex} : isAt ws i sClose = false → Dc ws en (.lvl 0 i) (.ex x j) → Dc ws en (.args 1 j) (.bad j') → Dc ws en (.args 0 i) (.bad j')
  | firstB {i j : Nat} : isAt ws i sClose = false → Dc ws en (.lvl 0 i) (.bad j) → Dc ws en (.args 0 i) (.bad j)
  | next {k i j j' : Nat} {x : Ex} {l : List Ex} : isAt ws i sClose = false → isAt ws i sComma = true → Dc ws en (.lvl 0 (i + 1)) (.ex x j) → Dc ws en (.args (k + 2) j) (.exs l j') → Dc ws en (.args (k + 1) i) (.exs (x :: l) j')
  | nextR {k i j j' : Nat} {x : Ex} : isAt ws i sClose = false → isAt ws i sComma = true → Dc ws en (.lvl 0 (i + 1)) (.ex x j) → Dc ws en (.args (k + 2) j) (.bad j') → Dc ws en (.args (k + 1) i) (.bad j')
  | nextB {k i j : Nat} : isAt ws i sClose = false → isAt ws i sComma = true → Dc ws en (.lvl 0 (i + 1)) (.bad j) → Dc ws en (.args (k + 1) i) (.bad j)
  | nextC {k i : Nat} : isAt ws i sClose = false → isAt ws i sComma = false → Dc ws en (.args (k + 1) i) (.bad i)

theorem lv_le (s : Bs) : lv s ≤ 5 := by unfold lv; repeat' (first | omega | split)
theorem lvAt_le (ws : List Wd) (i : Nat) : lvAt ws i ≤ 5 := by unfold lvAt; split <;> first | exact lv_le _ | omega

/-- Behind an operand of level n stands no sign of its level. -/
def lvlStops (ws : List Wd) : Qe → Re → Prop
  | .lvl n _, .ex _ j => 1 ≤ n → n ≤ 6 → lvAt ws j < n
  | .rest n _ j0, .ex _ j => lvAt ws j0 ≤ n → lvAt ws j < n
  | _, _ => True
theorem De.stops {ws : List Wd} {en : Nat} {q : Qe} {r : Re} (h : De ws en q r) : lvlStops ws q r := by
  induction h with
  | @lvl6 i r _ ih => cases r <;> first | trivial | (intro _ _; have := lvAt_le ws ‹Nat›; omega)
  | @lvl n i j a r hn _ _ ih1 ih2 =>
    cases r with
    | ex b k => intro g1 g2; exact ih2 (by have := ih1 (by omega) (by omega); omega)
    | exs => trivial
    | bad => trivial
  | stop h0 => intro g; omega
  | @go n j j' a b r h3 h0 _ _ ih1 ih2 =>
    cases r with
    | ex c k => intro g; exact ih2 (by have := lvAt_le ws j; have := ih1 (by omega) (by omega); omega)
    | exs => trivial
    | bad => trivial
  | cmp h0 _ hx ih => intro g; have := ih (by omega) (by omega); omega
  | _ => trivial

/-- Where the climb over stronger operators stopped, the climb over weaker ones goes on. -/
theorem Dc.glueR {ws : List Wd} {en : Nat} {q : Qe} {r0 : Re} (h : Dc ws en q r0) : ∀ n a0 j0 a j, q = .rest n a0 j0 → r0 = .ex a j → ∀ m, m ≤ n → ∀ r, Dc ws en (.rest m a j) r → Dc ws en (.rest m a0 j0) r := by
  induction h with
  | stop h0 => rintro n a0 j0 a j e1 e2 m hm r hr; cases e1; cases e2; exact hr
  | go h0 h1 hc _ _ ih2 => rintro n a0 j0 a j e1 e2 m hm r hr; cases e1; subst e2; exact .go (by omega) h1 hc (ih2 _ _ _ _ _ rfl rfl m hm r hr)
  | goB => rintro n a0 j0 a j e1 e2; cases e2
  | cmpB => rintro n a0 j0 a j e1 e2; cases e2
  | _ => intros; rename_i e1 _ _ _ _ _; cases e1
theorem Dc.glueRB {ws : List Wd} {en : Nat} {q : Qe} {r0 : Re} (h : Dc ws en q r0) : ∀ n a0 j0 j, q = .rest n a0 j0 → r0 = .bad j → ∀ m, m ≤ n → Dc ws en (.rest m a0 j0) (.bad j) := by
  induction h with
  | stop h0 => rintro n a0 j0 j e1 e2 m hm; cases e2
  | go h0 h1 hc _ _ ih2 => rintro n a0 j0 j e1 e2 m hm; cases e1; subst e2; exact .go (by omega) h1 hc (ih2 _ _ _ _ rfl rfl m hm)
  | goB h0 h1 => rintro n a0 j0 j e1 e2 m hm; cases e1; cases e2; exact .goB (by omega) h1
  | cmpB h0 h3 h1 hc => rintro n a0 j0 j e1 e2 m hm; cases e1; cases e2; exact .cmpB (by omega) h3 h1 hc
  | _ => intros; rename_i e1 _ _ _; cases e1
theorem Dc.glue {ws : List Wd} {en n i j m : Nat} {a : Ex} {r : Re} (h : Dc ws en (.lvl n i) (.ex a j)) (hm : m ≤ n) (hr : Dc ws en (.rest m a j) r) : Dc ws en (.lvl m i) r := by
  cases h with
  | ex h1 h2 => exact .ex h1 (h2.glueR _ _ _ _ _ rfl rfl m hm r hr)
theorem Dc.glueB {ws : List Wd} {en n i j m : Nat} (h : Dc ws en (.lvl n i) (.bad j)) (hm : m ≤ n) : Dc ws en (.lvl m i) (.bad j) := by
  cases h with
  | ex h1 h2 => exact .ex h1 (h2.glueRB _ _ _ _ rfl rfl m hm)
  | exB h1 => exact .exB h1

/-- The question of the climb that answers the levels' question. -/
def climbs (ws : List Wd) (en : Nat) : Qe → Re → Prop
  | .lvl n i, r => 1 ≤ n → n ≤ 6 → Dc ws en (.lvl (n - 1) i) r
  | .rest n a j, r => 1 ≤ n → n ≤ 5 → lvAt ws j ≤ n → Dc ws en (.rest (n - 1) a j) r
  | .one i, r => Dc ws en (.one i) r
  | .args k i, r => Dc ws en (.args k i) r
theorem De.climb {ws : List Wd} {en : Nat} {q : Qe} {r : Re} (h : De ws en q r) : climbs ws en q r := by
  induction h with
  | @lvl6 i r _ ih =>
    intro _ _
    cases r with
    | ex a j => exact .ex ih (.stop (lvAt_le ws j))
    | exs l j => exact (by have ih' : Dc ws en (.one i) (.exs l j) := ih; cases ih')
    | bad j => exact .exB ih
  | @lvl n i j a r hn h1 _ ih1 ih2 =>
    intro g1 g2
    have hs := h1.stops (by omega) (by omega)
    exact (ih1 (by omega) (by omega)).glue (by omega) (ih2 g1 (by omega) (by omega))
  | lvlB hn _ ih1 => intro g1 g2; exact (ih1 (by omega) (by omega)).glueB (by omega)
  | stop h0 => intro g1 g2 g3; exact .stop (by omega)
  | @go n j j' a b r h3 h0 h1 _ ih1 ih2 =>
    intro g1 g2 g3
    have hs := h1.stops (by omega) (by omega)
    have i1 := ih1 (by omega) (by omega)
    exact .go (by omega) (by rw [h0]; exact i1) (by omega) (ih2 g1 g2 (by omega))
  | @goB n j j' a h0 h1 ih1 =>
    intro g1 g2 g3
    have i1 := ih1 (by omega) (by omega)
    exact .goB (by omega) (by rw [h0]; exact i1)
  | @cmp j j' a b h0 h1 hx ih1 =>
    intro g1 g2 g3
    have hs := h1.stops (by omega) (by omega)
    have i1 := ih1 (by omega) (by omega)
    exact .go (by omega) (by rw [h0]; exact i1) (by omega) (.stop (by omega))
  | @cmpB j j' a b h0 h1 hx ih1 =>
    intro g1 g2 g3
    have i1 := ih1 (by omega) (by omega)
    exact .cmpB (by omega) h0 (by rw [h0]; exact i1) hx
  | neg h0 _ ih => exact .neg h0 ih
  | negB h0 _ ih => exact .negB h0 ih
  | not h0 _ ih => exact .not h0 ih
  | notB h0 _ ih => exact .notB h0 ih
  | par h0 _ hc ih => exact .par h0 (ih (by omega) (by omega)) hc
  | parB h0 _ ih => exact .parB h0 (ih (by omega) (by omega))
  | parC h0 _ hc ih => exact .parC h0 (ih (by omega) (by omega)) hc
  | tru h0 => exact .tru h0
  | fls h0 => exact .fls h0
  | host h0 h1 h2 _ ih => exact .host h0 h1 h2 ih
  | hostB h0 h1 h2 _ ih => exact .hostB h0 h1 h2 ih
  | hostC h0 h1 h2 => exact .hostC h0 h1 h2
  | hostD h0 h1 => exact .hostD h0 h1
  | num h0 => exact .num h0
  | var h0 h1 => exact .var h0 h1
  | call h0 h1 _ ih => exact .call h0 h1 ih
  | callB h0 h1 _ ih => exact .callB h0 h1 ih
  | nobody h0 => exact .nobody h0
  | close hc => exact .close hc
  | first hc _ _ ih1 ih2 => exact .first hc (ih1 (by omega) (by omega)) ih2
  | firstR hc _ _ ih1 ih2 => exact .firstR hc (ih1 (by omega) (by omega)) ih2
  | firstB hc _ ih1 => exact .firstB hc (ih1 (by omega) (by omega))
  | next hc hd _ _ ih1 ih2 => exact .next hc hd (ih1 (by omega) (by omega)) ih2
  | nextR hc hd _ _ ih1 ih2 => exact .nextR hc hd (ih1 (by omega) (by omega)) ih2
  | nextB hc hd _ ih1 => exact .nextB hc hd (ih1 (by omega) (by omega))
  | nextC hc hd => exact .nextC hc hd
end Go.Proofs.YtmngofgminlloaaGreatDoor

namespace Go.Proofs.YtmngofgminlloaaGreatDoor
open Go.RowKit Tw

structure FrP (w0 w : World) (rb b0 b1 : Nat) (v : Value) (ws : List Wd) (i en : Nat) (u0 u1 u2 u3 u4 : Value) : Prop where
  rd : Rq w rb v ws i en
  res : w.heap[b0]? = some (.cells #[.int .i64 0, .int .i64 0, .string ⟨#[]⟩, .slice none 0 0, .int .i64 0] 186 (0, 0))
  ex : w.heap[b1]? = some (.cells #[u0, u1, u2, u3, u4] 186 (0, 0))
  gr : w0.grownBy w (some rb)
  gl : Glob w
  r0 : 10 < rb
  z0 : rb < w0.heap.size
  z1 : w0.heap.size ≤ b0
  z2 : b0 < b1
  z3 : b1 < w.heap.size
section
variable {w0 w w' : World} {rb b0 b1 : Nat} {v : Value} {ws : List Wd} {i en : Nat} {u0 u1 u2 u3 u4 : Value}
theorem FrP.step {i' : Nat} (h : FrP w0 w rb b0 b1 v ws i en u0 u1 u2 u3 u4) (hr : Rq w' rb v ws i' en) (hg : w.grownBy w' (some rb)) : FrP w0 w' rb b0 b1 v ws i' en u0 u1 u2 u3 u4 := by
  have h0 := h.z0; have h1 := h.z1; have h2 := h.z2; have h3 := h.z3
  exact ⟨hr, (hg.block b0 (by omega) (by simp; omega)).trans h.res, (hg.block b1 h3 (by simp; omega)).trans h.ex, grown_trans h.gr hg, h.gl.of hg h.r0, h.r0, h0, h1, h2, Nat.lt_of_lt_of_le h3 hg.size⟩
theorem FrP.below (h : FrP w0 w rb b0 b1 v ws i en u0 u1 u2 u3 u4) (hb : Below w.heap.size w w') : FrP w0 w' rb b0 b1 v ws i en u0 u1 u2 u3 u4 := h.step (h.rd.keep hb) (grown_of_below hb _)
theorem FrP.set {v0 v1 v2 v3 v4 : Value} (h : FrP w0 w rb b0 b1 v ws i en u0 u1 u2 u3 u4) (hg : w.grownBy w' (some b1)) (he : w'.heap[b1]? = some (.cells #[v0, v1, v2, v3, v4] 186 (0, 0))) : FrP w0 w' rb b0 b1 v ws i en v0 v1 v2 v3 v4 := by
  have h0 := h.z0; have h1 := h.z1; have h2 := h.z2; have h3 := h.z3; have hz := h.gr.size
  exact ⟨h.rd.grown hg (by omega), (hg.block b0 (by omega) (by simp; omega)).trans h.res, he, grown_new h.gr hg (by omega), h.gl.same hg.size (fun g hg' => hg.block g (by have := h.r0; omega) (by simp; have := h.r0; omega)), h.r0, h0, h1, h2, Nat.lt_of_lt_of_le h3 hg.size⟩
theorem FrP.other {k : Nat} (h : FrP w0 w rb b0 b1 v ws i en u0 u1 u2 u3 u4) (hk : b1 < k) (hg : w.grownBy w' (some k)) : FrP w0 w' rb b0 b1 v ws i en u0 u1 u2 u3 u4 := by
  have h0 := h.z0; have h1 := h.z1; have h2 := h.z2; have h3 := h.z3; have hz := h.gr.size
  exact ⟨h.rd.grown hg (by omega), (hg.block b0 (by omega) (by simp; omega)).trans h.res, (hg.block b1 (by omega) (by simp; omega)).trans h.ex, grown_new h.gr hg (by omega), h.gl.same hg.size (fun g hg' => hg.block g (by have := h.r0; omega) (by simp; have := h.r0; omega)), h.r0, h0, h1, h2, Nat.lt_of_lt_of_le h3 hg.size⟩
theorem FrP.s0 (h : FrP w0 w rb b0 b1 v ws i en u0 u1 u2 u3 u4) (x : Value) : FrP w0 (w.setCell ⟨b1, 0, none⟩ x) rb b0 b1 v ws i en x u1 u2 u3 u4 := h.set (grown_set _ _ _ _) (by simpa using heap_setCell_same w b1 0 _ _ x h.ex)
theorem FrP.s1 (h : FrP w0 w rb b0 b1 v ws i en u0 u1 u2 u3 u4) (x : Value) : FrP w0 (w.setCell ⟨b1, 1, none⟩ x) rb b0 b1 v ws i en u0 x u2 u3 u4 := h.set (grown_set _ _ _ _) (by simpa using heap_setCell_same w b1 1 _ _ x h.ex)
theorem FrP.s2 (h : FrP w0 w rb b0 b1 v ws i en u0 u1 u2 u3 u4) (x : Value) : FrP w0 (w.setCell ⟨b1, 2, none⟩ x) rb b0 b1 v ws i en u0 u1 x u3 u4 := h.set (grown_set _ _ _ _) (by simpa using heap_setCell_same w b1 2 _ _ x h.ex)
theorem FrP.s3 (h : FrP w0 w rb b0 b1 v ws i en u0 u1 u2 u3 u4) (x : Value) : FrP w0 (w.setCell ⟨b1, 3, none⟩ x) rb b0 b1 v ws i en u0 u1 u2 x u4 := h.set (grown_set _ _ _ _) (by simpa using heap_setCell_same w b1 3 _ _ x h.ex)
theorem FrP.s4 (h : FrP w0 w rb b0 b1 v ws i en u0 u1 u2 u3 u4) (x : Value) : FrP w0 (w.setCell ⟨b1, 4, none⟩ x) rb b0 b1 v ws i en u0 u1 u2 u3 x := h.set (grown_set _ _ _ _) (by simpa using heap_setCell_same w b1 4 _ _ x h.ex)
theorem FrP.start (hR : Rq w rb v ws i en) (hG : Glob w) (hr : 10 < rb) (hg : w0.grownBy w (some rb)) (h0 : rb < w0.heap.size) (h1 : w0.heap.size ≤ b0) (h2 : b0 < w.heap.size)
    (hz : w.heap[b0]? = some (.cells #[.int .i64 0, .int .i64 0, .string ⟨#[]⟩, .slice none 0 0, .int .i64 0] 186 (0, 0))) (u0 u1 u2 u3 u4 : Value) :
    FrP w0 (w.alloc (.cells #[u0, u1, u2, u3, u4] 186)) rb b0 w.heap.size v ws i en u0 u1 u2 u3 u4 :=
  ⟨hR.keep ((Below.refl _ _).alloc (Nat.le_refl _) _), (heap_alloc_old w _ h2).trans hz, heap_alloc_new w _, grown_trans hg (grown_of_below ((Below.refl _ _).alloc (Nat.le_refl _) _) _), hG.to ((Below.refl _ _).alloc (Nat.le_refl _) _), hr, h0, h1, h2, by simp⟩
end
/-- What a method for expressions answers, by what stands there. -/
def ExR (w : World) (rb : Nat) (v : Value) (ws : List Wd) (en : Nat) (r : Re) (e : Ending) (w' : World) : Prop :=
  match r with
  | .ex x j => ∃ A c, e = .returned (.agg #[.int .i64 x.kind, .int .i64 x.n, .string x.text, .slice A x.args.length c, .int .i64 x.pos]) ∧ ArgsIn w' (fun g => w.heap.size ≤ g) (.slice A x.args.length c) x.args ∧ Rq w' rb v ws j en ∧ w.grownBy w' (some rb)
  | .bad j => e = badP ws en j ∧ w.grownBy w' (some rb)
  | .exs _ _ => False
def ArR (w : World) (rb : Nat) (v : Value) (ws : List Wd) (en : Nat) (r : Re) (e : Ending) (w' : World) : Prop :=
  match r with
  | .exs l j => ∃ A c, e = .returned (.slice A l.length c) ∧ ArgsIn w' (fun g => w.heap.size ≤ g) (.slice A l.length c) l ∧ Rq w' rb v ws j en ∧ w.grownBy w' (some rb)
  | .bad j => e = badP ws en j ∧ w.grownBy w' (some rb)
  | .ex _ _ => False
def ExprC (rb : Nat) (v : Value) (ws : List Wd) (en m i : Nat) : Prop :=
  ∀ r, Dc ws en (.lvl m i) r → ∀ w, Rq w rb v ws i en → Glob w → Calls Tryz.prog 224 #[.pointer (some ⟨rb, 0, none⟩), .int .i64 m] w fun e w' => ExR w rb v ws en r e w'
def UnC (rb : Nat) (v : Value) (ws : List Wd) (en i : Nat) : Prop :=
  ∀ r, Dc ws en (.one i) r → ∀ w, Rq w rb v ws i en → Glob w → Calls Tryz.prog 239 #[.pointer (some ⟨rb, 0, none⟩)] w fun e w' => ExR w rb v ws en r e w'
def AtomC (rb : Nat) (v : Value) (ws : List Wd) (en i : Nat) : Prop :=
  ∀ r, Dc ws en (.one i) r → headQ ws i ≠ 1 → headQ ws i ≠ 2 → ∀ w, Rq w rb v ws i en → Glob w → Calls Tryz.prog 245 #[.pointer (some ⟨rb, 0, none⟩)] w fun e w' => ExR w rb v ws en r e w'
def ArgsP (rb : Nat) (v : Value) (ws : List Wd) (en i : Nat) : Prop :=
  ∀ r, Dc ws en (.args 0 i) r → ∀ w, Rq w rb v ws i en → Glob w → Calls Tryz.prog 248 #[.pointer (some ⟨rb, 0, none⟩)] w fun e w' => ArR w rb v ws en r e w'
theorem ne_of {s : ByteArray} (h : s.data.toList ≠ []) : s.toList ≠ [] := by rw [ByteArray.toList_eq]; exact h
theorem FrP.ret {w0 w : World} {rb b0 b1 : Nat} {v : Value} {ws : List Wd} {i' en : Nat} {x : Ex} {A : Option Addr} {c : Nat} {F : Nat → Prop}
    (h : FrP w0 w rb b0 b1 v ws i' en (.int .i64 x.kind) (.int .i64 x.n) (.string x.text) (.slice A x.args.length c) (.int .i64 x.pos)) (hA : ArgsIn w F (.slice A x.args.length c) x.args) (hF : ∀ g, F g → w0.heap.size ≤ g ∧ g ≠ b0) :
    ExR w0 rb v ws en (.ex x i') (.returned (.agg #[.int .i64 x.kind, .int .i64 x.n, .string x.text, .slice A x.args.length c, .int .i64 x.pos]))
      (((((w.setCell ⟨b0, 0, none⟩ (.int .i64 x.kind)).setCell ⟨b0, 1, none⟩ (.int .i64 x.n)).setCell ⟨b0, 2, none⟩ (.string x.text)).setCell ⟨b0, 3, none⟩ (.slice A x.args.length c)).setCell ⟨b0, 4, none⟩ (.int .i64 x.pos)) := by
  have hg5 := grown5 w b0 (.int .i64 x.kind) (.int .i64 x.n) (.string x.text) (.slice A x.args.length c) (.int .i64 x.pos)
  have h0 := h.z0; have h1 := h.z1
  exact ⟨A, c, rfl, hA.grown hg5 (fun g h => (hF g h).2) (fun g h => (hF g h).1), h.rd.grown hg5 (by omega), grown_new h.gr hg5 h1⟩
set_option maxHeartbeats 1000000 in
theorem number_c (s : ByteArray) (hs : s.size ≤ 18) (w : World) (hG : Glob w) : Calls Tryz.prog 247 #[.string s] w fun e w' => e = .returned (.int .i64 (numV s)) ∧ Below w.heap.size w w' := by
  have HN := Lib.hid (num_c s hs w hG)
  clear hs hG
  go_enter Tryz.func247, Tryz.ntmps247
  go_wp2_with fail
  refine HN.out.mono ?_
  rintro e w1 ⟨⟨er, rfl⟩, hb⟩
  have HB := Lib.hid hb; clear hb
  go_wp2_with fail
  go_ret
  exact ⟨rfl, HB.out⟩
set_option maxHeartbeats 1000000 in
theorem typ_p {w : World} {rb : Nat} {v : Value} {ws : List Wd} {i en : Nat} {t : Int} (h : Rq w rb v ws i en) (ht : typF ws i = .ok t) :
    Calls Tryz.prog 140 #[.pointer (some ⟨rb, 0, none⟩)] w fun e w' => e = .returned (.int .i64 t) ∧ Rq w' rb v ws (i + 2) en ∧ w.grownBy w' (some rb) := by
  unfold typF at ht
  by_cases h1 : isAt ws i tColon = true
  · rw [if_pos h1] at ht
    have HW := Lib.hid (want_p tColon (ne_of (by decide)) h h1)
    obtain ⟨t2, ht2⟩ : ∃ t, isAt ws (i + 1) tInt = t := ⟨_, rfl⟩
    have T2 := Lib.hid ht2
    rw [ht2] at ht
    have HT := Lib.hid ht
    clear h h1 ht ht2
    go_enter Tryz.func140, Tryz.ntmps140
    go_wp2_with fail
    refine HW.out.mono ?_
    rintro e w1 ⟨rfl, hr, hg⟩
    have HR := Lib.hid hr; have HG := Lib.hid hg; clear hr hg
    go_wp2_with fail
    refine (take_p tInt (ne_of (by decide)) t2 HR.out T2.out).mono ?_
    rintro e w2 ⟨rfl, hr, hg⟩
    have HR2 := Lib.hid hr; have HG2 := Lib.hid (grown_trans HG.out hg); clear hr hg
    cases t2 with
    | true =>
      obtain rfl : (1 : Int) = t := by have := HT.out; simpa using this
      go_wp2_with fail
      go_ret
      exact ⟨rfl, by simpa using HR2.out, HG2.out⟩
    | false =>
      have h3 : isAt ws (i + 1) tBool = true ∧ (2 : Int) = t := by
        have := HT.out
        simp only [Bool.false_eq_true, if_false] at this
        split at this
        · rename_i h; exact ⟨h, by injection this⟩
        · cases this
      obtain ⟨h3, rfl⟩ := h3
      have H3 := Lib.hid h3; clear h3
      simp only [Bool.false_eq_true, if_false] at HR2
      go_wp2_with fail
      refine (want_p tBool (ne_of (by decide)) HR2.out H3.out).mono ?_
      rintro e w3 ⟨rfl, hr, hg⟩
      have HR3 := Lib.hid hr; have HG3 := Lib.hid (grown_trans HG2.out hg); clear hr hg
      go_wp2_with fail
      go_ret
      exact ⟨rfl, HR3.out, HG3.out⟩
  · rw [if_neg h1] at ht; cases ht
set_option maxHeartbeats 1000000 in
theorem typ_pb {w : World} {rb : Nat} {v : Value} {ws : List Wd} {i en j : Nat} (h : Rq w rb v ws i en) (ht : typF ws i = .bad j) :
    Calls Tryz.prog 140 #[.pointer (some ⟨rb, 0, none⟩)] w fun e w' => e = badP ws en j ∧ w.grownBy w' (some rb) := by
  unfold typF at ht
  obtain ⟨t1, ht1⟩ : ∃ t, isAt ws i tColon = t := ⟨_, rfl⟩
  cases t1 with
  | false =>
    rw [if_neg (by rw [ht1]; decide)] at ht
    obtain rfl : i = j := by injection ht
    have HW := Lib.hid (want_pb tColon (ne_of (by decide)) h ht1)
    clear h ht ht1
    go_enter Tryz.func140, Tryz.ntmps140
    go_wp2_with fail
    refine HW.out.mono ?_
    rintro e w1 ⟨rfl, hg⟩
    have HG := Lib.hid hg; clear hg
    unfold badP
    go_wp2_with fail
    exact ⟨rfl, rfl, HG.out⟩
  | true =>
    rw [if_pos ht1] at ht
    have HW := Lib.hid (want_p tColon (ne_of (by decide)) h ht1)
    have h2 : isAt ws (i + 1) tInt = false ∧ isAt ws (i + 1) tBool = false ∧ i + 1 = j := by
      split at ht
      · cases ht
      · rename_i h2
        split at ht
        · cases ht
        · rename_i h3
          exact ⟨by simpa using h2, by simpa using h3, by injection ht⟩
    obtain ⟨h2, h3, rfl⟩ := h2
    have H2 := Lib.hid h2; have H3 := Lib.hid h3
    clear h ht ht1 h2 h3
    go_enter Tryz.func140, Tryz.ntmps140
    go_wp2_with fail
    refine HW.out.mono ?_
    rintro e w1 ⟨rfl, hr, hg⟩
    have HR := Lib.hid hr; have HG := Lib.hid hg; clear hr hg
    go_wp2_with fail
    refine (take_p tInt (ne_of (by decide)) false HR.out H2.out).mono ?_
    rintro e w2 ⟨rfl, hr, hg⟩
    have HR2 := Lib.hid hr; have HG2 := Lib.hid (grown_trans HG.out hg); clear hr hg
    simp only [Bool.false_eq_true, if_false] at HR2
    go_wp2_with fail
    refine (want_pb tBool (ne_of (by decide)) HR2.out H3.out).mono ?_
    rintro e w3 ⟨rfl, hg⟩
    have HG3 := Lib.hid (grown_trans HG2.out hg); clear hg
    unfold badP
    go_wp2_with fail
    exact ⟨rfl, rfl, HG3.out⟩
end Go.Proofs.YtmngofgminlloaaGreatDoor

namespace Go.Proofs.YtmngofgminlloaaGreatDoor
open Go.RowKit Tw

theorem of_list {s : ByteArray} {l : List UInt8} (h : s.data.toList = l) : s = ⟨l.toArray⟩ := by
  cases s with | mk d => subst h; simp
set_option maxHeartbeats 4000000 in
theorem level_p (s : ByteArray) (w : World) : Calls Tryz.prog 162 #[.string s] w fun e w' => e = .returned (.int .i64 (lv s.data.toList)) ∧ w = w' := by
  by_cases h0 : s.data.toList = [124, 124]
  · have e := of_list h0
    subst e
    clear h0
    go_enter Tryz.func162, Tryz.ntmps162
    go_wp2_with fail
    go_ret
    exact ⟨rfl, rfl⟩
  by_cases h1 : s.data.toList = [38, 38]
  · have e := of_list h1
    subst e
    clear h0 h1
    go_enter Tryz.func162, Tryz.ntmps162
    go_wp2_with fail
    go_ret
    exact ⟨rfl, rfl⟩
  by_cases h2 : s.data.toList = [60]
  · have e := of_list h2
    subst e
    clear h0 h1 h2
    go_enter Tryz.func162, Tryz.ntmps162
    go_wp2_with fail
    go_ret
    exact ⟨rfl, rfl⟩
  by_cases h3 : s.data.toList = [60, 61]
  · have e := of_list h3
    subst e
    clear h0 h1 h2 h3
    go_enter Tryz.func162, Tryz.ntmps162
    go_wp2_with fail
    go_ret
    exact ⟨rfl, rfl⟩
  by_cases h4 : s.data.toList = [62]
  · have e := of_list h4
    subst e
    clear h0 h1 h2 h3 h4
    go_enter Tryz.func162, Tryz.ntmps162
    go_wp2_with fail
    go_ret
    exact ⟨rfl, rfl⟩
  by_cases h5 : s.data.toList = [62, 61]
  · have e := of_list h5
    subst e
    clear h0 h1 h2 h3 h4 h5
    go_enter Tryz.func162, Tryz.ntmps162
    go_wp2_with fail
    go_ret
    exact ⟨rfl, rfl⟩
  by_cases h6 : s.data.toList = [61, 61]
  · have e := of_list h6
    subst e
    clear h0 h1 h2 h3 h4 h5 h6
    go_enter Tryz.func162, Tryz.ntmps162
    go_wp2_with fail
    go_ret
    exact ⟨rfl, rfl⟩
  by_cases h7 : s.data.toList = [33, 61]
  · have e := of_list h7
    subst e
    clear h0 h1 h2 h3 h4 h5 h6 h7
    go_enter Tryz.func162, Tryz.ntmps162
    go_wp2_with fail
    go_ret
    exact ⟨rfl, rfl⟩
  by_cases h8 : s.data.toList = [43]
  · have e := of_list h8
    subst e
    clear h0 h1 h2 h3 h4 h5 h6 h7 h8
    go_enter Tryz.func162, Tryz.ntmps162
    go_wp2_with fail
    go_ret
    exact ⟨rfl, rfl⟩
  by_cases h9 : s.data.toList = [45]
  · have e := of_list h9
    subst e
    clear h0 h1 h2 h3 h4 h5 h6 h7 h8 h9
    go_enter Tryz.func162, Tryz.ntmps162
    go_wp2_with fail
    go_ret
    exact ⟨rfl, rfl⟩
  by_cases h10 : s.data.toList = [42]
  · have e := of_list h10
    subst e
    clear h0 h1 h2 h3 h4 h5 h6 h7 h8 h9 h10
    go_enter Tryz.func162, Tryz.ntmps162
    go_wp2_with fail
    go_ret
    exact ⟨rfl, rfl⟩
  by_cases h11 : s.data.toList = [47]
  · have e := of_list h11
    subst e
    clear h0 h1 h2 h3 h4 h5 h6 h7 h8 h9 h10 h11
    go_enter Tryz.func162, Tryz.ntmps162
    go_wp2_with fail
    go_ret
    exact ⟨rfl, rfl⟩
  by_cases h12 : s.data.toList = [37]
  · have e := of_list h12
    subst e
    clear h0 h1 h2 h3 h4 h5 h6 h7 h8 h9 h10 h11 h12
    go_enter Tryz.func162, Tryz.ntmps162
    go_wp2_with fail
    go_ret
    exact ⟨rfl, rfl⟩
  have hl : lv s.data.toList = 0 := by unfold lv; simp [h0, h1, h2, h3, h4, h5, h6, h7, h8, h9, h10, h11, h12]
  have e0 : (s.toList == [124, 124]) = false := by rw [beq_eq_false_iff_ne, ByteArray.toList_eq]; exact h0
  have e1 : (s.toList == [38, 38]) = false := by rw [beq_eq_false_iff_ne, ByteArray.toList_eq]; exact h1
  have e2 : (s.toList == [60]) = false := by rw [beq_eq_false_iff_ne, ByteArray.toList_eq]; exact h2
  have e3 : (s.toList == [60, 61]) = false := by rw [beq_eq_false_iff_ne, ByteArray.toList_eq]; exact h3
  have e4 : (s.toList == [62]) = false := by rw [beq_eq_false_iff_ne, ByteArray.toList_eq]; exact h4
  have e5 : (s.toList == [62, 61]) = false := by rw [beq_eq_false_iff_ne, ByteArray.toList_eq]; exact h5
  have e6 : (s.toList == [61, 61]) = false := by rw [beq_eq_false_iff_ne, ByteArray.toList_eq]; exact h6
  have e7 : (s.toList == [33, 61]) = false := by rw [beq_eq_false_iff_ne, ByteArray.toList_eq]; exact h7
  have e8 : (s.toList == [43]) = false := by rw [beq_eq_false_iff_ne, ByteArray.toList_eq]; exact h8
  have e9 : (s.toList == [45]) = false := by rw [beq_eq_false_iff_ne, ByteArray.toList_eq]; exact h9
  have e10 : (s.toList == [42]) = false := by rw [beq_eq_false_iff_ne, ByteArray.toList_eq]; exact h10
  have e11 : (s.toList == [47]) = false := by rw [beq_eq_false_iff_ne, ByteArray.toList_eq]; exact h11
  have e12 : (s.toList == [37]) = false := by rw [beq_eq_false_iff_ne, ByteArray.toList_eq]; exact h12
  have HL := Lib.hid hl
  clear hl h0 h1 h2 h3 h4 h5 h6 h7 h8 h9 h10 h11 h12
  go_enter Tryz.func162, Tryz.ntmps162
  go_wp2_with fail
  go_ret
  exact ⟨by rw [HL.out]; rfl, rfl⟩
end Go.Proofs.YtmngofgminlloaaGreatDoor
