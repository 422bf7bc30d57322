/-
  The walk of the law ParsePrints: for every script whose text memory holds it returns true, and what was there is as it was. Condition: the library's variables are as the row lists them.
  The bulk of what came in bounds the number of a script's parts.
-/
import Derived.Test.YtmngofgminlloaaGreatDoorPP07
import Derived.Test.YtmngofgminlloaaGreatDoorPP08
import Derived.Test.YtmngofgminlloaaGreatDoorPP01
import Derived.Test.YtmngofgminlloaaGreatDoorPP03
import Derived.Test.YtmngofgminlloaaGreatDoorTT27
import Derived.Test.YtmngofgminlloaaGreatDoorTT14
import Derived.Test.YtmngofgminlloaaGreatDoorPP04
import Derived.Test.YtmngofgminlloaaGreatDoorRows
set_option linter.all false
namespace Go.Proofs.YtmngofgminlloaaGreatDoor
open Go.RowKit Tw

structure FrY (w W : World) (b1 : Nat) (A : Option Addr) (n c : Nat) : Prop where
  un : W.heap[b1]? = some (.cells #[.slice A n c] 24 (0, 0))
  bel : Below w.heap.size w W
  gl : Glob W
theorem FrY.later {w W W' : World} {b1 : Nat} {A : Option Addr} {n c : Nat} (h : FrY w W b1 A n c) (hb : Below W.heap.size W W') : FrY w W' b1 A n c :=
  ⟨(hb.block b1 (lt_of_some h.un)).trans h.un, h.bel.trans (hb.mono h.bel.size), h.gl.to hb⟩
def fFn : Fn := ⟨⟨#[102]⟩, [], [], 1, [], 0⟩
def fText : ByteArray := ⟨#[102, 117, 110, 32, 102, 40, 41, 58, 32, 105, 110, 116, 32, 123, 32, 125, 10]⟩
theorem unitF_f : unitF [fFn] = 0 := by decide
theorem pcsT_f : pcsT (unPc [fFn]) = fText.data.toList := by simp [unPc, fnPc, fFn, paPc, brP, stPc, pcsT, Pc.txt, tyP, fText]
theorem prE_f : prE [fFn] = 0 := by unfold prE; rw [if_neg (by rw [unitF_f]; decide), pcsT_f, if_neg (by decide)]
theorem prS_f : prS [fFn] = fText := by unfold prS; rw [if_neg (by rw [unitF_f]; decide), pcsT_f, if_neg (by decide)]
theorem fns_f (w : World) : FnsIn ((w.alloc (.cells #[.string ⟨#[102]⟩, .slice none 0 0, .slice none 0 0, .int .i64 1, .slice none 0 0, .int .i64 0] 32))) (fun _ => True) (.slice (some ⟨w.heap.size, 0, none⟩) 1 1) [fFn] := by
  refine .inr ⟨w.heap.size, 0, 1, fun _ => .slice none 0 0, fun _ => .slice none 0 0, fun _ => .slice none 0 0, rfl, trivial, by simp, fun k f hf => ?_⟩
  have h1 := heap_alloc_new w (.cells #[.string ⟨#[102]⟩, .slice none 0 0, .slice none 0 0, .int .i64 1, .slice none 0 0, .int .i64 0] 32)
  cases k with
  | zero =>
    simp at hf; subst hf
    refine ⟨fun j u hu => ?_, .inl ⟨_, _, rfl, rfl⟩, .inl ⟨_, _, rfl, rfl⟩, .nil _ _⟩
    rw [Lib.cell_of_heap h1]
    simp only [Nat.zero_mul, Nat.zero_add]
    have e : (#[Value.string ⟨#[102]⟩, .slice none 0 0, .slice none 0 0, .int .i64 1, .slice none 0 0, .int .i64 0] : Array Value)[j]? = (fnCells fFn (.slice none 0 0) (.slice none 0 0) (.slice none 0 0))[j]? := by rw [← Array.getElem?_toList]; rfl
    rw [e]; exact hu
  | succ k => simp at hf
theorem fnz_f : ∀ f ∈ [fFn], FnZ f := by
  intro f hf
  simp at hf; subst hf
  exact ⟨by unfold maxLen; decide, by simp [fFn], by simp [fFn], by simp [fFn], by simp [fFn], by simp [fFn]⟩

set_option maxRecDepth 100000 in
set_option maxHeartbeats 16000000 in
theorem parsePrints_any (us : List Fn) (A : Option Addr) (c : Nat) (F0 : Nat → Prop) (w : World) (hU : FnsIn w F0 (.slice A us.length c) us) (hZ : ∀ f ∈ us, FnZ f) (hlen : us.length ≤ 281474976710656) (hG : Glob w) (hbulk : unitF us = 0 → (pcsT (unPc us)).length ≤ 140737488355328) :
    Calls Tryz.prog 3 #[.agg #[.slice A us.length c]] w fun e w' => e = .returned (.bool true) ∧ Below w.heap.size w w' := by
  have hB1 : Below w.heap.size w (w.alloc (.cells #[.slice A us.length c] 24)) := (Below.refl _ _).alloc (Nat.le_refl _) _
  have HU : Hid (FnsIn (w.alloc (.cells #[.slice A us.length c] 24)) (fun _ => True) (.slice A us.length c) us) := Lib.hid (hU.keep (fun g h1 h2 => ⟨trivial, Nat.lt_of_lt_of_le h2 hB1.size, hB1.block g h2⟩))
  have HF0 : Hid (FrY w (w.alloc (.cells #[.slice A us.length c] 24)) w.heap.size A us.length c) := Lib.hid ⟨heap_alloc_new w _, hB1, hG.to hB1⟩
  have HZ := Lib.hid hZ; have HK := Lib.hid hbulk
  clear hU hZ hG hB1 hbulk
  go_enter Tryz.func3, Tryz.ntmps3
  go_upto_region 1 with (fail)
  generalize w.alloc _ = w0 at HU HF0 ⊢
  obtain ⟨b1, hb1⟩ : ∃ b, w.heap.size = b := ⟨_, rfl⟩
  rw [hb1] at HF0
  simp only [hb1]
  clear hb1
  have hbf := (Below.refl w0.heap.size w0).alloc (Nat.le_refl _) (.cells #[.string ⟨#[102]⟩, .slice none 0 0, .slice none 0 0, .int .i64 1, .slice none 0 0, .int .i64 0] 32)
  have HFf := Lib.hid (HF0.out.later hbf)
  have HUf := Lib.hid (HU.out.keep (F' := fun _ => True) (fun g h1 h2 => ⟨trivial, Nat.lt_of_lt_of_le h2 hbf.size, hbf.block g h2⟩))
  have HPf := Lib.hid (print_c [fFn] (some ⟨w0.heap.size, 0, none⟩) 1 (fun _ => True) _ (fns_f w0) fnz_f (by simp) HFf.out.gl (fun _ => by rw [pcsT_f]; decide))
  rw [prE_f, prS_f] at HPf
  clear hbf HF0 HU
  go_wp2_with fail
  refine HPf.out.mono ?_
  rintro e w1 ⟨rfl, hb⟩
  have HF1 := Lib.hid (HFf.out.later hb)
  have HU1 := Lib.hid (HUf.out.keep (F' := fun _ => True) (w' := w1) (fun g h1 h2 => ⟨trivial, Nat.lt_of_lt_of_le h2 hb.size, hb.block g h2⟩))
  have c1 : w1.cell? ⟨b1, 0, none⟩ = some (.slice A us.length c) := Lib.cell_of_heap HF1.out.un 0
  have ef : (fText.toList == [102, 117, 110, 32, 102, 40, 41, 58, 32, 105, 110, 116, 32, 123, 32, 125, 10]) = true := by rw [beq_iff_eq, ByteArray.toList_eq]; rfl
  clear hb HFf HUf HPf
  go_wp2_with fail
  refine (unitF_c us A c (fun _ => True) w1 HU1.out HZ.out hlen HF1.out.gl).mono ?_
  rintro e w2 ⟨rfl, hb⟩
  have HF2 := Lib.hid (HF1.out.later hb)
  have HU2 := Lib.hid (HU1.out.keep (F' := fun _ => True) (w' := w2) (fun g h1 h2 => ⟨trivial, Nat.lt_of_lt_of_le h2 hb.size, hb.block g h2⟩))
  clear c1 hb HF1 HU1 ef
  have c1 : w2.cell? ⟨b1, 0, none⟩ = some (.slice A us.length c) := Lib.cell_of_heap HF2.out.un 0
  go_wp2_with fail
  refine (print_c us A c (fun _ => True) w2 HU2.out HZ.out hlen HF2.out.gl HK.out).mono ?_
  rintro e w3 ⟨rfl, hb⟩
  have HF3 := Lib.hid (HF2.out.later hb)
  have HU3 := Lib.hid (HU2.out.keep (F' := fun _ => True) (w' := w3) (fun g h1 h2 => ⟨trivial, Nat.lt_of_lt_of_le h2 hb.size, hb.block g h2⟩))
  clear c1 hb HF2 HU2
  have c1 : w3.cell? ⟨b1, 0, none⟩ = some (.slice A us.length c) := Lib.cell_of_heap HF3.out.un 0
  go_wp2_with fail
  refine (check_c us A c (fun _ => True) w3 HU3.out HZ.out hlen).mono ?_
  rintro e w4 ⟨rfl, hb⟩
  have HF4 := Lib.hid (HF3.out.later hb)
  have HU4 := Lib.hid (HU3.out.keep (F' := fun _ => True) (w' := w4) (fun g h1 h2 => ⟨trivial, Nat.lt_of_lt_of_le h2 hb.size, hb.block g h2⟩))
  clear c1 hb HF3 HU3
  have c1 : w4.cell? ⟨b1, 0, none⟩ = some (.slice A us.length c) := Lib.cell_of_heap HF4.out.un 0
  by_cases h0 : unitF us = 0
  case neg =>
    have es : prS us = ⟨#[]⟩ := by unfold prS; rw [if_pos h0]
    have ee : prE us = unitF us := by unfold prE; rw [if_pos h0]
    rw [es, ee]
    have e0 : (unitF us != 0) = true := by simpa using h0
    clear h0 es ee HK
    generalize unitF us = z at e0 ⊢
    have e1 : (z != z) = false := bne_self_eq_false _
    have e2 : (z == z) = true := beq_self_eq_true _
    have e3 : ((⟨#[]⟩ : ByteArray).toList == []) = true := by rw [beq_iff_eq, ByteArray.toList_eq]
    go_wp2_with fail
    go_ret
    exact ⟨rfl, HF4.out.bel⟩
  have H0 := Lib.hid h0
  rw [h0]
  clear h0
  by_cases h4 : 4000 < (pcsT (unPc us)).length
  · have es : prS us = ⟨#[]⟩ := by unfold prS; rw [if_neg (by rw [H0.out]; decide), if_pos h4]
    have ee : prE us = 2 := by unfold prE; rw [if_neg (by rw [H0.out]; decide), if_pos h4]
    rw [es, ee]
    have e3 : ((⟨#[]⟩ : ByteArray).toList == []) = true := by rw [beq_iff_eq, ByteArray.toList_eq]
    clear h4 es ee HK
    go_wp2_with fail
    go_ret
    exact ⟨rfl, HF4.out.bel⟩
  have es : prS us = ⟨(pcsT (unPc us)).toArray⟩ := by unfold prS; rw [if_neg (by rw [H0.out]; decide), if_neg h4]
  have ee : prE us = 0 := by unfold prE; rw [if_neg (by rw [H0.out]; decide), if_neg h4]
  rw [es, ee]
  have HSZ : Hid ((⟨(pcsT (unPc us)).toArray⟩ : ByteArray).size ≤ 4000) := Lib.hid (by show (pcsT (unPc us)).toArray.size ≤ 4000; rw [List.size_toArray]; omega)
  have HTX : Hid ((⟨(pcsT (unPc us)).toArray⟩ : ByteArray).data.toList = pcsT (unPc us)) := Lib.hid (by simp)
  clear h4 es ee HK
  generalize (⟨(pcsT (unPc us)).toArray⟩ : ByteArray) = s at HSZ HTX ⊢
  go_wp2_with fail
  refine (script_cc s w4 (by have := HSZ.out; unfold maxLen; omega) HF4.out.gl).mono ?_
  rintro e w5 ⟨l, A', c', p, er, rfl, hF, hb, -, hr⟩
  obtain ⟨ws, vs, hl, hsame, hd, hv⟩ := printed H0.out HTX.out
  obtain ⟨rfl, rfl, rfl⟩ := sres_det hr ⟨0, 0, ws, .inr ⟨HSZ.out, (none, ws), hl, rfl, rfl, rfl⟩, .inr ⟨rfl, .inr ⟨vs, hd, rfl, hv.symm, by rw [if_pos hv]⟩⟩⟩
  have HF5 := Lib.hid (HF4.out.later hb)
  have HU5 := Lib.hid (HU4.out.keep (F' := fun _ => True) (w' := w5) (fun g h1 h2 => ⟨trivial, Nat.lt_of_lt_of_le h2 hb.size, hb.block g h2⟩))
  have hb2 := (Below.refl w5.heap.size w5).alloc (Nat.le_refl _) (.cells #[.slice A' l.length c'] 24)
  have HF6 := Lib.hid (HF5.out.later hb2)
  have HU6 := Lib.hid (HU5.out.keep (F' := fun _ => True) (fun g h1 h2 => ⟨trivial, Nat.lt_of_lt_of_le h2 hb2.size, hb2.block g h2⟩))
  have HX := Lib.hid (heap_alloc_new w5 (.cells #[.slice A' l.length c'] 24))
  have HL : Hid (FnsIn (w5.alloc (.cells #[.slice A' l.length c'] 24)) (fun _ => True) (.slice A' l.length c') l) := Lib.hid (hF.keep (fun g h1 h2 => ⟨trivial, Nat.lt_of_lt_of_le h2 hb2.size, hb2.block g h2⟩))
  have HSM := Lib.hid hsame
  clear hF hb hr hb2 c1 HF4 HU4 HF5 HU5 hl hd hv hsame
  go_upto_region 13 with (fail)
  generalize w5.alloc _ = w6 at HX HL HF6 HU6 ⊢
  generalize w5.heap.size = bv at HX ⊢
  have c1 : w6.cell? ⟨b1, 0, none⟩ = some (.slice A us.length c) := Lib.cell_of_heap HF6.out.un 0
  have c2 : w6.cell? ⟨bv, 0, none⟩ = some (.slice A' l.length c') := Lib.cell_of_heap HX.out 0
  go_wp2_with fail
  refine (same_u false us l HSM.out A A' c c' _ _ w6 HU6.out HL.out HZ.out hlen).mono ?_
  rintro e w7 ⟨rfl, hb⟩
  have HF7 := Lib.hid (HF6.out.later hb)
  clear hb
  go_wp2_with fail
  go_ret
  exact ⟨rfl, HF7.out.bel⟩
end Go.Proofs.YtmngofgminlloaaGreatDoor

namespace Go.Proofs.YtmngofgminlloaaGreatDoor
open Go.RowKit Tw

variable {H : Type} {enc : TypeId × Value → H} {w : World}
theorem sum_le {α : Type} (f : α → Nat) (g : List α → Nat) (h0 : g [] = 0) (h1 : ∀ a l, g (a :: l) = f a + g l) : ∀ (l : List α) (es : List (DataW H)), es.length = l.length → (∀ (k : Nat) (x : α) (d : DataW H), l[k]? = some x → es[k]? = some d → f x ≤ Rows.uptoBulk d) → g l ≤ Rows.uptoBulkAll es
  | [], _, _, _ => by rw [h0]; exact Nat.zero_le _
  | a :: l, [], he, _ => by simp at he
  | a :: l, d :: es, he, hp => by
    rw [h1, Rows.uptoBulkAll]
    exact Nat.add_le_add (hp 0 a d rfl rfl) (sum_le f g h0 h1 l es (by simpa using he) (fun k x e hx hd => hp (k + 1) x e (by simpa using hx) (by simpa using hd)))
theorem cells_eq {g off n : Nat} {cs L : List Value} (h : w.cells? 0 ⟨g, off, none⟩ n = some cs) (hL : L.length = n) (hc : CellsAt w g off L) : cs = L := by
  obtain ⟨_, hl, hcc⟩ := World.cells?_some h
  apply List.ext_getElem?
  intro j
  by_cases hj : j < n
  · have h1 := hcc j hj
    rw [add_at] at h1
    have h2 : L[j]? = some (L[j]'(by omega)) := List.getElem?_eq_getElem _
    rw [hc j _ h2] at h1
    rw [h2]; exact h1.symm
  · rw [List.getElem?_eq_none (by omega), List.getElem?_eq_none (by omega)]
set_option maxRecDepth 100000 in
theorem bulk_sl {t e : TypeId} {c : Nat} (ht : Tryz.prog.underlying t = some (.slice e)) (hc : Tryz.prog.cellsOf e = c) {fuel len cap : Nat} {a : Option Addr} {x : DataW H × List MemPlace}
    (h : DataW.trod enc Tryz.prog w 0 (fun _ => true) true fuel t [.slice a len cap] = some x) :
    len = 0 ∨ ∃ (b : Addr) (es : List (DataW H)) (n : Nat), fuel = n + 1 ∧ a = some b ∧ es.length = len ∧ Rows.uptoBulkAll es + 1 ≤ Rows.uptoBulk x.1 ∧
      ∀ i, i < len → ∃ cs' y, w.cells? 0 (b.add (i * c)) c = some cs' ∧ DataW.trod enc Tryz.prog w 0 (fun _ => true) true n e cs' = some y ∧ es[i]? = some y.1 := by
  rcases DataW.trod_slice ht h with ⟨h1, rfl⟩ | ⟨b, len', cap', elems, rest, n, rfl, h1, rfl, hb, hl, hm, hlen, hel, -, -⟩
  · left; injection h1 with h1; injection h1
  · right
    injection h1 with h1
    injection h1 with e1 e2 e3
    subst e1 e2 e3
    rw [hc] at hel
    refine ⟨b, elems.map (·.1), n, rfl, rfl, by simp [hlen], by simp only [Rows.uptoBulk]; omega, fun i hi => ?_⟩
    obtain ⟨y, hy⟩ : ∃ y, elems[i]? = some y := ⟨_, List.getElem?_eq_getElem (by omega)⟩
    have := hel i hi
    rw [hy] at this
    obtain ⟨cs', h1, h2⟩ := Option.bind_eq_some_iff.1 this
    exact ⟨cs', y, h1, h2, by simp [hy]⟩
theorem bulk5 {x0 x1 x2 x3 x4 : DataW H} : Rows.uptoBulk x3 + 1 ≤ Rows.uptoBulk (.agg [x0, x1, x2, x3, x4]) := by
  simp only [Rows.uptoBulk, Rows.uptoBulkAll]; omega
set_option maxRecDepth 100000 in
theorem bulk_ex {fuel : Nat} {cs : List Value} {x : DataW H × List MemPlace} {e : Ex} {v : Value} (hcs : cs = exCells e v) (h : DataW.trod enc Tryz.prog w 0 (fun _ => true) true fuel 186 cs = some x)
    (hr : ∀ n y, n ≤ fuel → DataW.trod enc Tryz.prog w 0 (fun _ => true) true n 184 [v] = some y → exsN e.args ≤ Rows.uptoBulk y.1) : exN e ≤ Rows.uptoBulk x.1 := by
  subst hcs
  obtain ⟨xs, n', rfl, hx, -, hxl, hf⟩ := DataW.trod_struct Tryz.underlying186 h
  obtain ⟨x0, x1, x2, x3, x4, rfl⟩ := list5 (l := xs) hxl
  have f3 : DataW.trod enc Tryz.prog w 0 (fun _ => true) true n' 184 [v] = some x3 := hf 3 _ rfl
  have h3 := hr n' x3 (by omega) f3
  have hx1 : x.1 = .agg [x0.1, x1.1, x2.1, x3.1, x4.1] := by rw [hx]; rfl
  have h5 := bulk5 (x0 := x0.1) (x1 := x1.1) (x2 := x2.1) (x3 := x3.1) (x4 := x4.1)
  rw [hx1]
  cases e with | mk k n t xs p =>
  rw [exN]
  simp only [Ex.args] at h3
  omega
set_option maxRecDepth 100000 in
theorem bulk_exs : ∀ (fuel : Nat) (a : Option Addr) (c : Nat) (l : List Ex) (F : Nat → Prop) (x : DataW H × List MemPlace), DataW.trod enc Tryz.prog w 0 (fun _ => true) true fuel 184 [.slice a l.length c] = some x → ArgsIn w F (.slice a l.length c) l → exsN l ≤ Rows.uptoBulk x.1 := by
  intro fuel
  induction fuel using Nat.strongRecOn with
  | ind fuel ih =>
    intro a c l F x h hA
    rcases bulk_sl Tryz.underlying184 (c := 5) (by kernel_rfl) h with h0 | ⟨b, es, n, rfl, rfl, hes, hb, hel⟩
    · rw [List.eq_nil_of_length_eq_zero h0, exsN]; exact Nat.zero_le _
    · refine Nat.le_trans (sum_le exN exsN (by rw [exsN]) (fun a l => by rw [exsN]) l es hes ?_) (by omega)
      intro k e d he hd
      have hk : k < l.length := by rcases Nat.lt_or_ge k l.length with h | h; exact h; rw [List.getElem?_eq_none h] at he; cases he
      obtain ⟨g, off, A', c', hb', -, -, hAr, q0, q1, q2, q3, q4⟩ := hA.at k e he
      cases hb'
      obtain ⟨cs', y, h1, h2, h3⟩ := hel k hk
      rw [h3] at hd
      cases hd
      rw [add_at] at h1
      refine bulk_ex (v := .slice A' e.args.length c') (cells_eq h1 rfl ?_) h2 (fun m z hm hz => ih m (by omega) _ _ _ F z hz hAr)
      intro j u hu
      match j, hu with
      | 0, hu => cases hu; exact q0
      | 1, hu => cases hu; exact q1
      | 2, hu => cases hu; exact q2
      | 3, hu => cases hu; exact q3
      | 4, hu => cases hu; exact q4
theorem bulk6 {x0 x1 x2 x3 x4 x5 : DataW H} : Rows.uptoBulk x1 + Rows.uptoBulk x2 + Rows.uptoBulk x3 + Rows.uptoBulk x4 + 1 ≤ Rows.uptoBulk (.agg [x0, x1, x2, x3, x4, x5]) := by
  simp only [Rows.uptoBulk, Rows.uptoBulkAll]; omega
set_option maxRecDepth 100000 in
theorem bulk_sms : ∀ (fuel : Nat) (a : Option Addr) (c : Nat) (l : List Sm) (F : Nat → Prop) (x : DataW H × List MemPlace), DataW.trod enc Tryz.prog w 0 (fun _ => true) true fuel 30 [.slice a l.length c] = some x → StmtsIn w F (.slice a l.length c) l → smsN l ≤ Rows.uptoBulk x.1 := by
  intro fuel
  induction fuel using Nat.strongRecOn with
  | ind fuel ih =>
    intro a c l F x h hA
    rcases bulk_sl Tryz.underlying30 (c := 10) (by kernel_rfl) h with h0 | ⟨b, es, n, rfl, rfl, hes, hb, hel⟩
    · rw [List.eq_nil_of_length_eq_zero h0, smsN]; exact Nat.zero_le _
    · refine Nat.le_trans (sum_le smN smsN (by rw [smsN]) (fun a l => by rw [smsN]) l es hes ?_) (by omega)
      intro k s d he hd
      have hk : k < l.length := by rcases Nat.lt_or_ge k l.length with h | h; exact h; rw [List.getElem?_eq_none h] at he; cases he
      obtain ⟨g, off, Aa, ca, Ab, cb, Ae, ce, hb', -, -, hAa, hAb, hAe, hq⟩ := hA.at k s he
      cases hb'
      obtain ⟨cs', y, h1, h2, h3⟩ := hel k hk
      rw [h3] at hd
      cases hd
      rw [add_at] at h1
      have hcs := cells_eq h1 (L := [.int .i64 s.kind, .string s.name, .int .i64 s.a.kind, .int .i64 s.a.n, .string s.a.text, .slice Aa s.a.args.length ca, .int .i64 s.a.pos, .slice Ab s.body.length cb, .slice Ae s.els.length ce, .int .i64 s.pos]) rfl hq
      subst hcs
      obtain ⟨xs, n', rfl, hx, -, hxl, hf⟩ := DataW.trod_struct Tryz.underlying188 h2
      obtain ⟨x0, x1, x2, x3, x4, x5, rfl⟩ := list6 (l := xs) hxl
      have f2 : DataW.trod enc Tryz.prog w 0 (fun _ => true) true n' 186 (exCells s.a (.slice Aa s.a.args.length ca)) = some x2 := hf 2 _ rfl
      have f3 : DataW.trod enc Tryz.prog w 0 (fun _ => true) true n' 30 [.slice Ab s.body.length cb] = some x3 := hf 3 _ rfl
      have f4 : DataW.trod enc Tryz.prog w 0 (fun _ => true) true n' 30 [.slice Ae s.els.length ce] = some x4 := hf 4 _ rfl
      have b2 := bulk_ex rfl f2 (fun m z _ hz => bulk_exs m _ _ _ F z hz hAa)
      have b3 := ih n' (by omega) _ _ _ F x3 f3 hAb
      have b4 := ih n' (by omega) _ _ _ F x4 f4 hAe
      have hx1 : y.1 = .agg [x0.1, x1.1, x2.1, x3.1, x4.1, x5.1] := by rw [hx]; rfl
      have h6 := bulk6 (x0 := x0.1) (x1 := x1.1) (x2 := x2.1) (x3 := x3.1) (x4 := x4.1) (x5 := x5.1)
      rw [hx1]
      cases s with | mk k nm a b e p =>
      rw [smN]
      simp only [Sm.a, Sm.body, Sm.els] at b2 b3 b4
      omega
theorem bulkAll_len : ∀ es : List (DataW H), es.length ≤ Rows.uptoBulkAll es
  | [] => Nat.zero_le _
  | d :: es => by
    rw [Rows.uptoBulkAll, List.length_cons]
    have h1 := bulkAll_len es
    have h2 : 1 ≤ Rows.uptoBulk d := by
      unfold Rows.uptoBulk; split <;> omega
    omega
theorem bulk_strs {fuel : Nat} {a : Option Addr} {len c : Nat} {x : DataW H × List MemPlace} (h : DataW.trod enc Tryz.prog w 0 (fun _ => true) true fuel 28 [.slice a len c] = some x) : len ≤ Rows.uptoBulk x.1 := by
  rcases bulk_sl Tryz.underlying28 (c := 1) (by kernel_rfl) h with h0 | ⟨b, es, n, rfl, rfl, hes, hb, hel⟩
  · omega
  · have := bulkAll_len es; omega
set_option maxRecDepth 100000 in
theorem bulk_fns {fuel : Nat} {a : Option Addr} {c : Nat} {l : List Fn} {F : Nat → Prop} {x : DataW H × List MemPlace} (h : DataW.trod enc Tryz.prog w 0 (fun _ => true) true fuel 22 [.slice a l.length c] = some x) (hA : FnsIn w F (.slice a l.length c) l) : fnsN l ≤ Rows.uptoBulk x.1 := by
  rcases bulk_sl Tryz.underlying22 (c := 6) (by kernel_rfl) h with h0 | ⟨b, es, n, rfl, rfl, hes, hb, hel⟩
  · rw [List.eq_nil_of_length_eq_zero h0, fnsN]; exact Nat.zero_le _
  · refine Nat.le_trans (sum_le fnN fnsN (by rw [fnsN]) (fun a l => by rw [fnsN]) l es hes ?_) (by omega)
    intro k f d he hd
    have hk : k < l.length := by rcases Nat.lt_or_ge k l.length with h | h; exact h; rw [List.getElem?_eq_none h] at he; cases he
    obtain ⟨g, off, An, cn, At, ct, Ab, cb, hb', -, -, -, hAb, hq⟩ := hA.at k f he
    cases hb'
    obtain ⟨cs', y, h1, h2, h3⟩ := hel k hk
    rw [h3] at hd
    cases hd
    rw [add_at] at h1
    have hcs := cells_eq h1 (L := [.string f.name, .slice An f.names.length cn, .slice At f.types.length ct, .int .i64 f.out, .slice Ab f.body.length cb, .int .i64 f.pos]) rfl hq
    subst hcs
    obtain ⟨xs, n', rfl, hx, -, hxl, hf⟩ := DataW.trod_struct Tryz.underlying32 h2
    obtain ⟨x0, x1, x2, x3, x4, x5, rfl⟩ := list6 (l := xs) hxl
    have f1 : DataW.trod enc Tryz.prog w 0 (fun _ => true) true n' 28 [.slice An f.names.length cn] = some x1 := hf 1 _ rfl
    have f4 : DataW.trod enc Tryz.prog w 0 (fun _ => true) true n' 30 [.slice Ab f.body.length cb] = some x4 := hf 4 _ rfl
    have b1 := bulk_strs f1
    have b4 := bulk_sms _ _ _ _ F x4 f4 hAb
    have hx1 : y.1 = .agg [x0.1, x1.1, x2.1, x3.1, x4.1, x5.1] := by rw [hx]; rfl
    have h6 := bulk6 (x0 := x0.1) (x1 := x1.1) (x2 := x2.1) (x3 := x3.1) (x4 := x4.1) (x5 := x5.1)
    rw [hx1]
    unfold fnN
    omega
set_option maxRecDepth 100000 in
/-- A script that came in has no more parts than its bulk. -/
theorem bulk_unit {a : Option Addr} {c : Nat} {l : List Fn} {F : Nat → Prop} {d : DataW H} {p : List MemPlace} (h : DataW.Trod enc Tryz.prog w 0 (fun _ => true) true 24 (.agg #[.slice a l.length c]) d p) (hA : FnsIn w F (.slice a l.length c) l) : fnsN l ≤ Rows.uptoBulk d := by
  obtain ⟨fuel, hf⟩ := h
  obtain ⟨xs, n, rfl, hx, -, hxl, hf'⟩ := DataW.trod_struct Tryz.underlying24 hf
  obtain ⟨x0, rfl⟩ : ∃ x0, xs = [x0] := by
    match xs, hxl with
    | [x0], _ => exact ⟨x0, rfl⟩
  have f0 : DataW.trod enc Tryz.prog w 0 (fun _ => true) true n 22 [.slice a l.length c] = some x0 := hf' 0 _ rfl
  have hd : d = .agg [x0.1] := (Prod.mk.inj hx).1
  have := bulk_fns f0 hA
  rw [hd]
  simp only [Rows.uptoBulk, Rows.uptoBulkAll]
  omega
end Go.Proofs.YtmngofgminlloaaGreatDoor
