/-
  The function that the program's types.Check defers: at a panic with a place and an error it lays the results; at none it does nothing.
  Scripts function by function: what the loops of types.Check go by.
  A region that draws its order, by an invariant over what has been done so far: for operations that commute though the worlds that they leave differ. Any program.
  Regions that draw their order: the slots by a table, and regions whose last operation waits for all others. Any program.
-/
import Derived.Test.YtmngofgminlloaaGreatDoorTN28
import Derived.Defers
import Derived.Recover
import Derived.Test.YtmngofgminlloaaGreatDoorTN24
import Derived.Orders
import Derived.Test.YtmngofgminlloaaGreatDoorTN03
set_option linter.all false
namespace Go.Proofs.YtmngofgminlloaaGreatDoor
open Go.RowKit Tw

set_option maxRecDepth 100000 in
set_option maxHeartbeats 4000000 in
theorem tcatch_idle (q r : Addr) (w : World) :
    CallsD Tryz.prog 61 #[.pointer (some q), .pointer (some r)] .returning w fun e u' w' => e = .returned (.tuple #[]) ∧ u' = .returning ∧ w' = w := by
  refine callsD_of_wpS Tryz.func61 rfl fun c₀ cs hu => ?_
  apply wpS_seq
  apply wpS_region
  simp [wpOpsS, go_sem, recoverD, hu, Tryz.ntmps61, Exit.thenS]
  apply wpS_seq
  apply wpS_region
  simp [wpOpsS, go_sem, Exit.thenS]
  refine wpS_cond (t := false) (by simp [Act.eval, Array.replicate]) ?_
  simp only [Bool.false_eq_true, if_false]
  refine wpS_of_wp (wp_skip ?_)
  cases c₀
  simp_all [bodyPostS, results, Tryz.results61]

set_option maxRecDepth 100000 in
set_option maxHeartbeats 4000000 in
theorem tcatch_bad (bp be : Nat) (p0 e0 x er : Int) (older : List PanicEntry) (w : World) (hp : w.heap[bp]? = some (.cells #[.int .i64 p0] 3 (0, 0))) (he : w.heap[be]? = some (.cells #[.int .i64 e0] 25 (0, 0))) (h2 : bp < be) :
    CallsD Tryz.prog 61 #[.pointer (some ⟨bp, 0, none⟩), .pointer (some ⟨be, 0, none⟩)] (.panicking ({ v := .iface 123 (.agg #[.int .i64 x, .int .i64 er]), recovered := false } :: older)) w fun e u' w' =>
      e = .returned (.tuple #[]) ∧ u' = .panicking ({ v := .iface 123 (.agg #[.int .i64 x, .int .i64 er]), recovered := true } :: older) ∧ Below bp w w' ∧ w'.heap[bp]? = some (.cells #[.int .i64 x] 3 (0, 0)) ∧ w'.heap[be]? = some (.cells #[.int .i64 er] 25 (0, 0)) := by
  have hta : ∀ (v : Value) (w : World), (Instr.typeAssert (.iface 123 v) 20 123 true).run Tryz.prog w = .ok (.tuple #[v, .bool true]) w := fun v w => by
    simp [Instr.typeAssert, run_underlying Tryz.underlying123]
  have ht : ∀ (a b : Value), (#[a, b] ++ Array.replicate (Tryz.f61.ntmps - (#[a, b] : Array Value).size) undef) = #[a, b, undef, undef, undef, undef, undef, undef, undef, undef, undef, undef, undef, undef, undef, undef, undef, undef, undef, undef] := fun a b => by
    rw [Tryz.ntmps61]
    apply Array.ext'
    simp
  refine callsD_of_wpS Tryz.func61 rfl fun c₀ cs hum => ?_
  rw [ht]
  apply wpS_seq
  apply wpS_region
  simp [wpOpsS, go_sem, recoverD, hum, Exit.thenS]
  apply wpS_seq
  apply wpS_region
  simp [wpOpsS, go_sem, Exit.thenS]
  refine wpS_cond (t := true) (by simp [Act.eval]) ?_
  simp only [if_true]
  apply wpS_seq
  apply wpS_region
  simp [wpOpsS, go_sem, Exit.thenS, hta]
  obtain ⟨Qx, hQx⟩ : ∃ Q : Exit → Act → World → Prop, ∀ e a' w', Q e a' w' ↔ (e = .normal ∧ a'.defers = [] ∧ Below bp w w' ∧ w'.heap[bp]? = some (.cells #[.int .i64 x] 3 (0, 0)) ∧ w'.heap[be]? = some (.cells #[.int .i64 er] 25 (0, 0))) := ⟨_, fun _ _ _ => Iff.rfl⟩
  refine wpS_of_wp (wp_mono (Q := Qx) ?_ ?_)
  · clear hum hta ht
    have HQx := Lib.hid hQx; clear hQx
    have hbp := lt_of_some hp; have hbe := lt_of_some he
    have HP := Lib.hid hp; have HE := Lib.hid he
    clear hp he
    go_upto_region 5 with (fail)
    have HB := Lib.hid ((Below.refl bp w).alloc (by omega) (.cells #[.int .i64 x, .int .i64 er] 123))
    have hP := (heap_alloc_old w (.cells #[.int .i64 x, .int .i64 er] 123) hbp).trans HP.out
    have hE := (heap_alloc_old w (.cells #[.int .i64 x, .int .i64 er] 123) hbe).trans HE.out
    have hN := heap_alloc_new w (.cells #[.int .i64 x, .int .i64 er] 123)
    generalize w.alloc _ = W at HB hP hE hN ⊢
    have cp : W.cell? ⟨bp, 0, none⟩ = some (.int .i64 p0) := Lib.cell_of_heap hP 0
    have fp := Lib.frozen_of_heap hP 0
    have ce : W.cell? ⟨be, 0, none⟩ = some (.int .i64 e0) := Lib.cell_of_heap hE 0
    have fe := Lib.frozen_of_heap hE 0
    have cn : W.cell? ⟨w.heap.size, 0, none⟩ = some (.int .i64 x) := Lib.cell_of_heap hN 0
    have cm : W.cell? ⟨w.heap.size, 1, none⟩ = some (.int .i64 er) := Lib.cell_of_heap hN 1
    have n2 : bp ≠ be := by omega
    have n5 : w.heap.size ≠ bp := by omega
    have n6 : w.heap.size ≠ be := by omega
    have HP2 := Lib.hid hP; have HE2 := Lib.hid hE
    clear hP hE hN
    go_region
    all_goals
      have o1 : ∀ (V : World) (k j : Nat) (u : Value), j ≠ k → (V.setCell ⟨k, 0, none⟩ u).heap[j]? = V.heap[j]? := fun V k j u h => Below.heap_setCell V ⟨k, 0, none⟩ u j (by simpa using h)
      have hS := below_set (below_set HB.out (Nat.le_refl _) 0 (.int .i64 x)) (show bp ≤ be by omega) 0 (.int .i64 er)
      have hz := hS.size
      refine (HQx.out _ _ _).2 ⟨rfl, rfl, hS.trans ((bel_drew _).mono (by omega)), ?_, ?_⟩
      · show ((W.setCell ⟨bp, 0, none⟩ (.int .i64 x)).setCell ⟨be, 0, none⟩ (.int .i64 er)).heap[bp]? = _
        rw [o1 _ _ _ _ n2]
        simpa using heap_setCell_same W bp 0 _ _ (.int .i64 x) HP2.out
      · show ((W.setCell ⟨bp, 0, none⟩ (.int .i64 x)).setCell ⟨be, 0, none⟩ (.int .i64 er)).heap[be]? = _
        simpa using heap_setCell_same _ be 0 _ _ (.int .i64 er) ((o1 W bp be (.int .i64 x) n2.symm).trans HE2.out)
  · intro e a' w' hq
    obtain ⟨rfl, hd, hb, g2, g3⟩ := (hQx _ _ _).1 hq
    clear hQx hq hta
    cases c₀
    simp_all [bodyPostS, results, Tryz.results61]
theorem results_check (bp be : Nat) (p e : Int) (tmps : Array Value) (w : World) (h1 : tmps.getD 2 undef = .pointer (some ⟨bp, 0, none⟩)) (h2 : tmps.getD 3 undef = .pointer (some ⟨be, 0, none⟩))
    (hp : w.heap[bp]? = some (.cells #[.int .i64 p] 3 (0, 0))) (he : w.heap[be]? = some (.cells #[.int .i64 e] 25 (0, 0))) :
    (results Tryz.f17 tmps).run Tryz.prog w = .ok (.tuple #[.int .i64 p, .int .i64 e]) w := by
  have h1' : tmps[2]?.getD undef = .pointer (some ⟨bp, 0, none⟩) := by simpa using h1
  have h2' : tmps[3]?.getD undef = .pointer (some ⟨be, 0, none⟩) := by simpa using h2
  have cp : w.cell? ⟨bp, 0, none⟩ = some (.int .i64 p) := Lib.cell_of_heap hp 0
  have ce : w.cell? ⟨be, 0, none⟩ = some (.int .i64 e) := Lib.cell_of_heap he 0
  simp [results, Tryz.results17, h1', h2', asAddr, go_sem, cp, ce]
/-- What types.Check answers. -/
def CkR (w : World) (us : List Fn) (e : Ending) (w' : World) : Prop := e = .returned (.tuple #[.int .i64 (unitT us).1, .int .i64 (unitT us).2]) ∧ Below w.heap.size w w'
theorem tset2 {B bp be : Nat} {w W : World} {x0 y0 : Int} (hb : Below B w W) (hB : B ≤ bp) (h2 : bp < be) (hp : W.heap[bp]? = some (.cells #[.int .i64 x0] 3 (0, 0))) (he : W.heap[be]? = some (.cells #[.int .i64 y0] 25 (0, 0))) (x y : Int) :
    Below B w ((W.setCell ⟨bp, 0, none⟩ (.int .i64 x)).setCell ⟨be, 0, none⟩ (.int .i64 y)) ∧ ((W.setCell ⟨bp, 0, none⟩ (.int .i64 x)).setCell ⟨be, 0, none⟩ (.int .i64 y)).heap[bp]? = some (.cells #[.int .i64 x] 3 (0, 0)) ∧ ((W.setCell ⟨bp, 0, none⟩ (.int .i64 x)).setCell ⟨be, 0, none⟩ (.int .i64 y)).heap[be]? = some (.cells #[.int .i64 y] 25 (0, 0)) := by
  have o1 : ∀ (V : World) (k j : Nat) (u : Value), j ≠ k → (V.setCell ⟨k, 0, none⟩ u).heap[j]? = V.heap[j]? := fun V k j u h => Below.heap_setCell V ⟨k, 0, none⟩ u j (by simpa using h)
  refine ⟨below_set (below_set hb hB 0 _) (by omega) 0 _, ?_, ?_⟩
  · rw [o1 _ _ _ _ (by omega)]
    simpa using heap_setCell_same W bp 0 _ _ (.int .i64 x) hp
  · simpa using heap_setCell_same _ be 0 _ _ (.int .i64 y) ((o1 W bp be (.int .i64 x) (by omega)).trans he)
theorem tdoor {w W : World} {us : List Fn} {bp be : Nat} {tmps : Array Value} {p er : Int} (h1 : tmps.getD 2 undef = .pointer (some ⟨bp, 0, none⟩)) (h2 : tmps.getD 3 undef = .pointer (some ⟨be, 0, none⟩))
    (hp : W.heap[bp]? = some (.cells #[.int .i64 p] 3 (0, 0))) (he : W.heap[be]? = some (.cells #[.int .i64 er] 25 (0, 0))) (hb : Below w.heap.size w W) (hs : unitT us = (p, er)) :
    Leaves Tryz.prog Tryz.f17 tmps (fun e w' => CkR w us e w') [] .returning W :=
  ⟨_, results_check bp be p er tmps W h1 h2 hp he, by rw [hs], hb⟩
end Go.Proofs.YtmngofgminlloaaGreatDoor

namespace Go.Proofs.YtmngofgminlloaaGreatDoor
open Go.RowKit Tw

theorem fnsF_all' : ∀ l : List Fn, fnsF l = 0 → ∀ f ∈ l, fnF f = 0 := by
  intro l
  induction l with
  | nil => intro _ f hf; cases hf
  | cons g l ih =>
    intro h f hf
    rw [fnsF] at h
    split at h
    · rename_i h0
      rcases List.mem_cons.1 hf with rfl | hf
      · exact h0
      · exact ih h f hf
    · rename_i h0; exact absurd h h0
theorem unitF_parts {us : List Fn} (h : unitF us = 0) : us.length ≤ 16 ∧ ∀ f ∈ us, f.names.length = f.types.length ∧ f.names.length ≤ 6 ∧ typB f.out = true ∧ (∀ t ∈ f.types, typB t = true) ∧ smsF f.body 40 = 0 := by
  unfold unitF at h
  by_cases h16 : 16 < us.length
  · rw [if_pos h16] at h; cases h
  rw [if_neg h16] at h
  refine ⟨by omega, fun f hf => ?_⟩
  have h1 := fnsF_all' us h f hf
  unfold fnF at h1
  by_cases h6 : 6 < f.names.length
  · rw [if_pos h6] at h1; cases h1
  rw [if_neg h6] at h1
  split at h1
  · cases h1
  · rename_i h2
    simp only [Bool.not_eq_false, Bool.and_eq_true, decide_eq_true_eq, List.all_eq_true] at h2
    exact ⟨h2.1.1.1.1, by omega, h2.1.1.2, h2.2, h1⟩
/-- No one of the first j functions has the name of an earlier one. -/
def NoDup (us : List Fn) (j : Nat) : Prop := ∀ (m : Nat) (f : Fn), m < j → us[m]? = some f → findF (us.take m) f.name = none
theorem find_some {α : Type} (p : α → Bool) (l : List α) : (l.find? p).isSome = l.any p := by
  induction l with
  | nil => rfl
  | cons a l ih => rw [List.find?_cons, List.any_cons]; cases h : p a <;> simp [ih]
theorem findF_any (l : List Fn) (s : ByteArray) : (findF l s).isSome = (l.reverse.map Fn.name).any (fun n => decide (n = s)) := by
  unfold findF
  rw [List.any_map, List.any_reverse, find_some]
  rfl
theorem dupF_pre {us : List Fn} : ∀ j : Nat, j ≤ us.length → NoDup us j → dupF [] us = dupF ((us.take j).reverse.map Fn.name) (us.drop j) := by
  intro j
  induction j with
  | zero => intro _ _; simp
  | succ j ih =>
    intro hj h
    have hlt : j < us.length := by omega
    rw [ih (by omega) (fun m f hm => h m f (by omega)), List.drop_eq_getElem_cons hlt, dupF]
    have h1 := h j us[j] (by omega) (List.getElem?_eq_getElem hlt)
    have h2 := findF_any (us.take j) us[j].name
    rw [h1] at h2
    rw [if_neg (by rw [← h2]; decide), take_snoc_at (List.getElem?_eq_getElem hlt), List.reverse_append, List.map_append]
    rfl
theorem dupF_hit {us : List Fn} {j : Nat} {f : Fn} (hf : us[j]? = some f) (h : NoDup us j) (hd : (findF (us.take j) f.name).isSome = true) : dupF [] us = some f.pos := by
  have hlt := (List.getElem?_eq_some_iff.1 hf).1
  have e : us[j] = f := (List.getElem?_eq_some_iff.1 hf).2
  rw [dupF_pre j (by omega) h, List.drop_eq_getElem_cons hlt, dupF, e, if_pos (by rw [← findF_any]; exact hd)]
theorem dupF_end {us : List Fn} (h : NoDup us us.length) : dupF [] us = none := by
  rw [dupF_pre us.length (Nat.le_refl _) h, List.drop_length]; rfl
theorem NoDup.next {us : List Fn} {j : Nat} {f : Fn} (h : NoDup us j) (hf : us[j]? = some f) (hd : (findF (us.take j) f.name).isSome = false) : NoDup us (j + 1) := by
  intro m g hm hg
  rcases Nat.lt_or_ge m j with h1 | h1
  · exact h m g h1 hg
  · obtain rfl : m = j := by omega
    rw [hf] at hg
    obtain rfl := Option.some.inj hg
    cases hx : findF (us.take m) f.name with
    | none => rfl
    | some y => rw [hx] at hd; cases hd
theorem any_next {us : List Fn} {j : Nat} {f : Fn} (hf : us[j]? = some f) : (us.take (j + 1)).any isMain = ((us.take j).any isMain || isMain f) := by
  rw [take_snoc_at hf, List.any_append]; simp
theorem fnsT_app (us a b : List Fn) : fnsT us (a ++ b) = match fnsT us a with | .ok _ => fnsT us b | .bad q e => .bad q e := by
  induction a with
  | nil => rfl
  | cons f a ih => simp only [List.cons_append, fnsT]; cases fnT us f with
    | ok _ => exact ih
    | bad q e => rfl
theorem fnsT_next {us l : List Fn} {j : Nat} {f : Fn} (hf : l[j]? = some f) (h : fnsT us (l.take j) = .ok ()) (h1 : fnT us f = .ok ()) : fnsT us (l.take (j + 1)) = .ok () := by
  rw [take_snoc_at hf, fnsT_app, h]
  simp only [fnsT, h1]
theorem fnsT_hit {us l : List Fn} {j : Nat} {f : Fn} {q e : Int} (hf : l[j]? = some f) (h : fnsT us (l.take j) = .ok ()) (h1 : fnT us f = .bad q e) : fnsT us l = .bad q e := by
  have hlt := (List.getElem?_eq_some_iff.1 hf).1
  have e1 : l = l.take j ++ f :: l.drop (j + 1) := by
    have h1 := List.take_append_drop j l
    rw [List.drop_eq_getElem_cons hlt] at h1
    rw [(List.getElem?_eq_some_iff.1 hf).2] at h1
    exact h1.symm
  rw [e1, fnsT_app, h]
  simp only [fnsT, h1]
theorem parT_app (p : Int) : ∀ (a : List ByteArray) (a' : List Int) (b : List ByteArray) (b' : List Int) (env : Env) (m : Nat), a.length = a'.length → parT p (a ++ b) (a' ++ b') env m = match parT p a a' env m with | .ok (e, n) => parT p b b' e n | .bad q e => .bad q e := by
  intro a
  induction a with
  | nil => intro a' b b' env m h; cases a' with
    | nil => rfl
    | cons => simp at h
  | cons n a ih =>
    intro a' b b' env m h
    cases a' with
    | nil => simp at h
    | cons t a' =>
      simp only [List.cons_append, parT]
      cases letT env m p n t with
      | bad q e => rfl
      | ok z => obtain ⟨e1, m1⟩ := z; exact ih a' b b' e1 m1 (by simpa using h)
theorem parT_next {p : Int} {ns : List ByteArray} {ts : List Int} {k : Nat} {n : ByteArray} {t : Int} {env : Env} {m : Nat} (hn : ns[k]? = some n) (ht : ts[k]? = some t) (h : parT p (ns.take k) (ts.take k) [] 0 = .ok (env, m)) : parT p (ns.take (k + 1)) (ts.take (k + 1)) [] 0 = letT env m p n t := by
  have h1 := (List.getElem?_eq_some_iff.1 hn).1; have h2 := (List.getElem?_eq_some_iff.1 ht).1
  rw [take_snoc_at hn, take_snoc_at ht, parT_app _ _ _ _ _ _ _ (by simp; omega), h]
  simp only [parT]
  cases letT env m p n t with
  | bad q e => rfl
  | ok z => rfl
theorem parT_hit {p : Int} {ns : List ByteArray} {ts : List Int} {k : Nat} {n : ByteArray} {t : Int} {env : Env} {m : Nat} {q e : Int} (hn : ns[k]? = some n) (ht : ts[k]? = some t) (h : parT p (ns.take k) (ts.take k) [] 0 = .ok (env, m)) (hl : letT env m p n t = .bad q e) : parT p ns ts [] 0 = .bad q e := by
  have h1 := parT_next hn ht h
  rw [hl] at h1
  have e1 := List.take_append_drop (k + 1) ns
  have e2 := List.take_append_drop (k + 1) ts
  have h3 := (List.getElem?_eq_some_iff.1 hn).1; have h4 := (List.getElem?_eq_some_iff.1 ht).1
  rw [← e1, ← e2, parT_app _ _ _ _ _ _ _ (by simp; omega), h1]
theorem parT_env {p : Int} : ∀ (ns : List ByteArray) (ts : List Int) (env env' : Env) (m m' : Nat), (∀ t ∈ ts, typB t = true) → EnvOK env → env.length = m → m ≤ 64 → parT p ns ts env m = .ok (env', m') → EnvOK env' ∧ env'.length = m' ∧ m' ≤ 64 := by
  intro ns
  induction ns with
  | nil => intro ts env env' m m' _ hE hl hm h; rw [parT] at h; injection h with h; injection h with h1 h2; subst h1 h2; exact ⟨hE, hl, hm⟩; intro n ns t ts e; cases e
  | cons n ns ih =>
    intro ts env env' m m' ht hE hl hm h
    cases ts with
    | nil => rw [parT] at h; injection h with h; injection h with h1 h2; subst h1 h2; exact ⟨hE, hl, hm⟩; intro n ns t ts e e2; cases e2
    | cons t ts =>
      rw [parT] at h
      cases hx : letT env m p n t with
      | bad q e => rw [hx] at h; cases h
      | ok z =>
        obtain ⟨e1, m1⟩ := z
        rw [hx] at h
        have h2 := hE.letT (typB_iff.1 (ht t (List.mem_cons_self ..))) hx
        obtain ⟨rfl, h3, rfl, -⟩ := letT_le hx
        exact ih ts _ env' _ m' (fun t ht' => ht t (List.mem_cons_of_mem _ ht')) h2 (by simp; omega) (by omega) h
theorem fnT_bad {us : List Fn} {f : Fn} {q e : Int} (h : parT f.pos f.names f.types [] 0 = .bad q e) : fnT us f = .bad q e := by unfold fnT; rw [h]
theorem fnT_body {us : List Fn} {f : Fn} {env : Env} {m : Nat} (h : parT f.pos f.names f.types [] 0 = .ok (env, m)) : fnT us f = match blT us f.out f.body env m with | .bad q e => .bad q e | .ok (_, r) => if r then .ok () else .bad f.pos 3 := by unfold fnT; rw [h]; rfl
theorem FnsIn.take {w : World} {F : Nat → Prop} {A : Option Addr} {c : Nat} {us : List Fn} (h : FnsIn w F (.slice A us.length c) us) (j : Nat) (hj : j ≤ us.length) : FnsIn w F (.slice A (us.take j).length c) (us.take j) := by
  rcases h with ⟨a, c', h1, rfl⟩ | ⟨g, off, cap, vn, vt, vb, h1, h2, h3, h4⟩
  · exact .inl ⟨A, c, by simp, by simp⟩
  · injection h1 with e1 e2 e3
    subst e1 e3
    refine .inr ⟨g, off, c, vn, vt, vb, rfl, h2, h3, fun k f hk => h4 k f ?_⟩
    rw [List.getElem?_take] at hk
    split at hk
    · exact hk
    · cases hk
set_option maxRecDepth 100000 in
set_option maxHeartbeats 4000000 in
theorem has_dup (p : Addr) (s : ByteArray) (A : Option Addr) (c : Nat) (F : Nat → Prop) (us : List Fn) (w : World) (hU : FnsIn w F (.slice A us.length c) us) (hC : CloF 63 p s w) (hl : us.length ≤ 281474976710656) :
    Calls Tryz.prog 62 #[.slice A us.length c, .func (.func 63) #[] #[.pointer (some p)]] w fun e w' => e = .returned (.bool (findF us s).isSome) ∧ Below w.heap.size w w' := by
  have IC := Lib.hid (idx_dup p s A c F us w hU hC hl)
  clear hU hC
  go_enter Tryz.func62, Tryz.ntmps62
  go_wp2_with fail
  refine IC.out.mono ?_
  rintro e w8 ⟨z, rfl, hz, hb8⟩
  have HB8 := Lib.hid hb8; have HZ := Lib.hid hz
  clear hb8 hz
  by_cases h0 : 0 ≤ z
  · have HN := Lib.hid h0
    go_wp2_with fail
    go_ret
    refine ⟨?_, HB8.out⟩
    rcases HZ.out with ⟨i, f, h1, h2, h3⟩ | ⟨h1, h2⟩
    · rw [h2]; rfl
    · have := HN.out; omega
  · have h0' : z < 0 := by omega
    have HN := Lib.hid h0'
    clear h0
    go_wp2_with fail
    go_ret
    refine ⟨?_, HB8.out⟩
    rcases HZ.out with ⟨i, f, h1, h2, h3⟩ | ⟨h1, h2⟩
    · have := HN.out; omega
    · subst h2
      rw [h1]
      rfl
theorem isMain_eq (f : Fn) : isMain f = (decide (f.name = mainT) && decide (f.names.length = 0) && decide (f.out = 1)) := rfl
theorem unitT_0 {us : List Fn} (h : unitF us ≠ 0) : unitT us = (0, unitF us) := by unfold unitT; rw [if_pos h]
theorem unitT_1 {us : List Fn} {p : Int} (h : unitF us = 0) (hd : dupF [] us = some p) : unitT us = (p, 5) := by unfold unitT; rw [if_neg (fun e => e h), hd]
theorem unitT_2 {us : List Fn} (h : unitF us = 0) (hd : dupF [] us = none) (hm : us.any isMain = false) : unitT us = (0, 16) := by unfold unitT; rw [if_neg (fun e => e h), hd]; simp only; rw [if_pos hm]
theorem unitT_3 {us : List Fn} {p e : Int} (h : unitF us = 0) (hd : dupF [] us = none) (hm : us.any isMain = true) (hf : fnsT us us = .bad p e) : unitT us = (p, e) := by unfold unitT; rw [if_neg (fun e => e h), hd]; simp only; rw [if_neg (by rw [hm]; decide), hf]
theorem unitT_4 {us : List Fn} (h : unitF us = 0) (hd : dupF [] us = none) (hm : us.any isMain = true) (hf : fnsT us us = .ok ()) : unitT us = (0, 0) := by unfold unitT; rw [if_neg (fun e => e h), hd]; simp only; rw [if_neg (by rw [hm]; decide), hf]
end Go.Proofs.YtmngofgminlloaaGreatDoor

namespace Go.Proofs.YtmngofgminlloaaGreatDoor
open Go

section
variable {P : Program} {ops : Array Oper} {Q : Exit → Act → World → Prop} {md : Region.Mode}
/-- How many operations are still to come. -/
def toCome (ops : Array Oper) (listed : Array Bool) : Nat := ((List.range ops.size).filter fun i => !listed.getD i true).length
theorem ready_sub {listed : Array Bool} {i : Nat} (h : i ∈ Region.ready md ops listed) : i < ops.size ∧ listed.getD i true = false := by
  unfold Region.ready at h
  rw [List.mem_filter] at h
  simp at h
  exact ⟨h.1, by rw [Array.getD_eq_getD_getElem?]; exact h.2.1⟩
theorem toCome_set {listed : Array Bool} {i : Nat} (hi : i < ops.size) (h : listed.getD i true = false) : toCome ops (listed.setIfInBounds i true) < toCome ops listed := by
  have hlt : i < listed.size := by
    rcases Nat.lt_or_ge i listed.size with h' | h'
    · exact h'
    · rw [Array.getD_eq_getD_getElem?, Array.getElem?_eq_none h'] at h; cases h
  unfold toCome
  have hsub : ∀ l : List Nat, (l.filter fun j => !(listed.setIfInBounds i true).getD j true).length ≤ (l.filter fun j => !listed.getD j true).length ∧ (i ∈ l → (l.filter fun j => !(listed.setIfInBounds i true).getD j true).length < (l.filter fun j => !listed.getD j true).length) := by
    have hat : (listed.setIfInBounds i true).getD i true = true := by
      rw [Array.getD_eq_getD_getElem?]; simp [hlt]
    have hne : ∀ j, j ≠ i → (listed.setIfInBounds i true).getD j true = listed.getD j true := by
      intro j hj
      rw [Array.getD_eq_getD_getElem?, Array.getD_eq_getD_getElem?, Array.getElem?_setIfInBounds_ne (fun e => hj e.symm)]
    intro l
    induction l with
    | nil => exact ⟨Nat.le_refl _, fun h => by cases h⟩
    | cons j l ih =>
      by_cases hj : j = i
      · subst hj
        simp only [List.filter_cons, hat, h]
        simp only [Bool.not_true, Bool.not_false, Bool.false_eq_true, if_false, if_true, List.length_cons]
        exact ⟨by have := ih.1; omega, fun _ => by have := ih.1; omega⟩
      · simp only [List.filter_cons, hne j hj]
        refine ⟨?_, fun hm => ?_⟩
        · split
          · simp only [List.length_cons]; have := ih.1; omega
          · exact ih.1
        · have hm' : i ∈ l := by rcases List.mem_cons.1 hm with e | e; exact absurd e.symm hj; exact e
          split
          · simp only [List.length_cons]; have := ih.2 hm'; omega
          · exact ih.2 hm'
  exact (hsub _).2 (List.mem_range.2 hi)
theorem wpAny_inv (J : Array Bool → Act → World → Prop) (hstep : ∀ listed a w i, J listed a w → i ∈ Region.ready md ops listed → wpOp P ops Q i (J (listed.setIfInBounds i true)) a w)
    (hdone : ∀ listed a w, J listed a w → Region.ready md ops listed = [] → Q .normal a w) : ∀ (fuel : Nat) (listed : Array Bool) (a : Act) (w : World), toCome ops listed ≤ fuel → J listed a w → wpAny P md ops Q fuel listed a w := by
  intro fuel
  induction fuel with
  | zero =>
    intro listed a w hf hJ
    have hr : Region.ready md ops listed = [] := by
      apply List.eq_nil_iff_forall_not_mem.2
      intro i hi
      obtain ⟨h1, h2⟩ := ready_sub hi
      have := toCome_set h1 h2
      omega
    exact ⟨hr, hdone _ _ _ hJ hr⟩
  | succ fuel ih =>
    intro listed a w hf hJ
    refine ⟨fun hr => hdone _ _ _ hJ hr, fun i hi => ?_⟩
    obtain ⟨h1, h2⟩ := ready_sub hi
    have hlt := toCome_set (ops := ops) h1 h2
    exact wpOp_mono (fun a w h => ih _ a w (by omega) h) (hstep _ _ _ _ hJ hi)
/-- The same for a region. -/
theorem region_inv {id : Nat} {a : Act} {w : World} (hm : P.follows .mixedOrders = true) (J : Array Bool → Act → World → Prop) (h0 : J (Array.replicate ops.size false) a { w with drawn := w.drawn + 1 })
    (hstep : ∀ listed a w i, J listed a w → i ∈ Region.ready .any ops listed → wpOp P ops Q i (J (listed.setIfInBounds i true)) a w)
    (hdone : ∀ listed a w, J listed a w → Region.ready .any ops listed = [] → Q .normal a w) : (Code.region id ops true).wp P Q a w :=
  wp_region_any hm (wpAny_inv J hstep hdone ops.size _ a _ (by
    unfold toCome
    have := List.length_filter_le (fun i => !(Array.replicate ops.size false).getD i true) (List.range ops.size)
    simpa using this) h0)
end
end Go.Proofs.YtmngofgminlloaaGreatDoor

namespace Go.Proofs.YtmngofgminlloaaGreatDoor
open Go.RowKit

/-- What each operation that yields lays into its slot. -/
abbrev Tab9 : Type := List (Nat × Nat × Value)
/-- The slots: where an operation is listed, its slot holds what it yields; all other slots are as they were. -/
structure S9 (T : Tab9) (a0 : Act) (L : Array Bool) (a : Act) : Prop where
  df : a.defers = a0.defers
  az : a.tmps.size = a0.tmps.size
  tb : ∀ e ∈ T, L.getD e.1 false = true → a.tmps[e.2.1]? = some e.2.2
  un : ∀ k, (∀ e ∈ T, e.2.1 ≠ k) → a.tmps[k]? = a0.tmps[k]?
theorem getD_set {L : Array Bool} {i j : Nat} (h : j ≠ i) : (L.setIfInBounds i true).getD j false = L.getD j false := by
  rw [Array.getD_eq_getD_getElem?, Array.getD_eq_getD_getElem?, Array.getElem?_setIfInBounds_ne (fun e => h e.symm)]
theorem getD_set_same {L : Array Bool} {i : Nat} (h : i < L.size) : (L.setIfInBounds i true).getD i false = true := by
  rw [Array.getD_eq_getD_getElem?]; simp [h]
theorem S9.put {T : Tab9} {a0 a : Act} {L : Array Bool} (h1 : (T.map (·.1)).Nodup) (h2 : (T.map (·.2.1)).Nodup) (hz : ∀ e ∈ T, e.2.1 < a0.tmps.size) (h : S9 T a0 L a) (e : Nat × Nat × Value) (he : e ∈ T) : S9 T a0 (L.setIfInBounds e.1 true) (a.put (some e.2.1) e.2.2) := by
  have inj : ∀ {β : Type} (f : Nat × Nat × Value → β) (l : Tab9), (l.map f).Nodup → ∀ x ∈ l, ∀ y ∈ l, f x = f y → x = y := by
    intro β f l
    induction l with
    | nil => intro _ x hx; cases hx
    | cons z l ih =>
      intro hn x hx y hy e
      simp only [List.map_cons, List.nodup_cons] at hn
      rcases List.mem_cons.1 hx with h3 | h3
      · rcases List.mem_cons.1 hy with h4 | h4
        · rw [h3, h4]
        · exact absurd (by rw [← h3, e]; exact List.mem_map_of_mem h4) hn.1
      · rcases List.mem_cons.1 hy with h4 | h4
        · exact absurd (by rw [← h4, ← e]; exact List.mem_map_of_mem h3) hn.1
        · exact ih hn.2 x h3 y h4 e
  refine ⟨h.df, by simp [Act.put, h.az], fun e' he' hl => ?_, fun k hk => ?_⟩
  · by_cases h0 : e' = e
    · subst h0
      simp [Act.put, h.az, hz e' he']
    · have n1 : e'.1 ≠ e.1 := fun x => h0 (inj _ T h1 e' he' e he x)
      have n2 : e'.2.1 ≠ e.2.1 := fun x => h0 (inj _ T h2 e' he' e he x)
      rw [getD_set n1] at hl
      simp only [Act.put]
      rw [Array.getElem?_setIfInBounds_ne (fun x => n2 x.symm)]
      exact h.tb e' he' hl
  · simp only [Act.put]
    rw [Array.getElem?_setIfInBounds_ne (hk e he)]
    exact h.un k hk
theorem S9.skip {T : Tab9} {a0 a : Act} {L : Array Bool} (h : S9 T a0 L a) (i : Nat) (hi : ∀ e ∈ T, e.1 ≠ i) : S9 T a0 (L.setIfInBounds i true) a :=
  ⟨h.df, h.az, fun e he hl => h.tb e he (by rwa [getD_set (hi e he)] at hl), h.un⟩
theorem ready_dep {md : Region.Mode} {ops : Array Oper} {L : Array Bool} {i : Nat} (h : i ∈ Region.ready md ops L) {o : Oper} (ho : ops[i]? = some o) : ∀ e ∈ o.after.toList, Region.binds md e = true → L.getD e.on false = true := by
  unfold Region.ready at h
  rw [List.mem_filter] at h
  have h2 := h.2
  rw [ho] at h2
  simp only [Bool.and_eq_true, Option.map_some, Option.getD_some] at h2
  have h3 := h2.2
  intro e he hb
  rw [← Array.all_toList] at h3
  have := List.all_eq_true.1 h3 e he
  rw [hb] at this
  simpa using this
theorem wpOp_value {P : Program} {ops : Array Oper} {Q : Exit → Act → World → Prop} {i : Nat} {K : Act → World → Prop} {a : Act} {w w' : World} {o : Oper} {v : Value} (d : Nat) (ho : ops[i]? = some o) (hg : o.guard = none) (hd : o.dst = some d) (hr : (execOp a.eval o).run P w = .ok (.value v) w') (hK : K (a.put (some d) v) w') : wpOp P ops Q i K a w := by
  unfold wpOp
  rw [ho]
  simp only
  rw [if_pos (by simp [Region.wanted, hg])]
  exact .inl (by unfold Oper.wp; rw [hr]; show K (a.put o.dst v) w'; rw [hd]; exact hK)
theorem wpOp_call {P : Program} {ops : Array Oper} {Q : Exit → Act → World → Prop} {i : Nat} {K : Act → World → Prop} {a : Act} {w w' : World} {o : Oper} (f : FuncId) (args : Array Value) (ho : ops[i]? = some o) (hg : o.guard = none) (hr : (execOp a.eval o).run P w = .ok (.enter f args) w') (hK : Calls P f args w' fun
    | .returned v, w'' => K (a.put o.dst v) w''
    | .panicked chain, w'' => Q (.panic chain) a w''
    | .outgrown, _ => LetsOut Q) : wpOp P ops Q i K a w := by
  unfold wpOp
  rw [ho]
  simp only
  rw [if_pos (by simp [Region.wanted, hg])]
  exact .inl (by unfold Oper.wp; rw [hr]; exact hK)
theorem ready_nil {md : Region.Mode} {ops : Array Oper} {L : Array Bool} (h : Region.ready md ops L = []) {i : Nat} {o : Oper} (ho : ops[i]? = some o) (hz : i < L.size) (hd : ∀ e ∈ o.after.toList, L.getD e.on false = true) : L.getD i false = true := by
  cases hl : L.getD i false with
  | true => rfl
  | false =>
    exfalso
    have hm : i ∈ Region.ready md ops L := by
      unfold Region.ready
      rw [List.mem_filter]
      refine ⟨List.mem_range.2 (Array.getElem?_eq_some_iff.1 ho).1, ?_⟩
      have h1 : L.getD i true = false := by
        rw [Array.getD_eq_getD_getElem?] at hl ⊢
        rw [Array.getElem?_eq_getElem hz] at hl ⊢
        exact hl
      rw [h1, ho]
      simp only [Bool.not_false, Bool.true_and, Option.map_some, Option.getD_some]
      rw [← Array.all_toList]
      exact List.all_eq_true.2 fun e he => by rw [hd e he]; simp
    rw [h] at hm
    cases hm
theorem ready_lt {md : Region.Mode} {ops : Array Oper} {L : Array Bool} {i : Nat} (h : i ∈ Region.ready md ops L) (hz : i < L.size) : L.getD i false = false := by
  have := (ready_sub h).2
  rw [Array.getD_eq_getD_getElem?] at this ⊢
  rw [Array.getElem?_eq_getElem hz] at this ⊢
  exact this
theorem getD_mono {L : Array Bool} {i j : Nat} (h : L.getD j false = true) : (L.setIfInBounds i true).getD j false = true := by
  by_cases e : j = i
  · subst e
    have hz : j < L.size := by
      rcases Nat.lt_or_ge j L.size with h' | h'
      · exact h'
      · rw [Array.getD_eq_getD_getElem?, Array.getElem?_eq_none h'] at h; cases h
    exact getD_set_same hz
  · rw [getD_set e]; exact h
theorem getD_none (n j : Nat) : (Array.replicate n false).getD j false = false := by
  rw [Array.getD_eq_getD_getElem?]
  by_cases h : j < n
  · simp [h]
  · simp [h]
theorem S9.start (T : Tab9) (a : Act) (n : Nat) : S9 T a (Array.replicate n false) a := ⟨rfl, rfl, (fun e _ h => by rw [getD_none] at h; cases h), fun _ _ => rfl⟩
/-- Each operation that is listed has those listed on which it waits. -/
def Clo (ops : Array Oper) (L : Array Bool) : Prop := ∀ (i : Nat) (o : Oper), ops[i]? = some o → L.getD i false = true → ∀ e ∈ o.after.toList, Region.binds .any e = true → L.getD e.on false = true
theorem Clo.start (ops : Array Oper) (n : Nat) : Clo ops (Array.replicate n false) := fun i o _ h => by rw [getD_none] at h; cases h
theorem Clo.next {ops : Array Oper} {L : Array Bool} (h : Clo ops L) {i : Nat} (hi : i ∈ Region.ready .any ops L) : Clo ops (L.setIfInBounds i true) := by
  intro j o ho hj e he hb
  by_cases hji : j = i
  · subst hji
    exact getD_mono (ready_dep hi ho e he hb)
  · rw [getD_set hji] at hj
    exact getD_mono (h j o ho hj e he hb)
/-- A region whose last operation waits for all others, of which none turns the world. -/
theorem region_last {P : Program} {ops : Array Oper} {Q : Exit → Act → World → Prop} {id : Nat} {a : Act} {w : World} (hm : P.follows .mixedOrders = true) (n : Nat) (hsz : ops.size = n + 1) (J : Array Bool → Act → Prop) (h0 : J (Array.replicate ops.size false) a)
    (hstep : ∀ L a i, L.size = n + 1 → J L a → i ∈ Region.ready .any ops L → i < n → wpOp P ops Q i (fun a' w' => J (L.setIfInBounds i true) a' ∧ w' = w.drew) a w.drew)
    (hlast : ∀ L a, L.size = n + 1 → J L a → n ∈ Region.ready .any ops L → (∀ i, i < n → L.getD i false = true) ∧ wpOp P ops Q n (fun a' w' => Q .normal a' w') a w.drew)
    (hnil : ∀ L a, L.size = n + 1 → J L a → Region.ready .any ops L = [] → L.getD n false = true) : (Code.region id ops true).wp P Q a w := by
  refine region_inv hm (fun L a' w' => L.size = n + 1 ∧ ((L.getD n false = false ∧ J L a' ∧ w' = w.drew) ∨ ((∀ i, i < n + 1 → L.getD i false = true) ∧ Q .normal a' w'))) ?_ ?_ ?_
  · exact ⟨by simp [hsz], .inl ⟨getD_none _ _, h0, rfl⟩⟩
  · rintro L a' w' i ⟨hz, h⟩ hi
    have hlt := (ready_sub hi).1
    have hli := ready_lt hi (by omega)
    rcases h with ⟨h1, h2, rfl⟩ | ⟨h1, h2⟩
    · by_cases hin : i = n
      · subst hin
        obtain ⟨hall, hw⟩ := hlast L a' hz h2 hi
        refine wpOp_mono ?_ hw
        intro a2 w2 hq
        refine ⟨by simpa using hz, .inr ⟨fun j hj => ?_, hq⟩⟩
        by_cases hji : j = i
        · subst hji; exact getD_set_same (by omega)
        · exact getD_mono (hall j (by omega))
      · refine wpOp_mono ?_ (hstep L a' i hz h2 hi (by omega))
        rintro a2 w2 ⟨hj, hw⟩
        exact ⟨by simpa using hz, .inl ⟨by rw [getD_set (fun e => hin e.symm)]; exact h1, hj, hw⟩⟩
    · exfalso
      rw [h1 i (by omega)] at hli
      cases hli
  · rintro L a' w' ⟨hz, h⟩ hr
    rcases h with ⟨h1, h2, rfl⟩ | ⟨h1, h2⟩
    · have := hnil L a' hz h2 hr
      rw [h1] at this; cases this
    · exact h2
/-- The same, the slots by a table. -/
theorem region_tab {P : Program} {ops : Array Oper} {Q : Exit → Act → World → Prop} {id : Nat} {a0 : Act} {w : World} (hm : P.follows .mixedOrders = true) (n : Nat) (hsz : ops.size = n + 1) (T : Tab9)
    (hstep : ∀ L a i, L.size = n + 1 → (S9 T a0 L a ∧ Clo ops L) → i ∈ Region.ready .any ops L → i < n → wpOp P ops Q i (fun a' w' => (S9 T a0 (L.setIfInBounds i true) a' ∧ Clo ops (L.setIfInBounds i true)) ∧ w' = w.drew) a w.drew)
    (hlast : ∀ L a, L.size = n + 1 → (S9 T a0 L a ∧ Clo ops L) → n ∈ Region.ready .any ops L → (∀ i, i < n → L.getD i false = true) ∧ wpOp P ops Q n (fun a' w' => Q .normal a' w') a w.drew)
    (hnil : ∀ L a, L.size = n + 1 → (S9 T a0 L a ∧ Clo ops L) → Region.ready .any ops L = [] → L.getD n false = true) : (Code.region id ops true).wp P Q a0 w :=
  region_last hm n hsz (fun L a => S9 T a0 L a ∧ Clo ops L) ⟨S9.start _ _ _, Clo.start _ _⟩ hstep hlast hnil
/-- Slots are as they were, but for a run of them. -/
theorem act_run {a0 a : Act} {lo hi : Nat} (hd : a.defers = a0.defers) (hz : a.tmps.size = a0.tmps.size) (hu : ∀ k, k < lo ∨ hi < k → a.tmps[k]? = a0.tmps[k]?) : a = ⟨(List.range' lo (hi + 1 - lo)).foldl (fun t k => t.setIfInBounds k (a.tmps.getD k undef)) a0.tmps, a0.defers⟩ := by
  have key : ∀ (n lo : Nat) (t : Array Value), t.size = a.tmps.size → (∀ k, k < lo ∨ lo + n ≤ k → a.tmps[k]? = t[k]?) → a.tmps = (List.range' lo n).foldl (fun t k => t.setIfInBounds k (a.tmps.getD k undef)) t := by
    intro n
    induction n with
    | zero => intro lo t _ h; simp only [List.range'_zero, List.foldl_nil]; exact Array.ext_getElem? fun k => h k (by omega)
    | succ n ih =>
      intro lo t hs h
      rw [List.range'_succ, List.foldl_cons]
      refine ih (lo + 1) _ (by simpa using hs) fun k hk => ?_
      by_cases e : k = lo
      · subst e
        by_cases hk2 : k < t.size
        · simp [hk2, Array.getD_eq_getD_getElem?, show k < a.tmps.size by omega]
        · rw [Array.getElem?_eq_none (by omega), Array.getElem?_eq_none (by simp; omega)]
      · rw [Array.getElem?_setIfInBounds_ne (fun x => e x.symm)]
        exact h k (by omega)
  cases a with | mk tm df =>
  simp only at hd hz hu ⊢
  subst hd
  congr 1
  exact key (hi + 1 - lo) lo a0.tmps hz.symm fun k hk => hu k (by omega)
end Go.Proofs.YtmngofgminlloaaGreatDoor
