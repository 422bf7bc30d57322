/-
  The text of a printed script, part by part, and how long it is. No program in sight.
  The small methods of the program's reader: at, text, take, want, kind, typ; each at a reader whose words lie in an older block; what fails panics with its place.
  More small methods of the program's reader: take, want, kind, typ.
  Precedence climbing (Dc) makes of words what levels make (De), in plain Lean.
  The frame of the program's reader's methods for expressions, and what they answer (ExR, ExprC, UnC, AtomC, ArgsP).
  The program's level(s): how strongly an operator binds.
  The program's check of expressions: parse.expr answers exF.
-/
import Derived.Test.YtmngofgminlloaaGreatDoorPP03
import Derived.Test.YtmngofgminlloaaGreatDoorPP01
import Derived.Test.YtmngofgminlloaaGreatDoorTT07
import Derived.Test.YtmngofgminlloaaGreatDoorTT09
import Derived.WalkLawsBesides
import Derived.Test.YtmngofgminlloaaGreatDoorTT08
import Derived.Test.YtmngofgminlloaaGreatDoorTT11
import Derived.Outline
import Derived.Deep.DeepCutAuto
set_option linter.all false
namespace Go.Proofs.YtmngofgminlloaaGreatDoor
open Go.RowKit Tw

/-! ### texts -/
section
variable {least : Nat} {n : Int} {t : ByteArray} {p : Int} {a b : Ex} {xs : List Ex}
theorem pcsT_w (c : Nat) (t : Bs) (l : List Pc) : pcsT (.w c t :: l) = t ++ pcsT l := rfl
theorem pcsT_sp (c : UInt8) (l : List Pc) : pcsT (.sp c :: l) = c :: pcsT l := rfl
theorem tx1 : pcsT (exPc least (.mk 1 n t xs p)) = numL n.toNat := by rw [exPc1, pcsT_w, pcsT_nil, List.append_nil]
theorem tx2 : pcsT (exPc least (.mk 2 n t xs p)) = tfP n := by rw [exPc2, pcsT_w, pcsT_nil, List.append_nil]
theorem tx3 : pcsT (exPc least (.mk 3 n t xs p)) = t.data.toList := by rw [exPc3, pcsT_w, pcsT_nil, List.append_nil]
theorem tx4 : pcsT (exPc least (.mk 4 n t [a] p)) = [45] ++ pcsT (exPc 5 a) := by rw [exPc4, pcsT_w]
theorem tx5 : pcsT (exPc least (.mk 5 n t [a] p)) = [33] ++ pcsT (exPc 5 a) := by rw [exPc5, pcsT_w]
theorem tx6 : pcsT (exPc least (.mk 6 n t [a, b] p)) = (if lv t.data.toList ≤ least then [40] else []) ++ (pcsT (exPc (leftP (lv t.data.toList)) a) ++ ([32] ++ t.data.toList ++ [32]) ++ pcsT (exPc (lv t.data.toList) b)) ++ (if lv t.data.toList ≤ least then [41] else []) := by
  rw [exPc6]
  by_cases h : lv t.data.toList ≤ least
  · simp [parP, h, pcsT_w, pcsT_sp, pcsT_app, pcsT_nil]
  · simp [parP, h, pcsT_w, pcsT_sp, pcsT_app]
theorem tx7 : pcsT (exPc least (.mk 7 n t xs p)) = t.data.toList ++ ([40] ++ pcsT (lsPc xs) ++ [41]) := by
  rw [exPc7]; simp [pcsT_w, pcsT_app, pcsT_nil]
theorem tx8 : pcsT (exPc least (.mk 8 n t xs p)) = ([64] ++ numL n.toNat) ++ ([40] ++ pcsT (lsPc xs) ++ [41]) := by
  rw [exPc8]; simp [pcsT_w, pcsT_app, pcsT_nil]
end
theorem moPc_app : ∀ (l m : List Ex), moPc (l ++ m) = moPc l ++ moPc m
  | [], m => by rw [moPc]; rfl
  | a :: l, m => by rw [List.cons_append, moPc, moPc, moPc_app l m]; simp
/-- The text of arguments, one more. -/
theorem tx_ls (xs : List Ex) (k : Nat) (a : Ex) (h : xs[k]? = some a) : pcsT (lsPc (xs.take (k + 1))) = pcsT (lsPc (xs.take k)) ++ (if 0 < k then [44, 32] else []) ++ pcsT (exPc 0 a) := by
  rw [List.take_add_one, h]
  cases k with
  | zero => simp [lsPc, moPc, pcsT_nil]
  | succ k =>
    cases xs with
    | nil => simp at h
    | cons b l => simp [lsPc, moPc_app, moPc, pcsT_app, pcsT_w, pcsT_sp]
theorem tx_ls_le (xs : List Ex) (k : Nat) : (pcsT (lsPc (xs.take k))).length ≤ (pcsT (lsPc xs)).length := by
  have key : ∀ l m : List Ex, (pcsT (lsPc l)).length ≤ (pcsT (lsPc (l ++ m))).length := by
    intro l m
    cases l with
    | nil => rw [lsPc]; simp [pcsT_nil]
    | cons b l => simp [lsPc, moPc_app, pcsT_app] <;> omega
  have := key (xs.take k) (xs.drop k)
  rwa [List.take_append_drop] at this
theorem stPc_app : ∀ (l m : List Sm), stPc (l ++ m) = stPc l ++ stPc m
  | [], m => by rw [stPc]; rfl
  | a :: l, m => by rw [List.cons_append, stPc, stPc, stPc_app l m]; simp
theorem tx_st (l : List Sm) (k : Nat) (s : Sm) (h : l[k]? = some s) : pcsT (stPc (l.take (k + 1))) = pcsT (stPc (l.take k)) ++ [32] ++ pcsT (smPc s) := by
  rw [List.take_add_one, h, stPc_app]
  simp [stPc, pcsT_app, pcsT_sp]
theorem tx_st_le (l : List Sm) (k : Nat) : (pcsT (stPc (l.take k))).length ≤ (pcsT (stPc l)).length := by
  have : pcsT (stPc l) = pcsT (stPc (l.take k)) ++ pcsT (stPc (l.drop k)) := by rw [← pcsT_app, ← stPc_app, List.take_append_drop]
  rw [this, List.length_append]; omega
def brT (l : Bs) : Bs := [123] ++ l ++ [32, 125]
theorem tx_br (l : List Pc) : pcsT (brP l) = brT (pcsT l) := by simp [brP, brT, pcsT_w, pcsT_app, pcsT_sp, pcsT_nil]
def preT (k : Int) (nm : Bs) : Bs :=
  if k = 1 then [108, 101, 116, 32] ++ nm ++ [32, 61, 32]
  else if k = 2 then nm ++ [32, 61, 32]
  else if k = 5 then [114, 101, 116, 117, 114, 110, 32]
  else if k = 6 then [121, 105, 101, 108, 100, 32] else []
theorem tx_pre (k : Int) (nm : ByteArray) : pcsT (preP k nm) = preT k nm.data.toList := by
  unfold preP preT
  split
  · simp [pcsT_w, pcsT_sp, pcsT_nil]
  split
  · simp [pcsT_w, pcsT_sp, pcsT_nil]
  split
  · simp [pcsT_w, pcsT_sp, pcsT_nil]
  split
  · simp [pcsT_w, pcsT_sp, pcsT_nil]
  · rfl
section
variable {nm : ByteArray} {a : Ex} {body els : List Sm} {p : Int}
theorem tx_if : pcsT (smPc (.mk 3 nm a body els p)) = [105, 102, 32] ++ pcsT (exPc 0 a) ++ [32] ++ brT (pcsT (stPc body)) ++ (if els.isEmpty then [] else [32, 101, 108, 115, 101, 32] ++ brT (pcsT (stPc els))) := by
  rw [smPc3]
  cases els with
  | nil => simp [pcsT_w, pcsT_sp, pcsT_app, pcsT_nil, tx_br]
  | cons s l => simp [pcsT_w, pcsT_sp, pcsT_app, tx_br]
theorem tx_while : pcsT (smPc (.mk 4 nm a body els p)) = [119, 104, 105, 108, 101, 32] ++ pcsT (exPc 0 a) ++ [32] ++ brT (pcsT (stPc body)) := by
  rw [smPc4]; simp [pcsT_w, pcsT_sp, pcsT_app, tx_br]
theorem tx_simp {k : Int} (h3 : k ≠ 3) (h4 : k ≠ 4) : pcsT (smPc (.mk k nm a body els p)) = preT k nm.data.toList ++ pcsT (exPc 0 a) ++ [59] := by
  rw [smPc0 h3 h4]; simp [pcsT_w, pcsT_app, pcsT_nil, tx_pre]
end
/-! ### functions -/
def tyT (t : Int) : Bs := [58, 32] ++ tyP t
theorem paM_app : ∀ (ns ms : List ByteArray) (ts us : List Int), ns.length = ts.length → paM (ns ++ ms) (ts ++ us) = paM ns ts ++ paM ms us
  | [], ms, [], us, _ => rfl
  | n :: ns, ms, t :: ts, us, h => by rw [List.cons_append, List.cons_append, paM, paM, paM_app ns ms ts us (by simpa using h)]; simp
theorem tx_pa (ns : List ByteArray) (ts : List Int) (k : Nat) (n : ByteArray) (t : Int) (h : ns[k]? = some n) (ht : ts[k]? = some t) :
    pcsT (paPc (ns.take (k + 1)) (ts.take (k + 1))) = pcsT (paPc (ns.take k) (ts.take k)) ++ (if 0 < k then [44, 32] else []) ++ (n.data.toList ++ tyT t) := by
  have hk : k < ns.length := by rcases Nat.lt_or_ge k ns.length with g | g; exact g; rw [List.getElem?_eq_none g] at h; cases h
  have hk' : k < ts.length := by rcases Nat.lt_or_ge k ts.length with g | g; exact g; rw [List.getElem?_eq_none g] at ht; cases ht
  rw [List.take_add_one, List.take_add_one, h, ht]
  cases k with
  | zero => simp [paPc, paM, pcsT_w, pcsT_sp, pcsT_nil, tyT]
  | succ k =>
    cases ns with
    | nil => simp at h
    | cons b l =>
      cases ts with
      | nil => simp at ht
      | cons c m =>
        simp only [List.take_succ_cons, List.cons_append, Option.toList_some, paPc, pcsT_w, pcsT_sp]
        rw [paM_app _ _ _ _ (by simp at hk hk' ⊢; omega)]
        simp [paM, pcsT_app, pcsT_w, pcsT_sp, pcsT_nil, tyT]
theorem tx_pa_le (ns : List ByteArray) (ts : List Int) (hl : ns.length = ts.length) (k : Nat) : (pcsT (paPc (ns.take k) (ts.take k))).length ≤ (pcsT (paPc ns ts)).length := by
  cases ns with
  | nil => cases ts with
    | nil => simp
    | cons c m => cases hl
  | cons b l => cases ts with
    | nil => cases hl
    | cons c m =>
      cases k with
      | zero => simp [paPc, pcsT_nil]
      | succ k =>
        have h := paM_app (l.take k) (l.drop k) (m.take k) (m.drop k) (by simp at hl ⊢; omega)
        rw [List.take_append_drop, List.take_append_drop] at h
        simp only [List.take_succ_cons, paPc, pcsT_w, pcsT_sp, h, pcsT_app, List.length_append, List.length_cons]
        omega
theorem tx_fn (f : Fn) : pcsT (fnPc f) = ([102, 117, 110, 32] ++ f.name.data.toList ++ [40]) ++ pcsT (paPc f.names f.types) ++ ([41] ++ tyT f.out ++ [32]) ++ brT (pcsT (stPc f.body)) ++ [10] := by
  simp [fnPc, pcsT_w, pcsT_sp, pcsT_app, pcsT_nil, tx_br, tyT]
theorem unPc_app : ∀ (l m : List Fn), unPc (l ++ m) = unPc l ++ unPc m
  | [], m => by rw [unPc]; rfl
  | a :: l, m => by rw [List.cons_append, unPc, unPc, unPc_app l m, List.append_assoc]
theorem tx_un (l : List Fn) (k : Nat) (f : Fn) (h : l[k]? = some f) : pcsT (unPc (l.take (k + 1))) = pcsT (unPc (l.take k)) ++ pcsT (fnPc f) := by
  rw [List.take_add_one, h, unPc_app]
  simp [unPc, pcsT_app]
theorem tx_un_le (l : List Fn) (k : Nat) : (pcsT (unPc (l.take k))).length ≤ (pcsT (unPc l)).length := by
  have : pcsT (unPc l) = pcsT (unPc (l.take k)) ++ pcsT (unPc (l.drop k)) := by rw [← pcsT_app, ← unPc_app, List.take_append_drop]
  rw [this, List.length_append]; omega

/-! ### how long -/
theorem name_le {t : Bs} (h : isName t = true) : t.length ≤ 16 := by
  simp only [isName, Bool.and_eq_true, decide_eq_true_eq] at h; omega
theorem op_le {t : Bs} (h : lv t ≠ 0) : t.length ≤ 2 := by
  unfold lv at h
  repeat' (first | (rename_i e; subst e; decide) | (rename_i e; rcases e with rfl | rfl | rfl | rfl | rfl | rfl <;> decide) | (rename_i e; rcases e with rfl | rfl | rfl <;> decide) | (rename_i e; rcases e with rfl | rfl <;> decide) | exact absurd rfl h | split at h)
theorem num_le {n : Nat} (h : n ≤ 999999999999) : (numL n).length ≤ 12 := by rw [numL_len]; exact nDigits_le 11 n (by omega)
theorem tf_le (n : Int) : (tfP n).length ≤ 5 := by unfold tfP; split <;> decide
theorem ex_len : ∀ (left : Nat) (x : Ex) (least : Nat), exF x left = 0 → (pcsT (exPc least x)).length ≤ 40 * exN x := by
  intro left
  induction left with
  | zero => intro x least h; obtain ⟨l, h0, _⟩ := exV h; omega
  | succ left ih =>
    intro x least h
    obtain ⟨l, h0, hv⟩ := exV h
    obtain rfl : left = l := by omega
    have hmo : ∀ xs : List Ex, (∀ a ∈ xs, exF a left = 0) → (pcsT (moPc xs)).length ≤ 40 * exsN xs + 2 * xs.length := by
      intro xs
      induction xs with
      | nil => intro _; rw [moPc, pcsT_nil]; simp
      | cons a l ihl =>
        intro ha
        have h1 := ih a 0 (ha a (List.mem_cons_self ..))
        have h2 := ihl fun b hb => ha b (List.mem_cons_of_mem _ hb)
        rw [moPc, exsN, pcsT_w, pcsT_sp, pcsT_app]
        simp only [List.length_append, List.length_cons, List.length_nil]; omega
    have hls : ∀ xs : List Ex, (∀ a ∈ xs, exF a left = 0) → (pcsT (lsPc xs)).length ≤ 40 * exsN xs + 2 * xs.length := by
      intro xs ha
      cases xs with
      | nil => rw [lsPc, pcsT_nil]; simp
      | cons a l =>
        have h1 := ih a 0 (ha a (List.mem_cons_self ..))
        have h2 := hmo l fun b hb => ha b (List.mem_cons_of_mem _ hb)
        rw [lsPc, exsN, pcsT_app]
        simp only [List.length_append, List.length_cons]; omega
    cases hv with
    | num n0 n1 => rename_i n t p; rw [tx1, exN]; have := num_le (n := n.toNat) (by omega); omega
    | flag _ => rename_i n t p h; rw [tx2, exN]; have := tf_le n; omega
    | var hn => rw [tx3, exN]; have := name_le hn; omega
    | neg ha => rw [tx4, exN, exsN, exsN]; have := ih _ 5 ha; simp only [List.length_append, List.length_cons, List.length_nil]; omega
    | not ha => rw [tx5, exN, exsN, exsN]; have := ih _ 5 ha; simp only [List.length_append, List.length_cons, List.length_nil]; omega
    | two h1 ha hb =>
      rename_i n t p a b
      rw [tx6, exN, exsN, exsN, exsN]
      have h2 := ih a (leftP (lv t.data.toList)) ha
      have h3 := ih b (lv t.data.toList) hb
      have h4 := op_le h1
      simp only [List.length_append, List.length_cons, List.length_nil]
      have h5 : (if lv t.data.toList ≤ least then [40] else [] : Bs).length ≤ 1 := by split <;> simp
      have h6 : (if lv t.data.toList ≤ least then [41] else [] : Bs).length ≤ 1 := by split <;> simp
      omega
    | call hn h6 ha =>
      rw [tx7, exN]
      have h1 := hls _ ha; have h2 := name_le hn
      simp only [List.length_append, List.length_cons, List.length_nil]; omega
    | host n0 n1 h6 ha =>
      rename_i n t p xs
      rw [tx8, exN]
      have h1 := hls _ ha; have h2 := num_le (n := n.toNat) (by omega)
      simp only [List.length_append, List.length_cons, List.length_nil]; omega
theorem brT_len (l : Bs) : (brT l).length = l.length + 3 := by simp [brT]
theorem pre_len {k : Int} {nm : Bs} (h : k ≤ 2 → isName nm = true) : (preT k nm).length ≤ 24 := by
  unfold preT
  split
  · have := name_le (h (by omega)); simp; omega
  split
  · have := name_le (h (by omega)); simp; omega
  split
  · decide
  split <;> decide
theorem sm_len : ∀ (left : Nat) (s : Sm), smF s left = 0 → (pcsT (smPc s)).length + 1 ≤ 40 * smN s := by
  intro left
  induction left with
  | zero => intro s h; obtain ⟨l, h0, _⟩ := smV h; omega
  | succ left ih =>
    have hst : ∀ l : List Sm, smsF l left = 0 → (pcsT (stPc l)).length ≤ 40 * smsN l := by
      intro l
      induction l with
      | nil => intro _; rw [stPc, pcsT_nil]; simp
      | cons s l ihl =>
        intro hf
        have hs0 := smsF_each hf s (List.mem_cons_self ..)
        have hs := ih s hs0
        have hl : smsF l left = 0 := by rw [smsF, if_pos hs0] at hf; exact hf
        have h2 := ihl hl
        rw [stPc, smsN, pcsT_sp, pcsT_app]
        simp only [List.length_append, List.length_cons]; omega
    intro s h
    obtain ⟨l, h0, hv⟩ := smV h
    obtain rfl : left = l := by omega
    cases hv with
    | whil ha hb =>
      rw [tx_while, smN]
      have h1 := ex_len _ _ 0 ha; have h2 := hst _ hb
      simp only [List.length_append, List.length_cons, List.length_nil, brT_len]; omega
    | ife ha hb he =>
      rename_i nm a body els p
      rw [tx_if, smN]
      have h1 := ex_len _ _ 0 ha; have h2 := hst _ hb; have h3 := hst _ he
      have h4 : (if els.isEmpty then [] else [32, 101, 108, 115, 101, 32] ++ brT (pcsT (stPc els)) : Bs).length ≤ 9 + (pcsT (stPc els)).length := by
        split
        · simp
        · simp only [List.length_append, List.length_cons, List.length_nil, brT_len]; omega
      simp only [List.length_append, List.length_cons, List.length_nil, brT_len]
      omega
    | simp hk hn ha =>
      rw [tx_simp (by omega) (by omega), smN]
      have h1 := ex_len _ _ 0 ha; have h2 := pre_len hn
      simp only [List.length_append, List.length_cons, List.length_nil]; omega
theorem st_len (left : Nat) : ∀ l : List Sm, smsF l left = 0 → (pcsT (stPc l)).length ≤ 40 * smsN l := by
  intro l
  induction l with
  | nil => intro _; rw [stPc, pcsT_nil]; simp
  | cons s l ihl =>
    intro hf
    have hs0 := smsF_each hf s (List.mem_cons_self ..)
    have hs := sm_len left s hs0
    have hl : smsF l left = 0 := by rw [smsF, if_pos hs0] at hf; exact hf
    have h2 := ihl hl
    rw [stPc, smsN, pcsT_sp, pcsT_app]
    simp only [List.length_append, List.length_cons]; omega
theorem ty_len (t : Int) : (tyT t).length ≤ 6 := by unfold tyT tyP; split <;> decide
theorem paM_len : ∀ (ns : List ByteArray) (ts : List Int), (∀ n ∈ ns, isName n.data.toList = true) → (pcsT (paM ns ts)).length ≤ 40 * ns.length
  | [], [], _ => Nat.zero_le _
  | [], _ :: _, _ => Nat.zero_le _
  | _ :: _, [], _ => Nat.zero_le _
  | n :: ns, t :: ts, h => by
    have h1 := paM_len ns ts (fun m hm => h m (List.mem_cons_of_mem _ hm))
    have h2 := name_le (h n (List.mem_cons_self ..))
    have h3 : (tyP t).length ≤ 4 := by unfold tyP; split <;> decide
    simp only [paM, pcsT_w, pcsT_sp, List.length_append, List.length_cons, List.length_nil]; omega
theorem paPc_len (ns : List ByteArray) (ts : List Int) (h : ∀ n ∈ ns, isName n.data.toList = true) : (pcsT (paPc ns ts)).length ≤ 40 * ns.length := by
  cases ns with
  | nil => cases ts <;> exact Nat.zero_le _
  | cons n ns => cases ts with
    | nil => exact Nat.zero_le _
    | cons t ts =>
      have h1 := paM_len ns ts (fun m hm => h m (List.mem_cons_of_mem _ hm))
      have h2 := name_le (h n (List.mem_cons_self ..))
      have h3 : (tyP t).length ≤ 4 := by unfold tyP; split <;> decide
      simp only [paPc, pcsT_w, pcsT_sp, List.length_append, List.length_cons, List.length_nil]; omega
theorem fn_len {f : Fn} (h : FnV f) : (pcsT (fnPc f)).length ≤ 40 * fnN f := by
  rw [tx_fn]
  have h1 := st_len _ _ h.body; have h2 := paPc_len f.names f.types h.names; have h3 := ty_len f.out; have h4 := name_le h.name
  unfold fnN
  simp only [List.length_append, List.length_cons, List.length_nil, brT_len]; omega
/-- A printed script has at most forty bytes for each of its parts. -/
theorem un_len : ∀ us : List Fn, (∀ f ∈ us, FnV f) → (pcsT (unPc us)).length ≤ 40 * fnsN us
  | [], _ => by rw [unPc, pcsT_nil]; simp
  | f :: l, h => by
    have h1 := fn_len (h f (List.mem_cons_self ..))
    have h2 := un_len l (fun g hg => h g (List.mem_cons_of_mem _ hg))
    rw [unPc, fnsN, pcsT_app, List.length_append]; omega
end Go.Proofs.YtmngofgminlloaaGreatDoor

namespace Go.Proofs.YtmngofgminlloaaGreatDoor
open Go.RowKit Tw

/-- The program's reader: its block holds the words, the place, the text's length. -/
structure Rq (w : World) (rb : Nat) (v : Value) (ws : List Wd) (i en : Nat) : Prop where
  blk : w.heap[rb]? = some (.cells #[v, .int .i64 i, .int .i64 en] 157 (0, 0))
  row : WRow w rb v ws
  len : ws.length ≤ 4000
  pos : i ≤ ws.length
section
variable {w w' : World} {rb : Nat} {v : Value} {ws : List Wd} {i en : Nat}
theorem Rq.lt (h : Rq w rb v ws i en) : rb < w.heap.size := (Array.getElem?_eq_some_iff.1 h.blk).1
theorem Rq.c0 (h : Rq w rb v ws i en) : w.cell? ⟨rb, 0, none⟩ = some v := Lib.cell_of_heap h.blk 0
theorem Rq.c1 (h : Rq w rb v ws i en) : w.cell? ⟨rb, 1, none⟩ = some (.int .i64 i) := Lib.cell_of_heap h.blk 1
theorem Rq.c2 (h : Rq w rb v ws i en) : w.cell? ⟨rb, 2, none⟩ = some (.int .i64 en) := Lib.cell_of_heap h.blk 2
theorem Rq.fz (h : Rq w rb v ws i en) (j : Nat) : w.frozen? ⟨rb, j, none⟩ = false := Lib.frozen_of_heap h.blk j
theorem Rq.keep (h : Rq w rb v ws i en) (hb : Below w.heap.size w w') : Rq w' rb v ws i en :=
  ⟨(hb.block rb h.lt).trans h.blk, h.row.same fun k hk => hb.block k (Nat.lt_trans hk h.lt), h.len, h.pos⟩
theorem Rq.grown {k : Nat} (h : Rq w rb v ws i en) (hg : w.grownBy w' (some k)) (hk : rb < k) : Rq w' rb v ws i en :=
  ⟨(hg.block rb h.lt (by simp; omega)).trans h.blk, h.row.same fun j hj => hg.block j (Nat.lt_trans hj h.lt) (by simp; omega), h.len, h.pos⟩
theorem Rq.setI (h : Rq w rb v ws i en) (j : Nat) (hj : j ≤ ws.length) : Rq (w.setCell ⟨rb, 1, none⟩ (.int .i64 j)) rb v ws j en := by
  refine ⟨?_, h.row.same fun k hk => Below.heap_setCell w ⟨rb, 1, none⟩ _ k (by simp; omega), h.len, hj⟩
  have := heap_setCell_same w rb 1 _ _ (.int .i64 j) h.blk
  simpa using this
end
/-- The reader has failed at a place. -/
def badP (ws : List Wd) (en j : Nat) : Ending := .panicked [{ v := .iface 159 (.agg #[.int .i64 (posAt ws j en)]), recovered := false }]

end Go.Proofs.YtmngofgminlloaaGreatDoor

namespace Go.Proofs.YtmngofgminlloaaGreatDoor
open Go.RowKit Tw

end Go.Proofs.YtmngofgminlloaaGreatDoor

namespace Go.Proofs.YtmngofgminlloaaGreatDoor
open Go.RowKit Tw

end Go.Proofs.YtmngofgminlloaaGreatDoor

namespace Go.Proofs.YtmngofgminlloaaGreatDoor
open Go.RowKit Tw

structure FrP (w0 w : World) (rb b0 b1 : Nat) (v : Value) (ws : List Wd) (i en : Nat) (u0 u1 u2 u3 u4 : Value) : Prop where
  rd : Rq w rb v ws i en
  res : w.heap[b0]? = some (.cells #[.int .i64 0, .int .i64 0, .string ⟨#[]⟩, .slice none 0 0, .int .i64 0] 186 (0, 0))
  ex : w.heap[b1]? = some (.cells #[u0, u1, u2, u3, u4] 186 (0, 0))
  gr : w0.grownBy w (some rb)
  gl : Glob w
  r0 : 10 < rb
  z0 : rb < w0.heap.size
  z1 : w0.heap.size ≤ b0
  z2 : b0 < b1
  z3 : b1 < w.heap.size
section
variable {w0 w w' : World} {rb b0 b1 : Nat} {v : Value} {ws : List Wd} {i en : Nat} {u0 u1 u2 u3 u4 : Value}
theorem FrP.step {i' : Nat} (h : FrP w0 w rb b0 b1 v ws i en u0 u1 u2 u3 u4) (hr : Rq w' rb v ws i' en) (hg : w.grownBy w' (some rb)) : FrP w0 w' rb b0 b1 v ws i' en u0 u1 u2 u3 u4 := by
  have h0 := h.z0; have h1 := h.z1; have h2 := h.z2; have h3 := h.z3
  exact ⟨hr, (hg.block b0 (by omega) (by simp; omega)).trans h.res, (hg.block b1 h3 (by simp; omega)).trans h.ex, grown_trans h.gr hg, h.gl.of hg h.r0, h.r0, h0, h1, h2, Nat.lt_of_lt_of_le h3 hg.size⟩
theorem FrP.below (h : FrP w0 w rb b0 b1 v ws i en u0 u1 u2 u3 u4) (hb : Below w.heap.size w w') : FrP w0 w' rb b0 b1 v ws i en u0 u1 u2 u3 u4 := h.step (h.rd.keep hb) (grown_of_below hb _)
theorem FrP.set {v0 v1 v2 v3 v4 : Value} (h : FrP w0 w rb b0 b1 v ws i en u0 u1 u2 u3 u4) (hg : w.grownBy w' (some b1)) (he : w'.heap[b1]? = some (.cells #[v0, v1, v2, v3, v4] 186 (0, 0))) : FrP w0 w' rb b0 b1 v ws i en v0 v1 v2 v3 v4 := by
  have h0 := h.z0; have h1 := h.z1; have h2 := h.z2; have h3 := h.z3; have hz := h.gr.size
  exact ⟨h.rd.grown hg (by omega), (hg.block b0 (by omega) (by simp; omega)).trans h.res, he, grown_new h.gr hg (by omega), h.gl.same hg.size (fun g hg' => hg.block g (by have := h.r0; omega) (by simp; have := h.r0; omega)), h.r0, h0, h1, h2, Nat.lt_of_lt_of_le h3 hg.size⟩
theorem FrP.other {k : Nat} (h : FrP w0 w rb b0 b1 v ws i en u0 u1 u2 u3 u4) (hk : b1 < k) (hg : w.grownBy w' (some k)) : FrP w0 w' rb b0 b1 v ws i en u0 u1 u2 u3 u4 := by
  have h0 := h.z0; have h1 := h.z1; have h2 := h.z2; have h3 := h.z3; have hz := h.gr.size
  exact ⟨h.rd.grown hg (by omega), (hg.block b0 (by omega) (by simp; omega)).trans h.res, (hg.block b1 (by omega) (by simp; omega)).trans h.ex, grown_new h.gr hg (by omega), h.gl.same hg.size (fun g hg' => hg.block g (by have := h.r0; omega) (by simp; have := h.r0; omega)), h.r0, h0, h1, h2, Nat.lt_of_lt_of_le h3 hg.size⟩
theorem FrP.s0 (h : FrP w0 w rb b0 b1 v ws i en u0 u1 u2 u3 u4) (x : Value) : FrP w0 (w.setCell ⟨b1, 0, none⟩ x) rb b0 b1 v ws i en x u1 u2 u3 u4 := h.set (grown_set _ _ _ _) (by simpa using heap_setCell_same w b1 0 _ _ x h.ex)
theorem FrP.s1 (h : FrP w0 w rb b0 b1 v ws i en u0 u1 u2 u3 u4) (x : Value) : FrP w0 (w.setCell ⟨b1, 1, none⟩ x) rb b0 b1 v ws i en u0 x u2 u3 u4 := h.set (grown_set _ _ _ _) (by simpa using heap_setCell_same w b1 1 _ _ x h.ex)
theorem FrP.s2 (h : FrP w0 w rb b0 b1 v ws i en u0 u1 u2 u3 u4) (x : Value) : FrP w0 (w.setCell ⟨b1, 2, none⟩ x) rb b0 b1 v ws i en u0 u1 x u3 u4 := h.set (grown_set _ _ _ _) (by simpa using heap_setCell_same w b1 2 _ _ x h.ex)
theorem FrP.s3 (h : FrP w0 w rb b0 b1 v ws i en u0 u1 u2 u3 u4) (x : Value) : FrP w0 (w.setCell ⟨b1, 3, none⟩ x) rb b0 b1 v ws i en u0 u1 u2 x u4 := h.set (grown_set _ _ _ _) (by simpa using heap_setCell_same w b1 3 _ _ x h.ex)
theorem FrP.s4 (h : FrP w0 w rb b0 b1 v ws i en u0 u1 u2 u3 u4) (x : Value) : FrP w0 (w.setCell ⟨b1, 4, none⟩ x) rb b0 b1 v ws i en u0 u1 u2 u3 x := h.set (grown_set _ _ _ _) (by simpa using heap_setCell_same w b1 4 _ _ x h.ex)
theorem FrP.start (hR : Rq w rb v ws i en) (hG : Glob w) (hr : 10 < rb) (hg : w0.grownBy w (some rb)) (h0 : rb < w0.heap.size) (h1 : w0.heap.size ≤ b0) (h2 : b0 < w.heap.size)
    (hz : w.heap[b0]? = some (.cells #[.int .i64 0, .int .i64 0, .string ⟨#[]⟩, .slice none 0 0, .int .i64 0] 186 (0, 0))) (u0 u1 u2 u3 u4 : Value) :
    FrP w0 (w.alloc (.cells #[u0, u1, u2, u3, u4] 186)) rb b0 w.heap.size v ws i en u0 u1 u2 u3 u4 :=
  ⟨hR.keep ((Below.refl _ _).alloc (Nat.le_refl _) _), (heap_alloc_old w _ h2).trans hz, heap_alloc_new w _, grown_trans hg (grown_of_below ((Below.refl _ _).alloc (Nat.le_refl _) _) _), hG.to ((Below.refl _ _).alloc (Nat.le_refl _) _), hr, h0, h1, h2, by simp⟩
end
/-- What a method for expressions answers, by what stands there. -/
def ExR (w : World) (rb : Nat) (v : Value) (ws : List Wd) (en : Nat) (r : Re) (e : Ending) (w' : World) : Prop :=
  match r with
  | .ex x j => ∃ A c, e = .returned (.agg #[.int .i64 x.kind, .int .i64 x.n, .string x.text, .slice A x.args.length c, .int .i64 x.pos]) ∧ ArgsIn w' (fun g => w.heap.size ≤ g) (.slice A x.args.length c) x.args ∧ Rq w' rb v ws j en ∧ w.grownBy w' (some rb)
  | .bad j => e = badP ws en j ∧ w.grownBy w' (some rb)
  | .exs _ _ => False
theorem FrP.ret {w0 w : World} {rb b0 b1 : Nat} {v : Value} {ws : List Wd} {i' en : Nat} {x : Ex} {A : Option Addr} {c : Nat} {F : Nat → Prop}
    (h : FrP w0 w rb b0 b1 v ws i' en (.int .i64 x.kind) (.int .i64 x.n) (.string x.text) (.slice A x.args.length c) (.int .i64 x.pos)) (hA : ArgsIn w F (.slice A x.args.length c) x.args) (hF : ∀ g, F g → w0.heap.size ≤ g ∧ g ≠ b0) :
    ExR w0 rb v ws en (.ex x i') (.returned (.agg #[.int .i64 x.kind, .int .i64 x.n, .string x.text, .slice A x.args.length c, .int .i64 x.pos]))
      (((((w.setCell ⟨b0, 0, none⟩ (.int .i64 x.kind)).setCell ⟨b0, 1, none⟩ (.int .i64 x.n)).setCell ⟨b0, 2, none⟩ (.string x.text)).setCell ⟨b0, 3, none⟩ (.slice A x.args.length c)).setCell ⟨b0, 4, none⟩ (.int .i64 x.pos)) := by
  have hg5 := grown5 w b0 (.int .i64 x.kind) (.int .i64 x.n) (.string x.text) (.slice A x.args.length c) (.int .i64 x.pos)
  have h0 := h.z0; have h1 := h.z1
  exact ⟨A, c, rfl, hA.grown hg5 (fun g h => (hF g h).2) (fun g h => (hF g h).1), h.rd.grown hg5 (by omega), grown_new h.gr hg5 h1⟩
end Go.Proofs.YtmngofgminlloaaGreatDoor

namespace Go.Proofs.YtmngofgminlloaaGreatDoor
open Go.RowKit Tw

theorem of_list {s : ByteArray} {l : List UInt8} (h : s.data.toList = l) : s = ⟨l.toArray⟩ := by
  cases s with | mk d => subst h; simp
set_option maxHeartbeats 4000000 in
theorem level_p (s : ByteArray) (w : World) : Calls Tryz.prog 162 #[.string s] w fun e w' => e = .returned (.int .i64 (lv s.data.toList)) ∧ w = w' := by
  by_cases h0 : s.data.toList = [124, 124]
  · have e := of_list h0
    subst e
    clear h0
    go_enter Tryz.func162, Tryz.ntmps162
    go_wp2_with fail
    go_ret
    exact ⟨rfl, rfl⟩
  by_cases h1 : s.data.toList = [38, 38]
  · have e := of_list h1
    subst e
    clear h0 h1
    go_enter Tryz.func162, Tryz.ntmps162
    go_wp2_with fail
    go_ret
    exact ⟨rfl, rfl⟩
  by_cases h2 : s.data.toList = [60]
  · have e := of_list h2
    subst e
    clear h0 h1 h2
    go_enter Tryz.func162, Tryz.ntmps162
    go_wp2_with fail
    go_ret
    exact ⟨rfl, rfl⟩
  by_cases h3 : s.data.toList = [60, 61]
  · have e := of_list h3
    subst e
    clear h0 h1 h2 h3
    go_enter Tryz.func162, Tryz.ntmps162
    go_wp2_with fail
    go_ret
    exact ⟨rfl, rfl⟩
  by_cases h4 : s.data.toList = [62]
  · have e := of_list h4
    subst e
    clear h0 h1 h2 h3 h4
    go_enter Tryz.func162, Tryz.ntmps162
    go_wp2_with fail
    go_ret
    exact ⟨rfl, rfl⟩
  by_cases h5 : s.data.toList = [62, 61]
  · have e := of_list h5
    subst e
    clear h0 h1 h2 h3 h4 h5
    go_enter Tryz.func162, Tryz.ntmps162
    go_wp2_with fail
    go_ret
    exact ⟨rfl, rfl⟩
  by_cases h6 : s.data.toList = [61, 61]
  · have e := of_list h6
    subst e
    clear h0 h1 h2 h3 h4 h5 h6
    go_enter Tryz.func162, Tryz.ntmps162
    go_wp2_with fail
    go_ret
    exact ⟨rfl, rfl⟩
  by_cases h7 : s.data.toList = [33, 61]
  · have e := of_list h7
    subst e
    clear h0 h1 h2 h3 h4 h5 h6 h7
    go_enter Tryz.func162, Tryz.ntmps162
    go_wp2_with fail
    go_ret
    exact ⟨rfl, rfl⟩
  by_cases h8 : s.data.toList = [43]
  · have e := of_list h8
    subst e
    clear h0 h1 h2 h3 h4 h5 h6 h7 h8
    go_enter Tryz.func162, Tryz.ntmps162
    go_wp2_with fail
    go_ret
    exact ⟨rfl, rfl⟩
  by_cases h9 : s.data.toList = [45]
  · have e := of_list h9
    subst e
    clear h0 h1 h2 h3 h4 h5 h6 h7 h8 h9
    go_enter Tryz.func162, Tryz.ntmps162
    go_wp2_with fail
    go_ret
    exact ⟨rfl, rfl⟩
  by_cases h10 : s.data.toList = [42]
  · have e := of_list h10
    subst e
    clear h0 h1 h2 h3 h4 h5 h6 h7 h8 h9 h10
    go_enter Tryz.func162, Tryz.ntmps162
    go_wp2_with fail
    go_ret
    exact ⟨rfl, rfl⟩
  by_cases h11 : s.data.toList = [47]
  · have e := of_list h11
    subst e
    clear h0 h1 h2 h3 h4 h5 h6 h7 h8 h9 h10 h11
    go_enter Tryz.func162, Tryz.ntmps162
    go_wp2_with fail
    go_ret
    exact ⟨rfl, rfl⟩
  by_cases h12 : s.data.toList = [37]
  · have e := of_list h12
    subst e
    clear h0 h1 h2 h3 h4 h5 h6 h7 h8 h9 h10 h11 h12
    go_enter Tryz.func162, Tryz.ntmps162
    go_wp2_with fail
    go_ret
    exact ⟨rfl, rfl⟩
  have hl : lv s.data.toList = 0 := by unfold lv; simp [h0, h1, h2, h3, h4, h5, h6, h7, h8, h9, h10, h11, h12]
  have e0 : (s.toList == [124, 124]) = false := by rw [beq_eq_false_iff_ne, ByteArray.toList_eq]; exact h0
  have e1 : (s.toList == [38, 38]) = false := by rw [beq_eq_false_iff_ne, ByteArray.toList_eq]; exact h1
  have e2 : (s.toList == [60]) = false := by rw [beq_eq_false_iff_ne, ByteArray.toList_eq]; exact h2
  have e3 : (s.toList == [60, 61]) = false := by rw [beq_eq_false_iff_ne, ByteArray.toList_eq]; exact h3
  have e4 : (s.toList == [62]) = false := by rw [beq_eq_false_iff_ne, ByteArray.toList_eq]; exact h4
  have e5 : (s.toList == [62, 61]) = false := by rw [beq_eq_false_iff_ne, ByteArray.toList_eq]; exact h5
  have e6 : (s.toList == [61, 61]) = false := by rw [beq_eq_false_iff_ne, ByteArray.toList_eq]; exact h6
  have e7 : (s.toList == [33, 61]) = false := by rw [beq_eq_false_iff_ne, ByteArray.toList_eq]; exact h7
  have e8 : (s.toList == [43]) = false := by rw [beq_eq_false_iff_ne, ByteArray.toList_eq]; exact h8
  have e9 : (s.toList == [45]) = false := by rw [beq_eq_false_iff_ne, ByteArray.toList_eq]; exact h9
  have e10 : (s.toList == [42]) = false := by rw [beq_eq_false_iff_ne, ByteArray.toList_eq]; exact h10
  have e11 : (s.toList == [47]) = false := by rw [beq_eq_false_iff_ne, ByteArray.toList_eq]; exact h11
  have e12 : (s.toList == [37]) = false := by rw [beq_eq_false_iff_ne, ByteArray.toList_eq]; exact h12
  have HL := Lib.hid hl
  clear hl h0 h1 h2 h3 h4 h5 h6 h7 h8 h9 h10 h11 h12
  go_enter Tryz.func162, Tryz.ntmps162
  go_wp2_with fail
  go_ret
  exact ⟨by rw [HL.out]; rfl, rfl⟩
end Go.Proofs.YtmngofgminlloaaGreatDoor

namespace Go.Proofs.YtmngofgminlloaaGreatDoor
open Go.RowKit Tw

theorem isName_pb (s : ByteArray) (t : Bool) (ht : nameB s = t) (hs : s.size ≤ maxLen) (w : World) : Calls Tryz.prog 49 #[.string s] w fun e w' => e = .returned (.bool t) ∧ w = w' := by
  have h := isName_any s w hs
  rw [show isName s.data.toList = t from ht] at h
  exact h
theorem level_pm (s : ByteArray) (m : Nat) (hm : lv s.data.toList = m) (w : World) : Calls Tryz.prog 162 #[.string s] w fun e w' => e = .returned (.int .i64 m) ∧ w = w' := by
  subst hm; exact level_p s w
def PExF (left : Nat) : Prop :=
  ∀ (li : Int), li = left → ∀ (x : Ex) (A : Option Addr) (c : Nat) (F : Nat → Prop) (w : World), ArgsIn w F (.slice A x.args.length c) x.args → ExZ x →
    Calls Tryz.prog 106 #[.agg #[.int .i64 x.kind, .int .i64 x.n, .string x.text, .slice A x.args.length c, .int .i64 x.pos], .int .i64 li] w fun e w' => e = .returned (.int .i64 (exF x left)) ∧ Below w.heap.size w w'

set_option maxRecDepth 100000 in
set_option maxHeartbeats 8000000 in
theorem pexF_step (left : Nat) (h40 : left ≤ 40) (ih : 1 ≤ left → PExF (left - 1)) : PExF left := by
  intro li hli x A c F w hA hZ
  subst hli
  cases x with | mk k n t xs p =>
  simp only [Ex.kind, Ex.n, Ex.text, Ex.args, Ex.pos] at hA ⊢
  by_cases hl0 : left = 0
  · subst hl0
    have e : exF (.mk k n t xs p) 0 = 2 := by rw [exF]; rfl
    rw [e]; clear hA hZ ih e
    go_enter Tryz.func106, Tryz.ntmps106
    go_wp2_with fail
    go_ret
    exact ⟨rfl, (Below.refl _ _).alloc (Nat.le_refl _) _⟩
  have h1 : 1 ≤ left := by omega
  have hl1 : (1 : Int) ≤ (left : Int) := by omega
  have hzt : t.size ≤ maxLen := hZ.args.1
  have hzl : xs.length ≤ 281474976710656 := hZ.args.2.1
  obtain ⟨bn, hbn⟩ : ∃ b, nameB t = b := ⟨_, rfl⟩
  obtain ⟨m, hm2⟩ : ∃ m, lv t.data.toList = m := ⟨_, rfl⟩
  have HN := Lib.hid hbn; have HM := Lib.hid hm2
  have HA := Lib.hid hA; have HZ := Lib.hid hZ; have IH := Lib.hid (ih h1); have HZT := Lib.hid hzt
  clear hA hZ ih hzt hl0 hbn hm2
  go_enter Tryz.func106, Tryz.ntmps106
  go_upto_block 0 with (fail)
  have HB0 := Lib.hid ((Below.refl w.heap.size w).alloc (Nat.le_refl _) (.cells #[.int .i64 k, .int .i64 n, .string t, .slice A xs.length c, .int .i64 p] 186))
  have HQ := Lib.hid (heap_alloc_new w (.cells #[.int .i64 k, .int .i64 n, .string t, .slice A xs.length c, .int .i64 p] 186))
  generalize w.alloc _ = wa at HB0 HQ ⊢
  go_cut [6] (fun u W => u = .bool (okEx k n t xs.length) ∧ W = wa)
  case first =>
    obtain ⟨⟨c0, c1, c2, c3, c4⟩, -⟩ := facts5 HQ.out
    by_cases ho : k < 1 ∨ 8 < k
    · have HO := Lib.hid (oko (n := n) (t := t) (L := xs.length) ho)
      rcases ho with ho | ho
      all_goals
        go_wp2_with fail
        all_goals try (exfalso; omega)
        all_goals
          go_meet
          case rel => exact ⟨by rw [HO.out], rfl⟩
    obtain rfl | rfl | rfl | rfl | rfl | rfl | rfl | rfl : k = 1 ∨ k = 2 ∨ k = 3 ∨ k = 4 ∨ k = 5 ∨ k = 6 ∨ k = 7 ∨ k = 8 := by omega
    · clear ho
      go_wp2_with fail
      all_goals
        go_meet
        case rel => exact ⟨congrArg Value.bool (by first | rfl | (rw [Bool.eq_iff_iff]; simp [ok1]; all_goals omega)), rfl⟩
    · clear ho
      cases hz0 : (n == 0) with
      | true =>
        go_wp2_with fail
        all_goals
          go_meet
          case rel => exact ⟨congrArg Value.bool (by first | rfl | (rw [Bool.eq_iff_iff]; simp [ok2]; have g0 := beq_iff_eq.1 hz0; all_goals omega)), rfl⟩
      | false =>
        cases hz1 : (n == 1) with
        | true =>
          go_wp2_with fail
          all_goals
            go_meet
            case rel => exact ⟨congrArg Value.bool (by first | rfl | (rw [Bool.eq_iff_iff]; simp [ok2]; have g0 := beq_iff_eq.1 hz1; all_goals omega)), rfl⟩
        | false =>
          go_wp2_with fail
          all_goals
            go_meet
            case rel => exact ⟨congrArg Value.bool (by first | rfl | (rw [Bool.eq_iff_iff]; simp [ok2]; have g0 := beq_eq_false_iff_ne.1 hz0; have g1 := beq_eq_false_iff_ne.1 hz1; all_goals omega)), rfl⟩
    · clear ho
      cases bn with
      | true =>
        go_wp2_with fail
        refine (isName_pb t _ HN.out HZT.out _).mono ?_
        rintro e w7 ⟨rfl, rfl⟩
        go_wp2_with fail
        all_goals
          go_meet
          case rel => exact ⟨congrArg Value.bool (by first | rfl | (rw [Bool.eq_iff_iff]; simp [ok3, HN.out]; all_goals omega)), rfl⟩
      | false =>
        go_wp2_with fail
        refine (isName_pb t _ HN.out HZT.out _).mono ?_
        rintro e w7 ⟨rfl, rfl⟩
        go_wp2_with fail
        all_goals
          go_meet
          case rel => exact ⟨congrArg Value.bool (by first | rfl | (rw [Bool.eq_iff_iff]; simp [ok3, HN.out]; all_goals omega)), rfl⟩
    · clear ho
      go_wp2_with fail
      all_goals
        go_meet
        case rel => exact ⟨congrArg Value.bool (by first | rfl | (rw [Bool.eq_iff_iff]; simp [ok4]; all_goals omega)), rfl⟩
    · clear ho
      go_wp2_with fail
      all_goals
        go_meet
        case rel => exact ⟨congrArg Value.bool (by first | rfl | (rw [Bool.eq_iff_iff]; simp [ok5]; all_goals omega)), rfl⟩
    · clear ho
      cases hz2 : ((xs.length : Int) == 2) with
      | true =>
        go_wp2_with fail
        refine (level_pm t m HM.out _).mono ?_
        rintro e w7 ⟨rfl, rfl⟩
        go_wp2_with fail
        all_goals
          go_meet
          case rel => exact ⟨congrArg Value.bool (by first | rfl | (rw [Bool.eq_iff_iff]; simp [ok6, HM.out]; have g0 := beq_iff_eq.1 hz2; omega)), rfl⟩
      | false =>
        go_wp2_with fail
        all_goals
          go_meet
          case rel => exact ⟨congrArg Value.bool (by first | rfl | (rw [Bool.eq_iff_iff]; simp [ok6, HM.out]; have g0 := beq_eq_false_iff_ne.1 hz2; omega)), rfl⟩
    · clear ho
      cases bn with
      | true =>
        go_wp2_with fail
        refine (isName_pb t _ HN.out HZT.out _).mono ?_
        rintro e w7 ⟨rfl, rfl⟩
        go_wp2_with fail
        all_goals
          go_meet
          case rel => exact ⟨congrArg Value.bool (by first | rfl | (rw [Bool.eq_iff_iff]; simp [ok7, HN.out]; all_goals omega)), rfl⟩
      | false =>
        go_wp2_with fail
        refine (isName_pb t _ HN.out HZT.out _).mono ?_
        rintro e w7 ⟨rfl, rfl⟩
        go_wp2_with fail
        all_goals
          go_meet
          case rel => exact ⟨congrArg Value.bool (by first | rfl | (rw [Bool.eq_iff_iff]; simp [ok7, HN.out]; all_goals omega)), rfl⟩
    · clear ho
      go_wp2_with fail
      all_goals
        go_meet
        case rel => exact ⟨congrArg Value.bool (by first | rfl | (rw [Bool.eq_iff_iff]; simp [ok8]; all_goals omega)), rfl⟩
  case rest =>
    obtain ⟨rfl, hw⟩ := hcut
    subst hw
    clear HN HM HZT
    obtain ⟨ok, hok⟩ : ∃ b, okEx k n t xs.length = b := ⟨_, rfl⟩
    have HO := Lib.hid hok
    rw [hok]
    clear hok
    obtain ⟨⟨c0, c1, c2, c3, c4⟩, -⟩ := facts5 HQ.out
    cases ok with
    | false =>
      go_wp2_with fail
      go_ret
      exact ⟨by rw [exF, headF_3 h1 HO.out]; rfl, HB0.out⟩
    | true =>
      by_cases hb : 6 < xs.length ∨ (k = 8 ∧ 15 < n)
      · have HH := Lib.hid (headF_2 h1 HO.out hb)
        by_cases h6 : 6 < xs.length
        · have h6' : (6 : Int) < (xs.length : Int) := by omega
          clear hb h6
          go_wp2_with fail
          go_ret
          exact ⟨by rw [exF, HH.out]; rfl, HB0.out⟩
        · obtain ⟨rfl, h15⟩ := hb.resolve_left h6
          have h6' : (xs.length : Int) ≤ 6 := by omega
          clear hb h6
          go_wp2_with fail
          go_ret
          exact ⟨by rw [exF, HH.out]; rfl, HB0.out⟩
      · have HH := Lib.hid (headF_0 h1 HO.out hb)
        have h6' : (xs.length : Int) ≤ 6 := by omega
        have HB8 : Hid (¬ (k = 8 ∧ 15 < n)) := Lib.hid (fun e => hb (.inr e))
        clear hb
        go_upto_region 23 with (fail)
        go_cut [92] (fun u W => u = .bool false ∧ W = wc)
        case first =>
          by_cases h8 : k = 8
          · subst h8
            have h15 : n ≤ 15 := by have := HB8.out; omega
            go_wp2_with fail
            go_meet
            case rel => exact ⟨congrArg Value.bool (by rw [Bool.or_eq_false_iff]; constructor <;> exact decide_eq_false (by omega)), rfl⟩
          · have e8 : (k == 8) = false := beq_eq_false_iff_ne.2 h8
            clear h8
            go_wp2_with fail
            go_meet
            case rel => exact ⟨congrArg Value.bool (decide_eq_false (by omega)), rfl⟩
        case rest =>
          obtain ⟨rfl, hw⟩ := hcut
          subst hw
          obtain ⟨⟨c0', c1', c2', c3', c4'⟩, -⟩ := facts5 HQ.out
          clear c0 c1 c2 c3 c4
          go_wp2_with fail
          clear c0' c1' c2' c3' c4'
          go_loopw [96] (fun i wr => ∃ j : Nat, j ≤ xs.length ∧ i = .int .i64 j ∧ Hid (exsF (xs.take j) (left - 1) = 0) ∧ Hid (Below w.heap.size w wr)) (fun i _ => xs.length - (intOf i).toNat)
          case atStart => exact ⟨0, Nat.zero_le _, rfl, Lib.hid (by rw [List.take_zero, exsF]), HB0⟩
          case round =>
            obtain ⟨j, hj, rfl, HE, HB⟩ := hrel
            by_cases hlt : j < xs.length
            · obtain ⟨y, hy⟩ : ∃ y, xs[j]? = some y := ⟨_, List.getElem?_eq_getElem hlt⟩
              obtain ⟨g, off, A', c', rfl, hFg, hg, hka, q0, q1, q2, q3, q4⟩ := HA.out.at j y hy
              have b0 := (HB.out.cell (p := ⟨g, off + j * 5, none⟩) hg).trans q0
              have b1 := (HB.out.cell (p := ⟨g, off + j * 5 + 1, none⟩) hg).trans q1
              have b2 := (HB.out.cell (p := ⟨g, off + j * 5 + 2, none⟩) hg).trans q2
              have b3 := (HB.out.cell (p := ⟨g, off + j * 5 + 3, none⟩) hg).trans q3
              have b4 := (HB.out.cell (p := ⟨g, off + j * 5 + 4, none⟩) hg).trans q4
              have HY := Lib.hid hy; have HKA := Lib.hid hka
              have HZY := Lib.hid (HZ.out.args.2.2 y (List.mem_of_getElem? hy))
              clear hy hka q0 q1 q2 q3 q4 hFg
              have k0 : (0 : Int) ≤ (j : Int) := by omega
              have k1 : (j : Int) < (xs.length : Int) := by omega
              go_wp2_with fail
              clear b0 b1 b2 b3 b4
              have HBa := Lib.hid (HB.out.alloc HB.out.size (.cells #[.int .i64 y.kind, .int .i64 y.n, .string y.text, .slice A' y.args.length c', .int .i64 y.pos] 186))
              refine (IH.out _ (by omega) y A' c' F _ (HKA.out.keep (F' := F) (fun q h1 h2 => ⟨h1, Nat.lt_of_lt_of_le h2 HBa.out.size, HBa.out.block q h2⟩)) HZY.out).mono ?_
              rintro e w8 ⟨rfl, hb8⟩
              have HB8 := Lib.hid (HBa.out.trans (hb8.mono HBa.out.size))
              clear hb8 HBa
              obtain ⟨z, hz⟩ : ∃ z, exF y (left - 1) = z := ⟨_, rfl⟩
              rw [hz]
              have HZ2 := Lib.hid hz
              clear hz
              by_cases hz0 : z = 0
              · subst hz0
                go_wp2_with fail
                go_roundw
                case rel => exact ⟨j + 1, by omega, by go_num, Lib.hid (exsF_snoc HY.out HE.out HZ2.out), HB8⟩
                case measure => simp [intOf]; omega
              · have e0 : (z != 0) = true := by simpa using hz0
                have HZ0 := Lib.hid hz0; clear hz0
                go_wp2_with fail
                go_ret
                exact ⟨by rw [exF, HH.out]; exact congrArg (fun q => Ending.returned (Value.int .i64 q)) (by rw [exsF_hit HY.out HE.out (by rw [HZ2.out]; exact HZ0.out), HZ2.out]), HB8.out⟩
            · have hje : j = xs.length := by omega
              have HF : Hid (exsF xs (left - 1) = 0) := Lib.hid (by have := HE.out; rw [hje, List.take_length] at this; exact this)
              clear hje
              go_wp2_with fail
              go_ret
              exact ⟨by rw [exF, HH.out]; exact congrArg (fun q => Ending.returned (Value.int .i64 q)) HF.out.symm, HB.out⟩
theorem pexF_r : ∀ left, left ≤ 40 → PExF left := by
  intro left
  induction left with
  | zero => exact fun h => pexF_step 0 h (fun e => by omega)
  | succ left ih => exact fun h => pexF_step (left + 1) h (fun _ => ih (by omega))
end Go.Proofs.YtmngofgminlloaaGreatDoor
