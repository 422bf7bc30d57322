/-
  The contract of package word's function sign. Condition: the variable MaxLen of the library holds some int.
  Plain lemmas: how the words of a text go on from a byte, by the kind of that byte. No program is named here.
  Memory: a value of one element appended to a slice of the call's own; facts of cells behind blocks that were made. Any program.
-/
import Derived.Test.YtmngofgminlloaaGreatDoorTT01
import Derived.Test.YtmngofgminlloaaGreatDoorShelf
import Derived.WalkKit
import Derived.WalkSpells
import Derived.WalkLawsBesides
import Derived.Laws.OwnMore
import Derived.Deep.AppendLies
import Derived.Deep.Draws
import Derived.Lib.Hide
set_option linter.all false
namespace Go.Proofs.YtmngofgminlloaaGreatDoor
open Go.RowKit Tw

/-- What is known of the package variable MaxLen: it holds some int. -/
def MaxLenAt (w : World) : Prop := ∃ m : Int, w.cell? ⟨2, 0, none⟩ = some (.int .i64 m)

theorem data_ext (s : ByteArray) (a b : Nat) : (s.extract a b).data.toList = (s.data.toList.drop a).take (b - a) := by
  simp [ByteArray.data_extract, Array.toList_extract]
theorem data_app (a b : ByteArray) : (a ++ b).data.toList = a.data.toList ++ b.data.toList := by
  simp [ByteArray.data_append]

set_option maxHeartbeats 400000 in
theorem contains_sp (K x : ByteArray) (w : World) (hK : K.size < 4294967281) (hm : MaxLenAt w) :
    Calls Tryz.prog 78 #[.string K, .string (⟨#[32]⟩ ++ x ++ ⟨#[32]⟩)] w fun e w' => e = .returned (.bool (Lib.contains K.data.toList (32 :: (x.data.toList ++ [32])))) ∧ w = w' := by
  obtain ⟨m, hm⟩ := hm
  refine (Tryz.strings_Contains K _ m w hK hm).mono ?_
  rintro e w' ⟨rfl, rfl⟩
  exact ⟨by rw [data_app, data_app]; rfl, rfl⟩

end Go.Proofs.YtmngofgminlloaaGreatDoor

namespace Go.Proofs.YtmngofgminlloaaGreatDoor
namespace Tw

theorem drop_head (s : ByteArray) (k : Nat) (h : k < s.size) : s.data.toList.drop k = s[k] :: s.data.toList.drop (k + 1) := by
  rw [List.drop_eq_getElem_cons (by simpa using h)]; rfl
theorem run_yes (s : ByteArray) (p : UInt8 → Bool) (k : Nat) (h : k < s.size) (hp : p s[k] = true) : runLen p (s.data.toList.drop k) = 1 + runLen p (s.data.toList.drop (k + 1)) := by
  rw [drop_head s k h]; simp [runLen, hp]; omega
theorem run_no (s : ByteArray) (p : UInt8 → Bool) (k : Nat) (h : k < s.size) (hp : p s[k] = false) : runLen p (s.data.toList.drop k) = 0 := by
  rw [drop_head s k h]; simp [runLen, hp]
section
variable {s : ByteArray} {k : Nat} {l : List Wd} {r : Option Nat × List Wd}
theorem Lex.go_skip {n : Nat} (h : Lex s k l r) (hk : k < s.size) (ht : tok (s.data.toList.drop k) = .skip n) : Lex s (k + n) l r := by
  cases h with
  | done e => omega
  | skip _ h2 h3 => rw [ht] at h2; cases h2; exact h3
  | word _ h2 h3 => rw [ht] at h2; cases h2
  | bad _ h2 => rw [ht] at h2; cases h2
theorem Lex.go_word {n c : Nat} (h : Lex s k l r) (hk : k < s.size) (ht : tok (s.data.toList.drop k) = .word c n) : Lex s (k + n) (l ++ [⟨c, s.extract k (k + n), k⟩]) r := by
  cases h with
  | done e => omega
  | skip _ h2 h3 => rw [ht] at h2; cases h2
  | word _ h2 h3 => rw [ht] at h2; cases h2; exact h3
  | bad _ h2 => rw [ht] at h2; cases h2
theorem Lex.go_bad (h : Lex s k l r) (hk : k < s.size) (ht : tok (s.data.toList.drop k) = .bad) : r = (some k, []) := by
  cases h with
  | done e => omega
  | skip _ h2 h3 => rw [ht] at h2; cases h2
  | word _ h2 h3 => rw [ht] at h2; cases h2
  | bad _ h2 => rfl
theorem Lex.go_done (h : Lex s k l r) (hk : s.size ≤ k) : r = (none, l) := by
  cases h with
  | done e => rfl
  | skip h1 h2 h3 => omega
  | word h1 h2 h3 => omega
  | bad h1 h2 => omega

theorem head_drop (s : ByteArray) (k : Nat) (h : k < s.size) : (s.data.toList.drop k).headD 0 = s[k] := by rw [drop_head s k h]; rfl
theorem tok_sp (hk : k < s.size) (h : isSp s[k] = true) : tok (s.data.toList.drop k) = .skip 1 := by
  simp only [tok, head_drop s k hk, h]; simp
theorem tok_hash (hk : k < s.size) (h : isSp s[k] = false) (h1 : s[k] = 35) : tok (s.data.toList.drop k) = .skip (runLen (fun c => c != 10) (s.data.toList.drop k)) := by
  simp only [tok, head_drop s k hk, h]; simp [h1]
theorem tok_num (hk : k < s.size) (h1 : isD s[k] = true) : tok (s.data.toList.drop k) = if isNum ((s.data.toList.drop k).take (runLen isA (s.data.toList.drop k))) then .word 1 (runLen isA (s.data.toList.drop k)) else .bad := by
  have h : isSp s[k] = false := by simp [isD, isSp] at *; omega
  have h2 : (s[k] == 35) = false := by rw [beq_eq_false_iff_ne]; intro e; rw [e] at h1; revert h1; decide
  simp only [tok, head_drop s k hk, h, h1, h2]; simp
theorem tok_let (hk : k < s.size) (h1 : isL s[k] = true) : tok (s.data.toList.drop k) = if isKey ((s.data.toList.drop k).take (runLen isA (s.data.toList.drop k))) then .word 3 (runLen isA (s.data.toList.drop k)) else if decide (16 < runLen isA (s.data.toList.drop k)) then .bad else .word 2 (runLen isA (s.data.toList.drop k)) := by
  have h : isSp s[k] = false := by simp [isL, isSp] at *; omega
  have h2 : (s[k] == 35) = false := by rw [beq_eq_false_iff_ne]; intro e; rw [e] at h1; revert h1; decide
  have h3 : isD s[k] = false := by simp [isL, isD] at *; omega
  simp only [tok, head_drop s k hk, h, h1, h2, h3]; simp
theorem tok_sign (hk : k < s.size) (h : isSp s[k] = false) (h1 : s[k] ≠ 35) (h2 : isD s[k] = false) (h3 : isL s[k] = false) {n : Nat} (hn : signLen (s.data.toList.drop k) = n) : tok (s.data.toList.drop k) = if n = 0 then .bad else .word 4 n := by
  have h4 : (s[k] == 35) = false := by rw [beq_eq_false_iff_ne]; exact h1
  simp only [tok, head_drop s k hk, h, h4, h2, h3, hn]
  cases n <;> simp
end
theorem signLen_le (l : Bs) : signLen l ≤ l.length ∧ signLen l ≤ 2 := by
  unfold signLen
  split
  · rename_i h
    have : l.take 2 ∈ sign2 := by simpa using h
    simp only [sign2, List.mem_cons, List.mem_nil_iff, or_false] at this
    have h2 : (l.take 2).length = 2 := by rcases this with h | h | h | h | h | h <;> rw [h] <;> rfl
    rw [List.length_take] at h2
    omega
  · split
    · rename_i h; simp at h; omega
    · omega
theorem run_le (p : UInt8 → Bool) (l : Bs) : runLen p l ≤ l.length := by
  unfold runLen; exact (List.takeWhile_sublist p).length_le

theorem tok_word_bd {s : ByteArray} {k c m : Nat} (hk : k < s.size) (ht : tok (s.data.toList.drop k) = .word c m) : 0 < m ∧ m ≤ s.size - k := by
  have hlen : (s.data.toList.drop k).length = s.size - k := by rw [List.length_drop]; rfl
  by_cases h : isSp s[k] = true
  · rw [tok_sp hk h] at ht; cases ht
  · have h : isSp s[k] = false := by simpa using h
    have hl := run_le isA (s.data.toList.drop k)
    by_cases h3 : s[k] = 35
    · rw [tok_hash hk h h3] at ht; cases ht
    · by_cases h4 : isD s[k] = true
      · have hy := run_yes s isA k hk (by simp [isA, h4])
        rw [tok_num hk h4] at ht; split at ht <;> cases ht
        omega
      · by_cases h5 : isL s[k] = true
        · have hy := run_yes s isA k hk (by simp [isA, h5])
          rw [tok_let hk h5] at ht; repeat' (split at ht)
          all_goals cases ht
          all_goals omega
        · have := signLen_le (s.data.toList.drop k)
          rw [tok_sign hk h h3 (by simpa using h4) (by simpa using h5) rfl] at ht; split at ht
          · cases ht
          · cases ht; omega

/-- There is such an outcome for every text. -/
theorem Lex.total (s : ByteArray) : ∀ (n k : Nat) (l : List Wd), s.size - k ≤ n → k ≤ s.size → ∃ r, Lex s k l r := by
  intro n
  induction n with
  | zero => intro k l h1 h2; exact ⟨_, .done (by omega)⟩
  | succ n ih =>
    intro k l h1 h2
    by_cases hk : k < s.size
    case neg => exact ⟨_, .done (by omega)⟩
    have hlen : (s.data.toList.drop k).length = s.size - k := by rw [List.length_drop]; rfl
    cases ht : tok (s.data.toList.drop k) with
    | bad => exact ⟨_, .bad hk ht⟩
    | skip m =>
      have hm : 0 < m ∧ m ≤ s.size - k := by
        by_cases h : isSp s[k] = true
        · rw [tok_sp hk h] at ht; cases ht; omega
        · have h : isSp s[k] = false := by simpa using h
          by_cases h3 : s[k] = 35
          · rw [tok_hash hk h h3] at ht
            have := run_le (fun c => c != 10) (s.data.toList.drop k)
            have hy := run_yes s (fun c => c != 10) k hk (by rw [h3]; decide)
            cases ht
            omega
          · by_cases h4 : isD s[k] = true
            · rw [tok_num hk h4] at ht; split at ht <;> cases ht
            · by_cases h5 : isL s[k] = true
              · rw [tok_let hk h5] at ht; repeat' (split at ht)
                all_goals cases ht
              · rw [tok_sign hk h h3 (by simpa using h4) (by simpa using h5) rfl] at ht; split at ht <;> cases ht
      obtain ⟨r, hr⟩ := ih (k + m) l (by omega) (by omega)
      exact ⟨r, .skip hk ht hr⟩
    | word c m =>
      have hm : 0 < m ∧ m ≤ s.size - k := by
        by_cases h : isSp s[k] = true
        · rw [tok_sp hk h] at ht; cases ht
        · have h : isSp s[k] = false := by simpa using h
          have hl := run_le isA (s.data.toList.drop k)
          by_cases h3 : s[k] = 35
          · rw [tok_hash hk h h3] at ht; cases ht
          · by_cases h4 : isD s[k] = true
            · have hy := run_yes s isA k hk (by simp [isA, h4])
              rw [tok_num hk h4] at ht; split at ht <;> cases ht
              omega
            · by_cases h5 : isL s[k] = true
              · have hy := run_yes s isA k hk (by simp [isA, h5])
                rw [tok_let hk h5] at ht; repeat' (split at ht)
                all_goals cases ht
                all_goals omega
              · have := signLen_le (s.data.toList.drop k)
                rw [tok_sign hk h h3 (by simpa using h4) (by simpa using h5) rfl] at ht; split at ht
                · cases ht
                · cases ht; omega
      obtain ⟨r, hr⟩ := ih (k + m) _ (by omega) (by omega)
      exact ⟨r, .word hk ht hr⟩
end Tw
end Go.Proofs.YtmngofgminlloaaGreatDoor

namespace Go.Proofs.YtmngofgminlloaaGreatDoor
open Go.RowKit

/-- What a slice type t with elements of type e (of so many cells) must have, as the program's tables give it. -/
structure ElemOk (P : Program) (t e size : Nat) : Prop where
  ut : P.underlying t = some (.slice e)
  inf : (P.info? e).map (fun i => (i.zero.map (fun z => z.cells.size), i.size, decide (i.bytes ≤ 256))) = some (some size, size, true)
  pos : 0 < size

section
variable {P : Program} {w : World}
theorem ElemOk.get {t e size : Nat} (h : ElemOk P t e size) : ∃ i z, P.info? e = some i ∧ i.zero = some z ∧ i.size = size ∧ i.bytes ≤ 256 ∧ z.cells.size = size := by
  have hi := h.inf
  cases hp : P.info? e with
  | none => rw [hp] at hi; cases hi
  | some i =>
    rw [hp] at hi
    simp only [Option.map_some, Option.some.injEq, Prod.mk.injEq, decide_eq_true_eq] at hi
    obtain ⟨h1, h2, h3⟩ := hi
    cases hz : i.zero with
    | none => rw [hz] at h1; cases h1
    | some z =>
      rw [hz] at h1
      exact ⟨i, z, rfl, hz, h2, h3, by simpa using h1⟩

theorem app_bytes {n b : Nat} (hb : b ≤ 256) (hn : n ≤ 500000000000) : n * b ≤ 140737488355328 := by
  have : n * b ≤ 500000000000 * 256 := Nat.mul_le_mul hn hb
  omega

/-- One element that lies in a block of its own is appended. -/
theorem wpList_app1 {ops : Array Oper} {rest : List Oper} {o : Oper} {a : Act} {Q : Exit → Act → World → Prop} {t e size : Nat} (E : ElemOk P t e size) (hgd : o.guard = none) (s x : Operand)
    (ho : o.op = .call { callee := .builtin .append, args := #[s, x], argTypes := #[t, t] })
    (base : Nat) (v : Value) (n : Nat) (xs : List Value) (hs : a.eval s = v) (hown : w.ownsRow base e size v n xs)
    (H c : Nat) (cs : Array Value) (hx : a.eval x = .slice (some ⟨H, 0, none⟩) 1 c) (hblk : w.heap[H]? = some (.cells cs e (0, 0))) (hl : cs.size = size) (h1 : ∀ u ∈ cs.toList, u.oneCell' = true)
    (hn : n + 1 ≤ 500000000000) (hbase : base ≤ w.heap.size)
    (h : ∀ g cap w', w'.ownsRow base e size (.slice (some ⟨g, 0, none⟩) (n + 1) cap) (n + 1) (xs ++ cs.toList) → w.grownBy w' v.ownBlock → (v.ownBlock = some g ∨ g = w.heap.size) → g < w'.heap.size → wpList P ops Q rest (a.put o.dst (.slice (some ⟨g, 0, none⟩) (n + 1) cap)) w') : wpList P ops Q (o :: rest) a w := by
  obtain ⟨i, z, hi, hz, hsz, hby, hzs⟩ := E.get
  exact wpList_append_lies w hgd s x t ho base e i z size i.bytes E.ut hi hz hsz rfl hzs E.pos v n xs hs hown ⟨H, 0, none⟩ 1 c cs.toList hx (by simp [hl]) (World.news_of_block hblk) h1
    (by omega) (by unfold maxLen; omega) (app_bytes hby hn) hbase w.heap.size rfl h

theorem below_drewN {B : Nat} {a w : World} (h : Below B a w) (n : Nat) : Below B a (w.drewN n) := ⟨h.os, h.tape, h.output, h.size, h.block⟩

theorem below_app {B : Nat} {w0 w' : World} {base : Nat} {e size n : Nat} {v : Value} {xs : List Value} (hb : Below B w0 w) (hown : w.ownsRow base e size v n xs) (hB : B ≤ base) (hB' : B ≤ w.heap.size) (hg : w.grownBy w' v.ownBlock) : Below B w0 w' :=
  hb.grown hg hB' fun k hk => Nat.le_trans hB (hown.lt k hk).1
end
end Go.Proofs.YtmngofgminlloaaGreatDoor
