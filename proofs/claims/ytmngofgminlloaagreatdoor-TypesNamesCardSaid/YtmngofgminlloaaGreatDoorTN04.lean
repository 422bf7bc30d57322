/-
  The contract of word.Split: its words, or the position of an error. Condition: the variable MaxLen of the library holds some int.
-/
import Derived.Test.YtmngofgminlloaaGreatDoorTN03
set_option linter.unusedSimpArgs false
set_option linter.unusedVariables false
namespace Go.Proofs.YtmngofgminlloaaGreatDoor
open Go.RowKit Tw

theorem elemWord : ElemOk Tryz.prog 42 46 3 := ⟨Tryz.underlying42, by kernel_rfl, by decide⟩
theorem digit_b (c : UInt8) (t : Bool) (h : isD c = t) (w : World) : Calls Tryz.prog 105 #[.int .u8 c.toNat] w fun e w' => e = .returned (.bool t) ∧ w = w' := by subst h; exact digit_any c w
theorem letter_b (c : UInt8) (t : Bool) (h : isL c = t) (w : World) : Calls Tryz.prog 103 #[.int .u8 c.toNat] w fun e w' => e = .returned (.bool t) ∧ w = w' := by subst h; exact letter_any c w
theorem number_b (s : ByteArray) (t : Bool) (h : isNum s.data.toList = t) (hs : s.size ≤ maxLen) (w : World) : Calls Tryz.prog 134 #[.string s] w fun e w' => e = .returned (.bool t) ∧ w = w' := by subst h; exact number_any s w hs
theorem isKey_b (s : ByteArray) (t : Bool) (h : isKey s.data.toList = t) (w : World) : Calls Tryz.prog 104 #[.string s] w fun e w' => e = .returned (.bool t) ∧ w = w' := by subst h; exact isKey_any s w
theorem sign_n (s : ByteArray) (n : Nat) (h : signLen s.data.toList = n) (hs : s.size ≤ maxLen) (w : World) (hm : MaxLenAt w) : Calls Tryz.prog 135 #[.string s] w fun e w' => e = .returned (.int .i64 n) ∧ w = w' := by subst h; exact sign_any s w hs hm
theorem MaxLenAt.below {w w' : World} (h : MaxLenAt w) {B : Nat} (hb : Below B w w') (hB : 2 < B) : MaxLenAt w' := by
  obtain ⟨m, hm⟩ := h
  exact ⟨m, (hb.cell (p := ⟨2, 0, none⟩) hB).trans hm⟩

theorem wcells_snoc (l : List Wd) (x : Wd) : wcells (l ++ [x]) = wcells l ++ x.cells := by simp [wcells]

theorem heap_alloc_new2 (w : World) (o1 o2 : Obj) : ((w.alloc o1).alloc o2).heap[w.heap.size + 1]? = some o2 := by
  have := heap_alloc_new (w.alloc o1) o2
  simpa using this

def codeOf (r : Option Nat × List Wd) : Int := if r.1.isSome then 15 else 0
def posOf (r : Option Nat × List Wd) : Int := (r.1.getD 0 : Nat)

set_option maxRecDepth 100000 in
set_option maxHeartbeats 4000000 in
theorem split_loop (s : ByteArray) (w : World) (r : Option Nat × List Wd) (hs : s.size ≤ 4000) (hm : MaxLenAt w) (h2 : 2 < w.heap.size) (hr : Lex s 0 [] r) :
    Calls Tryz.prog 81 #[.string s] w fun e w' => ∃ v, e = .returned (.tuple #[v, .int .i64 (posOf r), .int .i64 (codeOf r)]) ∧ w'.ownsRow w.heap.size 46 3 v r.2.length (wcells r.2) ∧ Below w.heap.size w w' := by
  have HR := Lib.hid hr; clear hr
  have HM := Lib.hid hm; clear hm
  go_enter Tryz.func81, Tryz.ntmps81
  go_wp2_with fail
  go_loopw [5, 6] (fun v i wr => ∃ (k : Nat) (l : List Wd), k ≤ s.size ∧ i = .int .i64 k ∧ l.length ≤ k ∧ wr.ownsRow w.heap.size 46 3 v l.length (wcells l) ∧ Below w.heap.size w wr ∧ Hid (Lex s k l r)) (fun _ i _ => s.size - (intOf i).toNat)
  case atStart => exact ⟨0, [], Nat.zero_le _, rfl, Nat.zero_le _, World.ownsRow_nil _ _ _ _, Below.refl _ _, HR⟩
  case round =>
    obtain ⟨k, l, hk, rfl, hl, hown, hb, HL⟩ := hrel
    have hsz := hb.size
    by_cases hlt : k < s.size
    case neg =>
      have HE := Lib.hid (HL.out.go_done (by omega))
      go_wp2_with fail
      go_ret3
      exact ⟨_, by rw [HE.out]; rfl, by rw [HE.out]; exact hown, hb⟩
    have hc : s[k].toNat < 256 := UInt8.toNat_lt _
    cases hS : isSp s[k]
    case true =>
      have HL' := Lib.hid (HL.out.go_skip hlt (tok_sp hlt hS))
      have hS' : s[k].toNat = 32 ∨ s[k].toNat = 10 ∨ s[k].toNat = 9 := by simpa [isSp, or_assoc] using hS
      clear hS
      obtain ⟨e1, e2⟩ : (((s[k].toNat : Int) == 32) = true ∨ ((s[k].toNat : Int) == 32) = false ∧ (((s[k].toNat : Int) == 10) = true ∨ ((s[k].toNat : Int) == 10) = false ∧ ((s[k].toNat : Int) == 9) = true)) ∧ True := by
        refine ⟨?_, trivial⟩
        rcases hS' with h | h | h <;> rw [h] <;> decide
      clear e2 hS'
      rcases e1 with e1 | ⟨e1, e1' | ⟨e1', e1''⟩⟩
      all_goals
        go_wp2_with fail
        go_roundw
        case rel => exact ⟨k + 1, l, by omega, by go_num, by omega, hown, hb, HL'⟩
        case measure => simp [intOf]; omega
    have e1 : ((s[k].toNat : Int) == 32) = false := by rw [beq_eq_false_iff_ne]; intro h; have : s[k].toNat = 32 := by omega
                                                       simp [isSp, this] at hS
    have e2 : ((s[k].toNat : Int) == 10) = false := by rw [beq_eq_false_iff_ne]; intro h; have : s[k].toNat = 10 := by omega
                                                       simp [isSp, this] at hS
    have e3 : ((s[k].toNat : Int) == 9) = false := by rw [beq_eq_false_iff_ne]; intro h; have : s[k].toNat = 9 := by omega
                                                      simp [isSp, this] at hS
    by_cases hH : s[k] = 35
    · have HT := Lib.hid (tok_hash hlt hS hH)
      have HL' := Lib.hid (HL.out.go_skip hlt HT.out)
      have e4 : ((s[k].toNat : Int) == 35) = true := by rw [hH]; rfl
      clear hH hS
      go_wp2_with fail
      go_loop [6] (fun i => ∃ j : Nat, k ≤ j ∧ j ≤ s.size ∧ i = .int .i64 j ∧ Hid (k + runLen (fun c => c != 10) (s.data.toList.drop k) = j + runLen (fun c => c != 10) (s.data.toList.drop j))) (fun i => s.size - (intOf i).toNat)
      case atStart => exact ⟨k, Nat.le_refl _, by omega, rfl, Lib.hid rfl⟩
      case round =>
        obtain ⟨j, hkj, hj, rfl, HJ⟩ := hrel
        by_cases hjl : j < s.size
        · by_cases hn : s[j].toNat = 10
          · have hn' : (s[j] != 10) = false := by
              have : s[j] = 10 := UInt8.toNat_inj.1 hn
              simp [this]
            have hE : k + runLen (fun c => c != 10) (s.data.toList.drop k) = j := by rw [HJ.out, run_no s (fun c => c != 10) j hjl hn']; rfl
            have HL2 : Hid (Lex s j l r) := Lib.hid (by have := HL'.out; rw [hE] at this; exact this)
            have e5 : ((s[j].toNat : Int) != 10) = false := by rw [hn]; rfl
            have hkj' : k < j := by have := run_yes s (fun c => c != 10) k hlt (by have := e4; simp at this; simp; intro h; rw [h] at this; revert this; decide); omega
            clear hn hn' hE
            go_wp2_with fail
            go_roundw
            case rel => exact ⟨j, l, by omega, rfl, by omega, hown, hb, HL2⟩
            case measure => simp [intOf]; omega
          · have hn' : (s[j] != 10) = true := by
              rw [bne_iff_ne]; intro h; exact hn (by rw [h]; rfl)
            have HJ2 : Hid (k + runLen (fun c => c != 10) (s.data.toList.drop k) = (j + 1) + runLen (fun c => c != 10) (s.data.toList.drop (j + 1))) := Lib.hid (by rw [HJ.out, run_yes s (fun c => c != 10) j hjl hn']; omega)
            have e5 : ((s[j].toNat : Int) != 10) = true := by rw [bne_iff_ne]; omega
            clear hn hn'
            go_wp2_with fail
            go_round
            case rel => exact ⟨j + 1, by omega, by omega, by go_num, HJ2⟩
            case measure => simp [intOf]; omega
        · have hE : k + runLen (fun c => c != 10) (s.data.toList.drop k) = j := by rw [HJ.out, run_end s _ j (by omega)]; rfl
          have HL2 : Hid (Lex s j l r) := Lib.hid (by have := HL'.out; rw [hE] at this; exact this)
          clear hE
          go_wp2_with fail
          go_roundw
          case rel => exact ⟨j, l, by omega, rfl, by omega, hown, hb, HL2⟩
          case measure => simp [intOf]; omega
    have e4 : ((s[k].toNat : Int) == 35) = false := by rw [beq_eq_false_iff_ne]; intro h; exact hH (UInt8.toNat_inj.1 (show s[k].toNat = 35 by omega))
    cases hD : isD s[k]
    case true =>
      have HT := Lib.hid (tok_num hlt hD)
      have HA := Lib.hid (run_yes s isA k hlt (by simp [isA, hD]))
      have HD := Lib.hid hD
      clear hD hS hH
      go_wp2_with (go_at_call 105; refine (digit_b _ _ HD.out _).mono ?_; rintro e w' ⟨rfl, rfl⟩)
      go_loop [6] (fun i => ∃ j : Nat, k ≤ j ∧ j ≤ s.size ∧ i = .int .i64 j ∧ Hid (k + runLen isA (s.data.toList.drop k) = j + runLen isA (s.data.toList.drop j))) (fun i => s.size - (intOf i).toNat)
      case atStart => exact ⟨k, Nat.le_refl _, by omega, rfl, Lib.hid rfl⟩
      case round =>
        obtain ⟨j, hkj, hj, rfl, HJ⟩ := hrel
        by_cases hjA : ∃ h : j < s.size, isA s[j] = true
        · obtain ⟨hjl, hjA⟩ := hjA
          have HJ2 : Hid (k + runLen isA (s.data.toList.drop k) = (j + 1) + runLen isA (s.data.toList.drop (j + 1))) := Lib.hid (by rw [HJ.out, run_yes s isA j hjl hjA]; omega)
          cases hjD : isD s[j]
          · have H5 := Lib.hid hjD
            have H6 : Hid (isL s[j] = true) := Lib.hid (by simpa [isA, hjD] using hjA)
            clear hjD hjA
            go_wp2_with (first | (go_at_call 105; refine (digit_b _ _ H5.out _).mono ?_; rintro e w' ⟨rfl, rfl⟩) | (go_at_call 103; refine (letter_b _ _ H6.out _).mono ?_; rintro e w' ⟨rfl, rfl⟩))
            go_round
            case rel => exact ⟨j + 1, by omega, by omega, by go_num, HJ2⟩
            case measure => simp [intOf]; omega
          · have H5 := Lib.hid hjD
            clear hjD hjA
            go_wp2_with (go_at_call 105; refine (digit_b _ _ H5.out _).mono ?_; rintro e w' ⟨rfl, rfl⟩)
            go_round
            case rel => exact ⟨j + 1, by omega, by omega, by go_num, HJ2⟩
            case measure => simp [intOf]; omega
        · have HE : Hid (k + runLen isA (s.data.toList.drop k) = j) := Lib.hid (by
            rw [HJ.out]
            by_cases hjl : j < s.size
            · rw [run_no s isA j hjl (by simpa using fun h => hjA ⟨hjl, h⟩)]; rfl
            · rw [run_end s isA j (by omega)]; rfl)
          have hkj' : k < j := by have := HE.out; have := HA.out; omega
          have HX : Hid ((s.extract k j).data.toList = (s.data.toList.drop k).take (runLen isA (s.data.toList.drop k))) := Lib.hid (by
            rw [data_ext]; congr 1; have := HE.out; omega)
          cases hN : isNum (s.extract k j).data.toList
          · have HR2 := Lib.hid (HL.out.go_bad hlt (by rw [HT.out, ← HX.out, hN]; rfl))
            have HN := Lib.hid hN; clear hN
            by_cases hjl : j < s.size
            · have H5 : Hid (isD s[j] = false) := Lib.hid (by have h := fun h => hjA ⟨hjl, h⟩; simp [isA] at h; exact h.1)
              have H6 : Hid (isL s[j] = false) := Lib.hid (by have h := fun h => hjA ⟨hjl, h⟩; simp [isA] at h; exact h.2)
              clear hjA
              go_wp2_with (first | (go_at_call 105; refine (digit_b _ _ H5.out _).mono ?_; rintro e w' ⟨rfl, rfl⟩) | (go_at_call 103; refine (letter_b _ _ H6.out _).mono ?_; rintro e w' ⟨rfl, rfl⟩) | (go_at_call 134; refine (number_b _ _ HN.out (by unfold maxLen; simp; omega) _).mono ?_; rintro e w' ⟨rfl, rfl⟩))
              go_ret3
              exact ⟨_, by rw [HR2.out]; rfl, by rw [HR2.out]; exact World.ownsRow_nil _ _ _ _, hb⟩
            · clear hjA
              go_wp2_with (go_at_call 134; refine (number_b _ _ HN.out (by unfold maxLen; simp; omega) _).mono ?_; rintro e w' ⟨rfl, rfl⟩)
              go_ret3
              exact ⟨_, by rw [HR2.out]; rfl, by rw [HR2.out]; exact World.ownsRow_nil _ _ _ _, hb⟩
          · have HL2 : Hid (Lex s j (l ++ [⟨1, s.extract k j, k⟩]) r) := Lib.hid (by
              have := HL.out.go_word hlt (c := 1) (n := runLen isA (s.data.toList.drop k)) (by rw [HT.out, ← HX.out, hN]; rfl)
              rw [HE.out] at this; exact this)
            have HN := Lib.hid hN; clear hN
            by_cases hjl : j < s.size
            · have H5 : Hid (isD s[j] = false) := Lib.hid (by have h := fun h => hjA ⟨hjl, h⟩; simp [isA] at h; exact h.1)
              have H6 : Hid (isL s[j] = false) := Lib.hid (by have h := fun h => hjA ⟨hjl, h⟩; simp [isA] at h; exact h.2)
              clear hjA
              go_wp2_with (first | (go_at_call 105; refine (digit_b _ _ H5.out _).mono ?_; rintro e w' ⟨rfl, rfl⟩) | (go_at_call 103; refine (letter_b _ _ H6.out _).mono ?_; rintro e w' ⟨rfl, rfl⟩) | (go_at_call 134; refine (number_b _ _ HN.out (by unfold maxLen; simp; omega) _).mono ?_; rintro e w' ⟨rfl, rfl⟩) | (at_builtin; go_must (refine wpList_app1 elemWord rfl _ _ rfl w.heap.size _ l.length (wcells l) rfl (hown.alloc _) wr.heap.size 1 #[.int .i64 1, .string (s.extract k j), .int .i64 k] rfl (heap_alloc_new wr _) rfl (by simp [Value.oneCell']) (by omega) (by simp; omega) ?_); intro g cap w1 hown1 hgrow _ _; have hb1 := below_app (hb.alloc hsz _) (hown.alloc _) (Nat.le_refl _) (by simp; omega) hgrow; clear hgrow))
              go_roundw
              case rel => exact ⟨j, l ++ [⟨1, s.extract k j, k⟩], by omega, rfl, by simp; omega, by rw [wcells_snoc, List.length_append]; exact hown1, hb1, HL2⟩
              case measure => simp [intOf]; omega
            · clear hjA
              go_wp2_with (first | (go_at_call 134; refine (number_b _ _ HN.out (by unfold maxLen; simp; omega) _).mono ?_; rintro e w' ⟨rfl, rfl⟩) | (at_builtin; go_must (refine wpList_app1 elemWord rfl _ _ rfl w.heap.size _ l.length (wcells l) rfl (hown.alloc _) wr.heap.size 1 #[.int .i64 1, .string (s.extract k j), .int .i64 k] rfl (heap_alloc_new wr _) rfl (by simp [Value.oneCell']) (by omega) (by simp; omega) ?_); intro g cap w1 hown1 hgrow _ _; have hb1 := below_app (hb.alloc hsz _) (hown.alloc _) (Nat.le_refl _) (by simp; omega) hgrow; clear hgrow))
              go_roundw
              case rel => exact ⟨j, l ++ [⟨1, s.extract k j, k⟩], by omega, rfl, by simp; omega, by rw [wcells_snoc, List.length_append]; exact hown1, hb1, HL2⟩
              case measure => simp [intOf]; omega
    cases hLt : isL s[k]
    case true =>
      have HT := Lib.hid (tok_let hlt hLt)
      have HA := Lib.hid (run_yes s isA k hlt (by simp [isA, hLt]))
      have HD := Lib.hid hD; have HLt := Lib.hid hLt
      clear hD hLt hS hH
      go_wp2_with (first | (go_at_call 105; refine (digit_b _ _ HD.out _).mono ?_; rintro e w' ⟨rfl, rfl⟩) | (go_at_call 103; refine (letter_b _ _ HLt.out _).mono ?_; rintro e w' ⟨rfl, rfl⟩))
      go_loop [6] (fun i => ∃ j : Nat, k ≤ j ∧ j ≤ s.size ∧ i = .int .i64 j ∧ Hid (k + runLen isA (s.data.toList.drop k) = j + runLen isA (s.data.toList.drop j))) (fun i => s.size - (intOf i).toNat)
      case atStart => exact ⟨k, Nat.le_refl _, by omega, rfl, Lib.hid rfl⟩
      case round =>
        obtain ⟨j, hkj, hj, rfl, HJ⟩ := hrel
        by_cases hjA : ∃ h : j < s.size, isA s[j] = true
        · obtain ⟨hjl, hjA⟩ := hjA
          have HJ2 : Hid (k + runLen isA (s.data.toList.drop k) = (j + 1) + runLen isA (s.data.toList.drop (j + 1))) := Lib.hid (by rw [HJ.out, run_yes s isA j hjl hjA]; omega)
          cases hjD : isD s[j]
          · have H5 := Lib.hid hjD
            have H6 : Hid (isL s[j] = true) := Lib.hid (by simpa [isA, hjD] using hjA)
            clear hjD hjA
            go_wp2_with (first | (go_at_call 105; refine (digit_b _ _ H5.out _).mono ?_; rintro e w' ⟨rfl, rfl⟩) | (go_at_call 103; refine (letter_b _ _ H6.out _).mono ?_; rintro e w' ⟨rfl, rfl⟩))
            go_round
            case rel => exact ⟨j + 1, by omega, by omega, by go_num, HJ2⟩
            case measure => simp [intOf]; omega
          · have H5 := Lib.hid hjD
            clear hjD hjA
            go_wp2_with (go_at_call 105; refine (digit_b _ _ H5.out _).mono ?_; rintro e w' ⟨rfl, rfl⟩)
            go_round
            case rel => exact ⟨j + 1, by omega, by omega, by go_num, HJ2⟩
            case measure => simp [intOf]; omega
        · have HE : Hid (k + runLen isA (s.data.toList.drop k) = j) := Lib.hid (by
            rw [HJ.out]
            by_cases hjl : j < s.size
            · rw [run_no s isA j hjl (by simpa using fun h => hjA ⟨hjl, h⟩)]; rfl
            · rw [run_end s isA j (by omega)]; rfl)
          have hkj' : k < j := by have := HE.out; have := HA.out; omega
          have HX : Hid ((s.extract k j).data.toList = (s.data.toList.drop k).take (runLen isA (s.data.toList.drop k))) := Lib.hid (by
            rw [data_ext]; congr 1; have := HE.out; omega)
          have H56 : Hid (∀ hjl : j < s.size, isD s[j] = false ∧ isL s[j] = false) := Lib.hid (by intro hjl; have h := fun h => hjA ⟨hjl, h⟩; simpa [isA] using h)
          clear hjA
          cases hN : isKey (s.extract k j).data.toList
          · have HN := Lib.hid hN
            by_cases h16 : 16 < j - k
            · have HR2 := Lib.hid (HL.out.go_bad hlt (by rw [HT.out, ← HX.out, hN]; rw [if_neg (by simp), if_pos (by have := HE.out; simp; omega)]))
              clear hN
              by_cases hjl : j < s.size
              · have H5 := Lib.hid (H56.out hjl).1
                have H6 := Lib.hid (H56.out hjl).2
                go_wp2_with (first | (go_at_call 105; refine (digit_b _ _ H5.out _).mono ?_; rintro e w' ⟨rfl, rfl⟩) | (go_at_call 103; refine (letter_b _ _ H6.out _).mono ?_; rintro e w' ⟨rfl, rfl⟩) | (go_at_call 104; refine (isKey_b _ _ HN.out _).mono ?_; rintro e w' ⟨rfl, rfl⟩))
                go_ret3
                exact ⟨_, by rw [HR2.out]; rfl, by rw [HR2.out]; exact World.ownsRow_nil _ _ _ _, hb.alloc hsz _⟩
              · go_wp2_with (first | (go_at_call 104; refine (isKey_b _ _ HN.out _).mono ?_; rintro e w' ⟨rfl, rfl⟩))
                go_ret3
                exact ⟨_, by rw [HR2.out]; rfl, by rw [HR2.out]; exact World.ownsRow_nil _ _ _ _, hb.alloc hsz _⟩
            · have HL2 : Hid (Lex s j (l ++ [⟨2, s.extract k j, k⟩]) r) := Lib.hid (by
                have := HL.out.go_word hlt (c := 2) (n := runLen isA (s.data.toList.drop k)) (by rw [HT.out, ← HX.out, hN]; rw [if_neg (by simp), if_neg (by have := HE.out; simp; omega)])
                rw [HE.out] at this; exact this)
              clear hN
              by_cases hjl : j < s.size
              · have H5 := Lib.hid (H56.out hjl).1
                have H6 := Lib.hid (H56.out hjl).2
                go_wp2_with (first | (go_at_call 105; refine (digit_b _ _ H5.out _).mono ?_; rintro e w' ⟨rfl, rfl⟩) | (go_at_call 103; refine (letter_b _ _ H6.out _).mono ?_; rintro e w' ⟨rfl, rfl⟩) | (go_at_call 104; refine (isKey_b _ _ HN.out _).mono ?_; rintro e w' ⟨rfl, rfl⟩) | (at_builtin; go_must (refine wpList_app1 elemWord rfl _ _ rfl w.heap.size _ l.length (wcells l) rfl ((hown.alloc _).alloc _) (wr.heap.size + 1) 1 #[.int .i64 2, .string (s.extract k j), .int .i64 k] rfl (heap_alloc_new2 wr _ _) rfl (by simp [Value.oneCell']) (by omega) (by simp; omega) ?_); intro g cap w1 hown1 hgrow _ _; have hb1 := below_app ((hb.alloc hsz _).alloc (by simp; omega) _) ((hown.alloc _).alloc _) (Nat.le_refl _) (by simp; omega) hgrow; clear hgrow))
                go_roundw
                case rel => exact ⟨j, l ++ [⟨2, s.extract k j, k⟩], by omega, rfl, by simp; omega, by rw [wcells_snoc, List.length_append]; exact hown1, hb1, HL2⟩
                case measure => simp [intOf]; omega
              · go_wp2_with (first | (go_at_call 104; refine (isKey_b _ _ HN.out _).mono ?_; rintro e w' ⟨rfl, rfl⟩) | (at_builtin; go_must (refine wpList_app1 elemWord rfl _ _ rfl w.heap.size _ l.length (wcells l) rfl ((hown.alloc _).alloc _) (wr.heap.size + 1) 1 #[.int .i64 2, .string (s.extract k j), .int .i64 k] rfl (heap_alloc_new2 wr _ _) rfl (by simp [Value.oneCell']) (by omega) (by simp; omega) ?_); intro g cap w1 hown1 hgrow _ _; have hb1 := below_app ((hb.alloc hsz _).alloc (by simp; omega) _) ((hown.alloc _).alloc _) (Nat.le_refl _) (by simp; omega) hgrow; clear hgrow))
                go_roundw
                case rel => exact ⟨j, l ++ [⟨2, s.extract k j, k⟩], by omega, rfl, by simp; omega, by rw [wcells_snoc, List.length_append]; exact hown1, hb1, HL2⟩
                case measure => simp [intOf]; omega
          · have HN := Lib.hid hN
            have HL2 : Hid (Lex s j (l ++ [⟨3, s.extract k j, k⟩]) r) := Lib.hid (by
              have := HL.out.go_word hlt (c := 3) (n := runLen isA (s.data.toList.drop k)) (by rw [HT.out, ← HX.out, hN]; rfl)
              rw [HE.out] at this; exact this)
            clear hN
            by_cases hjl : j < s.size
            · have H5 := Lib.hid (H56.out hjl).1
              have H6 := Lib.hid (H56.out hjl).2
              go_wp2_with (first | (go_at_call 105; refine (digit_b _ _ H5.out _).mono ?_; rintro e w' ⟨rfl, rfl⟩) | (go_at_call 103; refine (letter_b _ _ H6.out _).mono ?_; rintro e w' ⟨rfl, rfl⟩) | (go_at_call 104; refine (isKey_b _ _ HN.out _).mono ?_; rintro e w' ⟨rfl, rfl⟩) | (at_builtin; go_must (refine wpList_app1 elemWord rfl _ _ rfl w.heap.size _ l.length (wcells l) rfl ((hown.alloc _).alloc _) (wr.heap.size + 1) 1 #[.int .i64 3, .string (s.extract k j), .int .i64 k] rfl (heap_alloc_new2 wr _ _) rfl (by simp [Value.oneCell']) (by omega) (by simp; omega) ?_); intro g cap w1 hown1 hgrow _ _; have hb1 := below_app ((hb.alloc hsz _).alloc (by simp; omega) _) ((hown.alloc _).alloc _) (Nat.le_refl _) (by simp; omega) hgrow; clear hgrow))
              go_roundw
              case rel => exact ⟨j, l ++ [⟨3, s.extract k j, k⟩], by omega, rfl, by simp; omega, by rw [wcells_snoc, List.length_append]; exact hown1, hb1, HL2⟩
              case measure => simp [intOf]; omega
            · go_wp2_with (first | (go_at_call 104; refine (isKey_b _ _ HN.out _).mono ?_; rintro e w' ⟨rfl, rfl⟩) | (at_builtin; go_must (refine wpList_app1 elemWord rfl _ _ rfl w.heap.size _ l.length (wcells l) rfl ((hown.alloc _).alloc _) (wr.heap.size + 1) 1 #[.int .i64 3, .string (s.extract k j), .int .i64 k] rfl (heap_alloc_new2 wr _ _) rfl (by simp [Value.oneCell']) (by omega) (by simp; omega) ?_); intro g cap w1 hown1 hgrow _ _; have hb1 := below_app ((hb.alloc hsz _).alloc (by simp; omega) _) ((hown.alloc _).alloc _) (Nat.le_refl _) (by simp; omega) hgrow; clear hgrow))
              go_roundw
              case rel => exact ⟨j, l ++ [⟨3, s.extract k j, k⟩], by omega, rfl, by simp; omega, by rw [wcells_snoc, List.length_append]; exact hown1, hb1, HL2⟩
              case measure => simp [intOf]; omega
    have HD := Lib.hid hD; have HLt := Lib.hid hLt
    obtain ⟨n, hn⟩ : ∃ n, signLen (s.data.toList.drop k) = n := ⟨_, rfl⟩
    have HT := Lib.hid (tok_sign hlt hS hH hD hLt hn)
    have hnl : n ≤ s.size - k := by have := (signLen_le (s.data.toList.drop k)).1; rw [hn, List.length_drop, size_len] at this; exact this
    have HN : Hid (signLen (s.extract k s.size).data.toList = n) := Lib.hid (by
      rw [data_ext, List.take_of_length_le (by rw [List.length_drop, size_len]; omega)]; exact hn)
    have HMr : Hid (MaxLenAt wr) := Lib.hid (HM.out.below hb h2)
    have hx : (s.extract k s.size).size ≤ maxLen := by unfold maxLen; simp; omega
    have HXS := Lib.hid hx
    clear hx hD hLt hS hH hn
    by_cases h0 : n = 0
    · subst h0
      have HR2 := Lib.hid (HL.out.go_bad hlt (by rw [HT.out]; rfl))
      go_wp2_with (first | (go_at_call 105; refine (digit_b _ _ HD.out _).mono ?_; rintro e w' ⟨rfl, rfl⟩) | (go_at_call 103; refine (letter_b _ _ HLt.out _).mono ?_; rintro e w' ⟨rfl, rfl⟩) | (go_at_call 135; refine (sign_n _ _ HN.out HXS.out _ HMr.out).mono ?_; rintro e w' ⟨rfl, rfl⟩))
      go_ret3
      exact ⟨_, by rw [HR2.out]; rfl, by rw [HR2.out]; exact World.ownsRow_nil _ _ _ _, hb⟩
    · have HL2 : Hid (Lex s (k + n) (l ++ [⟨4, s.extract k (k + n), k⟩]) r) := Lib.hid (HL.out.go_word hlt (c := 4) (n := n) (by rw [HT.out, if_neg h0]))
      have h1 : 1 ≤ n := by omega
      have h1' : ((n : Int) == 0) = false := by rw [beq_eq_false_iff_ne]; omega
      clear h0
      go_wp2_with (first | (go_at_call 105; refine (digit_b _ _ HD.out _).mono ?_; rintro e w' ⟨rfl, rfl⟩) | (go_at_call 103; refine (letter_b _ _ HLt.out _).mono ?_; rintro e w' ⟨rfl, rfl⟩) | (go_at_call 135; refine (sign_n _ _ HN.out HXS.out _ HMr.out).mono ?_; rintro e w' ⟨rfl, rfl⟩) | (at_builtin; go_must (refine wpList_app1 elemWord rfl _ _ rfl w.heap.size _ l.length (wcells l) rfl (hown.alloc _) wr.heap.size 1 #[.int .i64 4, .string (s.extract k (k + n)), .int .i64 k] rfl (heap_alloc_new wr _) rfl (by simp [Value.oneCell']) (by omega) (by simp; omega) ?_); intro g cap w1 hown1 hgrow _ _; have hb1 := below_app (hb.alloc hsz _) (hown.alloc _) (Nat.le_refl _) (by simp; omega) hgrow; clear hgrow))
      go_roundw
      case rel => exact ⟨k + n, l ++ [⟨4, s.extract k (k + n), k⟩], by omega, by go_num, by simp; omega, by rw [wcells_snoc, List.length_append]; exact hown1, hb1, HL2⟩
      case measure => simp [intOf]; omega
end Go.Proofs.YtmngofgminlloaaGreatDoor
