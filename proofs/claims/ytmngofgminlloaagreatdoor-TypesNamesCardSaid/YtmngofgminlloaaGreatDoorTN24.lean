/-
  The program's check of expressions: parse.expr answers exF.
  The program's check of statements: parse.stmts answers smsF.
  The program's Check answers unitF.
  The frame of the program's Parse(); what it reads from its result variables.
-/
import Derived.Test.YtmngofgminlloaaGreatDoorTN09
import Derived.Test.YtmngofgminlloaaGreatDoorTN19
import Derived.Outline
import Derived.Deep.DeepCutAuto
import Derived.Test.YtmngofgminlloaaGreatDoorTN12
import Derived.Test.YtmngofgminlloaaGreatDoorTN23
set_option linter.unusedSimpArgs false
set_option linter.unusedVariables false
namespace Go.Proofs.YtmngofgminlloaaGreatDoor
open Go.RowKit Tw

theorem isName_pb (s : ByteArray) (t : Bool) (ht : nameB s = t) (hs : s.size ≤ maxLen) (w : World) : Calls Tryz.prog 49 #[.string s] w fun e w' => e = .returned (.bool t) ∧ w = w' := by
  have h := isName_any s w hs
  rw [show isName s.data.toList = t from ht] at h
  exact h
theorem level_pm (s : ByteArray) (m : Nat) (hm : lv s.data.toList = m) (w : World) : Calls Tryz.prog 162 #[.string s] w fun e w' => e = .returned (.int .i64 m) ∧ w = w' := by
  subst hm; exact level_p s w
def PExF (left : Nat) : Prop :=
  ∀ (li : Int), li = left → ∀ (x : Ex) (A : Option Addr) (c : Nat) (F : Nat → Prop) (w : World), ArgsIn w F (.slice A x.args.length c) x.args → ExZ x →
    Calls Tryz.prog 106 #[.agg #[.int .i64 x.kind, .int .i64 x.n, .string x.text, .slice A x.args.length c, .int .i64 x.pos], .int .i64 li] w fun e w' => e = .returned (.int .i64 (exF x left)) ∧ Below w.heap.size w w'

set_option maxRecDepth 100000 in
set_option maxHeartbeats 8000000 in
theorem pexF_step (left : Nat) (h40 : left ≤ 40) (ih : 1 ≤ left → PExF (left - 1)) : PExF left := by
  intro li hli x A c F w hA hZ
  subst hli
  cases x with | mk k n t xs p =>
  simp only [Ex.kind, Ex.n, Ex.text, Ex.args, Ex.pos] at hA ⊢
  by_cases hl0 : left = 0
  · subst hl0
    have e : exF (.mk k n t xs p) 0 = 2 := by rw [exF]; rfl
    rw [e]; clear hA hZ ih e
    go_enter Tryz.func106, Tryz.ntmps106
    go_wp2_with fail
    go_ret
    exact ⟨rfl, (Below.refl _ _).alloc (Nat.le_refl _) _⟩
  have h1 : 1 ≤ left := by omega
  have hl1 : (1 : Int) ≤ (left : Int) := by omega
  have hzt : t.size ≤ maxLen := hZ.args.1
  have hzl : xs.length ≤ 281474976710656 := hZ.args.2.1
  obtain ⟨bn, hbn⟩ : ∃ b, nameB t = b := ⟨_, rfl⟩
  obtain ⟨m, hm2⟩ : ∃ m, lv t.data.toList = m := ⟨_, rfl⟩
  have HN := Lib.hid hbn; have HM := Lib.hid hm2
  have HA := Lib.hid hA; have HZ := Lib.hid hZ; have IH := Lib.hid (ih h1); have HZT := Lib.hid hzt
  clear hA hZ ih hzt hl0 hbn hm2
  go_enter Tryz.func106, Tryz.ntmps106
  go_upto_block 0 with (fail)
  have HB0 := Lib.hid ((Below.refl w.heap.size w).alloc (Nat.le_refl _) (.cells #[.int .i64 k, .int .i64 n, .string t, .slice A xs.length c, .int .i64 p] 186))
  have HQ := Lib.hid (heap_alloc_new w (.cells #[.int .i64 k, .int .i64 n, .string t, .slice A xs.length c, .int .i64 p] 186))
  generalize w.alloc _ = wa at HB0 HQ ⊢
  go_cut [6] (fun u W => u = .bool (okEx k n t xs.length) ∧ W = wa)
  case first =>
    obtain ⟨⟨c0, c1, c2, c3, c4⟩, -⟩ := facts5 HQ.out
    by_cases ho : k < 1 ∨ 8 < k
    · have HO := Lib.hid (oko (n := n) (t := t) (L := xs.length) ho)
      rcases ho with ho | ho
      all_goals
        go_wp2_with fail
        all_goals try (exfalso; omega)
        all_goals
          go_meet
          case rel => exact ⟨by rw [HO.out], rfl⟩
    obtain rfl | rfl | rfl | rfl | rfl | rfl | rfl | rfl : k = 1 ∨ k = 2 ∨ k = 3 ∨ k = 4 ∨ k = 5 ∨ k = 6 ∨ k = 7 ∨ k = 8 := by omega
    · clear ho
      go_wp2_with fail
      all_goals
        go_meet
        case rel => exact ⟨congrArg Value.bool (by first | rfl | (rw [Bool.eq_iff_iff]; simp [ok1]; all_goals omega)), rfl⟩
    · clear ho
      cases hz0 : (n == 0) with
      | true =>
        go_wp2_with fail
        all_goals
          go_meet
          case rel => exact ⟨congrArg Value.bool (by first | rfl | (rw [Bool.eq_iff_iff]; simp [ok2]; have g0 := beq_iff_eq.1 hz0; all_goals omega)), rfl⟩
      | false =>
        cases hz1 : (n == 1) with
        | true =>
          go_wp2_with fail
          all_goals
            go_meet
            case rel => exact ⟨congrArg Value.bool (by first | rfl | (rw [Bool.eq_iff_iff]; simp [ok2]; have g0 := beq_iff_eq.1 hz1; all_goals omega)), rfl⟩
        | false =>
          go_wp2_with fail
          all_goals
            go_meet
            case rel => exact ⟨congrArg Value.bool (by first | rfl | (rw [Bool.eq_iff_iff]; simp [ok2]; have g0 := beq_eq_false_iff_ne.1 hz0; have g1 := beq_eq_false_iff_ne.1 hz1; all_goals omega)), rfl⟩
    · clear ho
      cases bn with
      | true =>
        go_wp2_with fail
        refine (isName_pb t _ HN.out HZT.out _).mono ?_
        rintro e w7 ⟨rfl, rfl⟩
        go_wp2_with fail
        all_goals
          go_meet
          case rel => exact ⟨congrArg Value.bool (by first | rfl | (rw [Bool.eq_iff_iff]; simp [ok3, HN.out]; all_goals omega)), rfl⟩
      | false =>
        go_wp2_with fail
        refine (isName_pb t _ HN.out HZT.out _).mono ?_
        rintro e w7 ⟨rfl, rfl⟩
        go_wp2_with fail
        all_goals
          go_meet
          case rel => exact ⟨congrArg Value.bool (by first | rfl | (rw [Bool.eq_iff_iff]; simp [ok3, HN.out]; all_goals omega)), rfl⟩
    · clear ho
      go_wp2_with fail
      all_goals
        go_meet
        case rel => exact ⟨congrArg Value.bool (by first | rfl | (rw [Bool.eq_iff_iff]; simp [ok4]; all_goals omega)), rfl⟩
    · clear ho
      go_wp2_with fail
      all_goals
        go_meet
        case rel => exact ⟨congrArg Value.bool (by first | rfl | (rw [Bool.eq_iff_iff]; simp [ok5]; all_goals omega)), rfl⟩
    · clear ho
      cases hz2 : ((xs.length : Int) == 2) with
      | true =>
        go_wp2_with fail
        refine (level_pm t m HM.out _).mono ?_
        rintro e w7 ⟨rfl, rfl⟩
        go_wp2_with fail
        all_goals
          go_meet
          case rel => exact ⟨congrArg Value.bool (by first | rfl | (rw [Bool.eq_iff_iff]; simp [ok6, HM.out]; have g0 := beq_iff_eq.1 hz2; omega)), rfl⟩
      | false =>
        go_wp2_with fail
        all_goals
          go_meet
          case rel => exact ⟨congrArg Value.bool (by first | rfl | (rw [Bool.eq_iff_iff]; simp [ok6, HM.out]; have g0 := beq_eq_false_iff_ne.1 hz2; omega)), rfl⟩
    · clear ho
      cases bn with
      | true =>
        go_wp2_with fail
        refine (isName_pb t _ HN.out HZT.out _).mono ?_
        rintro e w7 ⟨rfl, rfl⟩
        go_wp2_with fail
        all_goals
          go_meet
          case rel => exact ⟨congrArg Value.bool (by first | rfl | (rw [Bool.eq_iff_iff]; simp [ok7, HN.out]; all_goals omega)), rfl⟩
      | false =>
        go_wp2_with fail
        refine (isName_pb t _ HN.out HZT.out _).mono ?_
        rintro e w7 ⟨rfl, rfl⟩
        go_wp2_with fail
        all_goals
          go_meet
          case rel => exact ⟨congrArg Value.bool (by first | rfl | (rw [Bool.eq_iff_iff]; simp [ok7, HN.out]; all_goals omega)), rfl⟩
    · clear ho
      go_wp2_with fail
      all_goals
        go_meet
        case rel => exact ⟨congrArg Value.bool (by first | rfl | (rw [Bool.eq_iff_iff]; simp [ok8]; all_goals omega)), rfl⟩
  case rest =>
    obtain ⟨rfl, hw⟩ := hcut
    subst hw
    clear HN HM HZT
    obtain ⟨ok, hok⟩ : ∃ b, okEx k n t xs.length = b := ⟨_, rfl⟩
    have HO := Lib.hid hok
    rw [hok]
    clear hok
    obtain ⟨⟨c0, c1, c2, c3, c4⟩, -⟩ := facts5 HQ.out
    cases ok with
    | false =>
      go_wp2_with fail
      go_ret
      exact ⟨by rw [exF, headF_3 h1 HO.out]; rfl, HB0.out⟩
    | true =>
      by_cases hb : 6 < xs.length ∨ (k = 8 ∧ 15 < n)
      · have HH := Lib.hid (headF_2 h1 HO.out hb)
        by_cases h6 : 6 < xs.length
        · have h6' : (6 : Int) < (xs.length : Int) := by omega
          clear hb h6
          go_wp2_with fail
          go_ret
          exact ⟨by rw [exF, HH.out]; rfl, HB0.out⟩
        · obtain ⟨rfl, h15⟩ := hb.resolve_left h6
          have h6' : (xs.length : Int) ≤ 6 := by omega
          clear hb h6
          go_wp2_with fail
          go_ret
          exact ⟨by rw [exF, HH.out]; rfl, HB0.out⟩
      · have HH := Lib.hid (headF_0 h1 HO.out hb)
        have h6' : (xs.length : Int) ≤ 6 := by omega
        have HB8 : Hid (¬ (k = 8 ∧ 15 < n)) := Lib.hid (fun e => hb (.inr e))
        clear hb
        go_upto_region 23 with (fail)
        go_cut [92] (fun u W => u = .bool false ∧ W = wc)
        case first =>
          by_cases h8 : k = 8
          · subst h8
            have h15 : n ≤ 15 := by have := HB8.out; omega
            go_wp2_with fail
            go_meet
            case rel => exact ⟨congrArg Value.bool (by rw [Bool.or_eq_false_iff]; constructor <;> exact decide_eq_false (by omega)), rfl⟩
          · have e8 : (k == 8) = false := beq_eq_false_iff_ne.2 h8
            clear h8
            go_wp2_with fail
            go_meet
            case rel => exact ⟨congrArg Value.bool (decide_eq_false (by omega)), rfl⟩
        case rest =>
          obtain ⟨rfl, hw⟩ := hcut
          subst hw
          obtain ⟨⟨c0', c1', c2', c3', c4'⟩, -⟩ := facts5 HQ.out
          clear c0 c1 c2 c3 c4
          go_wp2_with fail
          clear c0' c1' c2' c3' c4'
          go_loopw [96] (fun i wr => ∃ j : Nat, j ≤ xs.length ∧ i = .int .i64 j ∧ Hid (exsF (xs.take j) (left - 1) = 0) ∧ Hid (Below w.heap.size w wr)) (fun i _ => xs.length - (intOf i).toNat)
          case atStart => exact ⟨0, Nat.zero_le _, rfl, Lib.hid (by rw [List.take_zero, exsF]), HB0⟩
          case round =>
            obtain ⟨j, hj, rfl, HE, HB⟩ := hrel
            by_cases hlt : j < xs.length
            · obtain ⟨y, hy⟩ : ∃ y, xs[j]? = some y := ⟨_, List.getElem?_eq_getElem hlt⟩
              obtain ⟨g, off, A', c', rfl, hFg, hg, hka, q0, q1, q2, q3, q4⟩ := HA.out.at j y hy
              have b0 := (HB.out.cell (p := ⟨g, off + j * 5, none⟩) hg).trans q0
              have b1 := (HB.out.cell (p := ⟨g, off + j * 5 + 1, none⟩) hg).trans q1
              have b2 := (HB.out.cell (p := ⟨g, off + j * 5 + 2, none⟩) hg).trans q2
              have b3 := (HB.out.cell (p := ⟨g, off + j * 5 + 3, none⟩) hg).trans q3
              have b4 := (HB.out.cell (p := ⟨g, off + j * 5 + 4, none⟩) hg).trans q4
              have HY := Lib.hid hy; have HKA := Lib.hid hka
              have HZY := Lib.hid (HZ.out.args.2.2 y (List.mem_of_getElem? hy))
              clear hy hka q0 q1 q2 q3 q4 hFg
              have k0 : (0 : Int) ≤ (j : Int) := by omega
              have k1 : (j : Int) < (xs.length : Int) := by omega
              go_wp2_with fail
              clear b0 b1 b2 b3 b4
              have HBa := Lib.hid (HB.out.alloc HB.out.size (.cells #[.int .i64 y.kind, .int .i64 y.n, .string y.text, .slice A' y.args.length c', .int .i64 y.pos] 186))
              refine (IH.out _ (by omega) y A' c' F _ (HKA.out.keep (F' := F) (fun q h1 h2 => ⟨h1, Nat.lt_of_lt_of_le h2 HBa.out.size, HBa.out.block q h2⟩)) HZY.out).mono ?_
              rintro e w8 ⟨rfl, hb8⟩
              have HB8 := Lib.hid (HBa.out.trans (hb8.mono HBa.out.size))
              clear hb8 HBa
              obtain ⟨z, hz⟩ : ∃ z, exF y (left - 1) = z := ⟨_, rfl⟩
              rw [hz]
              have HZ2 := Lib.hid hz
              clear hz
              by_cases hz0 : z = 0
              · subst hz0
                go_wp2_with fail
                go_roundw
                case rel => exact ⟨j + 1, by omega, by go_num, Lib.hid (exsF_snoc HY.out HE.out HZ2.out), HB8⟩
                case measure => simp [intOf]; omega
              · have e0 : (z != 0) = true := by simpa using hz0
                have HZ0 := Lib.hid hz0; clear hz0
                go_wp2_with fail
                go_ret
                exact ⟨by rw [exF, HH.out]; exact congrArg (fun q => Ending.returned (Value.int .i64 q)) (by rw [exsF_hit HY.out HE.out (by rw [HZ2.out]; exact HZ0.out), HZ2.out]), HB8.out⟩
            · have hje : j = xs.length := by omega
              have HF : Hid (exsF xs (left - 1) = 0) := Lib.hid (by have := HE.out; rw [hje, List.take_length] at this; exact this)
              clear hje
              go_wp2_with fail
              go_ret
              exact ⟨by rw [exF, HH.out]; exact congrArg (fun q => Ending.returned (Value.int .i64 q)) HF.out.symm, HB.out⟩
theorem pexF_r : ∀ left, left ≤ 40 → PExF left := by
  intro left
  induction left with
  | zero => exact fun h => pexF_step 0 h (fun e => by omega)
  | succ left ih => exact fun h => pexF_step (left + 1) h (fun _ => ih (by omega))
end Go.Proofs.YtmngofgminlloaaGreatDoor

namespace Go.Proofs.YtmngofgminlloaaGreatDoor
open Go.RowKit Tw

def PSmsF (left : Nat) : Prop :=
  ∀ (li : Int), li = left → ∀ (l : List Sm) (A : Option Addr) (c : Nat) (F : Nat → Prop) (w : World), StmtsIn w F (.slice A l.length c) l → (∀ s ∈ l, SmZ s) → l.length ≤ 281474976710656 →
    Calls Tryz.prog 50 #[.slice A l.length c, .int .i64 li] w fun e w' => e = .returned (.int .i64 (smsF l left)) ∧ Below w.heap.size w w'

set_option maxRecDepth 100000 in
set_option maxHeartbeats 16000000 in
theorem psmsF_step (left : Nat) (h40 : left ≤ 40) (ih : 1 ≤ left → PSmsF (left - 1)) : PSmsF left := by
  intro li hli l A c F w hA hZ hlen
  subst hli
  have HA := Lib.hid hA; have HZ := Lib.hid hZ; have IH := Lib.hid ih
  clear hA hZ ih
  go_enter Tryz.func50, Tryz.ntmps50
  go_wp2_with fail
  go_loopw [12] (fun i wr => ∃ j : Nat, j ≤ l.length ∧ i = .int .i64 j ∧ Hid (smsF (l.take j) left = 0) ∧ Hid (Below w.heap.size w wr)) (fun i _ => l.length - (intOf i).toNat)
  case atStart => exact ⟨0, Nat.zero_le _, rfl, Lib.hid (by rw [List.take_zero, smsF]), Lib.hid (Below.refl _ _)⟩
  case round =>
    obtain ⟨j, hj, rfl, HE, HB⟩ := hrel
    by_cases hlt : j < l.length
    · obtain ⟨s, hs⟩ : ∃ s, l[j]? = some s := ⟨_, List.getElem?_eq_getElem hlt⟩
      obtain ⟨g, off, Aa, ca, Ab, cb, Ae, ce, rfl, -, hg, hka, hkb, hke, hc⟩ := HA.out.at j s hs
      have b0 := (HB.out.cell (p := ⟨g, off + j * 10, none⟩) hg).trans (hc 0 _ rfl)
      have b1 := (HB.out.cell (p := ⟨g, off + j * 10 + 1, none⟩) hg).trans (hc 1 _ rfl)
      have b2 := (HB.out.cell (p := ⟨g, off + j * 10 + 2, none⟩) hg).trans (hc 2 _ rfl)
      have b3 := (HB.out.cell (p := ⟨g, off + j * 10 + 3, none⟩) hg).trans (hc 3 _ rfl)
      have b4 := (HB.out.cell (p := ⟨g, off + j * 10 + 4, none⟩) hg).trans (hc 4 _ rfl)
      have b5 := (HB.out.cell (p := ⟨g, off + j * 10 + 5, none⟩) hg).trans (hc 5 _ rfl)
      have b6 := (HB.out.cell (p := ⟨g, off + j * 10 + 6, none⟩) hg).trans (hc 6 _ rfl)
      have b7 := (HB.out.cell (p := ⟨g, off + j * 10 + 7, none⟩) hg).trans (hc 7 _ rfl)
      have b8 := (HB.out.cell (p := ⟨g, off + j * 10 + 8, none⟩) hg).trans (hc 8 _ rfl)
      have b9 := (HB.out.cell (p := ⟨g, off + j * 10 + 9, none⟩) hg).trans (hc 9 _ rfl)
      have hin : s ∈ l := List.mem_of_getElem? hs
      have HS := Lib.hid hs; have HKA := Lib.hid hka; have HKB := Lib.hid hkb; have HKE := Lib.hid hke; have HZS := Lib.hid (HZ.out s hin)
      clear hs hka hkb hke hc hin
      have k0 : (0 : Int) ≤ (j : Int) := by omega
      have k1 : (j : Int) < (l.length : Int) := by omega
      by_cases hl0 : left = 0
      · subst hl0
        go_wp2_with fail
        go_ret
        have e : smF s 0 = 2 := by cases s with | mk => rw [smF]; rfl
        exact ⟨by rw [smsF_hit HS.out HE.out (by rw [e]; decide), e]; rfl, HB.out.alloc HB.out.size _⟩
      · have hl1 : 1 ≤ left := by omega
        have hl2 : (1 : Int) ≤ (left : Int) := by omega
        go_upto_region 6 with (fail)
        clear b0 b1 b2 b3 b4 b5 b6 b7 b8 b9
        have HBa := Lib.hid (HB.out.alloc HB.out.size (.cells #[.int .i64 s.kind, .string s.name, .int .i64 s.a.kind, .int .i64 s.a.n, .string s.a.text, .slice Aa s.a.args.length ca, .int .i64 s.a.pos, .slice Ab s.body.length cb, .slice Ae s.els.length ce, .int .i64 s.pos] 188))
        have HQ := Lib.hid (heap_alloc_new wr (.cells #[.int .i64 s.kind, .string s.name, .int .i64 s.a.kind, .int .i64 s.a.n, .string s.a.text, .slice Aa s.a.args.length ca, .int .i64 s.a.pos, .slice Ab s.body.length cb, .slice Ae s.els.length ce, .int .i64 s.pos] 188))
        generalize wr.alloc _ = wa at HBa HQ ⊢
        have hb6 := lt_of_some HQ.out
        generalize wr.heap.size = b6 at HQ hb6 ⊢
        obtain ⟨bn, hbn⟩ : ∃ b, nameB s.name = b := ⟨_, rfl⟩
        have HN := Lib.hid hbn
        have HZN := Lib.hid HZS.out.parts.1
        obtain ⟨kd, hkd⟩ : ∃ k, s.kind = k := ⟨_, rfl⟩
        rw [hkd] at HQ
        have HKD := Lib.hid hkd
        clear hbn hkd
        obtain ⟨bad, hbd⟩ : ∃ b, (decide (kd < 1) || (decide (7 < kd) || (decide (kd ≤ 2) && !bn))) = b := ⟨_, rfl⟩
        have HBD := Lib.hid hbd; clear hbd
        go_cut [41] (fun u W => u = .bool bad ∧ W = wa)
        case first =>
          obtain ⟨⟨c0, c1, -⟩, -⟩ := facts10 HQ.out
          by_cases q1 : kd < 1
          · have HV : Hid (bad = true) := Lib.hid (by rw [← HBD.out]; simp [q1])
            go_wp2_with fail
            go_meet
            case rel => exact ⟨by rw [HV.out], rfl⟩
          by_cases q7 : 7 < kd
          · have HV : Hid (bad = true) := Lib.hid (by rw [← HBD.out]; simp [q7])
            have q1' : 1 ≤ kd := by omega
            clear q1
            go_wp2_with fail
            go_meet
            case rel => exact ⟨by rw [HV.out], rfl⟩
          have q1' : 1 ≤ kd := by omega
          have q7' : kd ≤ 7 := by omega
          by_cases q2 : kd ≤ 2
          · have HV : Hid (bad = !bn) := Lib.hid (by rw [← HBD.out]; simp [q1, q7, q2])
            clear q1 q7
            cases e1 : (kd == 1) with
            | true =>
              go_wp2_with fail
              refine (isName_pb s.name bn HN.out HZN.out _).mono ?_
              rintro e w7 ⟨rfl, rfl⟩
              go_wp2_with fail
              all_goals
                go_meet
                case rel => exact ⟨congrArg Value.bool (by rw [HV.out]; simp [show ¬ kd < 1 by omega, show ¬ 7 < kd by omega]), rfl⟩
            | false =>
              have e2 : (kd == 2) = true := beq_iff_eq.2 (by have := beq_eq_false_iff_ne.1 e1; omega)
              go_wp2_with fail
              refine (isName_pb s.name bn HN.out HZN.out _).mono ?_
              rintro e w7 ⟨rfl, rfl⟩
              go_wp2_with fail
              all_goals
                go_meet
                case rel => exact ⟨congrArg Value.bool (by rw [HV.out]; simp [show ¬ kd < 1 by omega, show ¬ 7 < kd by omega]), rfl⟩
          · have HV : Hid (bad = false) := Lib.hid (by rw [← HBD.out]; simp [q1, q7, q2])
            have e1 : (kd == 1) = false := beq_eq_false_iff_ne.2 (by omega)
            have e2 : (kd == 2) = false := beq_eq_false_iff_ne.2 (by omega)
            clear q1 q7 q2
            go_wp2_with fail
            all_goals
              go_meet
              case rel => exact ⟨congrArg Value.bool (by rw [HV.out]; simp [show ¬ kd < 1 by omega, show ¬ 7 < kd by omega]), rfl⟩
        case rest =>
          obtain ⟨rfl, hw⟩ := hcut
          subst hw
          have HP : Hid (bad = true ↔ (s.kind < 1 ∨ 7 < s.kind ∨ (s.kind ≤ 2 ∧ nameB s.name = false))) := Lib.hid (by
            rw [← HBD.out, HKD.out, HN.out]; cases bn <;> simp)
          cases bad with
          | true =>
            have H3 := Lib.hid (smF_3 (s := s) (left := left) hl1 (HP.out.1 rfl))
            go_wp2_with fail
            go_ret
            exact ⟨by rw [smsF_hit HS.out HE.out (by rw [H3.out]; decide), H3.out]; rfl, HBa.out⟩
          | false =>
            have HOK : Hid (¬ (s.kind < 1 ∨ 7 < s.kind ∨ (s.kind ≤ 2 ∧ nameB s.name = false))) := Lib.hid (fun e => absurd (HP.out.2 e) (by decide))
            clear HP HBD HN HZN
            obtain ⟨⟨c0, c1, c2, c3, c4', c5, c6, c7, c8, c9⟩, -⟩ := facts10 HQ.out
            go_wp2_with fail
            clear c0 c1 c2 c3 c4' c5 c6 c7 c8 c9
            refine (pexF_r (left - 1) (by omega) _ (by omega) s.a Aa ca F _ (HKA.out.keep (F' := F) (fun q h1 h2 => ⟨h1, Nat.lt_of_lt_of_le h2 HBa.out.size, HBa.out.block q h2⟩)) HZS.out.parts.2.1).mono ?_
            rintro e w8 ⟨rfl, hb8⟩
            replace HQ := Lib.hid ((hb8.block b6 hb6).trans HQ.out)
            have HB8 := Lib.hid (HBa.out.trans (hb8.mono HBa.out.size))
            clear hb8 HBa
            obtain ⟨z, hz⟩ : ∃ z, exF s.a (left - 1) = z := ⟨_, rfl⟩
            rw [hz]
            have HZ2 := Lib.hid hz
            clear hz
            by_cases hz0 : z = 0
            · subst hz0
              have HR := Lib.hid (smF_b hl1 HOK.out HZ2.out)
              have hb8 := lt_of_some HQ.out
              by_cases hk34 : kd = 3 ∨ kd = 4
              · obtain ⟨zb, hzb⟩ : ∃ z, smsF s.body (left - 1) = z := ⟨_, rfl⟩
                have HZB := Lib.hid hzb; clear hzb
                go_upto_region 11 with (fail)
                go_cut [57] (fun u W => u = .bool true ∧ W = w8)
                case first =>
                  have c0 := (facts10 HQ.out).1.1
                  rcases hk34 with hk | hk
                  all_goals
                    subst hk
                    go_wp2_with fail
                    go_meet
                    case rel => exact ⟨rfl, rfl⟩
                case rest =>
                  obtain ⟨rfl, hw⟩ := hcut
                  subst hw
                  have c7 := (facts10 HQ.out).1.2.2.2.2.2.2.2.1
                  go_wp2_with fail
                  clear c7
                  refine (IH.out hl1 _ (by omega) s.body Ab cb F _ (HKB.out.keep (F' := F) (fun q h1 h2 => ⟨h1, Nat.lt_of_lt_of_le h2 HB8.out.size, HB8.out.block q h2⟩)) HZS.out.parts.2.2.2.2.1 HZS.out.parts.2.2.1).mono ?_
                  rintro e w9 ⟨rfl, hb9⟩
                  replace HQ := Lib.hid ((hb9.block b6 hb8).trans HQ.out)
                  have HB9 := Lib.hid (HB8.out.trans (hb9.mono HB8.out.size))
                  clear hb9 HB8
                  rw [HZB.out]
                  by_cases hzb0 : zb = 0
                  · subst hzb0
                    have HR2 : Hid (smF s left = if s.kind = 3 then smsF s.els (left - 1) else 0) := Lib.hid (by rw [HR.out, if_neg (fun e => e.2 HZB.out)])
                    have hb9 := lt_of_some HQ.out
                    have c0 := (facts10 HQ.out).1.1
                    by_cases hk3 : kd = 3
                    · have HR3 : Hid (smF s left = smsF s.els (left - 1)) := Lib.hid (by rw [HR2.out, if_pos (by rw [HKD.out, hk3])])
                      subst hk3
                      have c8 := (facts10 HQ.out).1.2.2.2.2.2.2.2.2.1
                      go_wp2_with fail
                      clear c0 c8
                      refine (IH.out hl1 _ (by omega) s.els Ae ce F _ (HKE.out.keep (F' := F) (fun q h1 h2 => ⟨h1, Nat.lt_of_lt_of_le h2 HB9.out.size, HB9.out.block q h2⟩)) HZS.out.parts.2.2.2.2.2 HZS.out.parts.2.2.2.1).mono ?_
                      rintro e w10 ⟨rfl, hb10⟩
                      have HB10 := Lib.hid (HB9.out.trans (hb10.mono HB9.out.size))
                      clear hb10
                      obtain ⟨ze, hze⟩ : ∃ z, smsF s.els (left - 1) = z := ⟨_, rfl⟩
                      rw [hze]
                      have HZE := Lib.hid (HR3.out.trans hze)
                      clear hze
                      by_cases hze0 : ze = 0
                      · subst hze0
                        go_wp2_with fail
                        go_roundw
                        case rel => exact ⟨j + 1, by omega, by go_num, Lib.hid (smsF_snoc HS.out HE.out HZE.out), HB10⟩
                        case measure => simp [intOf]; omega
                      · have e0 : (ze != 0) = true := by simpa using hze0
                        have HZ0 := Lib.hid hze0; clear hze0
                        go_wp2_with fail
                        go_ret
                        exact ⟨by rw [smsF_hit HS.out HE.out (by rw [HZE.out]; exact HZ0.out), HZE.out]; rfl, HB10.out⟩
                    · have HR3 : Hid (smF s left = 0) := Lib.hid (by rw [HR2.out, if_neg (by rw [HKD.out]; exact hk3)])
                      have e3 : (kd == 3) = false := beq_eq_false_iff_ne.2 hk3
                      clear hk3
                      go_wp2_with fail
                      go_roundw
                      case rel => exact ⟨j + 1, by omega, by go_num, Lib.hid (smsF_snoc HS.out HE.out HR3.out), HB9⟩
                      case measure => simp [intOf]; omega
                  · have HR2 : Hid (smF s left = zb) := Lib.hid (by rw [HR.out, if_pos ⟨by rw [HKD.out]; exact hk34, by rw [HZB.out]; exact hzb0⟩, HZB.out])
                    have e0 : (zb != 0) = true := by simpa using hzb0
                    have HZ0 := Lib.hid hzb0; clear hzb0 hk34
                    go_wp2_with fail
                    go_ret
                    exact ⟨by rw [smsF_hit HS.out HE.out (by rw [HR2.out]; exact HZ0.out), HR2.out]; rfl, HB9.out⟩
              · have HR2 : Hid (smF s left = 0) := Lib.hid (by rw [HR.out, if_neg (fun e => hk34 (by rw [← HKD.out]; exact e.1)), if_neg (fun e => hk34 (.inl (by rw [← HKD.out]; exact e)))])
                have e3 : (kd == 3) = false := beq_eq_false_iff_ne.2 (by omega)
                have e4 : (kd == 4) = false := beq_eq_false_iff_ne.2 (by omega)
                clear hk34
                have c0 := (facts10 HQ.out).1.1
                go_wp2_with fail
                go_roundw
                case rel => exact ⟨j + 1, by omega, by go_num, Lib.hid (smsF_snoc HS.out HE.out HR2.out), HB8⟩
                case measure => simp [intOf]; omega
            · have HR2 := Lib.hid (smF_a (s := s) hl1 HOK.out hz0 HZ2.out)
              have e0 : (z != 0) = true := by simpa using hz0
              have HZ0 := Lib.hid hz0; clear hz0
              go_wp2_with fail
              go_ret
              exact ⟨by rw [smsF_hit HS.out HE.out (by rw [HR2.out]; exact HZ0.out), HR2.out]; rfl, HB8.out⟩
    · have hje : j = l.length := by omega
      have HF : Hid (smsF l left = 0) := Lib.hid (by have := HE.out; rw [hje, List.take_length] at this; exact this)
      clear hje
      go_wp2_with fail
      go_ret
      exact ⟨by rw [HF.out]; rfl, HB.out⟩
theorem psmsF_r : ∀ left, left ≤ 40 → PSmsF left := by
  intro left
  induction left with
  | zero => exact fun h => psmsF_step 0 h (fun e => by omega)
  | succ left ih => exact fun h => psmsF_step (left + 1) h (fun _ => ih (by omega))
end Go.Proofs.YtmngofgminlloaaGreatDoor

namespace Go.Proofs.YtmngofgminlloaaGreatDoor
open Go.RowKit Tw

theorem okTo_later (f : Fn) (q m : Nat) (h : okTo f q = false) : okTo f (q + m) = false := by
  induction m with
  | zero => exact h
  | succ m ih => exact okTo_no f (q + m) ih
theorem fnF_bad {f : Fn} {q : Nat} (h6 : ¬ 6 < f.names.length) (hq : q ≤ f.names.length) (h : okTo f q = false) : fnF f = 3 := by
  unfold fnF
  rw [if_neg h6, if_pos]
  rw [← okTo_end]
  have := okTo_later f q (f.names.length - q) h
  rwa [show q + (f.names.length - q) = f.names.length by omega] at this
theorem fnF_ok {f : Fn} (h6 : ¬ 6 < f.names.length) (h : okTo f f.names.length = true) : fnF f = smsF f.body 40 := by
  unfold fnF; rw [if_neg h6, if_neg (by rw [← okTo_end, h]; decide)]
theorem okTo_typ (f : Fn) (q : Nat) (n : ByteArray) (t : Int) (hn : f.names[q]? = some n) (ht : f.types[q]? = some t) (h : typB t = false) : okTo f (q + 1) = false := by
  rw [okTo_succ f q n t hn ht, h, Bool.and_false]

set_option maxRecDepth 100000 in
set_option maxHeartbeats 16000000 in
theorem check_c (l : List Fn) (A : Option Addr) (c : Nat) (F : Nat → Prop) (w : World) (hA : FnsIn w F (.slice A l.length c) l) (hZ : ∀ f ∈ l, FnZ f) (hlen : l.length ≤ 281474976710656) :
    Calls Tryz.prog 14 #[.agg #[.slice A l.length c]] w fun e w' => e = .returned (.int .i64 (unitF l)) ∧ Below w.heap.size w w' := by
  have HA := Lib.hid hA; have HZ := Lib.hid hZ
  clear hA hZ
  by_cases h16 : 16 < l.length
  · have h16' : (16 : Int) < (l.length : Int) := by omega
    go_enter Tryz.func14, Tryz.ntmps14
    go_wp2_with fail
    go_ret
    exact ⟨by unfold unitF; rw [if_pos h16]; rfl, (Below.refl _ _).alloc (Nat.le_refl _) _⟩
  have h16' : (l.length : Int) ≤ 16 := by omega
  have hU : Hid (unitF l = fnsF l) := Lib.hid (by unfold unitF; rw [if_neg h16])
  clear h16
  go_enter Tryz.func14, Tryz.ntmps14
  go_wp2_with fail
  go_loopw [15] (fun i wr => ∃ j : Nat, j ≤ l.length ∧ i = .int .i64 j ∧ Hid (fnsF (l.take j) = 0) ∧ Hid (Below w.heap.size w wr)) (fun i _ => l.length - (intOf i).toNat)
  case atStart => exact ⟨0, Nat.zero_le _, rfl, Lib.hid (by rw [List.take_zero, fnsF]), Lib.hid ((Below.refl _ _).alloc (Nat.le_refl _) _)⟩
  case round =>
    obtain ⟨j, hj, rfl, HE, HB⟩ := hrel
    by_cases hlt : j < l.length
    · obtain ⟨f, hf⟩ : ∃ f, l[j]? = some f := ⟨_, List.getElem?_eq_getElem hlt⟩
      obtain ⟨g, off, An, cn, At, ct, Ab, cb, rfl, hg, hkn, hkt, hkb, hc⟩ := HA.out.at j f hf
      have b0 := (HB.out.cell (p := ⟨g, off + j * 6, none⟩) hg).trans (hc 0 _ rfl)
      have b1 := (HB.out.cell (p := ⟨g, off + j * 6 + 1, none⟩) hg).trans (hc 1 _ rfl)
      have b2 := (HB.out.cell (p := ⟨g, off + j * 6 + 2, none⟩) hg).trans (hc 2 _ rfl)
      have b3 := (HB.out.cell (p := ⟨g, off + j * 6 + 3, none⟩) hg).trans (hc 3 _ rfl)
      have b4 := (HB.out.cell (p := ⟨g, off + j * 6 + 4, none⟩) hg).trans (hc 4 _ rfl)
      have b5 := (HB.out.cell (p := ⟨g, off + j * 6 + 5, none⟩) hg).trans (hc 5 _ rfl)
      have hin : f ∈ l := List.mem_of_getElem? hf
      have HS := Lib.hid hf; have HKN := Lib.hid hkn; have HKT := Lib.hid hkt; have HKB := Lib.hid hkb; have HZS := Lib.hid (HZ.out f hin)
      clear hf hkn hkt hkb hc hin
      have k0 : (0 : Int) ≤ (j : Int) := by omega
      have k1 : (j : Int) < (l.length : Int) := by omega
      go_upto_region 6 with (fail)
      clear b0 b1 b2 b3 b4 b5
      have HBa := Lib.hid (HB.out.alloc HB.out.size (.cells #[.string f.name, .slice An f.names.length cn, .slice At f.types.length ct, .int .i64 f.out, .slice Ab f.body.length cb, .int .i64 f.pos] 32))
      have HQ := Lib.hid (heap_alloc_new wr (.cells #[.string f.name, .slice An f.names.length cn, .slice At f.types.length ct, .int .i64 f.out, .slice Ab f.body.length cb, .int .i64 f.pos] 32))
      generalize wr.alloc _ = wa at HBa HQ ⊢
      have hb6 := lt_of_some HQ.out
      generalize wr.heap.size = b6 at HQ hb6 ⊢
      have hnl := HZS.out.nlen; have htl := HZS.out.tlen; have hbl := HZS.out.blen
      obtain ⟨⟨c0, c1, c2, c3, c4, c5⟩, -⟩ := facts6 HQ.out
      by_cases h6 : 6 < f.names.length
      · have h6' : (6 : Int) < (f.names.length : Int) := by omega
        have e : fnF f = 2 := by unfold fnF; rw [if_pos h6]
        have HF := Lib.hid e; clear e h6
        go_wp2_with fail
        go_ret
        exact ⟨by rw [hU.out, fnsF_hit HS.out HE.out (by rw [HF.out]; decide), HF.out]; rfl, HBa.out⟩
      have h6' : (f.names.length : Int) ≤ 6 := by omega
      have H6 := Lib.hid h6; clear h6
      obtain ⟨bn, hbn⟩ : ∃ b, nameB f.name = b := ⟨_, rfl⟩
      have HN := Lib.hid hbn; have HZN := Lib.hid HZS.out.name
      clear hbn
      obtain ⟨ho, hho⟩ : ∃ b, okTo f 0 = b := ⟨_, rfl⟩
      have HO := Lib.hid hho; clear hho
      go_upto_region 8 with (fail)
      go_cut [45] (fun u W => u = .bool (!ho) ∧ W = wa)
      case first =>
        have HX : Hid (ho = (decide (f.names.length = f.types.length) && bn && typB f.out)) := Lib.hid (by rw [← HO.out, okTo_zero, ← HN.out]; rfl)
        by_cases hl : f.names.length = f.types.length
        · have e1 : ((f.names.length : Int) != (f.types.length : Int)) = false := by simp; omega
          have HL := Lib.hid hl; clear hl
          cases bn with
          | false =>
            go_wp2_with fail
            refine (isName_pb f.name false HN.out HZN.out _).mono ?_
            rintro e w7 ⟨rfl, rfl⟩
            go_wp2_with fail
            all_goals
              go_meet
              case rel => exact ⟨congrArg Value.bool (by rw [HX.out]; simp), rfl⟩
          | true =>
            cases et1 : (f.out != 1) with
            | false =>
              go_wp2_with fail
              refine (isName_pb f.name true HN.out HZN.out _).mono ?_
              rintro e w7 ⟨rfl, rfl⟩
              go_wp2_with fail
              all_goals
                go_meet
                case rel => exact ⟨congrArg Value.bool (by rw [HX.out]; have : f.out = 1 := by simpa using et1
                                                           simp [typB, this, HL.out]), rfl⟩
            | true =>
              cases et2 : (f.out != 2) with
              | false =>
                go_wp2_with fail
                refine (isName_pb f.name true HN.out HZN.out _).mono ?_
                rintro e w7 ⟨rfl, rfl⟩
                go_wp2_with fail
                all_goals
                  go_meet
                  case rel => exact ⟨congrArg Value.bool (by rw [HX.out]; have : f.out = 2 := by simpa using et2
                                                             simp [typB, this, HL.out]), rfl⟩
              | true =>
                go_wp2_with fail
                refine (isName_pb f.name true HN.out HZN.out _).mono ?_
                rintro e w7 ⟨rfl, rfl⟩
                go_wp2_with fail
                all_goals
                  go_meet
                  case rel => exact ⟨congrArg Value.bool (by rw [HX.out]; have h1 : ¬ f.out = 1 := by simpa using et1
                                                             have h2 : ¬ f.out = 2 := by simpa using et2
                                                             simp [typB, h1, h2]), rfl⟩
        · have e1 : ((f.names.length : Int) != (f.types.length : Int)) = true := by simp; omega
          have HL := Lib.hid hl; clear hl
          go_wp2_with fail
          all_goals
            go_meet
            case rel => exact ⟨congrArg Value.bool (by rw [HX.out]; simp [HL.out]), rfl⟩
      case rest =>
        obtain ⟨rfl, hw⟩ := hcut
        subst hw
        clear HN HZN
        cases ho with
        | false =>
          have HF := Lib.hid (fnF_bad H6.out (Nat.zero_le _) HO.out)
          go_wp2_with fail
          go_ret
          exact ⟨by rw [hU.out, fnsF_hit HS.out HE.out (by rw [HF.out]; decide), HF.out]; rfl, HBa.out⟩
        | true =>
          have HL : Hid (f.names.length = f.types.length) := Lib.hid (by
            have := HO.out
            rw [okTo_zero] at this
            unfold okHead at this
            simp only [Bool.and_eq_true, decide_eq_true_eq] at this
            exact this.1.1)
          have hltt : (f.types.length : Int) = (f.names.length : Int) := by have := HL.out; omega
          have HLT := Lib.hid hltt; clear hltt
          go_upto_block 2 with (fail)
          go_cut [] (fun W => Hid (okTo f f.names.length = true) ∧ W = wc)
          case first =>
            go_wp2_with fail
            go_loopw [49] (fun i wq => ∃ q : Nat, q ≤ f.names.length ∧ i = .int .i64 q ∧ Hid (okTo f q = true) ∧ wq = wc) (fun i _ => f.names.length - (intOf i).toNat)
            case atStart => exact ⟨0, Nat.zero_le _, rfl, HO, rfl⟩
            case round =>
              clear HO
              obtain ⟨q, hq, rfl, HO, hw⟩ := hrel
              subst hw
              by_cases hlt2 : q < f.names.length
              · obtain ⟨n, hn⟩ : ∃ n, f.names[q]? = some n := ⟨_, List.getElem?_eq_getElem hlt2⟩
                obtain ⟨t, ht⟩ : ∃ t, f.types[q]? = some t := ⟨_, List.getElem?_eq_getElem (by have := HL.out; omega)⟩
                obtain ⟨gn, on, rfl, hgn, hcn⟩ := HKN.out.at q n hn
                obtain ⟨gt, ot, rfl, hgt, hct⟩ := HKT.out.at q t ht
                have kn := (HBa.out.cell (p := ⟨gn, on + q, none⟩) hgn).trans hcn
                have kt := (HBa.out.cell (p := ⟨gt, ot + q, none⟩) hgt).trans hct
                have HNn := Lib.hid hn; have HTt := Lib.hid ht; have HNI := Lib.hid (HZS.out.names n (List.mem_of_getElem? hn))
                clear hcn hct hn ht hgn hgt
                have q0 : (0 : Int) ≤ (q : Int) := by omega
                have q1 : (q : Int) < (f.names.length : Int) := by omega
                have q2 : (q : Int) < (f.types.length : Int) := by have := HLT.out; omega
                obtain ⟨bn, hbn⟩ : ∃ b, nameB n = b := ⟨_, rfl⟩
                have HN := Lib.hid hbn; clear hbn
                cases bn with
                | false =>
                  have HF := Lib.hid (fnF_bad H6.out (q := q + 1) (by omega) (okTo_name f q n HNn.out HN.out))
                  go_wp2_with fail
                  refine (isName_pb n false HN.out HNI.out _).mono ?_
                  rintro e w7 ⟨rfl, rfl⟩
                  go_wp2_with fail
                  go_ret
                  exact ⟨by rw [hU.out, fnsF_hit HS.out HE.out (by rw [HF.out]; decide), HF.out]; rfl, HBa.out⟩
                | true =>
                  cases et1 : (t != 1) with
                  | false =>
                    have HQq : Hid (okTo f (q + 1) = true) := Lib.hid (by
                      have h1 : t = 1 := by simpa using et1
                      rw [okTo_succ f q n t HNn.out HTt.out, HO.out, HN.out]; simp [typB, h1])
                    go_wp2_with fail
                    refine (isName_pb n true HN.out HNI.out _).mono ?_
                    rintro e w7 ⟨rfl, rfl⟩
                    go_wp2_with fail
                    go_roundw
                    case rel => (repeat apply Exists.intro); exact ⟨⟨q + 1, by omega, by go_num, HQq, trivial⟩, rfl⟩
                    case measure => simp [intOf]; omega
                  | true =>
                    cases et2 : (t != 2) with
                    | false =>
                      have HQq : Hid (okTo f (q + 1) = true) := Lib.hid (by
                        have h1 : t = 2 := by simpa using et2
                        rw [okTo_succ f q n t HNn.out HTt.out, HO.out, HN.out]; simp [typB, h1])
                      go_wp2_with fail
                      refine (isName_pb n true HN.out HNI.out _).mono ?_
                      rintro e w7 ⟨rfl, rfl⟩
                      go_wp2_with fail
                      go_roundw
                      case rel => (repeat apply Exists.intro); exact ⟨⟨q + 1, by omega, by go_num, HQq, trivial⟩, rfl⟩
                      case measure => simp [intOf]; omega
                    | true =>
                      have HF := Lib.hid (fnF_bad H6.out (q := q + 1) (by omega) (okTo_typ f q n t HNn.out HTt.out (by
                        have h1 : ¬ t = 1 := by simpa using et1
                        have h2 : ¬ t = 2 := by simpa using et2
                        simp [typB, h1, h2])))
                      go_wp2_with fail
                      refine (isName_pb n true HN.out HNI.out _).mono ?_
                      rintro e w7 ⟨rfl, rfl⟩
                      go_wp2_with fail
                      go_ret
                      exact ⟨by rw [hU.out, fnsF_hit HS.out HE.out (by rw [HF.out]; decide), HF.out]; rfl, HBa.out⟩
              · have hqe : q = f.names.length := by omega
                subst hqe
                go_wp2_with fail
                go_meet
                case rel => exact ⟨HO, rfl⟩
          case rest =>
            clear HO
            obtain ⟨HO, hw⟩ := hcut
            subst hw
            have HF := Lib.hid (fnF_ok H6.out HO.out)
            have c4' : _ := (facts6 HQ.out).1.2.2.2.2.1
            clear c0 c1 c2 c3 c4 c5
            go_wp2_with fail
            clear c4'
            refine (psmsF_r 40 (by decide) 40 rfl f.body Ab cb F _ (HKB.out.keep (F' := F) (fun q h1 h2 => ⟨h1, Nat.lt_of_lt_of_le h2 HBa.out.size, HBa.out.block q h2⟩)) HZS.out.body HZS.out.blen).mono ?_
            rintro e w8 ⟨rfl, hb8⟩
            have HB8 := Lib.hid (HBa.out.trans (hb8.mono HBa.out.size))
            clear hb8
            obtain ⟨z, hz⟩ : ∃ z, smsF f.body 40 = z := ⟨_, rfl⟩
            rw [hz]
            have HZ2 := Lib.hid (HF.out.trans hz)
            clear hz
            by_cases hz0 : z = 0
            · subst hz0
              go_wp2_with fail
              go_roundw
              case rel => exact ⟨j + 1, by omega, by go_num, Lib.hid (fnsF_snoc HS.out HE.out HZ2.out), HB8⟩
              case measure => simp [intOf]; omega
            · have e0 : (z != 0) = true := by simpa using hz0
              have HZ0 := Lib.hid hz0; clear hz0
              go_wp2_with fail
              go_ret
              exact ⟨by rw [hU.out, fnsF_hit HS.out HE.out (by rw [HZ2.out]; exact HZ0.out), HZ2.out]; rfl, HB8.out⟩
    · have hje : j = l.length := by omega
      have HF : Hid (fnsF l = 0) := Lib.hid (by have := HE.out; rw [hje, List.take_length] at this; exact this)
      clear hje
      go_wp2_with fail
      go_ret
      exact ⟨by rw [hU.out, HF.out]; rfl, HB.out⟩
end Go.Proofs.YtmngofgminlloaaGreatDoor

namespace Go.Proofs.YtmngofgminlloaaGreatDoor
open Go.RowKit Tw

theorem results_parse (bu bp be : Nat) (A : Option Addr) (n c : Nat) (p e : Int) (tmps : Array Value) (w : World) (h0 : tmps.getD 2 undef = .pointer (some ⟨bu, 0, none⟩)) (h1 : tmps.getD 3 undef = .pointer (some ⟨bp, 0, none⟩)) (h2 : tmps.getD 4 undef = .pointer (some ⟨be, 0, none⟩))
    (hu : w.heap[bu]? = some (.cells #[.slice A n c] 24 (0, 0))) (hp : w.heap[bp]? = some (.cells #[.int .i64 p] 3 (0, 0))) (he : w.heap[be]? = some (.cells #[.int .i64 e] 25 (0, 0))) :
    (results Tryz.f22 tmps).run Tryz.prog w = .ok (.tuple #[.agg #[.slice A n c], .int .i64 p, .int .i64 e]) w := by
  have h0' : tmps[2]?.getD undef = .pointer (some ⟨bu, 0, none⟩) := by simpa using h0
  have h1' : tmps[3]?.getD undef = .pointer (some ⟨bp, 0, none⟩) := by simpa using h1
  have h2' : tmps[4]?.getD undef = .pointer (some ⟨be, 0, none⟩) := by simpa using h2
  have cu : w.cell? ⟨bu, 0, none⟩ = some (.slice A n c) := Lib.cell_of_heap hu 0
  have cp : w.cell? ⟨bp, 0, none⟩ = some (.int .i64 p) := Lib.cell_of_heap hp 0
  have ce : w.cell? ⟨be, 0, none⟩ = some (.int .i64 e) := Lib.cell_of_heap he 0
  simp [results, Tryz.results22, h0', h1', h2', asAddr, go_sem, cu, cp, ce]

theorem wrow_beside {W W2 : World} {B bu : Nat} {v : Value} {ws : List Wd} {A : Option Addr} {n c T : Nat} (h : WRow W B v ws) (hu : W.heap[bu]? = some (.cells #[.slice A n c] T (0, 0))) (hg : W.grownBy W2 (some bu)) : WRow W2 B v ws := by
  rcases h with ⟨rfl, rfl⟩ | ⟨g, cap, rfl, hgB, hc⟩
  · exact .inl ⟨rfl, rfl⟩
  · refine .inr ⟨g, cap, rfl, hgB, fun j u hj => ?_⟩
    have hju := hc j u hj
    have hlt : g < W.heap.size := by
      rcases Nat.lt_or_ge g W.heap.size with h | h
      · exact h
      · unfold World.cell? at hju; rw [Array.getElem?_eq_none h] at hju; cases hju
    have hne : g ≠ bu := by
      rintro rfl
      cases ws with
      | nil => simp [wcells] at hj
      | cons x ws =>
        have h0 := hc 0 (.int .i64 x.kind) (by simp [wcells, Wd.cells])
        have h1 := Lib.cell_of_heap hu 0
        rw [h0] at h1
        simp at h1
    exact (World.cell?_of_block (a := ⟨g, j, none⟩) (hg.block g hlt (by simp; exact hne))).trans hju

structure FrW (w W : World) (rb bu bp be base : Nat) (v : Value) (ws : List Wd) (i en : Nat) (A : Option Addr) (c : Nat) (l : List (Fn × Value × Value × Value)) (p e : Int) : Prop where
  rd : Rq W rb v ws i en
  un : W.heap[bu]? = some (.cells #[.slice A l.length c] 24 (0, 0))
  pp : W.heap[bp]? = some (.cells #[.int .i64 p] 3 (0, 0))
  ee : W.heap[be]? = some (.cells #[.int .i64 e] 25 (0, 0))
  row : GRow fnElem W base 32 6 (.slice A l.length c) l
  bel : Below w.heap.size w W
  gl : Glob W
  r0 : 10 < rb
  gb : 10 < bu
  z0 : w.heap.size ≤ bu
  z1 : bu < bp
  z2 : bp < be
  z3 : be < rb
  z4 : rb < base
  z5 : base ≤ W.heap.size
section
variable {w W W' : World} {rb bu bp be base : Nat} {v : Value} {ws : List Wd} {i en : Nat} {A : Option Addr} {c : Nat} {l : List (Fn × Value × Value × Value)} {p e : Int}
theorem FrW.step {i' : Nat} (h : FrW w W rb bu bp be base v ws i en A c l p e) (hr : Rq W' rb v ws i' en) (hg : W.grownBy W' (some rb)) : FrW w W' rb bu bp be base v ws i' en A c l p e := by
  have h0 := h.z0; have h1 := h.z1; have h2 := h.z2; have h3 := h.z3; have h4 := h.z4; have h5 := h.z5
  exact ⟨hr, (hg.block bu (by omega) (by simp; omega)).trans h.un, (hg.block bp (by omega) (by simp; omega)).trans h.pp, (hg.block be (by omega) (by simp; omega)).trans h.ee, h.row.kept hg (fun k e => .inl (by cases e; omega)), below_grown h.bel hg (by omega) (by have := h.bel.size; omega), h.gl.of hg h.r0, h.r0, h.gb, h0, h1, h2, h3, h4, Nat.le_trans h5 hg.size⟩
theorem FrW.below (h : FrW w W rb bu bp be base v ws i en A c l p e) (hb : Below W.heap.size W W') : FrW w W' rb bu bp be base v ws i en A c l p e := h.step (h.rd.keep hb) (grown_of_below hb _)
theorem FrW.keepBad (h : FrW w W rb bu bp be base v ws i en A c l p e) (hg : W.grownBy W' (some rb)) : W'.heap[bu]? = some (.cells #[.slice A l.length c] 24 (0, 0)) ∧ W'.heap[bp]? = some (.cells #[.int .i64 p] 3 (0, 0)) ∧ W'.heap[be]? = some (.cells #[.int .i64 e] 25 (0, 0)) ∧ Below w.heap.size w W' := by
  have h0 := h.z0; have h1 := h.z1; have h2 := h.z2; have h3 := h.z3; have h4 := h.z4; have h5 := h.z5
  exact ⟨(hg.block bu (by omega) (by simp; omega)).trans h.un, (hg.block bp (by omega) (by simp; omega)).trans h.pp, (hg.block be (by omega) (by simp; omega)).trans h.ee, below_grown h.bel hg (by omega) (by have := h.bel.size; omega)⟩
theorem FrW.app_un {o : Obj} (h : FrW w W rb bu bp be base v ws i en A c l p e) (hg : (W.alloc o).grownBy W' (Value.slice A l.length c).ownBlock) : W'.heap[bu]? = some (.cells #[.slice A l.length c] 24 (0, 0)) := by
  have h1 := h.z1; have h2 := h.z2; have h3 := h.z3; have h4 := h.z4; have h5 := h.z5
  exact (hg.block bu (by simp; omega) (fun e => by have := (h.row.1.lt bu e.symm).1; omega)).trans ((heap_alloc_old W o (by omega)).trans h.un)
/-- One function more. -/
theorem FrW.app {a : Fn × Value × Value × Value} {F0 : Nat → Prop} {o : Obj} {g cap k0 : Nat}
    (h : FrW w W rb bu bp be base v ws i en A c l p e) (ha : fnElem.kid W F0 a) (hF0 : ∀ g, F0 g → base ≤ g ∧ (Value.slice A l.length c).ownBlock ≠ some g)
    (ho : W'.ownsRow base 32 6 (.slice (some ⟨g, 0, none⟩) (l.length + 1) cap) (l.length + 1) (l.flatMap fnElem.cells ++ fnElem.cells a)) (hg : (W.alloc o).grownBy W' (Value.slice A l.length c).ownBlock) (hat : (Value.slice A l.length c).ownBlock = some g ∨ g = (W.alloc o).heap.size) (hk0 : k0 = l.length + 1) :
    FrW w (W'.setCell ⟨bu, 0, none⟩ (.slice (some ⟨g, 0, none⟩) k0 cap)) rb bu bp be base v ws i en (some ⟨g, 0, none⟩) cap (l ++ [a]) p e := by
  subst hk0
  have h0 := h.z0; have h1 := h.z1; have h2 := h.z2; have h3 := h.z3; have h4 := h.z4; have h5 := h.z5; have hs0 := h.bel.size
  have hb : Below W.heap.size W (W.alloc o) := (Below.refl _ _).alloc (Nat.le_refl _) _
  have hA := h.step (h.rd.keep hb) (grown_of_below hb _)
  have hlt := h.row.1.lt
  have hrow : ∀ k, (Value.slice A l.length c).ownBlock = some k → base ≤ k := fun k e => (hlt k e).1
  have hk : fnElem.kid (W.alloc o) F0 a := fnElem.keep (fun q q1 q2 => ⟨q1, by simp; omega, heap_alloc_old W o q2⟩) ha
  have hr : GRow fnElem W' base 32 6 (.slice (some ⟨g, 0, none⟩) (l.length + 1) cap) (l ++ [a]) := GRow.app hA.row hk hF0 ho hg hat
  have hset := grown_set W' bu 0 (.slice (some ⟨g, 0, none⟩) (l.length + 1) cap)
  have e1 : (l ++ [a]).length = l.length + 1 := by simp
  have hz := hb.size
  have hz2 := hg.size
  have hz3 : (W.alloc o).heap.size = W.heap.size + 1 := by simp
  have hrd : Rq W' rb v ws i en := rq_app hA.rd hg (fun k e => by have := hrow k e; omega)
  have hbe : Below w.heap.size w W' := ⟨hg.os.trans hA.bel.os, hg.tape.trans hA.bel.tape, hg.output.trans hA.bel.output, Nat.le_trans hA.bel.size hg.size, fun k hk => (hg.block k (by omega) (fun e => by have := hrow k e.symm; omega)).trans (hA.bel.block k hk)⟩
  have keep : ∀ k, k < base → k ≠ bu → (W'.setCell ⟨bu, 0, none⟩ (.slice (some ⟨g, 0, none⟩) (l.length + 1) cap)).heap[k]? = (W.alloc o).heap[k]? := fun k q1 q2 =>
    (hset.block k (by omega) (by simp; omega)).trans (hg.block k (by omega) (fun e => by have := hrow k e.symm; omega))
  refine ⟨⟨(hset.block rb hrd.lt (by simp; omega)).trans hrd.blk, ?_, hrd.len, hrd.pos⟩, by rw [e1]; simpa using heap_setCell_same W' bu 0 _ _ (.slice (some ⟨g, 0, none⟩) (l.length + 1) cap) (h.app_un hg),
    (keep bp (by omega) (by omega)).trans hA.pp, (keep be (by omega) (by omega)).trans hA.ee,
    by rw [e1]; exact hr.kept hset (fun k e => .inl (by cases e; omega)), below_set hbe (by omega) _ _,
    (hA.gl.same hg.size (fun q hq => hg.block q (by have := h.r0; omega) (fun e => by have := hrow q e.symm; have := h.r0; omega))).same hset.size (fun q hq => ?_),
    h.r0, h.gb, h0, h1, h2, h3, h4, Nat.le_trans h5 (Nat.le_trans hz (Nat.le_trans hg.size hset.size))⟩
  · exact wrow_beside hrd.row (h.app_un hg) hset
  · exact hset.block q (by have := h.r0; omega) (by simp; have hbig := h.z0; have := h.gb; omega)
end
end Go.Proofs.YtmngofgminlloaaGreatDoor
