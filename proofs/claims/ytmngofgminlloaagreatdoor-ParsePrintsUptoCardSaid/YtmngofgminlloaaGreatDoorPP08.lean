/-
  The reference's SameExpr: true of expressions that are the same in what their kinds use.
  The reference's SameStmts: true of statements that are the same in what their kinds use.
  The reference's SameStmts and its comparing function, of statements that are the same in what their kinds use.
  The reference's SameUnit: true of scripts that are the same in what their kinds use.
  The text that the law ParseTells tries first is a script of one function, in plain Lean.
  Script's answer is one thing; there is an answer; the law's first text.
-/
import Derived.Test.YtmngofgminlloaaGreatDoorTT11
import Derived.Test.YtmngofgminlloaaGreatDoorPP01
import Derived.Outline
import Derived.Deep.DeepCutAuto
import Derived.Test.YtmngofgminlloaaGreatDoorTT14
import Derived.Test.YtmngofgminlloaaGreatDoorShelf
import Derived.Test.YtmngofgminlloaaGreatDoorTT07
import Derived.Test.YtmngofgminlloaaGreatDoorPP03
import Derived.Test.YtmngofgminlloaaGreatDoorPP07
set_option linter.all false
namespace Go.Proofs.YtmngofgminlloaaGreatDoor
open Go.RowKit Tw

set_option maxRecDepth 100000 in
set_option maxHeartbeats 8000000 in
theorem same_e (q : Bool) (a b : Ex) (h : SameE q a b) : ∀ (A A' : Option Addr) (c c' : Nat) (F F' : Nat → Prop) (w : World), ArgsIn w F (.slice A a.args.length c) a.args → ArgsIn w F' (.slice A' b.args.length c') b.args → ExZ a →
    Calls Tryz.prog 111 #[.agg #[.int .i64 a.kind, .int .i64 a.n, .string a.text, .slice A a.args.length c, .int .i64 a.pos], .agg #[.int .i64 b.kind, .int .i64 b.n, .string b.text, .slice A' b.args.length c', .int .i64 b.pos], .bool q] w fun e w' => e = .returned (.bool true) ∧ Below w.heap.size w w' := by
  induction h with
  | @mk a b hk hp hl hn ht hr ih =>
  intro A A' c c' F F' w hA hB hZ
  cases a with | mk k n t xs p =>
  cases b with | mk k' n' t' ys p' =>
  simp only [Ex.kind, Ex.n, Ex.text, Ex.args, Ex.pos] at hk hp hl hn ht hA hB ⊢
  subst hk
  have hzl : xs.length ≤ 281474976710656 := hZ.args.2.1
  have hy : ys.length ≤ 281474976710656 := by omega
  rw [← hl] at hB ⊢
  have HA := Lib.hid hA; have HB := Lib.hid hB; have HZ := Lib.hid hZ; have HL := Lib.hid hl
  have HN := Lib.hid hn; have HT := Lib.hid ht; have HP := Lib.hid hp; have IH := Lib.hid ih
  clear hA hB hZ hl hn ht hp hr ih hy
  go_enter Tryz.func111, Tryz.ntmps111
  go_upto_region 1 with (fail)
  have HB0 := Lib.hid (((Below.refl w.heap.size w).alloc (Nat.le_refl _) (.cells #[.int .i64 k, .int .i64 n, .string t, .slice A xs.length c, .int .i64 p] 186)).alloc (by simp) (.cells #[.int .i64 k, .int .i64 n', .string t', .slice A' xs.length c', .int .i64 p'] 186))
  have HQ1 : Hid (((w.alloc (.cells #[.int .i64 k, .int .i64 n, .string t, .slice A xs.length c, .int .i64 p] 186)).alloc (.cells #[.int .i64 k, .int .i64 n', .string t', .slice A' xs.length c', .int .i64 p'] 186)).heap[w.heap.size]? = some (.cells #[.int .i64 k, .int .i64 n, .string t, .slice A xs.length c, .int .i64 p] 186 (0, 0))) :=
    Lib.hid ((heap_alloc_old _ _ (by simp)).trans (heap_alloc_new w _))
  have HQ2 : Hid (((w.alloc (.cells #[.int .i64 k, .int .i64 n, .string t, .slice A xs.length c, .int .i64 p] 186)).alloc (.cells #[.int .i64 k, .int .i64 n', .string t', .slice A' xs.length c', .int .i64 p'] 186)).heap[w.heap.size + 1]? = some (.cells #[.int .i64 k, .int .i64 n', .string t', .slice A' xs.length c', .int .i64 p'] 186 (0, 0))) :=
    Lib.hid (by simpa using heap_alloc_new (w.alloc (.cells #[.int .i64 k, .int .i64 n, .string t, .slice A xs.length c, .int .i64 p] 186)) (.cells #[.int .i64 k, .int .i64 n', .string t', .slice A' xs.length c', .int .i64 p'] 186))
  generalize (w.alloc _).alloc _ = wa at HB0 HQ1 HQ2 ⊢
  have hs1 := lt_of_some HQ2.out
  generalize hn2 : w.heap.size + 1 = n2 at HQ2 hs1 ⊢
  have HN2 := Lib.hid hn2; clear hn2
  go_cut [31] (fun u W => u = .bool false ∧ W = wa)
  case first =>
    obtain ⟨⟨c0, c1, c2, c3, c4⟩, -⟩ := facts5 HQ1.out
    obtain ⟨⟨d0, d1, d2, d3, d4⟩, -⟩ := facts5 HQ2.out
    cases q with
    | true =>
      obtain rfl := HP.out rfl
      go_wp2_with fail
      go_meet
      case rel => exact ⟨rfl, rfl⟩
    | false =>
      go_wp2_with fail
      go_meet
      case rel => exact ⟨rfl, rfl⟩
  case rest =>
    obtain ⟨rfl, rfl⟩ := hcut
    clear HP
    obtain ⟨⟨c0, c1, c2, c3, c4⟩, -⟩ := facts5 HQ1.out
    go_upto_block 0 with (fail)
    go_cut [] (fun W => W = wc)
    case first =>
      obtain ⟨⟨d0, d1, d2, d3, d4⟩, -⟩ := facts5 HQ2.out
      by_cases h1 : k = 1
      · subst h1; obtain rfl := HN.out (by simp)
        go_wp2_with fail
        go_meet
        case rel => rfl
      by_cases h2 : k = 2
      · subst h2; obtain rfl := HN.out (by simp)
        go_wp2_with fail
        go_meet
        case rel => rfl
      by_cases h8 : k = 8
      · subst h8; obtain rfl := HN.out (by simp)
        go_wp2_with fail
        go_meet
        case rel => rfl
      by_cases h3 : k = 3
      · subst h3; obtain rfl := HT.out (by simp)
        go_wp2_with fail
        go_meet
        case rel => rfl
      by_cases h7 : k = 7
      · subst h7; obtain rfl := HT.out (by simp)
        go_wp2_with fail
        go_meet
        case rel => rfl
      by_cases h6 : k = 6
      · subst h6; obtain rfl := HT.out (by simp)
        go_wp2_with fail
        go_meet
        case rel => rfl
      have e1 : (k == 1) = false := beq_eq_false_iff_ne.2 h1
      have e2 : (k == 2) = false := beq_eq_false_iff_ne.2 h2
      have e8 : (k == 8) = false := beq_eq_false_iff_ne.2 h8
      have e3 : (k == 3) = false := beq_eq_false_iff_ne.2 h3
      have e7 : (k == 7) = false := beq_eq_false_iff_ne.2 h7
      have e6 : (k == 6) = false := beq_eq_false_iff_ne.2 h6
      clear h1 h2 h8 h3 h7 h6
      go_wp2_with fail
      go_meet
      case rel => rfl
    case rest =>
      obtain ⟨wa, rfl⟩ : ∃ wo : World, wo = wc := ⟨_, rfl⟩
      have hw2 := hcut
      subst hw2
      clear HN HT
      obtain ⟨⟨c0, c1, c2, c3, c4⟩, -⟩ := facts5 HQ1.out
      go_wp2_with fail
      clear c0 c1 c2 c3 c4
      go_loopw [55] (fun i wr => ∃ j : Nat, j ≤ xs.length ∧ i = .int .i64 j ∧ Hid (Below w.heap.size w wr) ∧ Hid (wr.heap[w.heap.size]? = some (.cells #[.int .i64 k, .int .i64 n, .string t, .slice A xs.length c, .int .i64 p] 186 (0, 0))) ∧ Hid (wr.heap[n2]? = some (.cells #[.int .i64 k, .int .i64 n', .string t', .slice A' xs.length c', .int .i64 p'] 186 (0, 0)))) (fun i _ => xs.length - (intOf i).toNat)
      case atStart => exact ⟨0, Nat.zero_le _, rfl, HB0, HQ1, HQ2⟩
      case round =>
        clear HB0 HQ1 HQ2 hs1
        obtain ⟨j, hj, rfl, HB0, HQ1, HQ2⟩ := hrel
        by_cases hlt : j < xs.length
        · obtain ⟨x, hx⟩ : ∃ y, xs[j]? = some y := ⟨_, List.getElem?_eq_getElem hlt⟩
          obtain ⟨y, hy⟩ : ∃ y, ys[j]? = some y := ⟨_, List.getElem?_eq_getElem (by have := HL.out; omega)⟩
          obtain ⟨g, off, B, cb, rfl, -, hg, hka, q0, q1, q2, q3, q4⟩ := HA.out.at j x hx
          have hBB := HB.out
          rw [HL.out] at hBB
          obtain ⟨g', off', B', cb', rfl, -, hg', hkb, r0, r1, r2, r3, r4⟩ := hBB.at j y hy
          have a0 := (HB0.out.cell (p := ⟨g, off + j * 5, none⟩) hg).trans q0
          have a1 := (HB0.out.cell (p := ⟨g, off + j * 5 + 1, none⟩) hg).trans q1
          have a2 := (HB0.out.cell (p := ⟨g, off + j * 5 + 2, none⟩) hg).trans q2
          have a3 := (HB0.out.cell (p := ⟨g, off + j * 5 + 3, none⟩) hg).trans q3
          have a4 := (HB0.out.cell (p := ⟨g, off + j * 5 + 4, none⟩) hg).trans q4
          have b0 := (HB0.out.cell (p := ⟨g', off' + j * 5, none⟩) hg').trans r0
          have b1 := (HB0.out.cell (p := ⟨g', off' + j * 5 + 1, none⟩) hg').trans r1
          have b2 := (HB0.out.cell (p := ⟨g', off' + j * 5 + 2, none⟩) hg').trans r2
          have b3 := (HB0.out.cell (p := ⟨g', off' + j * 5 + 3, none⟩) hg').trans r3
          have b4 := (HB0.out.cell (p := ⟨g', off' + j * 5 + 4, none⟩) hg').trans r4
          have c3 := (facts5 HQ1.out).1.2.2.2.1
          have d3 := (facts5 HQ2.out).1.2.2.2.1
          have HX := Lib.hid hx; have HY := Lib.hid hy; have HKA := Lib.hid hka; have HKB := Lib.hid hkb
          have HZX := Lib.hid (HZ.out.args.2.2 x (List.mem_of_getElem? hx))
          clear hx hy hka hkb q0 q1 q2 q3 q4 r0 r1 r2 r3 r4 hBB hg hg'
          have k0 : (0 : Int) ≤ (j : Int) := by omega
          have k1 : (j : Int) < (xs.length : Int) := by omega
          go_upto_region 17 with (fail)
          have HBd : Hid (Below w.heap.size w wr.drew) := Lib.hid (HB0.out.trans ((bel_drew wr).mono HB0.out.size))
          have HC : Hid (Calls Tryz.prog 111 #[.agg #[.int .i64 x.kind, .int .i64 x.n, .string x.text, .slice B x.args.length cb, .int .i64 x.pos], .agg #[.int .i64 y.kind, .int .i64 y.n, .string y.text, .slice B' y.args.length cb', .int .i64 y.pos], .bool q] wr.drew fun e w' => e = .returned (.bool true) ∧ Below wr.drew.heap.size wr.drew w') :=
            Lib.hid (IH.out j x y HX.out HY.out B B' cb cb' F F' _ (HKA.out.keep (F' := F) (fun q h1 h2 => ⟨h1, Nat.lt_of_lt_of_le h2 HBd.out.size, HBd.out.block q h2⟩)) (HKB.out.keep (F' := F') (fun q h1 h2 => ⟨h1, Nat.lt_of_lt_of_le h2 HBd.out.size, HBd.out.block q h2⟩)) HZX.out)
          go_region_law (first | (go_simp; go_at_call 111; refine HC.out.mono ?_; rintro e w8 ⟨rfl, hb8⟩))
          all_goals
            have HB8 := Lib.hid (HBd.out.trans (hb8.mono HBd.out.size))
            have HR1 : Hid (w8.heap[w.heap.size]? = some (.cells #[.int .i64 k, .int .i64 n, .string t, .slice (some ⟨g, off, none⟩) xs.length c, .int .i64 p] 186 (0, 0))) := Lib.hid ((hb8.block _ (lt_of_some HQ1.out)).trans HQ1.out)
            have HR2 : Hid (w8.heap[n2]? = some (.cells #[.int .i64 k, .int .i64 n', .string t', .slice (some ⟨g', off', none⟩) xs.length c', .int .i64 p'] 186 (0, 0))) := Lib.hid ((hb8.block _ (lt_of_some HQ2.out)).trans HQ2.out)
            clear hb8 a0 a1 a2 a3 a4 b0 b1 b2 b3 b4 c3 d3
            go_wp2_with fail
            go_roundw
            case rel => exact ⟨j + 1, by omega, by go_num, HB8, HR1, HR2⟩
            case measure => simp [intOf]; omega
        · go_wp2_with fail
          go_ret
          exact ⟨rfl, HB0.out⟩
end Go.Proofs.YtmngofgminlloaaGreatDoor

namespace Go.Proofs.YtmngofgminlloaaGreatDoor
open Go.RowKit Tw

/-- What the comparing function answers of two statements. -/
def CloS (q : Bool) (x y : Sm) : Prop :=
  ∀ (Aa Ab Ae Aa' Ab' Ae' : Option Addr) (ca cb ce ca' cb' ce' : Nat) (F F' : Nat → Prop) (p : Nat) (w : World), ArgsIn w F (.slice Aa x.a.args.length ca) x.a.args → StmtsIn w F (.slice Ab x.body.length cb) x.body → StmtsIn w F (.slice Ae x.els.length ce) x.els →
    ArgsIn w F' (.slice Aa' y.a.args.length ca') y.a.args → StmtsIn w F' (.slice Ab' y.body.length cb') y.body → StmtsIn w F' (.slice Ae' y.els.length ce') y.els → SmZ x → w.cell? ⟨p, 0, none⟩ = some (.bool q) →
    Calls Tryz.prog 110 #[.agg #[.int .i64 x.kind, .string x.name, .int .i64 x.a.kind, .int .i64 x.a.n, .string x.a.text, .slice Aa x.a.args.length ca, .int .i64 x.a.pos, .slice Ab x.body.length cb, .slice Ae x.els.length ce, .int .i64 x.pos],
      .agg #[.int .i64 y.kind, .string y.name, .int .i64 y.a.kind, .int .i64 y.a.n, .string y.a.text, .slice Aa' y.a.args.length ca', .int .i64 y.a.pos, .slice Ab' y.body.length cb', .slice Ae' y.els.length ce', .int .i64 y.pos], .pointer (some ⟨p, 0, none⟩)] w fun e w' => e = .returned (.bool true) ∧ Below w.heap.size w w'
def LstS (q : Bool) (l m : List Sm) : Prop :=
  ∀ (A A' : Option Addr) (c c' : Nat) (F F' : Nat → Prop) (w : World), StmtsIn w F (.slice A l.length c) l → StmtsIn w F' (.slice A' m.length c') m → (∀ s ∈ l, SmZ s) → l.length ≤ 281474976710656 →
    Calls Tryz.prog 60 #[.slice A l.length c, .slice A' m.length c', .bool q] w fun e w' => e = .returned (.bool true) ∧ Below w.heap.size w w'

set_option maxRecDepth 100000 in
set_option maxHeartbeats 8000000 in
theorem eqf_s (q : Bool) (l m : List Sm) (hl : l.length = m.length) (hc : ∀ (k : Nat) (x y : Sm), l[k]? = some x → m[k]? = some y → CloS q x y)
    (A A' : Option Addr) (c c' : Nat) (F F' : Nat → Prop) (p : Nat) (w : World) (hA : StmtsIn w F (.slice A l.length c) l) (hB : StmtsIn w F' (.slice A' m.length c') m) (hZ : ∀ s ∈ l, SmZ s) (hlen : l.length ≤ 281474976710656) (hp : w.cell? ⟨p, 0, none⟩ = some (.bool q)) (hp2 : p < w.heap.size) :
    Calls Tryz.prog 109 #[.slice A l.length c, .slice A' m.length c', .func (.func 110) #[] #[.pointer (some ⟨p, 0, none⟩)]] w fun e w' => e = .returned (.bool true) ∧ Below w.heap.size w w' := by
  have HA := Lib.hid hA; have HZ := Lib.hid hZ; have HC := Lib.hid hc; have HP := Lib.hid hp; have HL := Lib.hid hl
  have HB : Hid (StmtsIn w F' (.slice A' m.length c') m) := Lib.hid hB
  rw [← hl]
  clear hA hB hZ hc hp hl
  go_enter Tryz.func109, Tryz.ntmps109
  go_wp2_with fail
  go_loopw [17] (fun i wr => ∃ j : Nat, j ≤ l.length ∧ i = .int .i64 j ∧ Hid (Below w.heap.size w wr)) (fun i _ => l.length - (intOf i).toNat)
  case atStart => exact ⟨0, Nat.zero_le _, rfl, Lib.hid (Below.refl _ _)⟩
  case round =>
    obtain ⟨j, hj, rfl, HB0⟩ := hrel
    by_cases hlt : j < l.length
    · obtain ⟨x, hx⟩ : ∃ y, l[j]? = some y := ⟨_, List.getElem?_eq_getElem hlt⟩
      obtain ⟨y, hy⟩ : ∃ y, m[j]? = some y := ⟨_, List.getElem?_eq_getElem (by have := HL.out; omega)⟩
      obtain ⟨g, off, Aa, ca, Ab, cb, Ae, ce, rfl, -, hg, hka, hkb, hke, hq⟩ := HA.out.at j x hx
      obtain ⟨g', off', Aa', ca', Ab', cb', Ae', ce', rfl, -, hg', hka', hkb', hke', hq'⟩ := HB.out.at j y hy
      have a0 := (HB0.out.cell (p := ⟨g, off + j * 10, none⟩) hg).trans (hq 0 _ rfl)
      have a1 := (HB0.out.cell (p := ⟨g, off + j * 10 + 1, none⟩) hg).trans (hq 1 _ rfl)
      have a2 := (HB0.out.cell (p := ⟨g, off + j * 10 + 2, none⟩) hg).trans (hq 2 _ rfl)
      have a3 := (HB0.out.cell (p := ⟨g, off + j * 10 + 3, none⟩) hg).trans (hq 3 _ rfl)
      have a4 := (HB0.out.cell (p := ⟨g, off + j * 10 + 4, none⟩) hg).trans (hq 4 _ rfl)
      have a5 := (HB0.out.cell (p := ⟨g, off + j * 10 + 5, none⟩) hg).trans (hq 5 _ rfl)
      have a6 := (HB0.out.cell (p := ⟨g, off + j * 10 + 6, none⟩) hg).trans (hq 6 _ rfl)
      have a7 := (HB0.out.cell (p := ⟨g, off + j * 10 + 7, none⟩) hg).trans (hq 7 _ rfl)
      have a8 := (HB0.out.cell (p := ⟨g, off + j * 10 + 8, none⟩) hg).trans (hq 8 _ rfl)
      have a9 := (HB0.out.cell (p := ⟨g, off + j * 10 + 9, none⟩) hg).trans (hq 9 _ rfl)
      have HX := Lib.hid hx; have HY := Lib.hid hy; have HKA := Lib.hid hka; have HKB := Lib.hid hkb; have HKE := Lib.hid hke; have HKA' := Lib.hid hka'; have HKB' := Lib.hid hkb'; have HKE' := Lib.hid hke'; have HQ' := Lib.hid hq'
      have HZX := Lib.hid (HZ.out x (List.mem_of_getElem? hx))
      clear hx hy hka hkb hke hka' hkb' hke' hq hq'
      have k0 : (0 : Int) ≤ (j : Int) := by omega
      have k1 : (j : Int) < (l.length : Int) := by omega
      go_upto_region 6 with (fail)
      clear a0 a1 a2 a3 a4 a5 a6 a7 a8 a9
      have HB1 := Lib.hid (HB0.out.alloc HB0.out.size (.cells #[.int .i64 x.kind, .string x.name, .int .i64 x.a.kind, .int .i64 x.a.n, .string x.a.text, .slice Aa x.a.args.length ca, .int .i64 x.a.pos, .slice Ab x.body.length cb, .slice Ae x.els.length ce, .int .i64 x.pos] 188))
      have HN1 := Lib.hid (heap_alloc_new wr (.cells #[.int .i64 x.kind, .string x.name, .int .i64 x.a.kind, .int .i64 x.a.n, .string x.a.text, .slice Aa x.a.args.length ca, .int .i64 x.a.pos, .slice Ab x.body.length cb, .slice Ae x.els.length ce, .int .i64 x.pos] 188))
      generalize wr.alloc _ = w1 at HB1 HN1 ⊢
      have hs1 := lt_of_some HN1.out
      generalize wr.heap.size = n1 at HN1 hs1 ⊢
      have b0 := (HB1.out.cell (p := ⟨g', off' + j * 10, none⟩) hg').trans (HQ'.out 0 _ rfl)
      have b1 := (HB1.out.cell (p := ⟨g', off' + j * 10 + 1, none⟩) hg').trans (HQ'.out 1 _ rfl)
      have b2 := (HB1.out.cell (p := ⟨g', off' + j * 10 + 2, none⟩) hg').trans (HQ'.out 2 _ rfl)
      have b3 := (HB1.out.cell (p := ⟨g', off' + j * 10 + 3, none⟩) hg').trans (HQ'.out 3 _ rfl)
      have b4 := (HB1.out.cell (p := ⟨g', off' + j * 10 + 4, none⟩) hg').trans (HQ'.out 4 _ rfl)
      have b5 := (HB1.out.cell (p := ⟨g', off' + j * 10 + 5, none⟩) hg').trans (HQ'.out 5 _ rfl)
      have b6 := (HB1.out.cell (p := ⟨g', off' + j * 10 + 6, none⟩) hg').trans (HQ'.out 6 _ rfl)
      have b7 := (HB1.out.cell (p := ⟨g', off' + j * 10 + 7, none⟩) hg').trans (HQ'.out 7 _ rfl)
      have b8 := (HB1.out.cell (p := ⟨g', off' + j * 10 + 8, none⟩) hg').trans (HQ'.out 8 _ rfl)
      have b9 := (HB1.out.cell (p := ⟨g', off' + j * 10 + 9, none⟩) hg').trans (HQ'.out 9 _ rfl)
      go_upto_region 7 with (fail)
      clear b0 b1 b2 b3 b4 b5 b6 b7 b8 b9
      have HB2 := Lib.hid (HB1.out.alloc HB1.out.size (.cells #[.int .i64 y.kind, .string y.name, .int .i64 y.a.kind, .int .i64 y.a.n, .string y.a.text, .slice Aa' y.a.args.length ca', .int .i64 y.a.pos, .slice Ab' y.body.length cb', .slice Ae' y.els.length ce', .int .i64 y.pos] 188))
      have HN2 := Lib.hid (heap_alloc_new w1 (.cells #[.int .i64 y.kind, .string y.name, .int .i64 y.a.kind, .int .i64 y.a.n, .string y.a.text, .slice Aa' y.a.args.length ca', .int .i64 y.a.pos, .slice Ab' y.body.length cb', .slice Ae' y.els.length ce', .int .i64 y.pos] 188))
      have HN1' := Lib.hid ((heap_alloc_old w1 (.cells #[.int .i64 y.kind, .string y.name, .int .i64 y.a.kind, .int .i64 y.a.n, .string y.a.text, .slice Aa' y.a.args.length ca', .int .i64 y.a.pos, .slice Ab' y.body.length cb', .slice Ae' y.els.length ce', .int .i64 y.pos] 188) hs1).trans HN1.out)
      clear HN1 hs1
      generalize w1.alloc _ = w2 at HB2 HN1' HN2 ⊢
      generalize w1.heap.size = n2 at HN2 ⊢
      obtain ⟨⟨a0, a1, a2, a3, a4, a5, a6, a7, a8, a9⟩, -⟩ := facts10 HN1'.out
      obtain ⟨⟨b0, b1, b2, b3, b4, b5, b6, b7, b8, b9⟩, -⟩ := facts10 HN2.out
      go_wp2_with fail
      clear a0 a1 a2 a3 a4 a5 a6 a7 a8 a9 b0 b1 b2 b3 b4 b5 b6 b7 b8 b9
      have hk : Keeps F F w w2 := fun q h1 h2 => ⟨h1, Nat.lt_of_lt_of_le h2 HB2.out.size, HB2.out.block q h2⟩
      have hk' : Keeps F' F' w w2 := fun q h1 h2 => ⟨h1, Nat.lt_of_lt_of_le h2 HB2.out.size, HB2.out.block q h2⟩
      refine (HC.out j x y HX.out HY.out Aa Ab Ae Aa' Ab' Ae' ca cb ce ca' cb' ce' F F' p w2 (HKA.out.keep hk) (HKB.out.keep hk) (HKE.out.keep hk) (HKA'.out.keep hk') (HKB'.out.keep hk') (HKE'.out.keep hk') HZX.out ((HB2.out.cell (p := ⟨p, 0, none⟩) hp2).trans HP.out)).mono ?_
      rintro e w8 ⟨rfl, hb8⟩
      have HB8 := Lib.hid (HB2.out.trans (hb8.mono HB2.out.size))
      clear hb8 hk hk'
      go_wp2_with fail
      go_roundw
      case rel => exact ⟨j + 1, by omega, by go_num, HB8⟩
      case measure => simp [intOf]; omega
    · go_wp2_with fail
      go_ret
      exact ⟨rfl, HB0.out⟩

set_option maxRecDepth 100000 in
set_option maxHeartbeats 4000000 in
theorem lst_s (q : Bool) (l m : List Sm) (hl : l.length = m.length) (hc : ∀ (k : Nat) (x y : Sm), l[k]? = some x → m[k]? = some y → CloS q x y) : LstS q l m := by
  intro A A' c c' F F' w hA hB hZ hlen
  have HA := Lib.hid hA; have HB := Lib.hid hB; have HZ := Lib.hid hZ; have HC := Lib.hid hc; have HL := Lib.hid hl
  clear hA hB hZ hc hl
  have hmf : ∀ (fn : Go.Fn) (first cap : Array Value) (w : World), (Instr.makeFunc fn first cap).run Tryz.prog w = .ok (.func fn first cap) w := fun _ _ _ _ => rfl
  have HB1 := Lib.hid ((Below.refl w.heap.size w).alloc (Nat.le_refl _) (.cells #[.bool q] 4))
  have HN1 := Lib.hid (heap_alloc_new w (.cells #[.bool q] 4))
  go_enter Tryz.func60, Tryz.ntmps60
  go_wp2_with fail
  have hk : Keeps F F w (w.alloc (.cells #[.bool q] 4)) := fun q h1 h2 => ⟨h1, Nat.lt_of_lt_of_le h2 HB1.out.size, HB1.out.block q h2⟩
  have hk' : Keeps F' F' w (w.alloc (.cells #[.bool q] 4)) := fun q h1 h2 => ⟨h1, Nat.lt_of_lt_of_le h2 HB1.out.size, HB1.out.block q h2⟩
  refine (eqf_s q l m HL.out HC.out A A' c c' F F' w.heap.size _ (HA.out.keep hk) (HB.out.keep hk') HZ.out hlen (Lib.cell_of_heap HN1.out 0) (by simp)).mono ?_
  rintro e w8 ⟨rfl, hb8⟩
  have HB8 := Lib.hid (HB1.out.trans (hb8.mono HB1.out.size))
  clear hb8 hk hk'
  go_wp2_with fail
  go_ret
  exact ⟨rfl, HB8.out⟩
end Go.Proofs.YtmngofgminlloaaGreatDoor

namespace Go.Proofs.YtmngofgminlloaaGreatDoor
open Go.RowKit Tw

set_option maxRecDepth 100000 in
set_option maxHeartbeats 16000000 in
theorem clo_s (q : Bool) (x y : Sm) (h : SameS q x y) : CloS q x y := by
  induction h with
  | @mk x y hk hp he hn hb hb2 hl hl2 ihb ihl =>
  intro Aa Ab Ae Aa' Ab' Ae' ca cb ce ca' cb' ce' F F' p w h1 h2 h3 h4 h5 h6 hZ hc
  cases x with | mk k nm a body els ps =>
  cases y with | mk k' nm' a' body' els' ps' =>
  have LB : k = 3 ∨ k = 4 → LstS q body body' := fun e => lst_s q body body' (hb e) (ihb e)
  have LE : k = 3 → LstS q els els' := fun e => lst_s q els els' (hl e) (ihl e)
  simp only [Sm.kind, Sm.name, Sm.a, Sm.body, Sm.els, Sm.pos] at hk hp hn he h1 h2 h3 h4 h5 h6 ⊢
  subst hk
  have hpq : (q = true → ps = ps') := hp
  have H1 := Lib.hid h1; have H2 := Lib.hid h2; have H3 := Lib.hid h3; have H4 := Lib.hid h4; have H5 := Lib.hid h5; have H6 := Lib.hid h6; have HZ := Lib.hid hZ
  have HLB := Lib.hid LB; have HLE := Lib.hid LE; have HE := Lib.hid he; have HNM := Lib.hid hn; have HPQ := Lib.hid hpq
  have hp0 : p < w.heap.size := by
    rcases Nat.lt_or_ge p w.heap.size with h | h
    · exact h
    · unfold World.cell? at hc; rw [Array.getElem?_eq_none h] at hc; cases hc
  have HC := Lib.hid hc
  clear hp hb hb2 hl hl2 ihb ihl h1 h2 h3 h4 h5 h6 hZ LB LE he hn hpq hc
  go_enter Tryz.func110, Tryz.ntmps110
  go_upto_region 1 with (fail)
  have HB : Hid (Below w.heap.size w ((w.alloc (.cells #[.int .i64 k, .string nm, .int .i64 a.kind, .int .i64 a.n, .string a.text, .slice Aa a.args.length ca, .int .i64 a.pos, .slice Ab body.length cb, .slice Ae els.length ce, .int .i64 ps] 188)).alloc (.cells #[.int .i64 k, .string nm', .int .i64 a'.kind, .int .i64 a'.n, .string a'.text, .slice Aa' a'.args.length ca', .int .i64 a'.pos, .slice Ab' body'.length cb', .slice Ae' els'.length ce', .int .i64 ps'] 188))) := Lib.hid (((Below.refl w.heap.size w).alloc (Nat.le_refl _) _).alloc (by simp) _)
  have HX : Hid (((w.alloc (.cells #[.int .i64 k, .string nm, .int .i64 a.kind, .int .i64 a.n, .string a.text, .slice Aa a.args.length ca, .int .i64 a.pos, .slice Ab body.length cb, .slice Ae els.length ce, .int .i64 ps] 188)).alloc (.cells #[.int .i64 k, .string nm', .int .i64 a'.kind, .int .i64 a'.n, .string a'.text, .slice Aa' a'.args.length ca', .int .i64 a'.pos, .slice Ab' body'.length cb', .slice Ae' els'.length ce', .int .i64 ps'] 188)).heap[w.heap.size]? = some (.cells #[.int .i64 k, .string nm, .int .i64 a.kind, .int .i64 a.n, .string a.text, .slice Aa a.args.length ca, .int .i64 a.pos, .slice Ab body.length cb, .slice Ae els.length ce, .int .i64 ps] 188 (0, 0))) := Lib.hid ((heap_alloc_old _ _ (by simp)).trans (heap_alloc_new w _))
  have HY : Hid (((w.alloc (.cells #[.int .i64 k, .string nm, .int .i64 a.kind, .int .i64 a.n, .string a.text, .slice Aa a.args.length ca, .int .i64 a.pos, .slice Ab body.length cb, .slice Ae els.length ce, .int .i64 ps] 188)).alloc (.cells #[.int .i64 k, .string nm', .int .i64 a'.kind, .int .i64 a'.n, .string a'.text, .slice Aa' a'.args.length ca', .int .i64 a'.pos, .slice Ab' body'.length cb', .slice Ae' els'.length ce', .int .i64 ps'] 188)).heap[w.heap.size + 1]? = some (.cells #[.int .i64 k, .string nm', .int .i64 a'.kind, .int .i64 a'.n, .string a'.text, .slice Aa' a'.args.length ca', .int .i64 a'.pos, .slice Ab' body'.length cb', .slice Ae' els'.length ce', .int .i64 ps'] 188 (0, 0))) := Lib.hid (by simpa using heap_alloc_new (w.alloc (.cells #[.int .i64 k, .string nm, .int .i64 a.kind, .int .i64 a.n, .string a.text, .slice Aa a.args.length ca, .int .i64 a.pos, .slice Ab body.length cb, .slice Ae els.length ce, .int .i64 ps] 188)) (.cells #[.int .i64 k, .string nm', .int .i64 a'.kind, .int .i64 a'.n, .string a'.text, .slice Aa' a'.args.length ca', .int .i64 a'.pos, .slice Ab' body'.length cb', .slice Ae' els'.length ce', .int .i64 ps'] 188))
  generalize (w.alloc _).alloc _ = wa at HB HX HY ⊢
  generalize hn2 : w.heap.size + 1 = n2 at HY ⊢
  have HN2 := Lib.hid hn2; clear hn2
  go_cut [6] (fun u W => u = .bool true ∧ Hid (Below wa.heap.size wa W))
  case first =>
    have HA0 : Hid (∀ W, Below w.heap.size w W → Calls Tryz.prog 111 #[.agg #[.int .i64 a.kind, .int .i64 a.n, .string a.text, .slice Aa a.args.length ca, .int .i64 a.pos], .agg #[.int .i64 a'.kind, .int .i64 a'.n, .string a'.text, .slice Aa' a'.args.length ca', .int .i64 a'.pos], .bool q] W fun e w' => e = .returned (.bool true) ∧ Below W.heap.size W w') :=
      Lib.hid (fun W hb => same_e q a a' HE.out Aa Aa' ca ca' F F' W (H1.out.keep fun g h1 h2 => ⟨h1, Nat.lt_of_lt_of_le h2 hb.size, hb.block g h2⟩) (H4.out.keep fun g h1 h2 => ⟨h1, Nat.lt_of_lt_of_le h2 hb.size, hb.block g h2⟩) HZ.out.parts.2.1)
    obtain ⟨⟨c0, c1, c2, c3, c4, c5, c6, c7, c8, c9⟩, -⟩ := facts10 HX.out
    obtain ⟨⟨d0, d1, d2, d3, d4, d5, d6, d7, d8, d9⟩, -⟩ := facts10 HY.out
    have hq : wa.cell? ⟨p, 0, none⟩ = some (.bool q) := (HB.out.cell (p := ⟨p, 0, none⟩) hp0).trans HC.out
    cases q with
    | true =>
      obtain rfl := HPQ.out rfl
      go_wp2_with fail
      refine (HA0.out wa HB.out).mono ?_
      rintro e w8 ⟨rfl, hb8⟩
      have HB8 := Lib.hid hb8; clear hb8
      go_wp2_with fail
      go_meet
      case rel => exact ⟨rfl, HB8⟩
    | false =>
      go_wp2_with fail
      refine (HA0.out wa HB.out).mono ?_
      rintro e w8 ⟨rfl, hb8⟩
      have HB8 := Lib.hid hb8; clear hb8
      go_wp2_with fail
      go_meet
      case rel => exact ⟨rfl, HB8⟩
  case rest =>
    obtain ⟨rfl, hb⟩ := hcut
    obtain ⟨wb, rfl⟩ : ∃ wo : World, wo = wc := ⟨_, rfl⟩
    replace HX := Lib.hid ((hb.out.block _ (lt_of_some HX.out)).trans HX.out)
    replace HY := Lib.hid ((hb.out.block _ (lt_of_some HY.out)).trans HY.out)
    replace HB := Lib.hid (HB.out.trans (hb.out.mono HB.out.size))
    clear hb HPQ HE
    by_cases k2 : k ≤ 2
    · obtain rfl := HNM.out k2
      have e3 : (k == 3) = false := beq_eq_false_iff_ne.2 (by omega)
      have e4 : (k == 4) = false := beq_eq_false_iff_ne.2 (by omega)
      have es : (nm.toList == nm.toList) = true := beq_self_eq_true _
      obtain ⟨⟨c0, c1, c2, c3, c4, c5, c6, c7, c8, c9⟩, -⟩ := facts10 HX.out
      obtain ⟨⟨d0, d1, d2, d3, d4, d5, d6, d7, d8, d9⟩, -⟩ := facts10 HY.out
      go_wp2_with fail
      go_ret
      exact ⟨rfl, HB.out⟩
    by_cases k3 : k = 3
    · subst k3
      have LB := HLB.out (.inl rfl)
      have LE := HLE.out rfl
      have HLB2 := Lib.hid LB; have HLE2 := Lib.hid LE
      clear HLB HLE LB LE k2
      obtain ⟨⟨c0, c1, c2, c3, c4, c5, c6, c7, c8, c9⟩, -⟩ := facts10 HX.out
      obtain ⟨⟨d0, d1, d2, d3, d4, d5, d6, d7, d8, d9⟩, -⟩ := facts10 HY.out
      have hq : wb.cell? ⟨p, 0, none⟩ = some (.bool q) := (HB.out.cell (p := ⟨p, 0, none⟩) hp0).trans HC.out
      go_wp2_with fail
      clear c0 c1 c2 c3 c4 c5 c6 c7 c8 c9 d0 d1 d2 d3 d4 d5 d6 d7 d8 d9 hq
      have hkF : Keeps F F w wb := fun g h1 h2 => ⟨h1, Nat.lt_of_lt_of_le h2 HB.out.size, HB.out.block g h2⟩
      have hkF' : Keeps F' F' w wb := fun g h1 h2 => ⟨h1, Nat.lt_of_lt_of_le h2 HB.out.size, HB.out.block g h2⟩
      refine (HLB2.out Ab Ab' cb cb' F F' wb (H2.out.keep hkF) (H5.out.keep hkF') HZ.out.parts.2.2.2.2.1 HZ.out.parts.2.2.1).mono ?_
      rintro e w8 ⟨rfl, hb⟩
      replace HX := Lib.hid ((hb.block _ (lt_of_some HX.out)).trans HX.out)
      replace HY := Lib.hid ((hb.block _ (lt_of_some HY.out)).trans HY.out)
      replace HB := Lib.hid (HB.out.trans (hb.mono HB.out.size))
      clear hb
      clear hkF hkF'
      obtain ⟨⟨c0, c1, c2, c3, c4, c5, c6, c7, c8, c9⟩, -⟩ := facts10 HX.out
      obtain ⟨⟨d0, d1, d2, d3, d4, d5, d6, d7, d8, d9⟩, -⟩ := facts10 HY.out
      have hq : w8.cell? ⟨p, 0, none⟩ = some (.bool q) := (HB.out.cell (p := ⟨p, 0, none⟩) hp0).trans HC.out
      go_wp2_with fail
      clear c0 c1 c2 c3 c4 c5 c6 c7 c8 c9 d0 d1 d2 d3 d4 d5 d6 d7 d8 d9 hq
      have hkF : Keeps F F w w8 := fun g h1 h2 => ⟨h1, Nat.lt_of_lt_of_le h2 HB.out.size, HB.out.block g h2⟩
      have hkF' : Keeps F' F' w w8 := fun g h1 h2 => ⟨h1, Nat.lt_of_lt_of_le h2 HB.out.size, HB.out.block g h2⟩
      refine (HLE2.out Ae Ae' ce ce' F F' w8 (H3.out.keep hkF) (H6.out.keep hkF') HZ.out.parts.2.2.2.2.2 HZ.out.parts.2.2.2.1).mono ?_
      rintro e w9 ⟨rfl, hb⟩
      replace HX := Lib.hid ((hb.block _ (lt_of_some HX.out)).trans HX.out)
      replace HY := Lib.hid ((hb.block _ (lt_of_some HY.out)).trans HY.out)
      replace HB := Lib.hid (HB.out.trans (hb.mono HB.out.size))
      clear hb
      clear hkF hkF'
      go_wp2_with fail
      go_ret
      exact ⟨rfl, HB.out⟩
    have e3 : (k == 3) = false := beq_eq_false_iff_ne.2 k3
    have k2' : 2 < k := by omega
    by_cases k4 : k = 4
    · subst k4
      have LB := HLB.out (.inr rfl)
      have HLB2 := Lib.hid LB
      clear HLB HLE LB k2 k3
      obtain ⟨⟨c0, c1, c2, c3, c4, c5, c6, c7, c8, c9⟩, -⟩ := facts10 HX.out
      obtain ⟨⟨d0, d1, d2, d3, d4, d5, d6, d7, d8, d9⟩, -⟩ := facts10 HY.out
      have hq : wb.cell? ⟨p, 0, none⟩ = some (.bool q) := (HB.out.cell (p := ⟨p, 0, none⟩) hp0).trans HC.out
      go_wp2_with fail
      clear c0 c1 c2 c3 c4 c5 c6 c7 c8 c9 d0 d1 d2 d3 d4 d5 d6 d7 d8 d9 hq
      have hkF : Keeps F F w wb := fun g h1 h2 => ⟨h1, Nat.lt_of_lt_of_le h2 HB.out.size, HB.out.block g h2⟩
      have hkF' : Keeps F' F' w wb := fun g h1 h2 => ⟨h1, Nat.lt_of_lt_of_le h2 HB.out.size, HB.out.block g h2⟩
      refine (HLB2.out Ab Ab' cb cb' F F' wb (H2.out.keep hkF) (H5.out.keep hkF') HZ.out.parts.2.2.2.2.1 HZ.out.parts.2.2.1).mono ?_
      rintro e w8 ⟨rfl, hb⟩
      replace HX := Lib.hid ((hb.block _ (lt_of_some HX.out)).trans HX.out)
      replace HY := Lib.hid ((hb.block _ (lt_of_some HY.out)).trans HY.out)
      replace HB := Lib.hid (HB.out.trans (hb.mono HB.out.size))
      clear hb
      clear hkF hkF'
      obtain ⟨⟨c0, c1, c2, c3, c4, c5, c6, c7, c8, c9⟩, -⟩ := facts10 HX.out
      obtain ⟨⟨d0, d1, d2, d3, d4, d5, d6, d7, d8, d9⟩, -⟩ := facts10 HY.out
      go_wp2_with fail
      go_ret
      exact ⟨rfl, HB.out⟩
    · have e4 : (k == 4) = false := beq_eq_false_iff_ne.2 k4
      clear k2 k3 k4
      obtain ⟨⟨c0, c1, c2, c3, c4, c5, c6, c7, c8, c9⟩, -⟩ := facts10 HX.out
      obtain ⟨⟨d0, d1, d2, d3, d4, d5, d6, d7, d8, d9⟩, -⟩ := facts10 HY.out
      go_wp2_with fail
      go_ret
      exact ⟨rfl, HB.out⟩
theorem same_l (q : Bool) (l m : List Sm) (h : SameL q l m) : LstS q l m := lst_s q l m h.1 fun k x y h1 h2 => clo_s q x y (h.2 k x y h1 h2)
end Go.Proofs.YtmngofgminlloaaGreatDoor

namespace Go.Proofs.YtmngofgminlloaaGreatDoor
open Go.RowKit Tw

theorem drewN_below (w : World) (n : Nat) : Below w.heap.size w (w.drewN n) := below_drewN (Below.refl _ _) _
theorem strs_eq (l : List ByteArray) (A A' : Option Addr) (c c' : Nat) (F F' : Nat → Prop) (w : World) (h1 : StrsIn w F (.slice A l.length c) l) (h2 : StrsIn w F' (.slice A' l.length c') l) (hl : l.length ≤ 281474976710656) :
    Calls Tryz.prog 59 #[.slice A l.length c, .slice A' l.length c'] w fun e w' => e = .returned (.bool true) ∧ Below w.heap.size w w' := by
  by_cases h0 : l = []
  · subst h0
    refine (Tryz.slices_Equal_string_empty A A' c 0 c' w (by decide)).mono ?_
    rintro e w' ⟨rfl, rfl⟩
    exact ⟨rfl, Below.refl _ _⟩
  · have hp : 0 < l.length := List.length_pos_iff.2 h0
    obtain ⟨g, off, rfl, -, -⟩ := h1.at 0 _ (List.getElem?_eq_getElem hp)
    obtain ⟨g', off', rfl, -, -⟩ := h2.at 0 _ (List.getElem?_eq_getElem hp)
    have a1 : ∀ j, j < l.length → w.cell? ⟨g, off + j, none⟩ = some (.string (l.getD j ByteArray.empty)) := by
      intro j hj
      obtain ⟨q, o, e, -, hc⟩ := h1.at j _ (List.getElem?_eq_getElem hj)
      cases e
      rw [hc]; simp [List.getD_eq_getElem?_getD, List.getElem?_eq_getElem hj]
    have a2 : ∀ j, j < l.length → w.cell? ⟨g', off' + j, none⟩ = some (.string (l.getD j ByteArray.empty)) := by
      intro j hj
      obtain ⟨q, o, e, -, hc⟩ := h2.at j _ (List.getElem?_eq_getElem hj)
      cases e
      rw [hc]; simp [List.getD_eq_getElem?_getD, List.getElem?_eq_getElem hj]
    refine (Tryz.slices_Equal_string g off l.length c g' off' l.length c' l l w (Nat.le_refl _) (Nat.le_refl _) (by omega) (by omega) a1 a2).mono ?_
    rintro e w' ⟨rfl, n, rfl⟩
    exact ⟨by simp, drewN_below w n⟩
theorem ints_eq (l : List Int) (A A' : Option Addr) (c c' : Nat) (F F' : Nat → Prop) (w : World) (h1 : IntsIn w F (.slice A l.length c) l) (h2 : IntsIn w F' (.slice A' l.length c') l) (hl : l.length ≤ 281474976710656) :
    Calls Tryz.prog 30 #[.slice A l.length c, .slice A' l.length c'] w fun e w' => e = .returned (.bool true) ∧ Below w.heap.size w w' := by
  by_cases h0 : l = []
  · subst h0
    refine (Tryz.slices_Equal_int_empty A A' c 0 c' w (by decide)).mono ?_
    rintro e w' ⟨rfl, rfl⟩
    exact ⟨rfl, Below.refl _ _⟩
  · have hp : 0 < l.length := List.length_pos_iff.2 h0
    obtain ⟨g, off, rfl, -, -⟩ := h1.at 0 _ (List.getElem?_eq_getElem hp)
    obtain ⟨g', off', rfl, -, -⟩ := h2.at 0 _ (List.getElem?_eq_getElem hp)
    have a1 : ∀ j, j < l.length → w.cell? ⟨g, off + j, none⟩ = some (.int .i64 (l.getD j 0)) := by
      intro j hj
      obtain ⟨q, o, e, -, hc⟩ := h1.at j _ (List.getElem?_eq_getElem hj)
      cases e
      rw [hc]; simp [List.getD_eq_getElem?_getD, List.getElem?_eq_getElem hj]
    have a2 : ∀ j, j < l.length → w.cell? ⟨g', off' + j, none⟩ = some (.int .i64 (l.getD j 0)) := by
      intro j hj
      obtain ⟨q, o, e, -, hc⟩ := h2.at j _ (List.getElem?_eq_getElem hj)
      cases e
      rw [hc]; simp [List.getD_eq_getElem?_getD, List.getElem?_eq_getElem hj]
    refine (Tryz.slices_Equal_int g off l.length c g' off' l.length c' l l w (Nat.le_refl _) (Nat.le_refl _) (by omega) (by omega) a1 a2).mono ?_
    rintro e w' ⟨rfl, n, rfl⟩
    exact ⟨by simp, drewN_below w n⟩
set_option maxRecDepth 100000 in
set_option maxHeartbeats 8000000 in
theorem clo_f (q : Bool) (f g : Fn) (h : SameF q f g) (An At Ab An' At' Ab' : Option Addr) (cn ct cb cn' ct' cb' : Nat) (F F' : Nat → Prop) (p : Nat) (w : World) (h1 : StrsIn w F (.slice An f.names.length cn) f.names) (h2 : IntsIn w F (.slice At f.types.length ct) f.types) (h3 : StmtsIn w F (.slice Ab f.body.length cb) f.body)
    (h4 : StrsIn w F' (.slice An' g.names.length cn') g.names) (h5 : IntsIn w F' (.slice At' g.types.length ct') g.types) (h6 : StmtsIn w F' (.slice Ab' g.body.length cb') g.body) (hZ : FnZ f) (hc : w.cell? ⟨p, 0, none⟩ = some (.bool q)) (hp0 : p < w.heap.size) :
    Calls Tryz.prog 58 #[.agg #[.string f.name, .slice An f.names.length cn, .slice At f.types.length ct, .int .i64 f.out, .slice Ab f.body.length cb, .int .i64 f.pos], .agg #[.string g.name, .slice An' g.names.length cn', .slice At' g.types.length ct', .int .i64 g.out, .slice Ab' g.body.length cb', .int .i64 g.pos], .pointer (some ⟨p, 0, none⟩)] w fun e w' => e = .returned (.bool true) ∧ Below w.heap.size w w' := by
  obtain ⟨e1, e2, e3, e4, e5, hB⟩ := h
  cases f with | mk nm ns ts out body ps =>
  cases g with | mk nm' ns' ts' out' body' ps' =>
  simp only at *
  subst e1; subst e2; subst e3; subst e4
  have hnl : ns.length ≤ 281474976710656 := hZ.nlen
  have htl : ts.length ≤ 281474976710656 := hZ.tlen
  have H1 := Lib.hid h1; have H2 := Lib.hid h2; have H3 := Lib.hid h3; have H4 := Lib.hid h4; have H5 := Lib.hid h5; have H6 := Lib.hid h6; have HZ := Lib.hid hZ
  have HPQ := Lib.hid e5; have HBB := Lib.hid hB; have HC := Lib.hid hc
  clear h1 h2 h3 h4 h5 h6 hZ e5 hB hc
  have es : (nm.toList == nm.toList) = true := beq_self_eq_true _
  go_enter Tryz.func58, Tryz.ntmps58
  go_upto_region 1 with (fail)
  have HB : Hid (Below w.heap.size w ((w.alloc (.cells #[.string nm, .slice An ns.length cn, .slice At ts.length ct, .int .i64 out, .slice Ab body.length cb, .int .i64 ps] 32)).alloc (.cells #[.string nm, .slice An' ns.length cn', .slice At' ts.length ct', .int .i64 out, .slice Ab' body'.length cb', .int .i64 ps'] 32))) := Lib.hid (((Below.refl w.heap.size w).alloc (Nat.le_refl _) _).alloc (by simp) _)
  have HX : Hid (((w.alloc (.cells #[.string nm, .slice An ns.length cn, .slice At ts.length ct, .int .i64 out, .slice Ab body.length cb, .int .i64 ps] 32)).alloc (.cells #[.string nm, .slice An' ns.length cn', .slice At' ts.length ct', .int .i64 out, .slice Ab' body'.length cb', .int .i64 ps'] 32)).heap[w.heap.size]? = some (.cells #[.string nm, .slice An ns.length cn, .slice At ts.length ct, .int .i64 out, .slice Ab body.length cb, .int .i64 ps] 32 (0, 0))) := Lib.hid ((heap_alloc_old _ _ (by simp)).trans (heap_alloc_new w _))
  have HY : Hid (((w.alloc (.cells #[.string nm, .slice An ns.length cn, .slice At ts.length ct, .int .i64 out, .slice Ab body.length cb, .int .i64 ps] 32)).alloc (.cells #[.string nm, .slice An' ns.length cn', .slice At' ts.length ct', .int .i64 out, .slice Ab' body'.length cb', .int .i64 ps'] 32)).heap[w.heap.size + 1]? = some (.cells #[.string nm, .slice An' ns.length cn', .slice At' ts.length ct', .int .i64 out, .slice Ab' body'.length cb', .int .i64 ps'] 32 (0, 0))) := Lib.hid (by simpa using heap_alloc_new (w.alloc (.cells #[.string nm, .slice An ns.length cn, .slice At ts.length ct, .int .i64 out, .slice Ab body.length cb, .int .i64 ps] 32)) (.cells #[.string nm, .slice An' ns.length cn', .slice At' ts.length ct', .int .i64 out, .slice Ab' body'.length cb', .int .i64 ps'] 32))
  generalize (w.alloc _).alloc _ = wa at HB HX HY ⊢
  generalize hn2 : w.heap.size + 1 = n2 at HY ⊢
  have HN2 := Lib.hid hn2; clear hn2
  cases q with
  | true =>
    obtain rfl := HPQ.out rfl
    obtain ⟨⟨c0, c1, c2, c3, c4, c5⟩, -⟩ := facts6 HX.out
    obtain ⟨⟨d0, d1, d2, d3, d4, d5⟩, -⟩ := facts6 HY.out
    have hq : wa.cell? ⟨p, 0, none⟩ = some (.bool true) := (HB.out.cell (p := ⟨p, 0, none⟩) hp0).trans HC.out
    go_wp2_with fail
    refine (strs_eq ns An An' cn cn' F F' wa (H1.out.keep (F' := F) (fun g h1 h2 => ⟨h1, Nat.lt_of_lt_of_le h2 HB.out.size, HB.out.block g h2⟩)) (H4.out.keep (F' := F') (fun g h1 h2 => ⟨h1, Nat.lt_of_lt_of_le h2 HB.out.size, HB.out.block g h2⟩)) HZ.out.nlen).mono ?_
    rintro e w2 ⟨rfl, hb⟩
    clear c0 c1 c2 c3 c4 c5 d0 d1 d2 d3 d4 d5 hq
    replace HX := Lib.hid ((hb.block _ (lt_of_some HX.out)).trans HX.out)
    replace HY := Lib.hid ((hb.block _ (lt_of_some HY.out)).trans HY.out)
    replace HB := Lib.hid (HB.out.trans (hb.mono HB.out.size))
    clear hb
    obtain ⟨⟨c0, c1, c2, c3, c4, c5⟩, -⟩ := facts6 HX.out
    obtain ⟨⟨d0, d1, d2, d3, d4, d5⟩, -⟩ := facts6 HY.out
    have hq : w2.cell? ⟨p, 0, none⟩ = some (.bool true) := (HB.out.cell (p := ⟨p, 0, none⟩) hp0).trans HC.out
    go_wp2_with fail
    refine (ints_eq ts At At' ct ct' F F' w2 (H2.out.keep (F' := F) (fun g h1 h2 => ⟨h1, Nat.lt_of_lt_of_le h2 HB.out.size, HB.out.block g h2⟩)) (H5.out.keep (F' := F') (fun g h1 h2 => ⟨h1, Nat.lt_of_lt_of_le h2 HB.out.size, HB.out.block g h2⟩)) HZ.out.tlen).mono ?_
    rintro e w3 ⟨rfl, hb⟩
    clear c0 c1 c2 c3 c4 c5 d0 d1 d2 d3 d4 d5 hq
    replace HX := Lib.hid ((hb.block _ (lt_of_some HX.out)).trans HX.out)
    replace HY := Lib.hid ((hb.block _ (lt_of_some HY.out)).trans HY.out)
    replace HB := Lib.hid (HB.out.trans (hb.mono HB.out.size))
    clear hb
    obtain ⟨⟨c0, c1, c2, c3, c4, c5⟩, -⟩ := facts6 HX.out
    obtain ⟨⟨d0, d1, d2, d3, d4, d5⟩, -⟩ := facts6 HY.out
    have hq : w3.cell? ⟨p, 0, none⟩ = some (.bool true) := (HB.out.cell (p := ⟨p, 0, none⟩) hp0).trans HC.out
    go_wp2_with fail
    refine (same_l _ body body' HBB.out Ab Ab' cb cb' F F' w3 (H3.out.keep (F' := F) (fun g h1 h2 => ⟨h1, Nat.lt_of_lt_of_le h2 HB.out.size, HB.out.block g h2⟩)) (H6.out.keep (F' := F') (fun g h1 h2 => ⟨h1, Nat.lt_of_lt_of_le h2 HB.out.size, HB.out.block g h2⟩)) HZ.out.body HZ.out.blen).mono ?_
    rintro e w4 ⟨rfl, hb⟩
    replace HB := Lib.hid (HB.out.trans (hb.mono HB.out.size))
    clear hb
    go_wp2_with fail
    go_ret
    exact ⟨rfl, HB.out⟩
  | false =>
    obtain ⟨⟨c0, c1, c2, c3, c4, c5⟩, -⟩ := facts6 HX.out
    obtain ⟨⟨d0, d1, d2, d3, d4, d5⟩, -⟩ := facts6 HY.out
    have hq : wa.cell? ⟨p, 0, none⟩ = some (.bool false) := (HB.out.cell (p := ⟨p, 0, none⟩) hp0).trans HC.out
    go_wp2_with fail
    refine (strs_eq ns An An' cn cn' F F' wa (H1.out.keep (F' := F) (fun g h1 h2 => ⟨h1, Nat.lt_of_lt_of_le h2 HB.out.size, HB.out.block g h2⟩)) (H4.out.keep (F' := F') (fun g h1 h2 => ⟨h1, Nat.lt_of_lt_of_le h2 HB.out.size, HB.out.block g h2⟩)) HZ.out.nlen).mono ?_
    rintro e w2 ⟨rfl, hb⟩
    clear c0 c1 c2 c3 c4 c5 d0 d1 d2 d3 d4 d5 hq
    replace HX := Lib.hid ((hb.block _ (lt_of_some HX.out)).trans HX.out)
    replace HY := Lib.hid ((hb.block _ (lt_of_some HY.out)).trans HY.out)
    replace HB := Lib.hid (HB.out.trans (hb.mono HB.out.size))
    clear hb
    obtain ⟨⟨c0, c1, c2, c3, c4, c5⟩, -⟩ := facts6 HX.out
    obtain ⟨⟨d0, d1, d2, d3, d4, d5⟩, -⟩ := facts6 HY.out
    have hq : w2.cell? ⟨p, 0, none⟩ = some (.bool false) := (HB.out.cell (p := ⟨p, 0, none⟩) hp0).trans HC.out
    go_wp2_with fail
    refine (ints_eq ts At At' ct ct' F F' w2 (H2.out.keep (F' := F) (fun g h1 h2 => ⟨h1, Nat.lt_of_lt_of_le h2 HB.out.size, HB.out.block g h2⟩)) (H5.out.keep (F' := F') (fun g h1 h2 => ⟨h1, Nat.lt_of_lt_of_le h2 HB.out.size, HB.out.block g h2⟩)) HZ.out.tlen).mono ?_
    rintro e w3 ⟨rfl, hb⟩
    clear c0 c1 c2 c3 c4 c5 d0 d1 d2 d3 d4 d5 hq
    replace HX := Lib.hid ((hb.block _ (lt_of_some HX.out)).trans HX.out)
    replace HY := Lib.hid ((hb.block _ (lt_of_some HY.out)).trans HY.out)
    replace HB := Lib.hid (HB.out.trans (hb.mono HB.out.size))
    clear hb
    obtain ⟨⟨c0, c1, c2, c3, c4, c5⟩, -⟩ := facts6 HX.out
    obtain ⟨⟨d0, d1, d2, d3, d4, d5⟩, -⟩ := facts6 HY.out
    have hq : w3.cell? ⟨p, 0, none⟩ = some (.bool false) := (HB.out.cell (p := ⟨p, 0, none⟩) hp0).trans HC.out
    go_wp2_with fail
    refine (same_l _ body body' HBB.out Ab Ab' cb cb' F F' w3 (H3.out.keep (F' := F) (fun g h1 h2 => ⟨h1, Nat.lt_of_lt_of_le h2 HB.out.size, HB.out.block g h2⟩)) (H6.out.keep (F' := F') (fun g h1 h2 => ⟨h1, Nat.lt_of_lt_of_le h2 HB.out.size, HB.out.block g h2⟩)) HZ.out.body HZ.out.blen).mono ?_
    rintro e w4 ⟨rfl, hb⟩
    replace HB := Lib.hid (HB.out.trans (hb.mono HB.out.size))
    clear hb
    go_wp2_with fail
    go_ret
    exact ⟨rfl, HB.out⟩

set_option maxRecDepth 100000 in
set_option maxHeartbeats 8000000 in
theorem eqf_f (q : Bool) (l m : List Fn) (h : SameU q l m)
    (A A' : Option Addr) (c c' : Nat) (F F' : Nat → Prop) (p : Nat) (w : World) (hA : FnsIn w F (.slice A l.length c) l) (hB : FnsIn w F' (.slice A' m.length c') m) (hZ : ∀ s ∈ l, FnZ s) (hlen : l.length ≤ 281474976710656) (hp : w.cell? ⟨p, 0, none⟩ = some (.bool q)) (hp2 : p < w.heap.size) :
    Calls Tryz.prog 57 #[.slice A l.length c, .slice A' m.length c', .func (.func 58) #[] #[.pointer (some ⟨p, 0, none⟩)]] w fun e w' => e = .returned (.bool true) ∧ Below w.heap.size w w' := by
  have HA := Lib.hid hA; have HZ := Lib.hid hZ; have HC := Lib.hid h.2; have HP := Lib.hid hp; have HL := Lib.hid h.1
  have HB : Hid (FnsIn w F' (.slice A' m.length c') m) := Lib.hid hB
  rw [← h.1]
  clear hA hB hZ h hp
  go_enter Tryz.func57, Tryz.ntmps57
  go_wp2_with fail
  go_loopw [17] (fun i wr => ∃ j : Nat, j ≤ l.length ∧ i = .int .i64 j ∧ Hid (Below w.heap.size w wr)) (fun i _ => l.length - (intOf i).toNat)
  case atStart => exact ⟨0, Nat.zero_le _, rfl, Lib.hid (Below.refl _ _)⟩
  case round =>
    obtain ⟨j, hj, rfl, HB0⟩ := hrel
    by_cases hlt : j < l.length
    · obtain ⟨x, hx⟩ : ∃ y, l[j]? = some y := ⟨_, List.getElem?_eq_getElem hlt⟩
      obtain ⟨y, hy⟩ : ∃ y, m[j]? = some y := ⟨_, List.getElem?_eq_getElem (by have := HL.out; omega)⟩
      obtain ⟨g, off, An, cn, At, ct, Ab, cb, rfl, hg, hka, hkb, hke, hq⟩ := HA.out.at j x hx
      obtain ⟨g', off', An', cn', At', ct', Ab', cb', rfl, hg', hka', hkb', hke', hq'⟩ := HB.out.at j y hy
      have a0 := (HB0.out.cell (p := ⟨g, off + j * 6, none⟩) hg).trans (hq 0 _ rfl)
      have a1 := (HB0.out.cell (p := ⟨g, off + j * 6 + 1, none⟩) hg).trans (hq 1 _ rfl)
      have a2 := (HB0.out.cell (p := ⟨g, off + j * 6 + 2, none⟩) hg).trans (hq 2 _ rfl)
      have a3 := (HB0.out.cell (p := ⟨g, off + j * 6 + 3, none⟩) hg).trans (hq 3 _ rfl)
      have a4 := (HB0.out.cell (p := ⟨g, off + j * 6 + 4, none⟩) hg).trans (hq 4 _ rfl)
      have a5 := (HB0.out.cell (p := ⟨g, off + j * 6 + 5, none⟩) hg).trans (hq 5 _ rfl)
      have HX := Lib.hid hx; have HY := Lib.hid hy; have HKA := Lib.hid hka; have HKB := Lib.hid hkb; have HKE := Lib.hid hke; have HKA' := Lib.hid hka'; have HKB' := Lib.hid hkb'; have HKE' := Lib.hid hke'; have HQ' := Lib.hid hq'
      have HZX := Lib.hid (HZ.out x (List.mem_of_getElem? hx))
      clear hx hy hka hkb hke hka' hkb' hke' hq hq'
      have k0 : (0 : Int) ≤ (j : Int) := by omega
      have k1 : (j : Int) < (l.length : Int) := by omega
      go_upto_region 6 with (fail)
      clear a0 a1 a2 a3 a4 a5
      have HB1 := Lib.hid (HB0.out.alloc HB0.out.size (.cells #[.string x.name, .slice An x.names.length cn, .slice At x.types.length ct, .int .i64 x.out, .slice Ab x.body.length cb, .int .i64 x.pos] 32))
      have HN1 := Lib.hid (heap_alloc_new wr (.cells #[.string x.name, .slice An x.names.length cn, .slice At x.types.length ct, .int .i64 x.out, .slice Ab x.body.length cb, .int .i64 x.pos] 32))
      generalize wr.alloc _ = w1 at HB1 HN1 ⊢
      have hs1 := lt_of_some HN1.out
      generalize wr.heap.size = n1 at HN1 hs1 ⊢
      have b0 := (HB1.out.cell (p := ⟨g', off' + j * 6, none⟩) hg').trans (HQ'.out 0 _ rfl)
      have b1 := (HB1.out.cell (p := ⟨g', off' + j * 6 + 1, none⟩) hg').trans (HQ'.out 1 _ rfl)
      have b2 := (HB1.out.cell (p := ⟨g', off' + j * 6 + 2, none⟩) hg').trans (HQ'.out 2 _ rfl)
      have b3 := (HB1.out.cell (p := ⟨g', off' + j * 6 + 3, none⟩) hg').trans (HQ'.out 3 _ rfl)
      have b4 := (HB1.out.cell (p := ⟨g', off' + j * 6 + 4, none⟩) hg').trans (HQ'.out 4 _ rfl)
      have b5 := (HB1.out.cell (p := ⟨g', off' + j * 6 + 5, none⟩) hg').trans (HQ'.out 5 _ rfl)
      go_upto_region 7 with (fail)
      clear b0 b1 b2 b3 b4 b5
      have HB2 := Lib.hid (HB1.out.alloc HB1.out.size (.cells #[.string y.name, .slice An' y.names.length cn', .slice At' y.types.length ct', .int .i64 y.out, .slice Ab' y.body.length cb', .int .i64 y.pos] 32))
      have HN2 := Lib.hid (heap_alloc_new w1 (.cells #[.string y.name, .slice An' y.names.length cn', .slice At' y.types.length ct', .int .i64 y.out, .slice Ab' y.body.length cb', .int .i64 y.pos] 32))
      have HN1' := Lib.hid ((heap_alloc_old w1 (.cells #[.string y.name, .slice An' y.names.length cn', .slice At' y.types.length ct', .int .i64 y.out, .slice Ab' y.body.length cb', .int .i64 y.pos] 32) hs1).trans HN1.out)
      clear HN1 hs1
      generalize w1.alloc _ = w2 at HB2 HN1' HN2 ⊢
      generalize w1.heap.size = n2 at HN2 ⊢
      obtain ⟨⟨a0, a1, a2, a3, a4, a5⟩, -⟩ := facts6 HN1'.out
      obtain ⟨⟨b0, b1, b2, b3, b4, b5⟩, -⟩ := facts6 HN2.out
      go_wp2_with fail
      clear a0 a1 a2 a3 a4 a5 b0 b1 b2 b3 b4 b5
      have hk : Keeps F F w w2 := fun q h1 h2 => ⟨h1, Nat.lt_of_lt_of_le h2 HB2.out.size, HB2.out.block q h2⟩
      have hk' : Keeps F' F' w w2 := fun q h1 h2 => ⟨h1, Nat.lt_of_lt_of_le h2 HB2.out.size, HB2.out.block q h2⟩
      refine (clo_f q x y (HC.out j x y HX.out HY.out) An At Ab An' At' Ab' cn ct cb cn' ct' cb' F F' p w2 (HKA.out.keep hk) (HKB.out.keep hk) (HKE.out.keep hk) (HKA'.out.keep hk') (HKB'.out.keep hk') (HKE'.out.keep hk') HZX.out ((HB2.out.cell (p := ⟨p, 0, none⟩) hp2).trans HP.out) (Nat.lt_of_lt_of_le hp2 HB2.out.size)).mono ?_
      rintro e w8 ⟨rfl, hb8⟩
      have HB8 := Lib.hid (HB2.out.trans (hb8.mono HB2.out.size))
      clear hb8 hk hk'
      go_wp2_with fail
      go_roundw
      case rel => exact ⟨j + 1, by omega, by go_num, HB8⟩
      case measure => simp [intOf]; omega
    · go_wp2_with fail
      go_ret
      exact ⟨rfl, HB0.out⟩
set_option maxRecDepth 100000 in
set_option maxHeartbeats 4000000 in
theorem same_u (q : Bool) (l m : List Fn) (h : SameU q l m) (A A' : Option Addr) (c c' : Nat) (F F' : Nat → Prop) (w : World) (hA : FnsIn w F (.slice A l.length c) l) (hB : FnsIn w F' (.slice A' m.length c') m) (hZ : ∀ s ∈ l, FnZ s) (hlen : l.length ≤ 281474976710656) :
    Calls Tryz.prog 16 #[.agg #[.slice A l.length c], .agg #[.slice A' m.length c'], .bool q] w fun e w' => e = .returned (.bool true) ∧ Below w.heap.size w w' := by
  have HA := Lib.hid hA; have HB := Lib.hid hB; have HZ := Lib.hid hZ; have HC := Lib.hid h
  clear hA hB hZ h
  have hmf : ∀ (fn : Go.Fn) (first cap : Array Value) (w : World), (Instr.makeFunc fn first cap).run Tryz.prog w = .ok (.func fn first cap) w := fun _ _ _ _ => rfl
  have HB1 := Lib.hid ((((Below.refl w.heap.size w).alloc (Nat.le_refl _) (.cells #[.slice A l.length c] 24)).alloc (by simp) (.cells #[.slice A' m.length c'] 24)).alloc (by simp; omega) (.cells #[.bool q] 4))
  have HN1 := Lib.hid (heap_alloc_new ((w.alloc (.cells #[.slice A l.length c] 24)).alloc (.cells #[.slice A' m.length c'] 24)) (.cells #[.bool q] 4))
  go_enter Tryz.func16, Tryz.ntmps16
  go_wp2_with fail
  have hk : Keeps F F w (((w.alloc (.cells #[.slice A l.length c] 24)).alloc (.cells #[.slice A' m.length c'] 24)).alloc (.cells #[.bool q] 4)) := fun q h1 h2 => ⟨h1, Nat.lt_of_lt_of_le h2 HB1.out.size, HB1.out.block q h2⟩
  have hk' : Keeps F' F' w (((w.alloc (.cells #[.slice A l.length c] 24)).alloc (.cells #[.slice A' m.length c'] 24)).alloc (.cells #[.bool q] 4)) := fun q h1 h2 => ⟨h1, Nat.lt_of_lt_of_le h2 HB1.out.size, HB1.out.block q h2⟩
  refine (eqf_f q l m HC.out A A' c c' F F' (w.heap.size + 2) _ (HA.out.keep hk) (HB.out.keep hk') HZ.out hlen (by simpa using Lib.cell_of_heap HN1.out 0) (by simp)).mono ?_
  rintro e w8 ⟨rfl, hb8⟩
  have HB8 := Lib.hid (HB1.out.trans (hb8.mono HB1.out.size))
  clear hb8 hk hk'
  go_wp2_with fail
  go_ret
  exact ⟨rfl, HB8.out⟩
end Go.Proofs.YtmngofgminlloaaGreatDoor

namespace Go.Proofs.YtmngofgminlloaaGreatDoor
open Go.RowKit Tw

end Go.Proofs.YtmngofgminlloaaGreatDoor

namespace Go.Proofs.YtmngofgminlloaaGreatDoor
open Go.RowKit Tw

theorem lex_det {s : ByteArray} {k : Nat} {l : List Wd} {r : Option Nat × List Wd} (h : Lex s k l r) : ∀ r', Lex s k l r' → r = r' := by
  induction h with
  | done e => intro r' h'; exact (h'.go_done (by omega)).symm
  | bad e ht => intro r' h'; exact (h'.go_bad e ht).symm
  | skip e ht _ ih => intro r' h'; exact ih _ (h'.go_skip e ht)
  | word e ht _ ih => intro r' h'; exact ih _ (h'.go_word e ht)
theorem wres_det {s : ByteArray} {p e p' e' : Int} {ws ws' : List Wd} (h : WRes s p e ws) (h' : WRes s p' e' ws') : p = p' ∧ e = e' ∧ ws = ws' := by
  rcases h with ⟨h1, rfl, rfl, rfl⟩ | ⟨h1, r, hr, rfl, rfl, rfl⟩
  · rcases h' with ⟨g1, rfl, rfl, rfl⟩ | ⟨g1, _⟩
    · exact ⟨rfl, rfl, rfl⟩
    · omega
  · rcases h' with ⟨g1, _⟩ | ⟨g1, r', hr', rfl, rfl, rfl⟩
    · omega
    · obtain rfl := lex_det hr _ hr'
      exact ⟨rfl, rfl, rfl⟩
theorem sres_det {s : ByteArray} {l l' : List Fn} {p er p' er' : Int} (h : SRes s l p er) (h' : SRes s l' p' er') : l = l' ∧ p = p' ∧ er = er' := by
  obtain ⟨p0, e0, ws, hw, h⟩ := h
  obtain ⟨p1, e1, ws1, hw1, h'⟩ := h'
  obtain ⟨rfl, rfl, rfl⟩ := wres_det hw hw1
  rcases h with ⟨a, rfl, rfl, rfl⟩ | ⟨rfl, h⟩
  · rcases h' with ⟨_, rfl, rfl, rfl⟩ | ⟨b, _⟩
    · exact ⟨rfl, rfl, rfl⟩
    · exact absurd b a
  · rcases h' with ⟨b, _⟩ | ⟨_, h'⟩
    · exact absurd rfl b
    · rcases h with ⟨j, hd, rfl, rfl, rfl⟩ | ⟨m, hd, rfl, rfl, rfl⟩
      · rcases h' with ⟨j', hd', rfl, rfl, rfl⟩ | ⟨m', hd', _⟩
        · have e := hd.det _ hd'; injection e with e; subst e; exact ⟨rfl, rfl, rfl⟩
        · have e := hd.det _ hd'; cases e
      · rcases h' with ⟨j', hd', _⟩ | ⟨m', hd', rfl, rfl, rfl⟩
        · have e := hd.det _ hd'; cases e
        · have e := hd.det _ hd'; injection e with e; subst e; exact ⟨rfl, rfl, rfl⟩
end Go.Proofs.YtmngofgminlloaaGreatDoor
