/-
  The reference's exprFault at every expression.
  The reference's stmtsFault, at every row of statements.
  The reference's UnitFault, at every script.
  The reference's UnitFault: the walk.
  What statements, parameters, functions and scripts are is one thing, in plain Lean.
-/
import Derived.Test.YtmngofgminlloaaGreatDoorTT11
import Derived.Test.YtmngofgminlloaaGreatDoorTT12
import Derived.Test.YtmngofgminlloaaGreatDoorTT13
import Derived.Deep.DeepCutAuto
import Derived.Outline
import Derived.Test.YtmngofgminlloaaGreatDoorTT09
set_option linter.all false
namespace Go.Proofs.YtmngofgminlloaaGreatDoor
open Go.RowKit Tw Go.Maps

set_option maxRecDepth 100000 in
set_option maxHeartbeats 1000000 in
theorem exF_0 : ExF 0 := by
  intro li hli x A c F w hA hZ hG
  subst hli
  have e : exF x 0 = 2 := by cases x with | mk k n t xs p => rw [exF]; rfl
  rw [e]
  clear hA hZ hG e
  go_enter Tryz.func102, Tryz.ntmps102
  go_wp2_with fail
  go_ret
  exact ⟨rfl, (Below.refl _ _).alloc (Nat.le_refl _) _⟩
theorem exF_r : ∀ left, left ≤ 40 → ExF left := by
  intro left
  induction left with
  | zero => exact fun _ => exF_0
  | succ left ih =>
    intro h li hli x A c F w hA hZ hG
    subst hli
    cases x with | mk k n t xs p =>
    simp only [Ex.kind, Ex.n, Ex.text, Ex.args, Ex.pos] at hA ⊢
    have hwf := hZ.kwf
    by_cases ho : k < 1 ∨ 8 < k
    · exact exF_ko (left + 1) (by omega) h (ih (by omega)) k ho hwf n t xs p A c F w hA hZ hG
    obtain rfl | rfl | rfl | rfl | rfl | rfl | rfl | rfl : k = 1 ∨ k = 2 ∨ k = 3 ∨ k = 4 ∨ k = 5 ∨ k = 6 ∨ k = 7 ∨ k = 8 := by omega
    · exact exF_k1 (left + 1) (by omega) h (ih (by omega)) n t xs p A c F w hA hZ hG
    · exact exF_k2 (left + 1) (by omega) h (ih (by omega)) n t xs p A c F w hA hZ hG
    · exact exF_k3 (left + 1) (by omega) h (ih (by omega)) n t xs p A c F w hA hZ hG
    · exact exF_k4 (left + 1) (by omega) h (ih (by omega)) n t xs p A c F w hA hZ hG
    · exact exF_k5 (left + 1) (by omega) h (ih (by omega)) n t xs p A c F w hA hZ hG
    · exact exF_k6 (left + 1) (by omega) h (ih (by omega)) n t xs p A c F w hA hZ hG
    · exact exF_k7 (left + 1) (by omega) h (ih (by omega)) n t xs p A c F w hA hZ hG
    · exact exF_k8 (left + 1) (by omega) h (ih (by omega)) n t xs p A c F w hA hZ hG
end Go.Proofs.YtmngofgminlloaaGreatDoor

namespace Go.Proofs.YtmngofgminlloaaGreatDoor
open Go.RowKit Tw Go.Maps

theorem StmtsIn.form {w : World} {F : Nat → Prop} {v : Value} {l : List Sm} (h : StmtsIn w F v l) : ∃ A c, v = .slice A l.length c := by
  cases h with
  | nil a c => exact ⟨a, c, rfl⟩
  | row g off cap => exact ⟨_, cap, rfl⟩
/-- What the statement k of a row reads. -/
theorem StmtsIn.at {w : World} {F : Nat → Prop} {A : Option Addr} {c : Nat} {l : List Sm} (h : StmtsIn w F (.slice A l.length c) l) (k : Nat) (s : Sm) (hx : l[k]? = some s) :
    ∃ g off Aa ca Ab cb Ae ce, A = some ⟨g, off, none⟩ ∧ F g ∧ g < w.heap.size ∧ ArgsIn w F (.slice Aa s.a.args.length ca) s.a.args ∧ StmtsIn w F (.slice Ab s.body.length cb) s.body ∧ StmtsIn w F (.slice Ae s.els.length ce) s.els ∧
      ∀ j u, (#[.int .i64 s.kind, .string s.name, .int .i64 s.a.kind, .int .i64 s.a.n, .string s.a.text, .slice Aa s.a.args.length ca, .int .i64 s.a.pos, .slice Ab s.body.length cb, .slice Ae s.els.length ce, .int .i64 s.pos] : Array Value).toList[j]? = some u → w.cell? ⟨g, off + k * 10 + j, none⟩ = some u := by
  generalize hv : Value.slice A l.length c = v at h
  cases h with
  | nil a c' => simp at hx
  | row g off cap _ va vb ve hF hg hc ha hb he =>
    injection hv with e1 e2 e3
    obtain ⟨Aa, ca, hA⟩ := (ha k s hx).form
    obtain ⟨Ab, cb, hB⟩ := (hb k s hx).form
    obtain ⟨Ae, ce, hE⟩ := (he k s hx).form
    have hcx := hc k s hx; have h1 := ha k s hx; have h2 := hb k s hx; have h3 := he k s hx
    rw [hA, hB, hE] at hcx; rw [hA] at h1; rw [hB] at h2; rw [hE] at h3
    exact ⟨g, off, Aa, ca, Ab, cb, Ae, ce, e1, hF, hg, h1, h2, h3, hcx⟩
def insAt (s : Sm) (m : Nat) : List Sm := if m = 0 then s.body else s.els
def SmsF (left : Nat) : Prop :=
  ∀ (li : Int), li = left → ∀ (l : List Sm) (A : Option Addr) (c : Nat) (F : Nat → Prop) (w : World), StmtsIn w F (.slice A l.length c) l → (∀ s ∈ l, SmZ s) → l.length ≤ 281474976710656 → Glob w →
    Calls Tryz.prog 48 #[.slice A l.length c, .int .i64 li] w fun e w' => e = .returned (.int .i64 (smsF l left)) ∧ Below w.heap.size w w'
theorem elemRow : ElemOk Tryz.prog 192 30 1 := ⟨Tryz.underlying192, by kernel_rfl, by decide⟩
theorem smF_3 {s : Sm} {left : Nat} (hl : 1 ≤ left) (h : s.kind < 1 ∨ 7 < s.kind ∨ (s.kind ≤ 2 ∧ nameB s.name = false)) : smF s left = 3 := by
  cases s with | mk k nm a body els p =>
  simp only [Sm.kind, Sm.name] at h
  rw [smF, if_neg (by omega), if_pos h]
theorem smF_a {s : Sm} {left : Nat} (hl : 1 ≤ left) (h : ¬ (s.kind < 1 ∨ 7 < s.kind ∨ (s.kind ≤ 2 ∧ nameB s.name = false))) {z : Int} (h0 : z ≠ 0) (ha : exF s.a (left - 1) = z) : smF s left = z := by
  cases s with | mk k nm a body els p =>
  simp only [Sm.a] at ha
  simp only [Sm.kind, Sm.name] at h
  rw [smF, if_neg (by omega), if_neg h, if_pos (by rw [ha]; exact h0), ha]
theorem smF_b {s : Sm} {left : Nat} (hl : 1 ≤ left) (h : ¬ (s.kind < 1 ∨ 7 < s.kind ∨ (s.kind ≤ 2 ∧ nameB s.name = false))) (ha : exF s.a (left - 1) = 0) :
    smF s left = if (s.kind = 3 ∨ s.kind = 4) ∧ smsF s.body (left - 1) ≠ 0 then smsF s.body (left - 1) else if s.kind = 3 then smsF s.els (left - 1) else 0 := by
  cases s with | mk k nm a body els p =>
  simp only [Sm.a] at ha
  simp only [Sm.kind, Sm.name] at h
  rw [smF, if_neg (by omega), if_neg h, if_neg (by rw [ha]; decide)]
  rfl

set_option maxRecDepth 100000 in
set_option maxHeartbeats 16000000 in
theorem smsF_step (left : Nat) (h40 : left ≤ 40) (ih : 1 ≤ left → SmsF (left - 1)) : SmsF left := by
  intro li hli l A c F w hA hZ hlen hG
  subst hli
  have HA := Lib.hid hA; have HZ := Lib.hid hZ; have HG := Lib.hid hG; have IH := Lib.hid ih
  clear hA hZ hG ih
  go_enter Tryz.func48, Tryz.ntmps48
  go_wp2_with fail
  go_loopw [14] (fun i wr => ∃ j : Nat, j ≤ l.length ∧ i = .int .i64 j ∧ Hid (smsF (l.take j) left = 0) ∧ Hid (Below w.heap.size w wr)) (fun i _ => l.length - (intOf i).toNat)
  case atStart => exact ⟨0, Nat.zero_le _, rfl, Lib.hid (by rw [List.take_zero, smsF]), Lib.hid (Below.refl _ _)⟩
  case round =>
    obtain ⟨j, hj, rfl, HE, HB⟩ := hrel
    by_cases hlt : j < l.length
    · obtain ⟨s, hs⟩ : ∃ s, l[j]? = some s := ⟨_, List.getElem?_eq_getElem hlt⟩
      obtain ⟨g, off, Aa, ca, Ab, cb, Ae, ce, rfl, -, hg, hka, hkb, hke, hc⟩ := HA.out.at j s hs
      have b0 := (HB.out.cell (p := ⟨g, off + j * 10, none⟩) hg).trans (hc 0 _ rfl)
      have b1 := (HB.out.cell (p := ⟨g, off + j * 10 + 1, none⟩) hg).trans (hc 1 _ rfl)
      have b2 := (HB.out.cell (p := ⟨g, off + j * 10 + 2, none⟩) hg).trans (hc 2 _ rfl)
      have b3 := (HB.out.cell (p := ⟨g, off + j * 10 + 3, none⟩) hg).trans (hc 3 _ rfl)
      have b4 := (HB.out.cell (p := ⟨g, off + j * 10 + 4, none⟩) hg).trans (hc 4 _ rfl)
      have b5 := (HB.out.cell (p := ⟨g, off + j * 10 + 5, none⟩) hg).trans (hc 5 _ rfl)
      have b6 := (HB.out.cell (p := ⟨g, off + j * 10 + 6, none⟩) hg).trans (hc 6 _ rfl)
      have b7 := (HB.out.cell (p := ⟨g, off + j * 10 + 7, none⟩) hg).trans (hc 7 _ rfl)
      have b8 := (HB.out.cell (p := ⟨g, off + j * 10 + 8, none⟩) hg).trans (hc 8 _ rfl)
      have b9 := (HB.out.cell (p := ⟨g, off + j * 10 + 9, none⟩) hg).trans (hc 9 _ rfl)
      have hin : s ∈ l := List.mem_of_getElem? hs
      have HS := Lib.hid hs; have HKA := Lib.hid hka; have HKB := Lib.hid hkb; have HKE := Lib.hid hke; have HZS := Lib.hid (HZ.out s hin)
      clear hs hka hkb hke hc hin
      have k0 : (0 : Int) ≤ (j : Int) := by omega
      have k1 : (j : Int) < (l.length : Int) := by omega
      by_cases hl0 : left = 0
      · subst hl0
        go_wp2_with fail
        go_ret
        have e : smF s 0 = 2 := by cases s with | mk => rw [smF]; rfl
        exact ⟨by rw [smsF_hit HS.out HE.out (by rw [e]; decide), e]; rfl, HB.out.alloc HB.out.size _⟩
      · have hl1 : 1 ≤ left := by omega
        have hl2 : (1 : Int) ≤ (left : Int) := by omega
        go_upto_region 6 with (fail)
        clear b0 b1 b2 b3 b4 b5 b6 b7 b8 b9
        have HBa := Lib.hid (HB.out.alloc HB.out.size (.cells #[.int .i64 s.kind, .string s.name, .int .i64 s.a.kind, .int .i64 s.a.n, .string s.a.text, .slice Aa s.a.args.length ca, .int .i64 s.a.pos, .slice Ab s.body.length cb, .slice Ae s.els.length ce, .int .i64 s.pos] 188))
        have HQ := Lib.hid (heap_alloc_new wr (.cells #[.int .i64 s.kind, .string s.name, .int .i64 s.a.kind, .int .i64 s.a.n, .string s.a.text, .slice Aa s.a.args.length ca, .int .i64 s.a.pos, .slice Ab s.body.length cb, .slice Ae s.els.length ce, .int .i64 s.pos] 188))
        generalize wr.alloc _ = wa at HBa HQ ⊢
        have hb6 := lt_of_some HQ.out
        generalize wr.heap.size = b6 at HQ hb6 ⊢
        obtain ⟨bn, hbn⟩ : ∃ b, nameB s.name = b := ⟨_, rfl⟩
        have HN := Lib.hid hbn
        have NC := Lib.hid (nameOK_b s.name bn hbn wa HZS.out.parts.1 (HG.out.to HBa.out))
        obtain ⟨kd, hkd⟩ : ∃ k, s.kind = k := ⟨_, rfl⟩
        rw [hkd] at HQ
        have HKD := Lib.hid hkd
        clear hbn hkd
        obtain ⟨⟨c0, c1, c2, c3, c4', c5, c6, c7, c8, c9⟩, -⟩ := facts10 HQ.out
        by_cases hbad : kd < 1 ∨ 7 < kd ∨ (kd ≤ 2 ∧ bn = false)
        · have H3 : Hid (smF s left = 3) := Lib.hid (smF_3 hl1 (by rw [HKD.out, HN.out]; exact hbad))
          cases bn with
          | true =>
            have hb2 : kd < 1 ∨ 7 < kd := by rcases hbad with h | h | ⟨_, h⟩ <;> first | exact .inl h | exact .inr h | cases h
            clear hbad
            rcases hb2 with hb2 | hb2
            all_goals
              go_wp2_with fail
              go_ret
              exact ⟨by rw [smsF_hit HS.out HE.out (by rw [H3.out]; decide), H3.out]; rfl, HBa.out⟩
          | false =>
            by_cases hb1 : kd < 1
            · clear hbad
              go_wp2_with fail
              go_ret
              exact ⟨by rw [smsF_hit HS.out HE.out (by rw [H3.out]; decide), H3.out]; rfl, HBa.out⟩
            by_cases hq7 : 7 < kd
            · clear hbad
              go_wp2_with fail
              go_ret
              exact ⟨by rw [smsF_hit HS.out HE.out (by rw [H3.out]; decide), H3.out]; rfl, HBa.out⟩
            have hb2 : kd ≤ 2 := by rcases hbad with h | h | ⟨h, _⟩ <;> omega
            clear hbad
            go_wp2_with (go_at_call 47; refine NC.out.mono ?_; rintro e w7 ⟨rfl, hb7⟩)
            go_ret
            exact ⟨by rw [smsF_hit HS.out HE.out (by rw [H3.out]; decide), H3.out]; rfl, HBa.out.trans (hb7.mono HBa.out.size)⟩
        · have hk1 : 1 ≤ kd := by omega
          have hk7 : kd ≤ 7 := by omega
          have HOK : Hid (¬ (s.kind < 1 ∨ 7 < s.kind ∨ (s.kind ≤ 2 ∧ nameB s.name = false))) := Lib.hid (by rw [HKD.out, HN.out]; exact hbad)
          go_cut [38] (fun u W => u = .bool false ∧ Hid (Below wa.heap.size wa W))
          case first =>
            by_cases hk2 : kd ≤ 2
            · have hbt : bn = true := by cases bn with | true => rfl | false => exact absurd (.inr (.inr ⟨hk2, rfl⟩)) hbad
              subst hbt
              clear hbad
              go_wp2_with (go_at_call 47; refine NC.out.mono ?_; rintro e w7 ⟨rfl, hb7⟩)
              go_meet
              case rel => exact ⟨congrArg Value.bool (by simp; omega), Lib.hid hb7⟩
            · clear hbad
              go_wp2_with fail
              go_meet
              case rel => exact ⟨congrArg Value.bool (by simp; omega), Lib.hid (Below.refl _ _)⟩
          case rest =>
            obtain ⟨rfl, HBb⟩ := hcut
            replace HQ := Lib.hid ((HBb.out.block b6 hb6).trans HQ.out)
            have HBc := Lib.hid (HBa.out.trans (HBb.out.mono HBa.out.size))
            clear c0 c1 c2 c3 c4' c5 c6 c7 c8 c9 hbad NC
            clear HBa HBb
            have hb7 := lt_of_some HQ.out
            obtain ⟨⟨c0, c1, c2, c3, c4', c5, c6, c7, c8, c9⟩, -⟩ := facts10 HQ.out
            go_wp2_with fail
            clear c0 c1 c2 c3 c4' c5 c6 c7 c8 c9
            refine (exF_r (left - 1) (by omega) _ (by omega) s.a Aa ca F _ (HKA.out.keep (F' := F) (fun q h1 h2 => ⟨h1, Nat.lt_of_lt_of_le h2 HBc.out.size, HBc.out.block q h2⟩)) HZS.out.parts.2.1 (HG.out.to HBc.out)).mono ?_
            rintro e w8 ⟨rfl, hb8⟩
            replace HQ := Lib.hid ((hb8.block b6 hb7).trans HQ.out)
            have HB8 := Lib.hid (HBc.out.trans (hb8.mono HBc.out.size))
            clear hb8 HBc
            obtain ⟨z, hz⟩ : ∃ z, exF s.a (left - 1) = z := ⟨_, rfl⟩
            rw [hz]
            have HZ2 := Lib.hid hz
            clear hz
            by_cases hz0 : z = 0
            · subst hz0
              have HR := Lib.hid (smF_b hl1 HOK.out HZ2.out)
              have hb8 := lt_of_some HQ.out
              obtain ⟨⟨c0, c1, c2, c3, c4', c5, c6, c7, c8, c9⟩, -⟩ := facts10 HQ.out
              have HOo := Lib.hid (World.ownsRow_made (e := 30) (size := 1) (base := w.heap.size) w8 #[] 0 HB8.out.size (by decide) rfl)
              have HBo := Lib.hid (HB8.out.alloc HB8.out.size (.cells #[] 30))
              have HQo := Lib.hid ((heap_alloc_old w8 (.cells #[] 30) hb8).trans HQ.out)
              by_cases hk34 : kd = 3 ∨ kd = 4
              · rcases hk34 with hk3 | hk4
                · subst hk3
                  go_upto_region 13 with (fail)
                  clear c0 c1 c2 c3 c4' c5 c6 c7 c8 c9
                  generalize w8.alloc _ = wo at HOo HBo HQo ⊢
                  generalize w8.heap.size = bo at HOo hb8 ⊢
                  obtain ⟨⟨c0, c1, c2, c3, c4', c5, c6, c7, c8, c9⟩, -⟩ := facts10 HQo.out
                  go_upto_region 14 with ((at_builtin; go_must (refine wpList_app1 elemRow rfl _ _ rfl w.heap.size _ 0 [] rfl (HOo.out.alloc _) wo.heap.size 1 #[.slice Ab s.body.length cb] rfl (heap_alloc_new wo _) rfl (by simp [Value.oneCell']) (by decide) (by have := HBo.out.size; simp; omega) ?_); intro g1 capg1 w9 hown0 hgrow0 hat0 hlt0))
                  have hgA0 : (wo.alloc (.cells #[.slice Ab s.body.length cb] 30)).grownBy w9 (some bo) := hgrow0
                  have HB9 := Lib.hid (below_app (HBo.out.alloc HBo.out.size (.cells #[.slice Ab s.body.length cb] 30)) (HOo.out.alloc (.cells #[.slice Ab s.body.length cb] 30)) (Nat.le_refl _) (by have := HBo.out.size; simp; omega) hgA0)
                  have hown0' : w9.ownsRow w.heap.size 30 1 (.slice (some ⟨g1, 0, none⟩) 1 capg1) 1 [.slice Ab s.body.length cb] := hown0
                  have HO0 := Lib.hid hown0'
                  have HQ9 := Lib.hid ((hgA0.block b6 (by have := lt_of_some HQo.out; simp; omega) (by simp; omega)).trans ((heap_alloc_old wo (.cells #[.slice Ab s.body.length cb] 30) (lt_of_some HQo.out)).trans HQo.out))
                  have hb69 : b6 ≠ g1 := by
                    have h0 : (Value.slice (some ⟨bo, 0, none⟩) 0 0).ownBlock = some g1 ∨ g1 = (wo.alloc (.cells #[.slice Ab s.body.length cb] 30)).heap.size := hat0
                    have := lt_of_some HQo.out
                    rcases h0 with h0 | h0
                    · simp [Value.ownBlock] at h0; omega
                    · simp at h0; omega
                  clear hgrow0 hat0 hown0 hown0' hgA0 c0 c1 c2 c3 c4' c5 c6 c7 c8 c9 HQo HOo HBo
                  obtain ⟨⟨c0, c1, c2, c3, c4', c5, c6, c7, c8, c9⟩, -⟩ := facts10 HQ9.out
                  go_upto_region 16 with ((at_builtin; go_must (refine wpList_app1 elemRow rfl _ _ rfl w.heap.size _ 1 [.slice Ab s.body.length cb] rfl (HO0.out.alloc _) w9.heap.size 1 #[.slice Ae s.els.length ce] rfl (heap_alloc_new w9 _) rfl (by simp [Value.oneCell']) (by decide) (by have := HB9.out.size; simp; omega) ?_); intro g2 capg2 w10 hown1 hgrow1 hat1 hlt1))
                  have hgA1 : (w9.alloc (.cells #[.slice Ae s.els.length ce] 30)).grownBy w10 (some g1) := hgrow1
                  have HBz := Lib.hid (below_app (HB9.out.alloc HB9.out.size (.cells #[.slice Ae s.els.length ce] 30)) (HO0.out.alloc (.cells #[.slice Ae s.els.length ce] 30)) (Nat.le_refl _) (by have := HB9.out.size; simp; omega) hgA1)
                  have hown1' : w10.ownsRow w.heap.size 30 1 (.slice (some ⟨g2, 0, none⟩) 2 capg2) 2 [.slice Ab s.body.length cb, .slice Ae s.els.length ce] := hown1
                  have HO1 := Lib.hid hown1'
                  clear hgrow1 hat1 hown1 hgA1 c0 c1 c2 c3 c4' c5 c6 c7 c8 c9
                  have hgz : g2 < w10.heap.size := hlt1
                  have HCz : Hid (∀ j u, ([.slice Ab s.body.length cb, .slice Ae s.els.length ce] : List Value)[j]? = some u → w10.cell? ⟨g2, j, none⟩ = some u) := Lib.hid (by
                    rcases own_cells hown1' with ⟨h, _⟩ | ⟨g, cap, h, _, _, hc⟩
                    · cases h
                    · cases h; exact hc)
                  obtain ⟨wz, rfl⟩ : ∃ wz : World, wz = w10 := ⟨_, rfl⟩
                  clear hown1'
                  go_wp2_with fail
                  go_loopw [71] (fun i wq => ∃ q : Nat, q ≤ 2 ∧ i = .int .i64 q ∧ Hid (∀ m, m < q → smsF (insAt s m) (left - 1) = 0) ∧ Hid (Below wz.heap.size wz wq)) (fun i _ => 2 - (intOf i).toNat)
                  case atStart => exact ⟨0, Nat.zero_le _, rfl, Lib.hid (fun m h => absurd h (Nat.not_lt_zero m)), Lib.hid (Below.refl _ _)⟩
                  case round =>
                    obtain ⟨q, hq, rfl, HQ1, HBq⟩ := hrel
                    obtain rfl | rfl | rfl : q = 0 ∨ q = 1 ∨ q = 2 := by omega
                    · have kc : wr.cell? ⟨g2, 0, none⟩ = some (.slice Ab s.body.length cb) := (HBq.out.cell (p := ⟨g2, 0, none⟩) hgz).trans (HCz.out 0 _ rfl)
                      go_wp2_with fail
                      clear kc
                      have HBw := Lib.hid (HBz.out.trans (HBq.out.mono HBz.out.size))
                      refine (IH.out hl1 _ (by omega) s.body _ _ F _ (HKB.out.keep (F' := F) (fun q h1 h2 => ⟨h1, Nat.lt_of_lt_of_le h2 HBw.out.size, HBw.out.block q h2⟩)) HZS.out.parts.2.2.2.2.1 HZS.out.parts.2.2.1 (HG.out.to HBw.out)).mono ?_
                      rintro e wv ⟨rfl, hbv⟩
                      have HBv := Lib.hid (HBq.out.trans (hbv.mono HBq.out.size))
                      clear hbv
                      obtain ⟨z, hz⟩ : ∃ z, smsF s.body (left - 1) = z := ⟨_, rfl⟩
                      rw [hz]
                      have HZ3 := Lib.hid hz
                      clear hz
                      by_cases hz0 : z = 0
                      · subst hz0
                        go_wp2_with fail
                        go_roundw
                        case rel => exact ⟨1, by omega, rfl, Lib.hid (fun m h => by
                          rcases Nat.lt_or_ge m 0 with h2 | h2
                          · exact HQ1.out m h2
                          · obtain rfl : m = 0 := by omega
                            exact HZ3.out), HBv⟩
                        case measure => simp [intOf]
                      · have e0 : (z != 0) = true := by simpa using hz0
                        have HZ0 := Lib.hid hz0; clear hz0
                        go_wp2_with fail
                        go_ret
                        have e : smF s left = z := by
                          rw [HR.out]
                          rw [if_pos ⟨by rw [HKD.out]; simp, by rw [HZ3.out]; exact HZ0.out⟩]; exact HZ3.out
                        exact ⟨by rw [smsF_hit HS.out HE.out (by rw [e]; exact HZ0.out), e]; rfl, HBz.out.trans (HBv.out.mono HBz.out.size)⟩
                    · have kc : wr.cell? ⟨g2, 1, none⟩ = some (.slice Ae s.els.length ce) := (HBq.out.cell (p := ⟨g2, 1, none⟩) hgz).trans (HCz.out 1 _ rfl)
                      go_wp2_with fail
                      clear kc
                      have HBw := Lib.hid (HBz.out.trans (HBq.out.mono HBz.out.size))
                      refine (IH.out hl1 _ (by omega) s.els _ _ F _ (HKE.out.keep (F' := F) (fun q h1 h2 => ⟨h1, Nat.lt_of_lt_of_le h2 HBw.out.size, HBw.out.block q h2⟩)) HZS.out.parts.2.2.2.2.2 HZS.out.parts.2.2.2.1 (HG.out.to HBw.out)).mono ?_
                      rintro e wv ⟨rfl, hbv⟩
                      have HBv := Lib.hid (HBq.out.trans (hbv.mono HBq.out.size))
                      clear hbv
                      obtain ⟨z, hz⟩ : ∃ z, smsF s.els (left - 1) = z := ⟨_, rfl⟩
                      rw [hz]
                      have HZ3 := Lib.hid hz
                      clear hz
                      by_cases hz0 : z = 0
                      · subst hz0
                        go_wp2_with fail
                        go_roundw
                        case rel => exact ⟨2, by omega, rfl, Lib.hid (fun m h => by
                          rcases Nat.lt_or_ge m 1 with h2 | h2
                          · exact HQ1.out m h2
                          · obtain rfl : m = 1 := by omega
                            exact HZ3.out), HBv⟩
                        case measure => simp [intOf]
                      · have e0 : (z != 0) = true := by simpa using hz0
                        have HZ0 := Lib.hid hz0; clear hz0
                        go_wp2_with fail
                        go_ret
                        have e : smF s left = z := by
                          rw [HR.out]
                          rw [if_neg (fun h => h.2 (HQ1.out 0 (by decide))), if_pos HKD.out]; exact HZ3.out
                        exact ⟨by rw [smsF_hit HS.out HE.out (by rw [e]; exact HZ0.out), e]; rfl, HBz.out.trans (HBv.out.mono HBz.out.size)⟩
                    · have e : smF s left = 0 := by
                        rw [HR.out]
                        rw [if_neg (fun h => h.2 (HQ1.out 0 (by decide))), if_pos HKD.out]; exact HQ1.out 1 (by decide)
                      have HE0 := Lib.hid e; clear e
                      go_wp2_with fail
                      go_roundw
                      case rel => exact ⟨j + 1, by omega, by go_num, Lib.hid (smsF_snoc HS.out HE.out HE0.out), Lib.hid (HBz.out.trans (HBq.out.mono HBz.out.size))⟩
                      case measure => simp [intOf]; omega
                · subst hk4
                  go_upto_region 13 with (fail)
                  clear c0 c1 c2 c3 c4' c5 c6 c7 c8 c9
                  generalize w8.alloc _ = wo at HOo HBo HQo ⊢
                  generalize w8.heap.size = bo at HOo hb8 ⊢
                  obtain ⟨⟨c0, c1, c2, c3, c4', c5, c6, c7, c8, c9⟩, -⟩ := facts10 HQo.out
                  go_upto_region 14 with ((at_builtin; go_must (refine wpList_app1 elemRow rfl _ _ rfl w.heap.size _ 0 [] rfl (HOo.out.alloc _) wo.heap.size 1 #[.slice Ab s.body.length cb] rfl (heap_alloc_new wo _) rfl (by simp [Value.oneCell']) (by decide) (by have := HBo.out.size; simp; omega) ?_); intro g1 capg1 w9 hown0 hgrow0 hat0 hlt0))
                  have hgA0 : (wo.alloc (.cells #[.slice Ab s.body.length cb] 30)).grownBy w9 (some bo) := hgrow0
                  have HBz := Lib.hid (below_app (HBo.out.alloc HBo.out.size (.cells #[.slice Ab s.body.length cb] 30)) (HOo.out.alloc (.cells #[.slice Ab s.body.length cb] 30)) (Nat.le_refl _) (by have := HBo.out.size; simp; omega) hgA0)
                  have hown0' : w9.ownsRow w.heap.size 30 1 (.slice (some ⟨g1, 0, none⟩) 1 capg1) 1 [.slice Ab s.body.length cb] := hown0
                  have HO0 := Lib.hid hown0'
                  have HQ9 := Lib.hid ((hgA0.block b6 (by have := lt_of_some HQo.out; simp; omega) (by simp; omega)).trans ((heap_alloc_old wo (.cells #[.slice Ab s.body.length cb] 30) (lt_of_some HQo.out)).trans HQo.out))
                  clear hgrow0 hat0 hown0 hgA0 c0 c1 c2 c3 c4' c5 c6 c7 c8 c9 HQo HOo HBo
                  have hgz : g1 < w9.heap.size := hlt0
                  have HCz : Hid (∀ j u, ([.slice Ab s.body.length cb] : List Value)[j]? = some u → w9.cell? ⟨g1, j, none⟩ = some u) := Lib.hid (by
                    rcases own_cells hown0' with ⟨h, _⟩ | ⟨g, cap, h, _, _, hc⟩
                    · cases h
                    · cases h; exact hc)
                  clear hown0'
                  obtain ⟨⟨c0, -⟩, -⟩ := facts10 HQ9.out
                  go_upto_region 16 with (fail)
                  clear c0
                  obtain ⟨wz, rfl⟩ : ∃ wz : World, wz = w9 := ⟨_, rfl⟩
                  go_wp2_with fail
                  go_loopw [71] (fun i wq => ∃ q : Nat, q ≤ 1 ∧ i = .int .i64 q ∧ Hid (∀ m, m < q → smsF (insAt s m) (left - 1) = 0) ∧ Hid (Below wz.heap.size wz wq)) (fun i _ => 1 - (intOf i).toNat)
                  case atStart => exact ⟨0, Nat.zero_le _, rfl, Lib.hid (fun m h => absurd h (Nat.not_lt_zero m)), Lib.hid (Below.refl _ _)⟩
                  case round =>
                    obtain ⟨q, hq, rfl, HQ1, HBq⟩ := hrel
                    obtain rfl | rfl : q = 0 ∨ q = 1 := by omega
                    · have kc : wr.cell? ⟨g1, 0, none⟩ = some (.slice Ab s.body.length cb) := (HBq.out.cell (p := ⟨g1, 0, none⟩) hgz).trans (HCz.out 0 _ rfl)
                      go_wp2_with fail
                      clear kc
                      have HBw := Lib.hid (HBz.out.trans (HBq.out.mono HBz.out.size))
                      refine (IH.out hl1 _ (by omega) s.body _ _ F _ (HKB.out.keep (F' := F) (fun q h1 h2 => ⟨h1, Nat.lt_of_lt_of_le h2 HBw.out.size, HBw.out.block q h2⟩)) HZS.out.parts.2.2.2.2.1 HZS.out.parts.2.2.1 (HG.out.to HBw.out)).mono ?_
                      rintro e wv ⟨rfl, hbv⟩
                      have HBv := Lib.hid (HBq.out.trans (hbv.mono HBq.out.size))
                      clear hbv
                      obtain ⟨z, hz⟩ : ∃ z, smsF s.body (left - 1) = z := ⟨_, rfl⟩
                      rw [hz]
                      have HZ3 := Lib.hid hz
                      clear hz
                      by_cases hz0 : z = 0
                      · subst hz0
                        go_wp2_with fail
                        go_roundw
                        case rel => exact ⟨1, by omega, rfl, Lib.hid (fun m h => by
                          rcases Nat.lt_or_ge m 0 with h2 | h2
                          · exact HQ1.out m h2
                          · obtain rfl : m = 0 := by omega
                            exact HZ3.out), HBv⟩
                        case measure => simp [intOf]
                      · have e0 : (z != 0) = true := by simpa using hz0
                        have HZ0 := Lib.hid hz0; clear hz0
                        go_wp2_with fail
                        go_ret
                        have e : smF s left = z := by
                          rw [HR.out]
                          rw [if_pos ⟨by rw [HKD.out]; simp, by rw [HZ3.out]; exact HZ0.out⟩]; exact HZ3.out
                        exact ⟨by rw [smsF_hit HS.out HE.out (by rw [e]; exact HZ0.out), e]; rfl, HBz.out.trans (HBv.out.mono HBz.out.size)⟩
                    · have e : smF s left = 0 := by
                        rw [HR.out]
                        rw [if_neg (fun h => h.2 (HQ1.out 0 (by decide))), if_neg (by rw [HKD.out]; decide)]
                      have HE0 := Lib.hid e; clear e
                      go_wp2_with fail
                      go_roundw
                      case rel => exact ⟨j + 1, by omega, by go_num, Lib.hid (smsF_snoc HS.out HE.out HE0.out), Lib.hid (HBz.out.trans (HBq.out.mono HBz.out.size))⟩
                      case measure => simp [intOf]; omega
              · have e3 : (kd == 3) = false := by simp; omega
                have e4 : (kd == 4) = false := by simp; omega
                have H34 : Hid (¬ (s.kind = 3 ∨ s.kind = 4)) := Lib.hid (by rw [HKD.out]; exact hk34)
                clear hk34
                go_upto_region 14 with (fail)
                clear c0 c1 c2 c3 c4' c5 c6 c7 c8 c9
                have hbo : w8.heap.size < (w8.alloc (.cells #[] 30)).heap.size := by simp
                generalize w8.alloc _ = wo at HOo HBo HQo hbo ⊢
                generalize w8.heap.size = bo at HOo hb8 hbo ⊢
                obtain ⟨⟨c0, -⟩, -⟩ := facts10 HQo.out
                go_upto_region 16 with (fail)
                clear c0 e3 e4
                have HBz := HBo
                obtain ⟨wz, rfl⟩ : ∃ wz : World, wz = wo := ⟨_, rfl⟩
                go_wp2_with fail
                go_loopw [71] (fun i wq => ∃ q : Nat, q ≤ 0 ∧ i = .int .i64 q ∧ Hid (∀ m, m < q → smsF (insAt s m) (left - 1) = 0) ∧ Hid (Below wz.heap.size wz wq)) (fun i _ => 0 - (intOf i).toNat)
                case atStart => exact ⟨0, Nat.zero_le _, rfl, Lib.hid (fun m h => absurd h (Nat.not_lt_zero m)), Lib.hid (Below.refl _ _)⟩
                case round =>
                  obtain ⟨q, hq, rfl, HQ1, HBq⟩ := hrel
                  obtain rfl : q = 0 := by omega
                  have e : smF s left = 0 := by
                    rw [HR.out]
                    rw [if_neg (fun h => H34.out h.1), if_neg (fun h => H34.out (.inl h))]
                  have HE0 := Lib.hid e; clear e
                  go_wp2_with fail
                  go_roundw
                  case rel => exact ⟨j + 1, by omega, by go_num, Lib.hid (smsF_snoc HS.out HE.out HE0.out), Lib.hid (HBz.out.trans (HBq.out.mono HBz.out.size))⟩
                  case measure => simp [intOf]; omega
            · have e0 : (z != 0) = true := by simpa using hz0
              have HZ0 := Lib.hid hz0; clear hz0
              go_wp2_with fail
              go_ret
              have e := smF_a hl1 HOK.out HZ0.out HZ2.out
              exact ⟨by rw [smsF_hit HS.out HE.out (by rw [e]; exact HZ0.out), e]; rfl, HB8.out⟩
    · have hje : j = l.length := by omega
      have HF : Hid (smsF l left = 0) := Lib.hid (by have := HE.out; rw [hje, List.take_length] at this; exact this)
      clear hje
      go_wp2_with fail
      go_ret
      exact ⟨by rw [HF.out]; rfl, HB.out⟩
theorem smsF_r : ∀ left, left ≤ 40 → SmsF left := by
  intro left
  induction left with
  | zero => exact fun h => smsF_step 0 h (fun h => absurd h (by decide))
  | succ left ih => exact fun h => smsF_step (left + 1) h (fun _ => ih (by omega))
end Go.Proofs.YtmngofgminlloaaGreatDoor

namespace Go.Proofs.YtmngofgminlloaaGreatDoor
open Go.RowKit Tw Go.Maps

theorem StrsIn.form {w : World} {F : Nat → Prop} {v : Value} {l : List ByteArray} (h : StrsIn w F v l) : ∃ A c, v = .slice A l.length c := by
  rcases h with ⟨a, c, rfl, rfl⟩ | ⟨g, off, cap, rfl, _⟩
  · exact ⟨a, c, rfl⟩
  · exact ⟨_, cap, rfl⟩
theorem IntsIn.form {w : World} {F : Nat → Prop} {v : Value} {l : List Int} (h : IntsIn w F v l) : ∃ A c, v = .slice A l.length c := by
  rcases h with ⟨a, c, rfl, rfl⟩ | ⟨g, off, cap, rfl, _⟩
  · exact ⟨a, c, rfl⟩
  · exact ⟨_, cap, rfl⟩
theorem StrsIn.at {w : World} {F : Nat → Prop} {A : Option Addr} {c : Nat} {l : List ByteArray} (h : StrsIn w F (.slice A l.length c) l) (k : Nat) (s : ByteArray) (hs : l[k]? = some s) : ∃ g off, A = some ⟨g, off, none⟩ ∧ g < w.heap.size ∧ w.cell? ⟨g, off + k, none⟩ = some (.string s) := by
  rcases h with ⟨a, c, e, rfl⟩ | ⟨g, off, cap, e, _, hg, hc⟩
  · simp at hs
  · injection e with e1 e2 e3
    exact ⟨g, off, e1, hg, hc k s hs⟩
theorem IntsIn.at {w : World} {F : Nat → Prop} {A : Option Addr} {c : Nat} {l : List Int} (h : IntsIn w F (.slice A l.length c) l) (k : Nat) (s : Int) (hs : l[k]? = some s) : ∃ g off, A = some ⟨g, off, none⟩ ∧ g < w.heap.size ∧ w.cell? ⟨g, off + k, none⟩ = some (.int .i64 s) := by
  rcases h with ⟨a, c, e, rfl⟩ | ⟨g, off, cap, e, _, hg, hc⟩
  · simp at hs
  · injection e with e1 e2 e3
    exact ⟨g, off, e1, hg, hc k s hs⟩
theorem FnsIn.at {w : World} {F : Nat → Prop} {A : Option Addr} {c : Nat} {l : List Fn} (h : FnsIn w F (.slice A l.length c) l) (k : Nat) (f : Fn) (hf : l[k]? = some f) :
    ∃ g off An cn At ct Ab cb, A = some ⟨g, off, none⟩ ∧ g < w.heap.size ∧ StrsIn w F (.slice An f.names.length cn) f.names ∧ IntsIn w F (.slice At f.types.length ct) f.types ∧ StmtsIn w F (.slice Ab f.body.length cb) f.body ∧
      ∀ j u, (#[.string f.name, .slice An f.names.length cn, .slice At f.types.length ct, .int .i64 f.out, .slice Ab f.body.length cb, .int .i64 f.pos] : Array Value).toList[j]? = some u → w.cell? ⟨g, off + k * 6 + j, none⟩ = some u := by
  rcases h with ⟨a, c, e, rfl⟩ | ⟨g, off, cap, vn, vt, vb, e, _, hg, hc⟩
  · simp at hf
  · injection e with e1 e2 e3
    obtain ⟨h0, h1, h2, h3⟩ := hc k f hf
    obtain ⟨An, cn, e1'⟩ := h1.form
    obtain ⟨At, ct, e2'⟩ := h2.form
    obtain ⟨Ab, cb, e3'⟩ := h3.form
    rw [e1', e2', e3'] at h0; rw [e1'] at h1; rw [e2'] at h2; rw [e3'] at h3
    exact ⟨g, off, An, cn, At, ct, Ab, cb, e1, hg, h1, h2, h3, h0⟩

set_option maxHeartbeats 1000000 in
theorem typ_b (t : Int) (b : Bool) (hb : typB t = b) (w : World) : Calls Tryz.prog 46 #[.int .i64 t] w fun e w' => e = .returned (.bool b) ∧ w = w' := by
  subst hb
  unfold typB
  by_cases h1 : t = 1
  · subst h1
    go_enter Tryz.func46, Tryz.ntmps46
    go_wp2_with fail
    go_ret
    exact ⟨rfl, rfl⟩
  · by_cases h2 : t = 2
    · subst h2
      go_enter Tryz.func46, Tryz.ntmps46
      go_wp2_with fail
      go_ret
      exact ⟨rfl, rfl⟩
    · have e1 : (t == 1) = false := by simpa using h1
      have e2 : (t == 2) = false := by simpa using h2
      have H1 := Lib.hid h1; have H2 := Lib.hid h2
      clear h1 h2
      go_enter Tryz.func46, Tryz.ntmps46
      go_wp2_with fail
      go_ret
      exact ⟨by rw [decide_eq_false H1.out, decide_eq_false H2.out]; rfl, rfl⟩

def okHead (f : Fn) : Bool := decide (f.names.length = f.types.length) && nameB f.name && typB f.out
def okTo (f : Fn) (q : Nat) : Bool := okHead f && (f.names.take q).all nameB && (f.types.take q).all typB
theorem okTo_zero (f : Fn) : okTo f 0 = okHead f := by simp [okTo]
theorem okTo_end (f : Fn) : okTo f f.names.length = (decide (f.names.length = f.types.length) && nameB f.name && typB f.out && f.names.all nameB && f.types.all typB) := by
  unfold okTo okHead
  by_cases h : f.names.length = f.types.length
  · rw [List.take_length, h, List.take_length]
  · simp [h]
theorem okTo_succ (f : Fn) (q : Nat) (n : ByteArray) (t : Int) (hn : f.names[q]? = some n) (ht : f.types[q]? = some t) : okTo f (q + 1) = (okTo f q && nameB n && typB t) := by
  have h1 : q < f.names.length := by rcases Nat.lt_or_ge q f.names.length with h | h; exact h; rw [List.getElem?_eq_none h] at hn; cases hn
  have h2 : q < f.types.length := by rcases Nat.lt_or_ge q f.types.length with h | h; exact h; rw [List.getElem?_eq_none h] at ht; cases ht
  unfold okTo
  rw [List.take_succ_eq_append_getElem h1, List.take_succ_eq_append_getElem h2]
  have e1 : f.names[q] = n := by rw [List.getElem?_eq_getElem h1] at hn; exact Option.some.inj hn
  have e2 : f.types[q] = t := by rw [List.getElem?_eq_getElem h2] at ht; exact Option.some.inj ht
  rw [e1, e2, List.all_append, List.all_append]
  simp only [List.all_cons, List.all_nil, Bool.and_true]
  cases okHead f <;> cases (f.names.take q).all nameB <;> cases (f.types.take q).all typB <;> cases nameB n <;> cases typB t <;> rfl
theorem okTo_no (f : Fn) (q : Nat) (h : okTo f q = false) : okTo f (q + 1) = false := by
  unfold okTo at *
  cases h0 : okHead f with
  | false => simp
  | true =>
    rw [h0] at h
    simp only [Bool.true_and] at h ⊢
    rw [Bool.and_eq_false_iff] at h ⊢
    have key : ∀ {α : Type} (p : α → Bool) (l : List α), (l.take q).all p = false → (l.take (q + 1)).all p = false := by
      intro α p l hp
      rw [List.all_eq_false] at hp ⊢
      obtain ⟨x, hx, hpx⟩ := hp
      refine ⟨x, ?_, hpx⟩
      have : l.take q = (l.take (q + 1)).take q := by rw [List.take_take, Nat.min_eq_left (by omega)]
      rw [this] at hx
      exact List.mem_of_mem_take hx
    exact h.imp (key nameB _) (key typB _)
theorem okTo_name (f : Fn) (q : Nat) (n : ByteArray) (hn : f.names[q]? = some n) (h : nameB n = false) : okTo f (q + 1) = false := by
  have h1 : q < f.names.length := by rcases Nat.lt_or_ge q f.names.length with h | h; exact h; rw [List.getElem?_eq_none h] at hn; cases hn
  have e1 : f.names[q] = n := by rw [List.getElem?_eq_getElem h1] at hn; exact Option.some.inj hn
  unfold okTo
  rw [List.take_succ_eq_append_getElem h1, e1, List.all_append]
  simp [h]
end Go.Proofs.YtmngofgminlloaaGreatDoor

namespace Go.Proofs.YtmngofgminlloaaGreatDoor
open Go.RowKit Tw Go.Maps

theorem facts6 {w : World} {b t : Nat} {u0 u1 u2 u3 u4 u5 : Value} (h : w.heap[b]? = some (.cells #[u0, u1, u2, u3, u4, u5] t (0, 0))) :
    (w.cell? ⟨b, 0, none⟩ = some u0 ∧ w.cell? ⟨b, 1, none⟩ = some u1 ∧ w.cell? ⟨b, 2, none⟩ = some u2 ∧ w.cell? ⟨b, 3, none⟩ = some u3 ∧ w.cell? ⟨b, 4, none⟩ = some u4 ∧ w.cell? ⟨b, 5, none⟩ = some u5) ∧
    w.frozen? ⟨b, 0, none⟩ = false ∧ w.frozen? ⟨b, 1, none⟩ = false ∧ w.frozen? ⟨b, 2, none⟩ = false ∧ w.frozen? ⟨b, 3, none⟩ = false ∧ w.frozen? ⟨b, 4, none⟩ = false ∧ w.frozen? ⟨b, 5, none⟩ = false :=
  ⟨⟨Lib.cell_of_heap h 0, Lib.cell_of_heap h 1, Lib.cell_of_heap h 2, Lib.cell_of_heap h 3, Lib.cell_of_heap h 4, Lib.cell_of_heap h 5⟩, Lib.frozen_of_heap h 0, Lib.frozen_of_heap h 1, Lib.frozen_of_heap h 2, Lib.frozen_of_heap h 3, Lib.frozen_of_heap h 4, Lib.frozen_of_heap h 5⟩

set_option maxRecDepth 100000 in
set_option maxHeartbeats 16000000 in
theorem unitF_c (l : List Fn) (A : Option Addr) (c : Nat) (F : Nat → Prop) (w : World) (hA : FnsIn w F (.slice A l.length c) l) (hZ : ∀ f ∈ l, FnZ f) (hlen : l.length ≤ 281474976710656) (hG : Glob w) :
    Calls Tryz.prog 13 #[.agg #[.slice A l.length c]] w fun e w' => e = .returned (.int .i64 (unitF l)) ∧ Below w.heap.size w w' := by
  have HA := Lib.hid hA; have HZ := Lib.hid hZ; have HG := Lib.hid hG
  clear hA hZ hG
  by_cases h16 : 16 < l.length
  · have h16' : (16 : Int) < (l.length : Int) := by omega
    go_enter Tryz.func13, Tryz.ntmps13
    go_wp2_with fail
    go_ret
    exact ⟨by unfold unitF; rw [if_pos h16]; rfl, (Below.refl _ _).alloc (Nat.le_refl _) _⟩
  have h16' : (l.length : Int) ≤ 16 := by omega
  have hU : Hid (unitF l = fnsF l) := Lib.hid (by unfold unitF; rw [if_neg h16])
  clear h16
  go_enter Tryz.func13, Tryz.ntmps13
  go_wp2_with fail
  go_loopw [17] (fun i wr => ∃ j : Nat, j ≤ l.length ∧ i = .int .i64 j ∧ Hid (fnsF (l.take j) = 0) ∧ Hid (Below w.heap.size w wr)) (fun i _ => l.length - (intOf i).toNat)
  case atStart => exact ⟨0, Nat.zero_le _, rfl, Lib.hid (by rw [List.take_zero, fnsF]), Lib.hid ((Below.refl _ _).alloc (Nat.le_refl _) _)⟩
  case round =>
    obtain ⟨j, hj, rfl, HE, HB⟩ := hrel
    by_cases hlt : j < l.length
    · obtain ⟨f, hf⟩ : ∃ f, l[j]? = some f := ⟨_, List.getElem?_eq_getElem hlt⟩
      obtain ⟨g, off, An, cn, At, ct, Ab, cb, rfl, hg, hkn, hkt, hkb, hc⟩ := HA.out.at j f hf
      have b0 := (HB.out.cell (p := ⟨g, off + j * 6, none⟩) hg).trans (hc 0 _ rfl)
      have b1 := (HB.out.cell (p := ⟨g, off + j * 6 + 1, none⟩) hg).trans (hc 1 _ rfl)
      have b2 := (HB.out.cell (p := ⟨g, off + j * 6 + 2, none⟩) hg).trans (hc 2 _ rfl)
      have b3 := (HB.out.cell (p := ⟨g, off + j * 6 + 3, none⟩) hg).trans (hc 3 _ rfl)
      have b4 := (HB.out.cell (p := ⟨g, off + j * 6 + 4, none⟩) hg).trans (hc 4 _ rfl)
      have b5 := (HB.out.cell (p := ⟨g, off + j * 6 + 5, none⟩) hg).trans (hc 5 _ rfl)
      have hin : f ∈ l := List.mem_of_getElem? hf
      have HS := Lib.hid hf; have HKN := Lib.hid hkn; have HKT := Lib.hid hkt; have HKB := Lib.hid hkb; have HZS := Lib.hid (HZ.out f hin)
      clear hf hkn hkt hkb hc hin
      have k0 : (0 : Int) ≤ (j : Int) := by omega
      have k1 : (j : Int) < (l.length : Int) := by omega
      go_upto_region 7 with (fail)
      clear b0 b1 b2 b3 b4 b5
      have HBa := Lib.hid (HB.out.alloc HB.out.size (.cells #[.string f.name, .slice An f.names.length cn, .slice At f.types.length ct, .int .i64 f.out, .slice Ab f.body.length cb, .int .i64 f.pos] 32))
      have HQ := Lib.hid (heap_alloc_new wr (.cells #[.string f.name, .slice An f.names.length cn, .slice At f.types.length ct, .int .i64 f.out, .slice Ab f.body.length cb, .int .i64 f.pos] 32))
      generalize wr.alloc _ = wa at HBa HQ ⊢
      have hb6 := lt_of_some HQ.out
      generalize wr.heap.size = b6 at HQ hb6 ⊢
      have hnl := HZS.out.nlen; have htl := HZS.out.tlen; have hbl := HZS.out.blen
      obtain ⟨⟨c0, c1, c2, c3, c4, c5⟩, -⟩ := facts6 HQ.out
      by_cases h6 : 6 < f.names.length
      · have h6' : (6 : Int) < (f.names.length : Int) := by omega
        have e : fnF f = 2 := by unfold fnF; rw [if_pos h6]
        have HF := Lib.hid e; clear e h6
        go_wp2_with fail
        go_ret
        exact ⟨by rw [hU.out, fnsF_hit HS.out HE.out (by rw [HF.out]; decide), HF.out]; rfl, HBa.out⟩
      have h6' : (f.names.length : Int) ≤ 6 := by omega
      have H6 := Lib.hid h6; clear h6
      obtain ⟨bn, hbn⟩ : ∃ b, nameB f.name = b := ⟨_, rfl⟩
      obtain ⟨bt, hbt⟩ : ∃ b, typB f.out = b := ⟨_, rfl⟩
      have NC := Lib.hid (nameOK_b f.name bn hbn wa HZS.out.name (HG.out.to HBa.out))
      have HN := Lib.hid hbn; have HT := Lib.hid hbt
      clear hbn hbt
      go_upto_region 9 with (fail)
      go_cut [6] (fun u W => u = .bool (okTo f 0) ∧ Hid (Below wa.heap.size wa W))
      case first =>
        by_cases hl : f.names.length = f.types.length
        · have e1 : ((f.names.length : Int) == (f.types.length : Int)) = true := beq_iff_eq.2 (by omega)
          have e1' : (f.names.length == f.types.length) = true := by simpa using hl
          have HL := Lib.hid hl; clear hl
          cases bn with
          | false =>
            go_wp2_with (go_at_call 47; refine NC.out.mono ?_; rintro e w7 ⟨rfl, hb7⟩)
            go_meet
            case rel => exact ⟨congrArg Value.bool (by rw [okTo_zero]; unfold okHead; rw [HN.out, HT.out]; simp), Lib.hid hb7⟩
          | true =>
            go_wp2_with (first | (go_at_call 47; refine NC.out.mono ?_; rintro e w7 ⟨rfl, hb7⟩; have d3 := (hb7.cell (p := ⟨b6, 3, none⟩) hb6).trans c3) | (go_at_call 46; refine (typ_b f.out bt HT.out _).mono ?_; rintro e w8 ⟨rfl, rfl⟩))
            go_meet
            case rel => exact ⟨congrArg Value.bool (by rw [okTo_zero]; unfold okHead; rw [HN.out, HT.out]; simp [HL.out]), Lib.hid hb7⟩
        · have e1 : ((f.names.length : Int) == (f.types.length : Int)) = false := beq_eq_false_iff_ne.2 (by omega)
          have e1' : (f.names.length == f.types.length) = false := by simpa using hl
          have HL := Lib.hid hl; clear hl
          go_wp2_with fail
          go_meet
          case rel => exact ⟨congrArg Value.bool (by rw [okTo_zero]; unfold okHead; simp [HL.out]), Lib.hid (Below.refl _ _)⟩
      case rest =>
        obtain ⟨rfl, HBb⟩ := hcut
        replace HQ := Lib.hid ((HBb.out.block b6 hb6).trans HQ.out)
        have HBc := Lib.hid (HBa.out.trans (HBb.out.mono HBa.out.size))
        clear c0 c1 c2 c3 c4 c5 NC HBa HBb
        have hb7 := lt_of_some HQ.out
        obtain ⟨⟨c0, c1, c2, c3, c4, c5⟩, -⟩ := facts6 HQ.out
        go_upto_block 2 with (fail)
        clear c0 c1 c2 c3 c4 c5
        go_cut [6] (fun u W => u = .bool (okTo f f.names.length) ∧ Hid (W.heap[b6]? = some (.cells #[.string f.name, .slice An f.names.length cn, .slice At f.types.length ct, .int .i64 f.out, .slice Ab f.body.length cb, .int .i64 f.pos] 32 (0, 0))) ∧ Hid (Below w.heap.size w W))
        case first =>
          go_wp2_with fail
          go_loopw [6, 46] (fun u i wq => ∃ q : Nat, q ≤ f.names.length ∧ i = .int .i64 q ∧ u = .bool (okTo f q) ∧ Hid (wq.heap[b6]? = some (.cells #[.string f.name, .slice An f.names.length cn, .slice At f.types.length ct, .int .i64 f.out, .slice Ab f.body.length cb, .int .i64 f.pos] 32 (0, 0))) ∧ Hid (Below w.heap.size w wq)) (fun _ i _ => f.names.length - (intOf i).toNat)
          case atStart => exact ⟨0, Nat.zero_le _, rfl, rfl, HQ, HBc⟩
          case round =>
            obtain ⟨q, hq, rfl, rfl, HQ, HB⟩ := hrel
            by_cases hlq : q < f.names.length
            · obtain ⟨n, hn⟩ : ∃ n, f.names[q]? = some n := ⟨_, List.getElem?_eq_getElem hlq⟩
              obtain ⟨gn, on, rfl, hgn, hcn⟩ := HKN.out.at q n hn
              have kc := (HB.out.cell (p := ⟨gn, on + q, none⟩) hgn).trans hcn
              have hnin : n ∈ f.names := List.mem_of_getElem? hn
              have HNn := Lib.hid hn; have HNI := Lib.hid hnin
              have q0 : (0 : Int) ≤ (q : Int) := by omega
              have q1 : (q : Int) < (f.names.length : Int) := by omega
              clear hcn hn hnin
              obtain ⟨bo, hbo⟩ : ∃ b, okTo f q = b := ⟨_, rfl⟩
              rw [hbo]
              have HO := Lib.hid hbo; clear hbo
              have hb8 := lt_of_some HQ.out
              obtain ⟨⟨-, -, c2, -⟩, -⟩ := facts6 HQ.out
              cases bo with
              | false =>
                go_wp2_with fail
                go_roundw
                case rel => exact ⟨q + 1, by omega, by go_num, by rw [okTo_no f q HO.out], HQ, HB⟩
                case measure => simp [intOf]; omega
              | true =>
                have hl : f.names.length = f.types.length := by
                  have := HO.out
                  unfold okTo okHead at this
                  simp only [Bool.and_eq_true, decide_eq_true_eq] at this
                  exact this.1.1.1.1
                obtain ⟨t, ht⟩ : ∃ t, f.types[q]? = some t := ⟨_, List.getElem?_eq_getElem (by omega)⟩
                obtain ⟨gt, ot, rfl, hgt, hct⟩ := HKT.out.at q t ht
                have kt := (HB.out.cell (p := ⟨gt, ot + q, none⟩) hgt).trans hct
                have q2 : (q : Int) < (f.types.length : Int) := by omega
                have HTt := Lib.hid ht; have HL := Lib.hid hl
                clear hct ht hl
                obtain ⟨bn, hbn⟩ : ∃ b, nameB n = b := ⟨_, rfl⟩
                obtain ⟨bt, hbt⟩ : ∃ b, typB t = b := ⟨_, rfl⟩
                have NC := Lib.hid (nameOK_b n bn hbn wr (HZS.out.names n HNI.out) (HG.out.to HB.out))
                have HN := Lib.hid hbn; have HT := Lib.hid hbt
                clear hbn hbt
                have hgt' : gt < wr.heap.size := Nat.lt_of_lt_of_le hgt HB.out.size
                cases bn with
                | false =>
                  go_wp2_with (go_at_call 47; refine NC.out.mono ?_; rintro e w7 ⟨rfl, hb7⟩)
                  go_roundw
                  case rel => exact ⟨q + 1, by omega, by go_num, by rw [okTo_name f q n HNn.out HN.out], Lib.hid ((hb7.block b6 hb8).trans HQ.out), Lib.hid (HB.out.trans (hb7.mono HB.out.size))⟩
                  case measure => simp [intOf]; omega
                | true =>
                  go_wp2_with (first | (go_at_call 47; refine NC.out.mono ?_; rintro e w7 ⟨rfl, hb7⟩; have d2 := (hb7.cell (p := ⟨b6, 2, none⟩) hb8).trans c2; have dt := (hb7.cell (p := ⟨gt, ot + q, none⟩) hgt').trans kt) | (go_at_call 46; refine (typ_b t bt HT.out _).mono ?_; rintro e w8 ⟨rfl, rfl⟩))
                  go_roundw
                  case rel => exact ⟨q + 1, by omega, by go_num, by rw [okTo_succ f q n t HNn.out HTt.out, HO.out, HN.out, HT.out]; rfl, Lib.hid ((hb7.block b6 hb8).trans HQ.out), Lib.hid (HB.out.trans (hb7.mono HB.out.size))⟩
                  case measure => simp [intOf]; omega
            · have hqe : q = f.names.length := by omega
              subst hqe
              go_wp2_with fail
              go_meet
              case rel => exact ⟨rfl, HQ, HB⟩
        case rest =>
          clear HQ HBc
          obtain ⟨rfl, HQ, HBc⟩ := hcut
          obtain ⟨bo, hbo⟩ : ∃ b, okTo f f.names.length = b := ⟨_, rfl⟩
          rw [hbo]
          have HO := Lib.hid hbo; clear hbo
          have hb9 := lt_of_some HQ.out
          obtain ⟨⟨c0, c1, c2, c3, c4, c5⟩, -⟩ := facts6 HQ.out
          cases bo with
          | false =>
            have e : fnF f = 3 := by unfold fnF; rw [if_neg H6.out, if_pos (by rw [← okTo_end]; exact HO.out)]
            have HF := Lib.hid e; clear e
            go_wp2_with fail
            go_ret
            exact ⟨by rw [hU.out, fnsF_hit HS.out HE.out (by rw [HF.out]; decide), HF.out]; rfl, HBc.out⟩
          | true =>
            have e : fnF f = smsF f.body 40 := by unfold fnF; rw [if_neg H6.out, if_neg (by rw [← okTo_end, HO.out]; decide)]
            have HF := Lib.hid e; clear e
            go_wp2_with fail
            clear c0 c1 c2 c3 c4 c5
            refine (smsF_r 40 (by decide) 40 rfl f.body Ab cb F _ (HKB.out.keep (F' := F) (fun q h1 h2 => ⟨h1, Nat.lt_of_lt_of_le h2 HBc.out.size, HBc.out.block q h2⟩)) HZS.out.body HZS.out.blen (HG.out.to HBc.out)).mono ?_
            rintro e w8 ⟨rfl, hb8⟩
            have HB8 := Lib.hid (HBc.out.trans (hb8.mono HBc.out.size))
            clear hb8
            obtain ⟨z, hz⟩ : ∃ z, smsF f.body 40 = z := ⟨_, rfl⟩
            rw [hz]
            have HZ2 := Lib.hid (HF.out.trans hz)
            clear hz
            by_cases hz0 : z = 0
            · subst hz0
              go_wp2_with fail
              go_roundw
              case rel => exact ⟨j + 1, by omega, by go_num, Lib.hid (fnsF_snoc HS.out HE.out HZ2.out), HB8⟩
              case measure => simp [intOf]; omega
            · have e0 : (z != 0) = true := by simpa using hz0
              have HZ0 := Lib.hid hz0; clear hz0
              go_wp2_with fail
              go_ret
              exact ⟨by rw [hU.out, fnsF_hit HS.out HE.out (by rw [HZ2.out]; exact HZ0.out), HZ2.out]; rfl, HB8.out⟩
    · have hje : j = l.length := by omega
      have HF : Hid (fnsF l = 0) := Lib.hid (by have := HE.out; rw [hje, List.take_length] at this; exact this)
      clear hje
      go_wp2_with fail
      go_ret
      exact ⟨by rw [hU.out, HF.out]; rfl, HB.out⟩
end Go.Proofs.YtmngofgminlloaaGreatDoor

namespace Go.Proofs.YtmngofgminlloaaGreatDoor
open Go.RowKit Tw

end Go.Proofs.YtmngofgminlloaaGreatDoor
