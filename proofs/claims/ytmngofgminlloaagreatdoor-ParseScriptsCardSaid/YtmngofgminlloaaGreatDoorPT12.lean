/-
  The program's block(), of whatever its callee answers by contract.
  The reference's one(), of whatever its callees answer by contract.
  The reference's level(6), of whatever its callee answers by contract.
  The reference's level(n) below 6, of whatever its callees answer by contract.
-/
import Derived.Test.YtmngofgminlloaaGreatDoorPT11
import Derived.Outline
import Derived.Deep.DeepCutAuto
import Derived.Test.YtmngofgminlloaaGreatDoorPT08
import Derived.Test.YtmngofgminlloaaGreatDoorPT07
namespace Go.Proofs.YtmngofgminlloaaGreatDoor
open Go.RowKit Tw

theorem De.on {ws : List Wd} {en : Nat} {q : Qe} {r : Re} (h : De ws en q r) : dcOn q r := by
  induction h
  case lvl r _ _ _ ih1 ih2 => cases r <;> simp only [dcOn] at * <;> omega
  case lvl6 r _ ih => cases r <;> simp only [dcOn] at * <;> omega
  case go r _ _ _ _ ih1 ih2 => cases r <;> simp only [dcOn] at * <;> omega
  all_goals (simp only [dcOn] at *; try omega)
def dsOn : Qs → Rs → Prop
  | .stmt i, .st _ j => i < j
  | .block i, .sts _ j => i < j
  | .stmts i, .sts _ j => i < j
  | _, _ => True
theorem Ds.on {ws : List Wd} {en : Nat} {q : Qs} {r : Rs} (h : Ds ws en q r) : dsOn q r := by
  induction h
  case simp h _ => have h' : exprS ws _ < _ := De.on h; simp only [dsOn]; unfold exprS at h'; (repeat' split at h') <;> omega
  case block r _ _ ih => cases r <;> simp only [dsOn] at * <;> omega
  case whil h _ ih => have h' : _ < _ := De.on h; simp only [dsOn] at *; omega
  case if0 h _ _ ih => have h' : _ < _ := De.on h; simp only [dsOn] at *; omega
  case ifE h _ _ _ _ ih1 ih2 => have h' : _ < _ := De.on h; simp only [dsOn] at *; omega
  case ifI h _ _ _ _ ih1 ih2 => have h' : _ < _ := De.on h; simp only [dsOn] at *; omega
  all_goals (simp only [dsOn] at *; try omega)

def joinS (l : List Sm) : Rs → Rs
  | .sts m j => .sts (l ++ m) j
  | r => r
set_option maxRecDepth 100000 in
set_option maxHeartbeats 8000000 in
theorem block_p (rb : Nat) (v : Value) (ws : List Wd) (en i : Nat) (hr : 10 < rb) (h1 : ∀ j, i < j → StmtP rb v ws en j) : BlockP rb v ws en i := by
  intro r hd w h hG
  have H1 := Lib.hid h1; have HR := Lib.hid h; have HG := Lib.hid hG; have HD := Lib.hid hd
  have hrl := h.lt
  clear h1 h hG hd
  go_enter Tryz.func141, Tryz.ntmps141
  go_wp2_with fail
  have hX : (isAt ws i sBra = false ∧ r = .bad i) ∨ (isAt ws i sBra = true ∧ Ds ws en (.stmts (i + 1)) r) := by
    have h := HD.out
    cases h with
    | blockB h => exact .inl ⟨h, rfl⟩
    | block h h2 => exact .inr ⟨h, h2⟩
  rcases hX with ⟨ha, rfl⟩ | ⟨ha, hd⟩
  · refine (want_pb sBra (ne_of (by decide)) HR.out ha).mono ?_
    rintro e w2 ⟨rfl, hg⟩
    have HGG := Lib.hid hg; clear hg
    unfold badP
    go_wp2_with fail
    exact ⟨rfl, rfl, HGG.out⟩
  have HS0 := Lib.hid hd; clear hd
  refine (want_p sBra (ne_of (by decide)) HR.out ha).mono ?_
  rintro e w0 ⟨rfl, hR, hg⟩
  have HR0 := Lib.hid hR
  have Hg0 := Lib.hid hg
  clear hR hg HR HD ha
  go_wp2_with fail
  go_loopw [3] (fun o wr => ∃ (l : List (Sm × Value × Value × Value)) (A : Option Addr) (c i' : Nat) (r' : Rs), o = .slice A l.length c ∧ Hid (GRow smElem wr w.heap.size 188 10 (.slice A l.length c) l) ∧ Hid (Rq wr rb v ws i' en) ∧ Hid (i < i' ∧ l.length ≤ i' ∧ Ds ws en (.stmts i') r' ∧ r = joinS (l.map (·.1)) r') ∧ Hid (w.grownBy wr (some rb)))
    (fun _ wr => ws.length - placeOf wr rb)
  case atStart => exact ⟨[], none, 0, i + 1, r, rfl, Lib.hid (GRow.nil _ _ _ _ _), HR0, Lib.hid ⟨by omega, by simp, HS0.out, by cases r <;> simp [joinS]⟩, Hg0⟩
  case round =>
    obtain ⟨l, A, c, i', r', rfl, HW, HR', HI, Hgr⟩ := hrel
    clear HR0 HS0 Hg0
    obtain ⟨t, ht⟩ : ∃ t, isAt ws i' sKet = t := ⟨_, rfl⟩
    have T := Lib.hid ht; clear ht
    go_wp2_with fail
    refine (take_p sKet (ne_of (by decide)) t HR'.out T.out).mono ?_
    rintro e w1 ⟨rfl, hR, hg⟩
    have hsz := Hgr.out.size
    have HW1 := Lib.hid (HW.out.kept hg (fun k e => .inl (by cases e; exact hrl)))
    have HR1 := Lib.hid hR
    have Hg1 := Lib.hid (grown_trans Hgr.out hg)
    clear hR hg HW Hgr
    cases t with
    | true =>
      obtain ⟨_, _, hd, he⟩ := HI.out
      have hq : r' = .sts [] (i' + 1) := by
        cases hd with
        | done _ => rfl
        | more h => rw [T.out] at h; cases h
        | moreR h => rw [T.out] at h; cases h
        | moreB h => rw [T.out] at h; cases h
      subst hq; subst he
      go_wp2_with fail
      go_ret
      refine ⟨A, c, ?_, ?_, by simpa using HR1.out, Hg1.out⟩
      · simp
      · have := HW1.out.stmts; simpa using this
    | false =>
      simp only [Bool.false_eq_true, if_false] at HR1
      have hn : l.length ≤ 4000 := by
        have := HI.out.2.1; have := HR'.out.pos; have := HR'.out.len; omega
      have hii := HI.out.1
      have hX : (∃ j, Ds ws en (.stmt i') (.bad j) ∧ r = .bad j) ∨ ∃ x j r2, Ds ws en (.stmt i') (.st x j) ∧ Ds ws en (.stmts j) r2 ∧ r = joinS (l.map (·.1) ++ [x]) r2 := by
        have h := HI.out.2.2.1; have e := HI.out.2.2.2
        cases h with
        | done h => rw [T.out] at h; cases h
        | more _ h1 h2 => exact .inr ⟨_, _, _, h1, h2, by rw [e]; simp [joinS]⟩
        | moreR _ h1 h2 => exact .inr ⟨_, _, _, h1, h2, by rw [e]; rfl⟩
        | moreB _ h1 => exact .inl ⟨_, h1, by rw [e]; rfl⟩
      rcases hX with ⟨j, hy, rfl⟩ | ⟨s, j, r2, hy, hm, hj⟩
      · have HY := Lib.hid hy; clear hy
        go_wp2_with fail
        refine (H1.out i' hii _ HY.out w1 HR1.out (HG.out.of Hg1.out hr)).mono ?_
        rintro e w3 ⟨rfl, hg⟩
        have HGG := Lib.hid (grown_trans Hg1.out hg); clear hg
        unfold badP
        go_wp2_with fail
        exact ⟨rfl, rfl, HGG.out⟩
      · have HY := Lib.hid hy; have HM := Lib.hid hm; have HJ := Lib.hid hj; clear hy hm hj
        have hon : i' < j := HY.out.on
        go_wp2_with fail
        refine (H1.out i' hii _ HY.out w1 HR1.out (HG.out.of Hg1.out hr)).mono ?_
        rintro e w3 ⟨Aa, ca, Ab, cb, Ae, ce, rfl, hA, hB, hE, hR, hg⟩
        have hsz2 := Hg1.out.size
        have HK : Hid (smElem.kid w3 (fun g => w1.heap.size ≤ g) (s, .slice Aa s.a.args.length ca, .slice Ab s.body.length cb, .slice Ae s.els.length ce)) := Lib.hid ⟨hA, hB, hE⟩
        have HR3 := Lib.hid hR
        have HW3 := Lib.hid (HW1.out.kept hg (fun k e => .inl (by cases e; exact hrl)))
        have Hg3 := Lib.hid (grown_trans Hg1.out hg)
        have hown := HW1.out.1.lt
        have hsz3 := hg.size
        clear hA hB hE hR hg
        go_wp2_with ((at_builtin; go_must (refine wpList_app1 elemSm rfl _ _ rfl w.heap.size _ l.length (l.flatMap smElem.cells) rfl (HW3.out.1.alloc _) w3.heap.size 1 #[.int .i64 s.kind, .string s.name, .int .i64 s.a.kind, .int .i64 s.a.n, .string s.a.text, .slice Aa s.a.args.length ca, .int .i64 s.a.pos, .slice Ab s.body.length cb, .slice Ae s.els.length ce, .int .i64 s.pos] rfl (heap_alloc_new w3 _) rfl (by simp [Value.oneCell']) (by omega) (by simp; omega) ?_); intro g4 cap4 w4 hown4 hgrow4 hat4 hlt4))
        have hg4 : (w3.alloc (.cells #[.int .i64 s.kind, .string s.name, .int .i64 s.a.kind, .int .i64 s.a.n, .string s.a.text, .slice Aa s.a.args.length ca, .int .i64 s.a.pos, .slice Ab s.body.length cb, .slice Ae s.els.length ce, .int .i64 s.pos] 188)).grownBy w4 (Value.slice A l.length c).ownBlock := hgrow4
        have ha4 : (Value.slice A l.length c).ownBlock = some g4 ∨ g4 = (w3.alloc (.cells #[.int .i64 s.kind, .string s.name, .int .i64 s.a.kind, .int .i64 s.a.n, .string s.a.text, .slice Aa s.a.args.length ca, .int .i64 s.a.pos, .slice Ab s.body.length cb, .slice Ae s.els.length ce, .int .i64 s.pos] 188)).heap.size := hat4
        have hk4 : smElem.kid (w3.alloc (.cells #[.int .i64 s.kind, .string s.name, .int .i64 s.a.kind, .int .i64 s.a.n, .string s.a.text, .slice Aa s.a.args.length ca, .int .i64 s.a.pos, .slice Ab s.body.length cb, .slice Ae s.els.length ce, .int .i64 s.pos] 188)) (fun g => w1.heap.size ≤ g) (s, .slice Aa s.a.args.length ca, .slice Ab s.body.length cb, .slice Ae s.els.length ce) :=
          smElem.keep (fun g h1 h2 => ⟨h1, by simp; omega, heap_alloc_old w3 _ h2⟩) HK.out
        have HW4 := Lib.hid (GRow.app (HW3.out.below ((Below.refl _ _).alloc (Nat.le_refl _) _)) hk4 (fun g hg => ⟨by omega, fun e => by have := (hown g e).2; omega⟩) hown4 hg4 ha4)
        have hrow : ∀ k, (Value.slice A l.length c).ownBlock = some k → w.heap.size ≤ k := fun k e => (hown k e).1
        have HR4 := Lib.hid (rq_app (HR3.out.keep ((Below.refl _ _).alloc (Nat.le_refl _) _)) hg4 (fun k e => by have := hrow k e; omega))
        have Hg4 := Lib.hid (grown_app (grown_trans Hg3.out (grown_of_below ((Below.refl _ _).alloc (Nat.le_refl _) _) _)) hg4 hrow)
        clear hgrow4 hat4 hown4 hg4 ha4 hk4
        go_roundw
        case rel => exact ⟨l ++ [(s, .slice Aa s.a.args.length ca, .slice Ab s.body.length cb, .slice Ae s.els.length ce)], some ⟨g4, 0, none⟩, cap4, j, r2, by simp, by simpa using HW4, HR4, Lib.hid ⟨by omega, by have := HI.out.2.1; simp; omega, HM.out, by rw [HJ.out]; simp⟩, Hg4⟩
        case measure => rw [HR4.out.place, HR'.out.place]; have := HR4.out.pos; omega
end Go.Proofs.YtmngofgminlloaaGreatDoor

namespace Go.Proofs.YtmngofgminlloaaGreatDoor
open Go.RowKit Tw

set_option maxRecDepth 100000 in
set_option maxHeartbeats 8000000 in
theorem one_c (rb : Nat) (v : Value) (ws : List Wd) (en i : Nat) (hN : NumsOk ws) (hr : 10 < rb) (h1 : OneC rb v ws en (i + 1)) (h2 : LvlC rb v ws en 1 (i + 1)) (h3 : ∀ j, i < j → ArgsC rb v ws en j) : OneC rb v ws en i := by
  intro w b h hG
  have H1 := Lib.hid h1; have H2 := Lib.hid h2; have H3 := Lib.hid h3; have HR := Lib.hid h; have HG := Lib.hid hG; have HN := Lib.hid hN
  have hrl := h.lt
  clear h1 h2 h3 h hG hN
  go_enter Tryz.func203, Tryz.ntmps203
  go_wp2_with fail
  refine (at_r (HR.out.keep ((Below.refl _ _).alloc (Nat.le_refl _) _))).mono ?_
  rintro e w1 ⟨rfl, hb⟩
  have hb0 : Below w.heap.size w w1 := ((Below.refl _ _).alloc (Nat.le_refl _) _).trans (hb.mono (by simp))
  have HF : Hid (Fr2 w _ rb w.heap.size w1.heap.size v ws i en b (.int .i64 0) (.int .i64 0) (.string ⟨#[]⟩) (.slice none 0 0) (.int .i64 (posAt ws i en))) :=
    Lib.hid (Fr2.start (HR.out.keep hb0) (HG.out.to hb0) hr (grown_of_below hb0 _) hrl (Nat.le_refl _) (by have := hb.size; simp at this; omega) ((hb.block _ (by simp)).trans (heap_alloc_new w _)) _ _ _ _ _)
  clear hb hb0
  go_upto_block 0 with (fail)
  generalize w1.alloc _ = W1 at HF ⊢
  generalize w1.heap.size = b1 at HF ⊢
  obtain ⟨b0, hb0⟩ : ∃ b0, w.heap.size = b0 := ⟨_, rfl⟩
  rw [hb0] at HF
  simp only [hb0]
  have HB0 := Lib.hid hb0; clear hb0
  go_cut [] (fun W => ∃ (x : Ex) (A : Option Addr) (c i' : Nat) (b' : Bool), Hid (Fr2 w W rb b0 b1 v ws i' en b' (.int .i64 x.kind) (.int .i64 x.n) (.string x.text) (.slice A x.args.length c) (.int .i64 x.pos)) ∧ Hid (ArgsIn W (fun g => w.heap.size ≤ g ∧ g ≠ b0) (.slice A x.args.length c) x.args) ∧ Hid (OutE ws en (.one i) b x i' b'))
  case rest =>
    obtain ⟨x, A, c, i', b', HF, HA, HO⟩ := hcut
    obtain ⟨⟨c0, c1, c2, c3, c4⟩, f0, f1, f2, f3, f4⟩ := facts5 HF.out.ex
    obtain ⟨⟨d0, d1, d2, d3, d4⟩, g0, g1, g2, g3, g4⟩ := facts5 HF.out.res
    have HW := Lib.hid (set5 (.int .i64 x.kind) (.int .i64 x.n) (.string x.text) (.slice A x.args.length c) (.int .i64 x.pos) HF.out.res)
    go_wp2_with fail
    refine bodyPost_ret (results_cell_row rfl _ _ b0 _ _ _ _ rfl HW.out Tryz.underlying186 rfl exInfo) rfl ?_
    exact HF.out.ret HA.out (fun g h => h) HO.out
  case first =>
    go_wp2_with fail
    obtain ⟨t1, ht1⟩ : ∃ t, seeB ws i b sMinus = t := ⟨_, rfl⟩
    have T1 := Lib.hid ht1
    refine (take_r sMinus t1 HF.out.rd ht1).mono ?_
    rintro e w2 ⟨rfl, hR, hg⟩
    replace HF := Lib.hid (HF.out.step hR hg)
    clear hR hg ht1
    cases t1 with
    | true =>
      obtain ⟨eb, ea⟩ := seeB_yes T1.out
      subst eb
      have EA := Lib.hid ea; clear ea
      simp only [if_true] at HF
      go_wp2_with fail
      refine (H1.out w2 false HF.out.rd HF.out.gl).mono ?_
      rintro e w3 ⟨y, A, c, i', b', rfl, hA, hR, hO, hg⟩
      have HA := Lib.hid hA; have HO := Lib.hid hO
      have hz2 := HF.out.z3; have hz0 := HF.out.gr.size; have hz1 := HF.out.z2; have hs := hg.size
      replace HF := Lib.hid (HF.out.step hR hg)
      have hz3 := HF.out.z3
      clear hR hg hA hO
      obtain ⟨⟨c0, c1, c2, c3, c4⟩, f0, f1, f2, f3, f4⟩ := facts5 HF.out.ex
      go_wp2_with fail
      go_meet
      case rel =>
        refine ⟨.mk 4 0 sNone [y] (posAt ws i en), some ⟨w3.heap.size, 0, none⟩, 1, i', b', Lib.hid (((HF.out.s0 _).s3 _).below ((Below.refl _ _).alloc (Nat.le_refl _) _)), Lib.hid ?_, Lib.hid (out_neg (head1  EA.out) HO.out)⟩
        exact args_one HA.out (grown_trans (grown_set _ _ _ _) (grown_set _ _ _ _)) (fun g (h : w2.heap.size ≤ g) => ⟨by omega, by omega, by omega⟩) (by simp) ⟨by omega, by omega⟩
    | false =>
      go_wp2_with fail
      obtain ⟨t2, ht2⟩ : ∃ t, seeB ws i b sBang = t := ⟨_, rfl⟩
      have T2 := Lib.hid ht2
      refine (take_r sBang t2 HF.out.rd ht2).mono ?_
      rintro e w2 ⟨rfl, hR, hg⟩
      replace HF := Lib.hid (HF.out.step hR hg)
      clear hR hg ht2
      cases t2 with
      | true =>
        obtain ⟨eb, ea⟩ := seeB_yes T2.out
        subst eb
        have EA := Lib.hid ea; clear ea
        have E1 := Lib.hid (seeB_no T1.out)
        simp only [if_true] at HF
        go_wp2_with fail
        refine (H1.out w2 false HF.out.rd HF.out.gl).mono ?_
        rintro e w3 ⟨y, A, c, i', b', rfl, hA, hR, hO, hg⟩
        have HA := Lib.hid hA; have HO := Lib.hid hO
        have hz2 := HF.out.z3; have hz0 := HF.out.gr.size; have hz1 := HF.out.z2; have hs := hg.size
        replace HF := Lib.hid (HF.out.step hR hg)
        have hz3 := HF.out.z3
        clear hR hg hA hO
        obtain ⟨⟨c0, c1, c2, c3, c4⟩, f0, f1, f2, f3, f4⟩ := facts5 HF.out.ex
        go_wp2_with fail
        go_meet
        case rel =>
          refine ⟨.mk 5 0 sNone [y] (posAt ws i en), some ⟨w3.heap.size, 0, none⟩, 1, i', b', Lib.hid (((HF.out.s0 _).s3 _).below ((Below.refl _ _).alloc (Nat.le_refl _) _)), Lib.hid ?_, Lib.hid (out_not (head2 E1.out EA.out) HO.out)⟩
          exact args_one HA.out (grown_trans (grown_set _ _ _ _) (grown_set _ _ _ _)) (fun g (h : w2.heap.size ≤ g) => ⟨by omega, by omega, by omega⟩) (by simp) ⟨by omega, by omega⟩
      | false =>
        go_wp2_with fail
        obtain ⟨t3, ht3⟩ : ∃ t, seeB ws i b sOpen = t := ⟨_, rfl⟩
        have T3 := Lib.hid ht3
        refine (take_r sOpen t3 HF.out.rd ht3).mono ?_
        rintro e w2 ⟨rfl, hR, hg⟩
        replace HF := Lib.hid (HF.out.step hR hg)
        clear hR hg ht3
        cases t3 with
        | true =>
          obtain ⟨eb, ea⟩ := seeB_yes T3.out
          subst eb
          have EA := Lib.hid ea; clear ea
          have E1 := Lib.hid (seeB_no T1.out)
          have E2 := Lib.hid (seeB_no T2.out)
          simp only [if_true] at HF
          go_wp2_with fail
          refine (H2.out w2 false HF.out.rd HF.out.gl).mono ?_
          rintro e w3 ⟨y, A, c, i', b', rfl, hA, hR, hO, hg⟩
          have HA := Lib.hid hA; have HO := Lib.hid hO
          have hz2 := HF.out.z3; have hz0 := HF.out.gr.size; have hz1 := HF.out.z2; have hs := hg.size; have hzr := HF.out.z0
          replace HF := Lib.hid (HF.out.step hR hg)
          have hz3 := HF.out.z3
          clear hR hg hA hO
          obtain ⟨⟨c0, c1, c2, c3, c4⟩, f0, f1, f2, f3, f4⟩ := facts5 HF.out.ex
          go_wp2_with fail
          have HF5 := Lib.hid (((((HF.out.s0 (.int .i64 y.kind)).s1 (.int .i64 y.n)).s2 (.string y.text)).s3 (.slice A y.args.length c)).s4 (.int .i64 y.pos))
          have HA5 := Lib.hid (ArgsIn.later HA.out (some b1) (grown5 w3 b1 (.int .i64 y.kind) (.int .i64 y.n) (.string y.text) (.slice A y.args.length c) (.int .i64 y.pos)) (fun g (h : w2.heap.size ≤ g) => by simp; omega) (fun g (h : w2.heap.size ≤ g) => (⟨by omega, by omega⟩ : w.heap.size ≤ g ∧ g ≠ b0)))
          clear HA HF c0 c1 c2 c3 c4 f0 f1 f2 f3 f4
          generalize (((((w3.setCell ⟨b1, 0, none⟩ _).setCell ⟨b1, 1, none⟩ _).setCell ⟨b1, 2, none⟩ _).setCell ⟨b1, 3, none⟩ _).setCell ⟨b1, 4, none⟩ _) = W5 at HF5 HA5 ⊢
          refine (want_r sClose HF5.out.rd).mono ?_
          rintro e w6 ⟨rfl, ⟨i2, b2, hR, hW⟩, hg⟩
          have HW := Lib.hid hW
          have HA6 := Lib.hid (ArgsIn.later HA5.out (some rb) hg (fun g (h : w.heap.size ≤ g ∧ g ≠ b0) => by simp; omega) (fun g h => h))
          replace HF5 := Lib.hid (HF5.out.step hR hg)
          clear hR hg hW HA5
          go_wp2_with fail
          go_meet
          case rel => exact ⟨y, A, c, i2, b2, HF5, HA6, Lib.hid (out_par (head3 E1.out E2.out EA.out) HO.out HW.out)⟩
        | false =>
          go_wp2_with fail
          obtain ⟨t4, ht4⟩ : ∃ t, seeB ws i b sTrue = t := ⟨_, rfl⟩
          have T4 := Lib.hid ht4
          refine (take_r sTrue t4 HF.out.rd ht4).mono ?_
          rintro e w2 ⟨rfl, hR, hg⟩
          replace HF := Lib.hid (HF.out.step hR hg)
          clear hR hg ht4
          cases t4 with
          | true =>
            obtain ⟨eb, ea⟩ := seeB_yes T4.out
            subst eb
            have EA := Lib.hid ea; clear ea
            have E1 := Lib.hid (seeB_no T1.out)
            have E2 := Lib.hid (seeB_no T2.out)
            have E3 := Lib.hid (seeB_no T3.out)
            simp only [if_true] at HF
            obtain ⟨⟨c0, c1, c2, c3, c4⟩, f0, f1, f2, f3, f4⟩ := facts5 HF.out.ex
            go_wp2_with fail
            go_meet
            case rel => exact ⟨.mk 2 1 sNone [] (posAt ws i en), none, 0, i + 1, false, Lib.hid ((HF.out.s0 _).s1 _), Lib.hid (.nil _ _), Lib.hid (out_tru (head4 E1.out E2.out E3.out EA.out))⟩
          | false =>
            go_wp2_with fail
            obtain ⟨t5, ht5⟩ : ∃ t, seeB ws i b sFalse = t := ⟨_, rfl⟩
            have T5 := Lib.hid ht5
            refine (take_r sFalse t5 HF.out.rd ht5).mono ?_
            rintro e w2 ⟨rfl, hR, hg⟩
            replace HF := Lib.hid (HF.out.step hR hg)
            clear hR hg ht5
            cases t5 with
            | true =>
              obtain ⟨eb, ea⟩ := seeB_yes T5.out
              subst eb
              have EA := Lib.hid ea; clear ea
              have E1 := Lib.hid (seeB_no T1.out)
              have E2 := Lib.hid (seeB_no T2.out)
              have E3 := Lib.hid (seeB_no T3.out)
              have E4 := Lib.hid (seeB_no T4.out)
              simp only [if_true] at HF
              obtain ⟨⟨c0, c1, c2, c3, c4⟩, f0, f1, f2, f3, f4⟩ := facts5 HF.out.ex
              go_wp2_with fail
              go_meet
              case rel => exact ⟨.mk 2 0 sNone [] (posAt ws i en), none, 0, i + 1, false, Lib.hid (HF.out.s0 _), Lib.hid (.nil _ _), Lib.hid (out_fls (head5 E1.out E2.out E3.out E4.out EA.out))⟩
            | false =>
              go_wp2_with fail
              obtain ⟨t6, ht6⟩ : ∃ t, seeB ws i b sHost = t := ⟨_, rfl⟩
              have T6 := Lib.hid ht6
              refine (take_r sHost t6 HF.out.rd ht6).mono ?_
              rintro e w2 ⟨rfl, hR, hg⟩
              replace HF := Lib.hid (HF.out.step hR hg)
              clear hR hg ht6
              cases t6 with
              | true =>
                obtain ⟨eb, ea⟩ := seeB_yes T6.out
                subst eb
                have EA := Lib.hid ea; clear ea
                have E1 := Lib.hid (seeB_no T1.out)
                have E2 := Lib.hid (seeB_no T2.out)
                have E3 := Lib.hid (seeB_no T3.out)
                have E4 := Lib.hid (seeB_no T4.out)
                have E5 := Lib.hid (seeB_no T5.out)
                simp only [if_true] at HF
                obtain ⟨⟨c0, c1, c2, c3, c4⟩, f0, f1, f2, f3, f4⟩ := facts5 HF.out.ex
                go_wp2_with fail
                clear c0 c1 c2 c3 c4 f0 f1 f2 f3 f4
                replace HF := Lib.hid (HF.out.s0 (.int .i64 8))
                generalize w2.setCell ⟨b1, 0, none⟩ _ = W3 at HF ⊢
                refine (kind_r 1 HF.out.rd).mono ?_
                rintro e w4 ⟨⟨s, i1, k1, rfl, hR, hK⟩, hg⟩
                have HK := Lib.hid hK
                have HS : Hid (s.size ≤ 18) := Lib.hid (kind_size HN.out hK)
                replace HF := Lib.hid (HF.out.step hR hg)
                clear hR hg hK
                go_wp2_with fail
                refine (num_c s HS.out w4 HF.out.gl).mono ?_
                rintro e w5 ⟨⟨er, rfl⟩, hb⟩
                replace HF := Lib.hid (HF.out.below hb)
                clear hb
                obtain ⟨⟨c0, c1, c2, c3, c4⟩, f0, f1, f2, f3, f4⟩ := facts5 HF.out.ex
                go_wp2_with fail
                clear c0 c1 c2 c3 c4 f0 f1 f2 f3 f4
                replace HF := Lib.hid (HF.out.s1 (.int .i64 (numV s)))
                generalize w5.setCell ⟨b1, 1, none⟩ _ = W5 at HF ⊢
                refine (want_r sOpen HF.out.rd).mono ?_
                rintro e w6 ⟨rfl, ⟨i2, k2, hR, hW⟩, hg⟩
                have HW := Lib.hid hW
                replace HF := Lib.hid (HF.out.step hR hg)
                clear hR hg hW
                go_wp2_with fail
                refine (H3.out i2 (host_lt HK.out HW.out) w6 k2 HF.out.rd HF.out.gl).mono ?_
                rintro e w7 ⟨l, A, c, i3, k3, rfl, hA, hR, hg, hO⟩
                have HA := Lib.hid hA; have HO := Lib.hid hO
                have hz2 := HF.out.z3; have hz0 := HF.out.gr.size; have hz1 := HF.out.z2; have hs := hg.size
                replace HF := Lib.hid (HF.out.step hR hg)
                clear hR hg hA hO
                obtain ⟨⟨c0, c1, c2, c3, c4⟩, f0, f1, f2, f3, f4⟩ := facts5 HF.out.ex
                go_wp2_with fail
                go_meet
                case rel => exact ⟨.mk 8 (numV s) sNone l (posAt ws i en), A, c, i3, k3, Lib.hid (HF.out.s3 _), Lib.hid (ArgsIn.later HA.out (some b1) (grown_set _ _ _ _) (fun g (h : w6.heap.size ≤ g) => by simp; omega) (fun g (h : w6.heap.size ≤ g) => (⟨by omega, by omega⟩ : w.heap.size ≤ g ∧ g ≠ b0))), Lib.hid (out_host (head6 E1.out E2.out E3.out E4.out E5.out EA.out) HK.out HW.out HO.out)⟩
              | false =>
                go_wp2_with fail
                simp only [Bool.false_eq_true, if_false] at HF
                have HN6 := Lib.hid (fun e : b = false => (by subst e; exact ⟨seeB_no T1.out, seeB_no T2.out, seeB_no T3.out, seeB_no T4.out, seeB_no T5.out, seeB_no T6.out⟩ : NoHead ws i))
                clear T1 T2 T3 T4 T5 T6
                go_cut [65] (fun u W => ∃ t : Bool, u = .bool t ∧ Hid ((t = true → b = false ∧ kindAt ws i = 1) ∧ (t = false → b = false → kindAt ws i ≠ 1)) ∧ Hid (Fr2 w W rb b0 b1 v ws i en b (.int .i64 0) (.int .i64 0) (.string ⟨#[]⟩) (.slice none 0 0) (.int .i64 (posAt ws i en))))
                case first =>
                  obtain ⟨A, cap, rfl, hform⟩ := HF.out.rd.row.form
                  have c0 := HF.out.rd.c0; have c1 := HF.out.rd.c1; have c3 := HF.out.rd.c3
                  have hn := HF.out.rd.len; have hp := HF.out.rd.pos
                  cases b with
                  | true =>
                    clear hform
                    go_quiet (fail)
                    go_wp2_with fail
                    go_meet
                    case rel => exact ⟨false, rfl, Lib.hid ⟨by simp, by simp⟩, Lib.hid (HF.out.below (below_drewN (Below.refl _ _) _))⟩
                  | false =>
                    by_cases hlt : i < ws.length
                    · obtain ⟨x, hx⟩ : ∃ x, ws[i]? = some x := ⟨_, List.getElem?_eq_getElem hlt⟩
                      obtain ⟨g, rfl, hg, d0, d1, d2⟩ := hform i x hx
                      have k0 : (0 : Int) ≤ (i : Int) := by omega
                      have k1 : (i : Int) < (ws.length : Int) := by omega
                      obtain ⟨t, ht⟩ : ∃ t, (((x.kind : Int)) == 1) = t := ⟨_, rfl⟩
                      have HX : Hid (kindAt ws i = x.kind) := Lib.hid (by unfold kindAt; rw [hx])
                      clear hx hform d1 d2
                      cases t with
                      | true =>
                        go_quiet (fail)
                        go_wp2_with fail
                        go_meet
                        case rel => exact ⟨true, rfl, Lib.hid ⟨fun _ => ⟨by simp, by rw [HX.out]; have := beq_iff_eq.1 ht; omega⟩, by simp⟩, Lib.hid (HF.out.below (below_drewN (Below.refl _ _) _))⟩
                      | false =>
                        go_quiet (fail)
                        go_wp2_with fail
                        go_meet
                        case rel => exact ⟨false, rfl, Lib.hid ⟨by simp, fun _ _ => by rw [HX.out]; have := beq_eq_false_iff_ne.1 ht; omega⟩, Lib.hid (HF.out.below (below_drewN (Below.refl _ _) _))⟩
                    · have hi : i = ws.length := by omega
                      have HX : Hid (kindAt ws i = 0) := Lib.hid (by unfold kindAt; rw [List.getElem?_eq_none (by omega)])
                      clear hform
                      go_quiet (fail)
                      go_wp2_with fail
                      go_meet
                      case rel => exact ⟨false, rfl, Lib.hid ⟨by simp, fun _ _ => by rw [HX.out]; decide⟩, Lib.hid (HF.out.below (below_drewN (Below.refl _ _) _))⟩
                case rest =>
                  obtain ⟨t, rfl, HT, HF⟩ := hcut
                  cases t with
                  | true =>
                    obtain ⟨rfl, hk⟩ := HT.out.1 rfl
                    have HKK := Lib.hid hk; clear hk
                    obtain ⟨⟨c0, c1, c2, c3, c4⟩, f0, f1, f2, f3, f4⟩ := facts5 HF.out.ex
                    go_wp2_with fail
                    clear c0 c1 c2 c3 c4 f0 f1 f2 f3 f4
                    replace HF := Lib.hid (HF.out.s0 (.int .i64 1))
                    generalize wc.setCell ⟨b1, 0, none⟩ _ = W3 at HF ⊢
                    refine (kind_r 1 HF.out.rd).mono ?_
                    rintro e w4 ⟨⟨s, i1, k1, rfl, hR, hK⟩, hg⟩
                    have HK := Lib.hid hK
                    have HS : Hid (s.size ≤ 18) := Lib.hid (kind_size HN.out hK)
                    replace HF := Lib.hid (HF.out.step hR hg)
                    clear hR hg hK
                    go_wp2_with fail
                    refine (num_c s HS.out w4 HF.out.gl).mono ?_
                    rintro e w5 ⟨⟨er, rfl⟩, hb⟩
                    replace HF := Lib.hid (HF.out.below hb)
                    clear hb
                    obtain ⟨⟨c0, c1, c2, c3, c4⟩, f0, f1, f2, f3, f4⟩ := facts5 HF.out.ex
                    go_wp2_with fail
                    go_meet
                    case rel => exact ⟨.mk 1 (numV s) sNone [] (posAt ws i en), none, 0, i1, k1, Lib.hid (HF.out.s1 _), Lib.hid (.nil _ _), Lib.hid (out_num (HN6.out (by simp)) HKK.out HK.out)⟩
                  | false =>
                    have HV : Hid (b = false → NoHead ws i ∧ kindAt ws i ≠ 1) := Lib.hid fun e => ⟨HN6.out e, HT.out.2 rfl e⟩
                    clear HT HN6
                    go_wp2_with fail
                    refine (kind_r 2 HF.out.rd).mono ?_
                    rintro e w4 ⟨⟨s, i1, k1, rfl, hR, hK⟩, hg⟩
                    have HK := Lib.hid hK
                    replace HF := Lib.hid (HF.out.step hR hg)
                    clear hR hg hK
                    obtain ⟨⟨c0, c1, c2, c3, c4⟩, f0, f1, f2, f3, f4⟩ := facts5 HF.out.ex
                    go_wp2_with fail
                    clear c0 c1 c2 c3 c4 f0 f1 f2 f3 f4
                    replace HF := Lib.hid ((HF.out.s0 (.int .i64 3)).s2 (.string s))
                    generalize ((w4.setCell ⟨b1, 0, none⟩ _).setCell ⟨b1, 2, none⟩ _) = W5 at HF ⊢
                    obtain ⟨t7, ht7⟩ : ∃ t, seeB ws i1 k1 sOpen = t := ⟨_, rfl⟩
                    have T7 := Lib.hid ht7
                    refine (take_r sOpen t7 HF.out.rd ht7).mono ?_
                    rintro e w6 ⟨rfl, hR, hg⟩
                    replace HF := Lib.hid (HF.out.step hR hg)
                    clear hR hg ht7
                    cases t7 with
                    | true =>
                      simp only [if_true] at HF
                      go_wp2_with fail
                      refine (H3.out (i1 + 1) (by have := (out_var_le HK.out); omega) w6 k1 HF.out.rd HF.out.gl).mono ?_
                      rintro e w7 ⟨l, A, c, i3, k3, rfl, hA, hR, hg, hO⟩
                      have HA := Lib.hid hA; have HO := Lib.hid hO
                      have hz2 := HF.out.z3; have hz0 := HF.out.gr.size; have hz1 := HF.out.z2; have hs := hg.size
                      replace HF := Lib.hid (HF.out.step hR hg)
                      clear hR hg hA hO
                      obtain ⟨⟨c0, c1, c2, c3, c4⟩, f0, f1, f2, f3, f4⟩ := facts5 HF.out.ex
                      go_wp2_with fail
                      go_meet
                      case rel => exact ⟨.mk 7 0 s l (posAt ws i en), A, c, i3, k3, Lib.hid ((HF.out.s0 _).s3 _), Lib.hid (ArgsIn.later HA.out (some b1) (grown_trans (grown_set _ _ _ _) (grown_set _ _ _ _)) (fun g (h : w6.heap.size ≤ g) => by simp; omega) (fun g (h : w6.heap.size ≤ g) => (⟨by omega, by omega⟩ : w.heap.size ≤ g ∧ g ≠ b0))), Lib.hid (out_call HV.out HK.out T7.out HO.out)⟩
                    | false =>
                      simp only [Bool.false_eq_true, if_false] at HF
                      go_wp2_with fail
                      go_meet
                      case rel => exact ⟨.mk 3 0 s [] (posAt ws i en), none, 0, i1, k1, HF, Lib.hid (.nil _ _), Lib.hid (out_var HV.out HK.out T7.out)⟩
end Go.Proofs.YtmngofgminlloaaGreatDoor

namespace Go.Proofs.YtmngofgminlloaaGreatDoor
open Go.RowKit Tw

set_option maxHeartbeats 4000000 in
theorem level6 (rb : Nat) (v : Value) (ws : List Wd) (en i : Nat) (h1 : OneC rb v ws en i) : LvlC rb v ws en 6 i := by
  intro w b h hG
  have H1 := Lib.hid h1; have HR := Lib.hid h; have HG := Lib.hid hG
  clear h1 h hG
  go_enter Tryz.func163, Tryz.ntmps163
  go_wp2_with fail
  refine (H1.out _ b (HR.out.keep ((Below.refl _ _).alloc (Nat.le_refl _) _)) (HG.out.to ((Below.refl _ _).alloc (Nat.le_refl _) _))).mono ?_
  rintro e w1 ⟨x, A, c, i', b', rfl, hA, hR1, hO, hg1⟩
  have h0 : w1.heap[w.heap.size]? = some (.cells #[.int .i64 0, .int .i64 0, .string ⟨#[]⟩, .slice none 0 0, .int .i64 0] 186 (0, 0)) :=
    (hg1.block _ (by simp) (by have := HR.out.lt; simp; omega)).trans (heap_alloc_new w _)
  obtain ⟨⟨c0, c1, c2, c3, c4⟩, f0, f1, f2, f3, f4⟩ := facts5 h0
  have HA := Lib.hid hA; have HR1 := Lib.hid hR1; have HO := Lib.hid hO; have HG1 := Lib.hid hg1
  have H0 := Lib.hid h0
  clear hA hR1 hO hg1 h0
  go_wp2_with fail
  have HW := Lib.hid (set5 (.int .i64 x.kind) (.int .i64 x.n) (.string x.text) (.slice A x.args.length c) (.int .i64 x.pos) H0.out)
  have hz : w.heap.size < w1.heap.size := by have := HG1.out.size; simp at this; omega
  (try simp only [Exit.inBlock, Exit.then])
  refine bodyPost_ret (results_cell_row rfl _ _ w.heap.size _ _ _ _ rfl HW.out Tryz.underlying186 rfl exInfo) rfl ?_
  have hg5 := grown5 w1 w.heap.size (.int .i64 x.kind) (.int .i64 x.n) (.string x.text) (.slice A x.args.length c) (.int .i64 x.pos)
  have hO := HO.out
  refine ⟨x, A, c, i', b', rfl, HA.out.grown hg5 (fun g h => by simp at h; omega) (fun g h => by simp at h; omega), HR1.out.grown hg5 HR.out.lt, ⟨hO.1, hO.2.1, fun h1 h2 => ⟨(hO.2.2.1 h1 h2).1, .lvl6 (hO.2.2.1 h1 h2).2⟩, fun h1 h2 => .lvl6 (hO.2.2.2 h1 h2)⟩, ?_⟩
  exact grown_new (grown_pre ((Below.refl _ _).alloc (Nat.le_refl _) _) HG1.out) hg5 (Nat.le_refl _)
end Go.Proofs.YtmngofgminlloaaGreatDoor

namespace Go.Proofs.YtmngofgminlloaaGreatDoor
open Go.RowKit Tw

set_option maxRecDepth 100000 in
set_option maxHeartbeats 16000000 in
theorem level_n (rb : Nat) (v : Value) (ws : List Wd) (en i n : Nat) (hn1 : 1 ≤ n) (hn5 : n ≤ 5) (hr : 10 < rb) (h1 : LvlC rb v ws en (n + 1) i) (h2 : ∀ j, i < j → LvlC rb v ws en (n + 1) j) : LvlC rb v ws en n i := by
  intro w b h hG
  have H1 := Lib.hid h1; have H2 := Lib.hid h2; have HR := Lib.hid h; have HG := Lib.hid hG
  have hrl := h.lt
  have e6 : ((n : Int) == 6) = false := by simp; omega
  clear h1 h2 h hG
  go_enter Tryz.func163, Tryz.ntmps163
  go_wp2_with fail
  refine (H1.out _ b (HR.out.keep ((Below.refl _ _).alloc (Nat.le_refl _) _)) (HG.out.to ((Below.refl _ _).alloc (Nat.le_refl _) _))).mono ?_
  rintro e w1 ⟨x, A, c, i1, b1, rfl, hA, hR1, hO, hg1⟩
  have h0 : w1.heap[w.heap.size]? = some (.cells #[.int .i64 0, .int .i64 0, .string ⟨#[]⟩, .slice none 0 0, .int .i64 0] 186 (0, 0)) :=
    (hg1.block _ (by simp) (by simp; omega)).trans (heap_alloc_new w _)
  have hz1 : w.heap.size < w1.heap.size := by have := hg1.size; simp at this; omega
  have HA := Lib.hid hA; have HO := Lib.hid hO
  have Hg1 := Lib.hid (grown_pre ((Below.refl _ _).alloc (Nat.le_refl _) _) hg1)
  have HF := Lib.hid (Fr2.start hR1 (HG.out.of Hg1.out hr) hr Hg1.out hrl (Nat.le_refl _) hz1 h0 (.int .i64 x.kind) (.int .i64 x.n) (.string x.text) (.slice A x.args.length c) (.int .i64 x.pos))
  clear hA hR1 hO hg1 h0
  go_wp2_with fail
  have HA0 : Hid (ArgsIn (w1.alloc (.cells #[.int .i64 x.kind, .int .i64 x.n, .string x.text, .slice A x.args.length c, .int .i64 x.pos] 186)) (fun g => w.heap.size ≤ g ∧ g ≠ w.heap.size ∧ g ≠ w1.heap.size) (.slice A x.args.length c) x.args) :=
    Lib.hid (HA.out.keep fun g hg hl => ⟨⟨by simp at hg; omega, by simp at hg; omega, by omega⟩, by simp; omega, heap_alloc_old w1 _ hl⟩)
  generalize w1.alloc _ = W1 at HF HA0 ⊢
  generalize w1.heap.size = b5 at HF HA0 ⊢
  obtain ⟨b4, hb4⟩ : ∃ b4, w.heap.size = b4 := ⟨_, rfl⟩
  have hb4' := hb4
  rw [hb4'] at HF HA0
  simp only [hb4']
  clear hb4' HA Hg1 hz1 w1
  have HB4 := Lib.hid hb4; clear hb4
  go_loopw [] (fun wr => ∃ (a : Ex) (A : Option Addr) (c i' : Nat) (b' : Bool), Hid (Fr2 w wr rb b4 b5 v ws i' en b' (.int .i64 a.kind) (.int .i64 a.n) (.string a.text) (.slice A a.args.length c) (.int .i64 a.pos)) ∧
    Hid (ArgsIn wr (fun g => b4 ≤ g ∧ g ≠ b4 ∧ g ≠ b5) (.slice A a.args.length c) a.args) ∧ Hid (OutL ws en n i b a i' b')) (fun wr => leftOf ws wr rb)
  case atStart => exact ⟨x, A, c, i1, b1, HF, HA0, Lib.hid (OutL.start (by omega) HO.out)⟩
  case round =>
    obtain ⟨a, A1, c1, i', b', HF, HA, HL⟩ := hrel
    have HFr := HF
    go_upto_region 4 with (fail)
    go_cut [48] (fun u W => ∃ t : Bool, u = .bool t ∧ Hid (t = true → b' = false ∧ lvAt ws i' = n) ∧ Hid (t = false → b' = true ∨ lvAt ws i' ≠ n) ∧ Hid (Below wr.heap.size wr W))
    case first =>
      have r0 := HF.out.rd.c0; have r1 := HF.out.rd.c1; have r3 := HF.out.rd.c3
      have hn := HF.out.rd.len; have hp := HF.out.rd.pos
      obtain ⟨A0, cap0, rfl, hform⟩ := HF.out.rd.row.form
      have HFm := Lib.hid hform; clear hform
      cases b' with
      | true =>
        go_quiet (fail)
        go_wp2_with fail
        go_meet
        case rel => exact ⟨false, rfl, Lib.hid (by simp), Lib.hid (by simp), Lib.hid (below_drewN (Below.refl _ _) _)⟩
      | false =>
        by_cases hlt : i' < ws.length
        · obtain ⟨y, hy⟩ : ∃ y, ws[i']? = some y := ⟨_, List.getElem?_eq_getElem hlt⟩
          obtain ⟨g, rfl, hg, -, d1, -⟩ := HFm.out i' y hy
          obtain ⟨t, ht⟩ : ∃ t, (lv y.text.data.toList == n) = t := ⟨_, rfl⟩
          have k0 : (0 : Int) ≤ (i' : Int) := by omega
          have k1 : (i' : Int) < (ws.length : Int) := by omega
          have HY : Hid (lvAt ws i' = lv y.text.data.toList) := Lib.hid (by unfold lvAt; rw [hy])
          have HT := Lib.hid ht
          have hz1 := HF.out.z1; have hz2 := HF.out.z2; have hz3 := HF.out.z3; have hz0 := HF.out.z0
          have HGr := Lib.hid HF.out.gl
          have q1 : rb < wr.heap.size := by omega
          have q2 : g < wr.heap.size := by omega
          clear hy ht
          go_region_held3 (fun W => W.cell? ⟨rb, 0, none⟩ = some (.slice (some ⟨g, 0, none⟩) ws.length cap0) ∧ W.cell? ⟨rb, 1, none⟩ = some (.int .i64 i') ∧ W.cell? ⟨rb, 3, none⟩ = some (.bool false) ∧ W.cell? ⟨g, i' * 3 + 1, none⟩ = some (.string y.text) ∧ Below wr.heap.size wr W)
            (first | (with_reducible exact sc_first r0 r1 r3 d1) | (with_reducible assumption) | (with_reducible exact sc_keep (by assumption) (by assumption) q1 q1 q1 q2))
            (first | (go_at_call 202; refine (signs_c n hn1 hn5 _ (sc_glob HGr.out (by assumption))).mono ?_; rintro e w5 ⟨⟨g5, rfl, hc5⟩, hb5⟩) | (go_at_call 201; refine (contains_c n hn1 hn5 g5 y.text _ hc5 t HT.out).mono ?_; rintro e w6 ⟨rfl, rfl⟩))
          rename_i hS
          have HB := Lib.hid hS.2.2.2.2
          clear hS
          go_wp2_with fail
          go_meet
          case rel => exact ⟨t, rfl, Lib.hid (fun e => ⟨by simp, by rw [HY.out]; have := HT.out; rw [e] at this; simpa using this⟩), Lib.hid (fun e => .inr (by rw [HY.out]; have := HT.out; rw [e] at this; simpa using this)), HB⟩
        · have HX : Hid (lvAt ws i' = 0) := Lib.hid (by unfold lvAt; rw [List.getElem?_eq_none (by omega)])
          go_quiet (fail)
          go_wp2_with fail
          go_meet
          case rel => exact ⟨false, rfl, Lib.hid (by simp), Lib.hid (fun _ => .inr (by rw [HX.out]; omega)), Lib.hid (below_drewN (Below.refl _ _) _)⟩
    case rest =>
      obtain ⟨t, rfl, HT, HT', HBW⟩ := hcut
      replace HF := Lib.hid (HF.out.below HBW.out)
      replace HA := Lib.hid (ArgsIn.keep (F' := fun g => b4 ≤ g ∧ g ≠ b4 ∧ g ≠ b5) (fun g h1 h2 => ⟨h1, Nat.lt_of_lt_of_le h2 HBW.out.size, HBW.out.block g h2⟩) HA.out)
      have HBz := Lib.hid HBW.out.size
      clear HBW
      cases t with
      | false =>
        obtain ⟨⟨z0, z1, z2, z3, z4⟩, q0, q1, q2, q3, q4⟩ := facts5 HF.out.ex
        obtain ⟨⟨d0, d1, d2, d3, d4⟩, g0, g1, g2, g3, g4⟩ := facts5 HF.out.res
        have HW := Lib.hid (set5 (.int .i64 a.kind) (.int .i64 a.n) (.string a.text) (.slice A1 a.args.length c1) (.int .i64 a.pos) HF.out.res)
        go_wp2_with fail
        (try simp only [Exit.inBlock, Exit.then])
        refine bodyPost_ret (results_cell_row rfl _ _ b4 _ _ _ _ rfl HW.out Tryz.underlying186 rfl exInfo) rfl ?_
        exact HF.out.ret HA.out (fun g h => ⟨by rw [HB4.out]; exact h.1, h.2.1⟩) (by cases b' with | true => exact HL.out.fail | false => exact HL.out.stop ((HT'.out (by simp)).resolve_left (by simp)))
      | true =>
        obtain ⟨rfl, hlv⟩ := HT.out rfl
        have HLV := Lib.hid hlv; clear hlv
        go_wp2_with fail
        clear HT HT' HR HA0 HO
        obtain ⟨wa, rfl⟩ : ∃ wo : World, wo = wc := ⟨_, rfl⟩
        go_cut [6] (fun u W => ∃ b6 : Nat, u = .pointer (some ⟨b6, 0, none⟩) ∧ wa.heap.size ≤ b6 ∧ Hid (W.heap[b6]? = some (.cells #[.int .i64 6, .int .i64 0, .string (textAt ws i'), .slice none 0 0, .int .i64 (posAt ws i' en)] 186 (0, 0))) ∧ Hid (Below wa.heap.size wa W))
        case first =>
          have hlt : i' < ws.length := by
            rcases Nat.lt_or_ge i' ws.length with h | h
            · exact h
            · have := HLV.out; unfold lvAt at this; rw [List.getElem?_eq_none h] at this; simp at this; omega
          have r0 := HF.out.rd.c0; have r1 := HF.out.rd.c1; have r3 := HF.out.rd.c3
          have hn := HF.out.rd.len; have hp := HF.out.rd.pos
          obtain ⟨A0, cap0, rfl, hform⟩ := HF.out.rd.row.form
          obtain ⟨y, hy⟩ : ∃ y, ws[i']? = some y := ⟨_, List.getElem?_eq_getElem hlt⟩
          obtain ⟨g, rfl, hg, -, d1, -⟩ := hform i' y hy
          have HY : Hid (textAt ws i' = y.text) := Lib.hid (by unfold textAt; rw [hy])
          have k0 : (0 : Int) ≤ (i' : Int) := by omega
          have k1 : (i' : Int) < (ws.length : Int) := by omega
          have hz1 := HF.out.z1; have hz2 := HF.out.z2; have hz3 := HF.out.z3; have hz0 := HF.out.z0
          have k5 : rb < wa.heap.size := by omega
          have k6 : g < wa.heap.size := by omega
          clear hform hy
          go_region_held3 (fun W => W.cell? ⟨rb, 0, none⟩ = some (.slice (some ⟨g, 0, none⟩) ws.length cap0) ∧ W.cell? ⟨rb, 1, none⟩ = some (.int .i64 i') ∧ W.cell? ⟨rb, 3, none⟩ = some (.bool false) ∧ W.cell? ⟨g, i' * 3 + 1, none⟩ = some (.string y.text) ∧ Below wa.heap.size wa W)
            (first | (with_reducible exact sc_first r0 r1 r3 d1) | (with_reducible assumption) | (with_reducible exact sc_keep5 (by assumption) (Nat.le_refl _) k5 k5 k5 k6) | (with_reducible exact sc_realloc (by assumption) k8 k5 k5 k5 k6) | (with_reducible exact sc_keep (by assumption) (by assumption) k5 k5 k5 k6) | (with_reducible exact sc_keep (by assumption) ((Below.refl _ _).alloc (Nat.le_refl _) _) k5 k5 k5 k6))
            (first | (go_at_call 51; refine (at_r (sc_rd HF.out.rd (by assumption))).mono ?_; rintro e w6 ⟨rfl, hb6⟩; have k8 := sc_le (by assumption) hb6; have n0 := cell_cond wa hb6; have n1 := frozen_cond wa hb6))
          · rename_i hS
            have HB := Lib.hid hS.2.2.2.2
            have HN := Lib.hid (heap_alloc_new w6 (.cells #[.int .i64 6, .int .i64 0, .string y.text, .slice none 0 0, .int .i64 (posAt ws i' en)] 186))
            clear hS n0 n1 hb6
            go_wp2_with fail
            go_meet
            case rel => exact ⟨w6.heap.size, rfl, k8, by rw [HY.out]; exact HN, HB⟩
          · rename_i hS
            have HB := Lib.hid hS.2.2.2.2
            have HN := Lib.hid (set5 (.int .i64 6) (.int .i64 0) (.string y.text) (.slice none 0 0) (.int .i64 (posAt ws i' en)) ((hb6.block wa.heap.size (alloc_drew_lt wa _)).trans (heap_alloc_new wa _)))
            clear hS n0 n1 hb6
            go_wp2_with fail
            go_meet
            case rel => exact ⟨wa.heap.size, rfl, Nat.le_refl _, by rw [HY.out]; exact HN, HB⟩
        case rest =>
          obtain ⟨b6, rfl, hb6, HN, HB⟩ := hcut
          have hz1 := HF.out.z1; have hz2 := HF.out.z2; have hz3 := HF.out.z3; have hz0 := HF.out.z0
          have hlt : i' < ws.length := by
            rcases Nat.lt_or_ge i' ws.length with h | h
            · exact h
            · have := HLV.out; unfold lvAt at this; rw [List.getElem?_eq_none h] at this; simp at this; omega
          have hi : i ≤ i' := HL.out.1
          replace HF := Lib.hid (HF.out.below HB.out)
          replace HA := Lib.hid (ArgsIn.keep (F' := fun g => b4 ≤ g ∧ g ≠ b4 ∧ g ≠ b5 ∧ g < b6) (fun g h1 h2 => ⟨⟨h1.1, h1.2.1, h1.2.2, by omega⟩, Nat.lt_of_lt_of_le h2 HB.out.size, HB.out.block g h2⟩) HA.out)
          clear HB
          have r1 := HF.out.rd.c1; have rf := HF.out.rd.fz 1
          have hn4 := HF.out.rd.len
          go_wp2_with fail
          clear r1 rf
          have HS := Lib.hid (grown_set wc rb 1 (.int .i64 ((i' : Int) + 1)))
          have HR2 := Lib.hid (HF.out.rd.setI (i' + 1) hlt)
          replace HF := Lib.hid (HF.out.step (by exact HR2.out) HS.out)
          replace HA := Lib.hid (ArgsIn.later HA.out (some rb) HS.out (fun g h => by simp; omega) (fun g h => h))
          replace HN := Lib.hid ((HS.out.block b6 (lt_of_some HN.out) (by simp; omega)).trans HN.out)
          clear HS HR2
          generalize wc.setCell ⟨rb, 1, none⟩ _ = w2 at HF HA HN ⊢
          refine (H2.out (i' + 1) (by omega) w2 false HF.out.rd HF.out.gl).mono ?_
          rintro e w7 ⟨y, A7, c7, i3, b3, rfl, hA, hR, hO, hg⟩
          have HA7 := Lib.hid hA; have HO7 := Lib.hid hO
          replace HF := Lib.hid (HF.out.step hR hg)
          replace HA := Lib.hid (ArgsIn.later HA.out (some rb) hg (fun g h => by simp; omega) (fun g h => h))
          have hb62 := lt_of_some HN.out
          replace HN := Lib.hid ((hg.block b6 hb62 (by simp; omega)).trans HN.out)
          have hs7 := hg.size
          clear hA hR hO hg
          go_upto_region 8 with (fail)
          have hb7 : b6 < w7.heap.size := by omega
          have HM := Lib.hid (heap_alloc_new w7 (.cells #[.int .i64 y.kind, .int .i64 y.n, .string y.text, .slice A7 y.args.length c7, .int .i64 y.pos] 186))
          have HA7' : Hid (ArgsIn (w7.alloc (.cells #[.int .i64 y.kind, .int .i64 y.n, .string y.text, .slice A7 y.args.length c7, .int .i64 y.pos] 186)) (fun g => b4 ≤ g ∧ g ≠ b4 ∧ g ≠ b5 ∧ g ≠ b6) (.slice A7 y.args.length c7) y.args) :=
            Lib.hid (HA7.out.keep fun g (h1 : w2.heap.size ≤ g) h2 => ⟨⟨by omega, by omega, by omega, by omega⟩, by simp; omega, heap_alloc_old w7 _ h2⟩)
          have HA' : Hid (ArgsIn (w7.alloc (.cells #[.int .i64 y.kind, .int .i64 y.n, .string y.text, .slice A7 y.args.length c7, .int .i64 y.pos] 186)) (fun g => b4 ≤ g ∧ g ≠ b4 ∧ g ≠ b5 ∧ g ≠ b6) (.slice A1 a.args.length c1) a.args) :=
            Lib.hid (HA.out.keep fun g h1 h2 => ⟨⟨h1.1, h1.2.1, h1.2.2.1, by omega⟩, by simp; omega, heap_alloc_old w7 _ h2⟩)
          replace HF := Lib.hid (HF.out.below (w' := w7.alloc (.cells #[.int .i64 y.kind, .int .i64 y.n, .string y.text, .slice A7 y.args.length c7, .int .i64 y.pos] 186)) ((Below.refl _ _).alloc (Nat.le_refl _) _))
          replace HN := Lib.hid ((heap_alloc_old w7 (.cells #[.int .i64 y.kind, .int .i64 y.n, .string y.text, .slice A7 y.args.length c7, .int .i64 y.pos] 186) hb7).trans HN.out)
          clear HA HA7
          generalize w7.alloc _ = w8 at HF HN HM HA' HA7' ⊢
          generalize w7.heap.size = b7 at HM hb7 ⊢
          obtain ⟨⟨x0, x1, x2, x3, x4⟩, -⟩ := facts5 HF.out.ex
          obtain ⟨⟨m0, m1, m2, m3, m4⟩, -⟩ := facts5 HM.out
          obtain ⟨⟨z0, z1, z2, z3, z4⟩, q0, q1, q2, q3, q4⟩ := facts5 HN.out
          have hb68 := lt_of_some HN.out
          go_upto_region 9 with (fail)
          clear x0 x1 x2 x3 x4 m0 m1 m2 m3 m4 z0 z1 z2 z3 z4 q0 q1 q2 q3 q4
          have HG6 := Lib.hid (grown_trans (grown_set w8 b6 3 (.slice (some ⟨w8.heap.size, 0, none⟩) 2 2)) (grown_of_below ((Below.refl _ _).alloc (Nat.le_refl _) (.cells #[.int .i64 a.kind, .int .i64 a.n, .string a.text, .slice A1 a.args.length c1, .int .i64 a.pos, .int .i64 y.kind, .int .i64 y.n, .string y.text, .slice A7 y.args.length c7, .int .i64 y.pos] 186)) (some b6)))
          have HN9 : Hid (((w8.setCell ⟨b6, 3, none⟩ (.slice (some ⟨w8.heap.size, 0, none⟩) 2 2)).alloc (.cells #[.int .i64 a.kind, .int .i64 a.n, .string a.text, .slice A1 a.args.length c1, .int .i64 a.pos, .int .i64 y.kind, .int .i64 y.n, .string y.text, .slice A7 y.args.length c7, .int .i64 y.pos] 186)).heap[b6]? = some (.cells #[.int .i64 6, .int .i64 0, .string (textAt ws i'), (.slice (some ⟨w8.heap.size, 0, none⟩) 2 2), .int .i64 (posAt ws i' en)] 186 (0, 0))) :=
            Lib.hid ((heap_alloc_old _ _ (by simpa using hb68)).trans (by simpa using heap_setCell_same w8 b6 3 _ _ (.slice (some ⟨w8.heap.size, 0, none⟩) 2 2) HN.out))
          have HB9 : Hid (((w8.setCell ⟨b6, 3, none⟩ (.slice (some ⟨w8.heap.size, 0, none⟩) 2 2)).alloc (.cells #[.int .i64 a.kind, .int .i64 a.n, .string a.text, .slice A1 a.args.length c1, .int .i64 a.pos, .int .i64 y.kind, .int .i64 y.n, .string y.text, .slice A7 y.args.length c7, .int .i64 y.pos] 186)).heap[w8.heap.size]? = some (.cells #[.int .i64 a.kind, .int .i64 a.n, .string a.text, .slice A1 a.args.length c1, .int .i64 a.pos, .int .i64 y.kind, .int .i64 y.n, .string y.text, .slice A7 y.args.length c7, .int .i64 y.pos] 186)) := Lib.hid (by simpa using heap_alloc_new (w8.setCell ⟨b6, 3, none⟩ (.slice (some ⟨w8.heap.size, 0, none⟩) 2 2)) (.cells #[.int .i64 a.kind, .int .i64 a.n, .string a.text, .slice A1 a.args.length c1, .int .i64 a.pos, .int .i64 y.kind, .int .i64 y.n, .string y.text, .slice A7 y.args.length c7, .int .i64 y.pos] 186))
          replace HF := Lib.hid (HF.out.other (k := b6) (by omega) HG6.out)
          have HT2 : Hid (ArgsIn ((w8.setCell ⟨b6, 3, none⟩ (.slice (some ⟨w8.heap.size, 0, none⟩) 2 2)).alloc (.cells #[.int .i64 a.kind, .int .i64 a.n, .string a.text, .slice A1 a.args.length c1, .int .i64 a.pos, .int .i64 y.kind, .int .i64 y.n, .string y.text, .slice A7 y.args.length c7, .int .i64 y.pos] 186)) (fun g => b4 ≤ g ∧ g ≠ b4 ∧ g ≠ b5) (.slice (some ⟨w8.heap.size, 0, none⟩) 2 2) [a, y]) :=
            Lib.hid (args_two HA'.out HA7'.out (fun g h1 h2 => ⟨⟨h1.1, h1.2.1, h1.2.2.1⟩, Nat.lt_of_lt_of_le h2 HG6.out.size, HG6.out.block g h2 (by simp; exact h1.2.2.2)⟩) HB9.out ⟨by omega, by omega, by omega⟩)
          clear HA' HA7' HG6 HB9 HM HN
          generalize ((w8.setCell ⟨b6, 3, none⟩ _).alloc _) = w9 at HF HN9 HT2 ⊢
          generalize w8.heap.size = b8 at HF HN9 HT2 hb68 ⊢
          obtain ⟨⟨z0, z1, z2, z3, z4⟩, -⟩ := facts5 HN9.out
          obtain ⟨⟨x0, x1, x2, x3, x4⟩, y0, y1, y2, y3, y4⟩ := facts5 HF.out.ex
          go_upto_region 10 with (fail)
          clear x0 x1 x2 x3 x4 y0 y1 y2 y3 y4 z0 z1 z2 z3 z4
          have HG9 := Lib.hid (grown5 w9 b5 (.int .i64 6) (.int .i64 0) (.string (textAt ws i')) (.slice (some ⟨b8, 0, none⟩) 2 2) (.int .i64 (posAt ws i' en)))
          replace HF := Lib.hid (((((HF.out.s0 (.int .i64 6)).s1 (.int .i64 0)).s2 (.string (textAt ws i'))).s3 (.slice (some ⟨b8, 0, none⟩) 2 2)).s4 (.int .i64 (posAt ws i' en)))
          replace HT2 := Lib.hid (HT2.out.later (some b5) HG9.out (fun g h => by simp; omega) (fun g h => h))
          clear HG9 HN9
          generalize (((((w9.setCell ⟨b5, 0, none⟩ _).setCell ⟨b5, 1, none⟩ _).setCell ⟨b5, 2, none⟩ _).setCell ⟨b5, 3, none⟩ _).setCell ⟨b5, 4, none⟩ _) = wx at HF HT2 ⊢
          have hi3 : i' + 1 ≤ i3 := HO7.out.1
          by_cases hn3 : n = 3
          · subst hn3
            go_wp2_with fail
            clear HFr
            obtain ⟨wa, rfl⟩ : ∃ wo : World, wo = wx := ⟨_, rfl⟩
            go_cut [105] (fun u W => ∃ t : Bool, u = .bool t ∧ Hid ((lvAt ws i3 == 3) = t) ∧ Hid (Below wa.heap.size wa W))
            case first =>
              have r0 := HF.out.rd.c0; have r1 := HF.out.rd.c1; have r3 := HF.out.rd.c3
              have hn := HF.out.rd.len; have hp := HF.out.rd.pos
              obtain ⟨A0, cap0, rfl, hform⟩ := HF.out.rd.row.form
              have HFm := Lib.hid hform; clear hform
              by_cases hlt : i3 < ws.length
              · obtain ⟨z, hy⟩ : ∃ y, ws[i3]? = some y := ⟨_, List.getElem?_eq_getElem hlt⟩
                obtain ⟨g, rfl, hg, -, d1, -⟩ := HFm.out i3 z hy
                obtain ⟨t, ht⟩ : ∃ t, (lv z.text.data.toList == 3) = t := ⟨_, rfl⟩
                have k0 : (0 : Int) ≤ (i3 : Int) := by omega
                have k1 : (i3 : Int) < (ws.length : Int) := by omega
                have HY : Hid (lvAt ws i3 = lv z.text.data.toList) := Lib.hid (by unfold lvAt; rw [hy])
                have HT := Lib.hid ht
                have HGr := Lib.hid HF.out.gl
                have q1 : rb < wa.heap.size := HF.out.rd.lt
                have q2 : g < wa.heap.size := by omega
                clear hy ht
                go_region_held3 (fun W => W.cell? ⟨rb, 0, none⟩ = some (.slice (some ⟨g, 0, none⟩) ws.length cap0) ∧ W.cell? ⟨rb, 1, none⟩ = some (.int .i64 i3) ∧ W.cell? ⟨rb, 3, none⟩ = some (.bool b3) ∧ W.cell? ⟨g, i3 * 3 + 1, none⟩ = some (.string z.text) ∧ Below wa.heap.size wa W)
                  (first | (with_reducible exact sc_first r0 r1 r3 d1) | (with_reducible assumption) | (with_reducible exact sc_keep (by assumption) (by assumption) q1 q1 q1 q2))
                  (first | (go_at_call 202; refine (signs_c 3 (by decide) (by decide) _ (sc_glob HGr.out (by assumption))).mono ?_; rintro e w5 ⟨⟨g5, rfl, hc5⟩, hb5⟩) | (go_at_call 201; refine (contains_c 3 (by decide) (by decide) g5 z.text _ hc5 t HT.out).mono ?_; rintro e w6 ⟨rfl, rfl⟩))
                rename_i hS
                have HB := Lib.hid hS.2.2.2.2
                clear hS
                go_wp2_with fail
                go_meet
                case rel => exact ⟨t, rfl, Lib.hid (by rw [HY.out]; exact HT.out), HB⟩
              · have HX : Hid (lvAt ws i3 = 0) := Lib.hid (by unfold lvAt; rw [List.getElem?_eq_none (by omega)])
                go_quiet (fail)
                go_wp2_with fail
                go_meet
                case rel => exact ⟨false, rfl, Lib.hid (by rw [HX.out]; decide), Lib.hid (below_drewN (Below.refl _ _) _)⟩
            case rest =>
              obtain ⟨t, rfl, HT, HBW⟩ := hcut
              replace HF := Lib.hid (HF.out.below HBW.out)
              replace HT2 := Lib.hid (ArgsIn.keep (F' := fun g => b4 ≤ g ∧ g ≠ b4 ∧ g ≠ b5) (fun g h1 h2 => ⟨h1, Nat.lt_of_lt_of_le h2 HBW.out.size, HBW.out.block g h2⟩) HT2.out)
              clear HBW
              cases t with
              | false =>
                obtain ⟨⟨z0, z1, z2, z3, z4⟩, q0, q1, q2, q3, q4⟩ := facts5 HF.out.ex
                obtain ⟨⟨d0, d1, d2, d3, d4⟩, g0, g1, g2, g3, g4⟩ := facts5 HF.out.res
                have HW := Lib.hid (set5 (.int .i64 6) (.int .i64 0) (.string (textAt ws i')) (.slice (some ⟨b8, 0, none⟩) 2 2) (.int .i64 (posAt ws i' en)) HF.out.res)
                go_wp2_with fail
                (try simp only [Exit.inBlock, Exit.then])
                refine bodyPost_ret (results_cell_row rfl _ _ b4 _ _ _ _ rfl HW.out Tryz.underlying186 rfl exInfo) rfl ?_
                exact Fr2.ret (x := twoEx ws en i' a y) HF.out HT2.out (fun g h => ⟨by rw [HB4.out]; exact h.1, h.2.1⟩) (HL.out.last HLV.out HO7.out _ (by rw [HT.out]; simp))
              | true =>
                have r3 := HF.out.rd.c3; have rf := HF.out.rd.fz 3
                go_upto_region 13 with (fail)
                clear r3 rf
                have HS := Lib.hid (grown_set wc rb 3 (.bool true))
                replace HF := Lib.hid (HF.out.step HF.out.rd.setB HS.out)
                replace HT2 := Lib.hid (HT2.out.later (some rb) HS.out (fun g h => by simp; omega) (fun g h => h))
                clear HS
                generalize wc.setCell ⟨rb, 3, none⟩ _ = wd at HF HT2 ⊢
                obtain ⟨⟨z0, z1, z2, z3, z4⟩, q0, q1, q2, q3, q4⟩ := facts5 HF.out.ex
                obtain ⟨⟨d0, d1, d2, d3, d4⟩, g0, g1, g2, g3, g4⟩ := facts5 HF.out.res
                have HW := Lib.hid (set5 (.int .i64 6) (.int .i64 0) (.string (textAt ws i')) (.slice (some ⟨b8, 0, none⟩) 2 2) (.int .i64 (posAt ws i' en)) HF.out.res)
                go_wp2_with fail
                (try simp only [Exit.inBlock, Exit.then])
                refine bodyPost_ret (results_cell_row rfl _ _ b4 _ _ _ _ rfl HW.out Tryz.underlying186 rfl exInfo) rfl ?_
                exact Fr2.ret (x := twoEx ws en i' a y) HF.out HT2.out (fun g h => ⟨by rw [HB4.out]; exact h.1, h.2.1⟩) (HL.out.last HLV.out HO7.out _ (by rw [HT.out]; simp))
          · have e3 : ((n : Int) == 3) = false := by simp; omega
            have HN3 := Lib.hid hn3; clear hn3
            go_wp2_with fail
            go_roundw
            case rel => exact ⟨twoEx ws en i' a y, some ⟨b8, 0, none⟩, 2, i3, b3, HF, HT2, Lib.hid (HL.out.next HN3.out HLV.out HO7.out)⟩
            case measure => exact HFr.out.rd.less HF.out.rd (by omega) (fun _ => by omega)
end Go.Proofs.YtmngofgminlloaaGreatDoor
