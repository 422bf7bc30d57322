/-
  The program's Parse answers of a text what the reference's Script answers.
  When two scripts are the same in what their kinds use (with positions, if q), in plain Lean.
  The reference's SameExpr: true of expressions that are the same in what their kinds use.
  The reference's SameStmts: true of statements that are the same in what their kinds use.
  The reference's SameStmts and its comparing function, of statements that are the same in what their kinds use.
-/
import Derived.Test.YtmngofgminlloaaGreatDoorPT21
import Derived.RegionDies
import Derived.Deep.RegionLaw
import Derived.Test.YtmngofgminlloaaGreatDoorPT14
import Derived.Outline
import Derived.Deep.DeepCutAuto
import Derived.Test.YtmngofgminlloaaGreatDoorPT17
namespace Go.Proofs.YtmngofgminlloaaGreatDoor
open Go.RowKit Tw

/-- What Parse answers. -/
def PRes (w : World) (src : ByteArray) (e : Ending) (w' : World) : Prop :=
  ∃ (l : List Fn) (A : Option Addr) (c : Nat) (p er : Int), e = .returned (.tuple #[.agg #[.slice A l.length c], .int .i64 p, .int .i64 er]) ∧ FnsIn w' (fun g => w.heap.size ≤ g) (.slice A l.length c) l ∧ Below w.heap.size w w' ∧ SRes src l p er
theorem wrow_int {W W2 : World} {B b : Nat} {v : Value} {ws : List Wd} {n : Int} {T : Nat} (h : WRow W B v ws) (hu : W.heap[b]? = some (.cells #[.int .i64 n] T (0, 0))) (hg : W.grownBy W2 (some b)) (_ : True → True) : WRow W2 B v ws := by
  rcases h with ⟨rfl, rfl⟩ | ⟨g, cap, rfl, hgB, hc⟩
  · exact .inl ⟨rfl, rfl⟩
  · refine .inr ⟨g, cap, rfl, hgB, fun j u hj => ?_⟩
    have hju := hc j u hj
    have hlt : g < W.heap.size := by
      rcases Nat.lt_or_ge g W.heap.size with h | h
      · exact h
      · unfold World.cell? at hju; rw [Array.getElem?_eq_none h] at hju; cases hju
    have hne : g ≠ b := by
      rintro rfl
      cases ws with
      | nil => simp [wcells] at hj
      | cons x ws =>
        have h0 := hc 1 (.string x.text) (by simp [wcells, Wd.cells])
        have h1 := Lib.cell_of_heap hu 1
        rw [h0] at h1
        simp at h1
    exact (World.cell?_of_block (a := ⟨g, j, none⟩) (hg.block g hlt (by simp; exact hne))).trans hju
theorem set3 {B bu bp be : Nat} {w W : World} {s0 : Value} {x0 y0 : Int} (hb : Below B w W) (hB : B ≤ bu) (h1 : bu < bp) (h2 : bp < be) (hu : W.heap[bu]? = some (.cells #[s0] 24 (0, 0))) (hp : W.heap[bp]? = some (.cells #[.int .i64 x0] 3 (0, 0))) (he : W.heap[be]? = some (.cells #[.int .i64 y0] 25 (0, 0))) (s : Value) (x y : Int) :
    Below B w (((W.setCell ⟨bu, 0, none⟩ s).setCell ⟨bp, 0, none⟩ (.int .i64 x)).setCell ⟨be, 0, none⟩ (.int .i64 y)) ∧ (((W.setCell ⟨bu, 0, none⟩ s).setCell ⟨bp, 0, none⟩ (.int .i64 x)).setCell ⟨be, 0, none⟩ (.int .i64 y)).heap[bu]? = some (.cells #[s] 24 (0, 0)) ∧
    (((W.setCell ⟨bu, 0, none⟩ s).setCell ⟨bp, 0, none⟩ (.int .i64 x)).setCell ⟨be, 0, none⟩ (.int .i64 y)).heap[bp]? = some (.cells #[.int .i64 x] 3 (0, 0)) ∧ (((W.setCell ⟨bu, 0, none⟩ s).setCell ⟨bp, 0, none⟩ (.int .i64 x)).setCell ⟨be, 0, none⟩ (.int .i64 y)).heap[be]? = some (.cells #[.int .i64 y] 25 (0, 0)) ∧
    (∀ g, g ≠ bu → g ≠ bp → g ≠ be → (((W.setCell ⟨bu, 0, none⟩ s).setCell ⟨bp, 0, none⟩ (.int .i64 x)).setCell ⟨be, 0, none⟩ (.int .i64 y)).heap[g]? = W.heap[g]?) := by
  have o1 : ∀ (V : World) (k j : Nat) (u : Value), j ≠ k → (V.setCell ⟨k, 0, none⟩ u).heap[j]? = V.heap[j]? := fun V k j u h => Below.heap_setCell V ⟨k, 0, none⟩ u j (by simpa using h)
  refine ⟨below_set (below_set (below_set hb hB 0 _) (by omega) 0 _) (by omega) 0 _, ?_, ?_, ?_, ?_⟩
  · rw [o1 _ _ _ _ (by omega), o1 _ _ _ _ (by omega)]
    simpa using heap_setCell_same W bu 0 _ _ s hu
  · rw [o1 _ _ _ _ (by omega)]
    simpa using heap_setCell_same _ bp 0 _ _ (.int .i64 x) ((o1 W bu bp s (by omega)).trans hp)
  · simpa using heap_setCell_same _ be 0 _ _ (.int .i64 y) ((o1 _ bp be (.int .i64 x) (by omega)).trans ((o1 W bu be s (by omega)).trans he))
  · intro g g1 g2 g3
    rw [o1 _ _ _ _ g3, o1 _ _ _ _ g2, o1 _ _ _ _ g1]
/-- Behind the deferred function: the results are read. -/
theorem door_ret {w W : World} {src : ByteArray} {bu bp be : Nat} {tmps : Array Value} {l : List Fn} {A : Option Addr} {c : Nat} {p er : Int} {F : Nat → Prop}
    (h0 : tmps.getD 2 undef = .pointer (some ⟨bu, 0, none⟩)) (h1 : tmps.getD 3 undef = .pointer (some ⟨bp, 0, none⟩)) (h2 : tmps.getD 4 undef = .pointer (some ⟨be, 0, none⟩))
    (hu : W.heap[bu]? = some (.cells #[.slice A l.length c] 24 (0, 0))) (hp : W.heap[bp]? = some (.cells #[.int .i64 p] 3 (0, 0))) (he : W.heap[be]? = some (.cells #[.int .i64 er] 25 (0, 0)))
    (hF : FnsIn W F (.slice A l.length c) l) (hFF : ∀ g, F g → w.heap.size ≤ g) (hb : Below w.heap.size w W) (hs : SRes src l p er) :
    Leaves Tryz.prog Tryz.f22 tmps (fun e w' => PRes w src e w') [] .returning W :=
  ⟨_, results_parse bu bp be A l.length c p er tmps W h0 h1 h2 hu hp he, l, A, c, p, er, rfl, hF.keep (fun g h1 h2 => ⟨hFF g h1, h2, rfl⟩), hb, hs⟩

set_option maxRecDepth 100000 in
set_option maxHeartbeats 16000000 in
theorem parse_c (src : ByteArray) (w : World) (hs : src.size ≤ maxLen) (hG : Glob w) (p0 e0 : Int) (ws : List Wd) (hw : WRes src p0 e0 ws) (q : Ru) (hq : Du ws src.size 0 q) :
    Calls Tryz.prog 22 #[.string src] w fun e w' => PRes w src e w' := by
  have HW := Lib.hid hw; have HD := Lib.hid hq
  have hbig := hG.big
  have HG := Lib.hid hG
  have hB3 : Below w.heap.size w (((w.alloc (.cells #[.slice none 0 0] 24)).alloc (.cells #[.int .i64 0] 3)).alloc (.cells #[.int .i64 0] 25)) := (((Below.refl _ _).alloc (Nat.le_refl _) _).alloc (by simp) _).alloc (by simp; omega) _
  have WC := Lib.hid (split_c src _ p0 e0 ws hs (hG.to hB3) hw)
  have hmf : ∀ (fn : Go.Fn) (first cap : Array Value) (w : World), (Instr.makeFunc fn first cap).run Tryz.prog w = .ok (.func fn first cap) w := fun _ _ _ _ => rfl
  clear hw hq hG
  unfold maxLen at hs
  go_enter_defers Tryz.func22, Tryz.ntmps22
  go_wp2_with fail
  refine WC.out.mono ?_
  rintro e w1 ⟨⟨v, rfl, hv⟩, hb⟩
  have hu : w1.heap[w.heap.size]? = some (.cells #[.slice none 0 0] 24 (0, 0)) := (hb.block _ (by simp; omega)).trans ((heap_alloc_old _ _ (by simp; omega)).trans ((heap_alloc_old _ _ (by simp)).trans (heap_alloc_new w _)))
  have hp : w1.heap[w.heap.size + 1]? = some (.cells #[.int .i64 0] 3 (0, 0)) := (hb.block _ (by simp)).trans ((heap_alloc_old _ _ (by simp)).trans (by simpa using heap_alloc_new (w.alloc (.cells #[.slice none 0 0] 24)) (.cells #[.int .i64 0] 3)))
  have he : w1.heap[w.heap.size + 2]? = some (.cells #[.int .i64 0] 25 (0, 0)) := (hb.block _ (by simp)).trans (by simpa using heap_alloc_new ((w.alloc (.cells #[.slice none 0 0] 24)).alloc (.cells #[.int .i64 0] 3)) (.cells #[.int .i64 0] 25))
  have HB1 := Lib.hid (hB3.trans (hb.mono hB3.size))
  have hz1 := hb.size
  simp at hz1
  have HV := Lib.hid hv
  obtain ⟨A0, cap0, rfl, -⟩ := hv.form
  have HU := Lib.hid hu; have HP := Lib.hid hp; have HE := Lib.hid he
  have cp := Lib.cell_of_heap hp 0; have fp := Lib.frozen_of_heap hp 0
  have ce := Lib.cell_of_heap he 0; have fe := Lib.frozen_of_heap he 0
  simp at cp ce
  clear hv hb hu hp he WC hB3
  go_upto_region 2 with (fail)
  clear cp fp ce fe
  have HU2 : Hid (((w1.setCell ⟨w.heap.size + 1, 0, none⟩ (.int .i64 p0)).setCell ⟨w.heap.size + 2, 0, none⟩ (.int .i64 e0)).heap[w.heap.size]? = some (.cells #[.slice none 0 0] 24 (0, 0))) :=
    Lib.hid ((Below.heap_setCell _ ⟨w.heap.size + 2, 0, none⟩ _ _ (by simp)).trans ((Below.heap_setCell _ ⟨w.heap.size + 1, 0, none⟩ _ _ (by simp)).trans HU.out))
  have HP2 : Hid (((w1.setCell ⟨w.heap.size + 1, 0, none⟩ (.int .i64 p0)).setCell ⟨w.heap.size + 2, 0, none⟩ (.int .i64 e0)).heap[w.heap.size + 1]? = some (.cells #[.int .i64 p0] 3 (0, 0))) :=
    Lib.hid ((Below.heap_setCell _ ⟨w.heap.size + 2, 0, none⟩ _ _ (by simp)).trans (by simpa using heap_setCell_same w1 (w.heap.size + 1) 0 _ _ (.int .i64 p0) HP.out))
  have HE2 : Hid (((w1.setCell ⟨w.heap.size + 1, 0, none⟩ (.int .i64 p0)).setCell ⟨w.heap.size + 2, 0, none⟩ (.int .i64 e0)).heap[w.heap.size + 2]? = some (.cells #[.int .i64 e0] 25 (0, 0))) :=
    Lib.hid (by simpa using heap_setCell_same _ (w.heap.size + 2) 0 _ _ (.int .i64 e0) ((Below.heap_setCell w1 ⟨w.heap.size + 1, 0, none⟩ (.int .i64 p0) (w.heap.size + 2) (by simp)).trans HE.out))
  have HB2 := Lib.hid (below_set (below_set HB1.out (show w.heap.size ≤ w.heap.size + 1 by omega) 0 (.int .i64 p0)) (show w.heap.size ≤ w.heap.size + 2 by omega) 0 (.int .i64 e0))
  have hzs : ((w1.setCell ⟨w.heap.size + 1, 0, none⟩ (.int .i64 p0)).setCell ⟨w.heap.size + 2, 0, none⟩ (.int .i64 e0)).heap.size = w1.heap.size := by simp
  have HV2 : Hid (WRow ((w1.setCell ⟨w.heap.size + 1, 0, none⟩ (.int .i64 p0)).setCell ⟨w.heap.size + 2, 0, none⟩ (.int .i64 e0)) ((w1.setCell ⟨w.heap.size + 1, 0, none⟩ (.int .i64 p0)).setCell ⟨w.heap.size + 2, 0, none⟩ (.int .i64 e0)).heap.size (.slice A0 ws.length cap0) ws) :=
    Lib.hid (by rw [hzs]; exact wrow_int (wrow_int HV.out HP.out (grown_set _ _ _ _) (fun h => h)) ((Below.heap_setCell w1 ⟨w.heap.size + 1, 0, none⟩ (.int .i64 p0) (w.heap.size + 2) (by simp)).trans HE.out) (grown_set _ _ _ _) (fun h => h))
  clear HU HP HE HV HB1
  generalize (w1.setCell _ _).setCell _ _ = w2 at HU2 HP2 HE2 HB2 HV2 hzs ⊢
  have hz2 : w.heap.size + 3 ≤ w2.heap.size := by omega
  clear hzs hz1
  obtain ⟨bu, hbu⟩ : ∃ b, w.heap.size = b := ⟨_, rfl⟩
  obtain ⟨bp, hbp⟩ : ∃ b, w.heap.size + 1 = b := ⟨_, rfl⟩
  obtain ⟨be, hbe⟩ : ∃ b, bp + 1 = b := ⟨_, rfl⟩
  rw [hbp] at HP2; rw [show w.heap.size + 2 = be by omega] at HE2; rw [hbu] at HU2
  simp only [hbp]
  simp only [hbe]
  simp only [hbu]
  have n1 : bu < bp := by omega
  have n2 : bp < be := by omega
  have n3 : be < w2.heap.size := by omega
  have n0 : 10 < bu := by omega
  have HN := Lib.hid hbu; clear hbp hbe hbu hz2 hbig
  by_cases he0 : e0 = 0
  · subst he0
    have hnum : NumsOk ws := HW.out.nums
    have hws := HW.out.small
    have HNU := Lib.hid hnum; have HWS := Lib.hid hws
    clear hnum hws
    have hbA : Below w.heap.size w (w2.alloc (.cells #[.slice A0 ws.length cap0, .int .i64 0, .int .i64 src.size] 157)) := HB2.out.alloc HB2.out.size _
    have hba2 : Below w2.heap.size w2 (w2.alloc (.cells #[.slice A0 ws.length cap0, .int .i64 0, .int .i64 src.size] 157)) := (Below.refl _ _).alloc (Nat.le_refl _) _
    have HF : Hid (FrW w (w2.alloc (.cells #[.slice A0 ws.length cap0, .int .i64 0, .int .i64 src.size] 157)) w2.heap.size bu bp be (w2.heap.size + 1) (.slice A0 ws.length cap0) ws 0 src.size none 0 [] p0 0) :=
      Lib.hid ⟨⟨heap_alloc_new w2 _, HV2.out.same fun k hk => hba2.block k hk, HWS.out.1, Nat.zero_le _⟩, (heap_alloc_old w2 _ (by omega)).trans HU2.out, (heap_alloc_old w2 _ (by omega)).trans HP2.out, (heap_alloc_old w2 _ n3).trans HE2.out, GRow.nil _ _ _ _ _, hbA, HG.out.to hbA, by omega, n0, by have := HN.out; omega, n1, n2, n3, by omega, by simp⟩
    clear hbA hba2
    have ce : w2.cell? ⟨be, 0, none⟩ = some (.int .i64 0) := Lib.cell_of_heap HE2.out 0
    go_upto_block 0 with (fail)
    clear ce HU2 HP2 HE2 HB2 HV2
    generalize w2.alloc _ = w3 at HF ⊢
    generalize w2.heap.size + 1 = base at HF
    generalize w2.heap.size = rb at HF n3 ⊢
    have HR0 := HF.out.r0
    go_wp2_with fail
    go_loopw [] (fun wr => ∃ (l : List (Fn × Value × Value × Value)) (A : Option Addr) (c i' : Nat) (q' : Ru), Hid (FrW w wr rb bu bp be base (.slice A0 ws.length cap0) ws i' src.size A c l p0 0) ∧ Hid (l.length ≤ i' ∧ Du ws src.size i' q' ∧ q = joinU (l.map (·.1)) q'))
      (fun wr => ws.length - placeOf wr rb)
    case atStart => exact ⟨[], none, 0, 0, q, HF, Lib.hid ⟨Nat.zero_le _, HD.out, (joinU_nil q).symm⟩⟩
    case round =>
      clear HF
      obtain ⟨l, A, c, i', q', HF, HI⟩ := hrel
      have hpl := HF.out.rd.place
      have hpos := HF.out.rd.pos
      have hlen := HF.out.rd.len
      have c0 := HF.out.rd.c0; have c1 := HF.out.rd.c1
      by_cases hlt : i' < ws.length
      · have hlti : (i' : Int) < (ws.length : Int) := by omega
        go_upto_region 6 with (fail)
        go_quiet (fail)
        clear c0 c1
        have HFn : Hid (∀ n, FrW w (wr.drewN n) rb bu bp be base (.slice A0 ws.length cap0) ws i' src.size A c l p0 0) := Lib.hid (fun n => HF.out.below (below_drewN (Below.refl _ _) n))
        go_upto_region 7 with (fail)
        generalize hwn : World.drewN wr _ = wn
        have HF2 : Hid (FrW w wn rb bu bp be base (.slice A0 ws.length cap0) ws i' src.size A c l p0 0) := Lib.hid (hwn ▸ HFn.out _)
        clear hwn HFn HF
        have HF := HF2
        clear HF2
        have hll : l.length ≤ 4000 := by have := HI.out.1; omega
        have cu : wn.cell? ⟨bu, 0, none⟩ = some (.slice A l.length c) := Lib.cell_of_heap HF.out.un 0
        have HFd := Lib.hid (HF.out.below (bel_drew _))
        have hX := du_more HI.out.2.1 hlt
        rcases hX with ⟨j, hy, hq⟩ | ⟨f, j, q2, hy, hm, hq⟩
        · have HY := Lib.hid hy
          have hqq : q = .bad j := by rw [HI.out.2.2, hq]; rfl
          subst hqq
          clear hy hq
          first | go_region_dies | fail
          all_goals
            go_at_call 83
            refine (fun_p rb _ ws src.size i' HNU.out HR0 _ HY.out _ HFd.out.rd HFd.out.gl).mono ?_
            rintro e w9 ⟨rfl, hg⟩
            have HK := Lib.hid (HFd.out.keepBad hg); clear hg
            unfold badP
            go_wp2_with fail
            refine leaves_cons (f := 82) (args := #[.pointer (some ⟨bu, 0, none⟩), .pointer (some ⟨bp, 0, none⟩), .pointer (some ⟨be, 0, none⟩)]) (by simp) (by simp [go_sem]) ?_
            refine (catch_bad bu bp be _ p0 0 _ [] w9 HK.out.1 HK.out.2.1 HK.out.2.2.1 n1 n2).mono ?_
            rintro e u' w' ⟨rfl, rfl, hb, g1, g2, g3⟩
            simp only [settle, List.dropWhile_nil]
            exact door_ret (l := []) (F := fun _ => False) rfl rfl rfl g1 g2 g3 (.inl ⟨_, _, rfl, rfl⟩) (fun g h => h.elim) (HK.out.2.2.2.trans (hb.mono (by have := HN.out; omega))) ⟨p0, 0, ws, HW.out, .inr ⟨rfl, .inl ⟨j, HD.out, rfl, rfl, rfl⟩⟩⟩
        · have HY := Lib.hid hy; have HM := Lib.hid hm; have HQ := Lib.hid hq; clear hy hm hq
          have hon : i' < j := HY.out.on
          have hbz0 := HF.out.z5; have hbz1 := HF.out.z4
          first | (go_region_law (first | (go_simp; go_at_call 83; refine (fun_p rb _ ws src.size i' HNU.out HR0 _ HY.out _ HFd.out.rd HFd.out.gl).mono ?_; rintro e w8 ⟨An, cn, At, ct, Ab, cb, rfl, hS, hT, hB, hR, hg⟩; have HKd : Hid (fnElem.kid w8 (fun g => wn.heap.size ≤ g) (f, .slice An f.names.length cn, .slice At f.types.length ct, .slice Ab f.body.length cb)) := Lib.hid ⟨hS, hT, hB⟩; have HF8 := Lib.hid (HFd.out.step hR hg); have d1 : w8.cell? ⟨bu, 0, none⟩ = some (.slice A l.length c) := Lib.cell_of_heap HF8.out.un 0; have hb8 := HF8.out.z5; have hb9 := lt_of_some HF8.out.un; have hown := HFd.out.row.1.lt; clear hS hT hB hR hg) | (refine step_app1 elemFn (by rfl) _ _ (by rfl) base _ l.length (l.flatMap fnElem.cells) (by rfl) (HF8.out.row.1.alloc _) w8.heap.size 1 #[.string f.name, .slice An f.names.length cn, .slice At f.types.length ct, .int .i64 f.out, .slice Ab f.body.length cb, .int .i64 f.pos] (by rfl) (heap_alloc_new w8 _) rfl (by simp [Value.oneCell']) (by omega) (by simp; omega) ?_; intro g9 cap9 w9 hown9 hgrow9 hat9 hlt9; have hun := HF8.out.app_un hgrow9; have q1 := Lib.cell_of_heap hun 0; have q2' := Lib.frozen_of_heap hun 0; clear hun))) | fail
          all_goals
            have HFA := Lib.hid (HF8.out.app HKd.out (fun g (hg : wn.heap.size ≤ g) => ⟨by omega, fun e => by have := (hown g e).2; have h2 : wn.drew.heap.size = wn.heap.size := rfl; omega⟩) hown9 hgrow9 hat9 rfl)
            go_wp2_with fail
            go_roundw
            case rel => exact ⟨l ++ [(f, .slice An f.names.length cn, .slice At f.types.length ct, .slice Ab f.body.length cb)], some ⟨g9, 0, none⟩, cap9, j, q2, by simpa using HFA, Lib.hid ⟨by have := HI.out.1; simp; omega, HM.out, by rw [HI.out.2.2, HQ.out, joinU_join]; simp⟩⟩
            case measure => rw [HFA.out.rd.place, hpl]; have := HFA.out.rd.pos; omega
      · have hlti : (ws.length : Int) ≤ (i' : Int) := by omega
        have hii : ws.length ≤ i' := by omega
        have hq' := du_done HI.out.2.1 hii
        have hqq : q = .fns (l.map (·.1)) := by rw [HI.out.2.2, hq']; simp [joinU]
        have hll : l.length ≤ 4000 := by have := HI.out.1; omega
        subst hqq
        clear hq' hii
        go_upto_region 6 with (fail)
        go_quiet (fail)
        clear c0 c1
        have HFn : Hid (∀ n, FrW w (wr.drewN n) rb bu bp be base (.slice A0 ws.length cap0) ws i' src.size A c l p0 0) := Lib.hid (fun n => HF.out.below (below_drewN (Below.refl _ _) n))
        go_upto_region 8 with (fail)
        generalize hwn : World.drewN wr _ = wn
        have HF2 : Hid (FrW w wn rb bu bp be base (.slice A0 ws.length cap0) ws i' src.size A c l p0 0) := Lib.hid (hwn ▸ HFn.out _)
        clear hwn HFn HF
        have HF := HF2
        clear HF2
        have cu : wn.cell? ⟨bu, 0, none⟩ = some (.slice A l.length c) := Lib.cell_of_heap HF.out.un 0
        have hCk := check_c (l.map (·.1)) A c (fun g => base ≤ g) wn (by rw [List.length_map]; exact HF.out.row.fns) ((HD.out.small HWS.out) _ rfl).2.2 (by rw [List.length_map]; omega)
        rw [List.length_map] at hCk
        obtain ⟨z, hz⟩ : ∃ z, unitF (l.map (·.1)) = z := ⟨_, rfl⟩
        rw [hz] at hCk
        have HCk := Lib.hid hCk; have HZ := Lib.hid hz
        clear hCk hz
        go_wp2_with fail
        clear cu
        refine HCk.out.mono ?_
        rintro e wz ⟨rfl, hb⟩
        replace HF := Lib.hid (HF.out.below hb)
        clear hb
        have cu : wz.cell? ⟨bu, 0, none⟩ = some (.slice A l.length c) := Lib.cell_of_heap HF.out.un 0
        have fu : wz.frozen? ⟨bu, 0, none⟩ = false := Lib.frozen_of_heap HF.out.un 0
        have cp : wz.cell? ⟨bp, 0, none⟩ = some (.int .i64 p0) := Lib.cell_of_heap HF.out.pp 0
        have fp : wz.frozen? ⟨bp, 0, none⟩ = false := Lib.frozen_of_heap HF.out.pp 0
        have ce : wz.cell? ⟨be, 0, none⟩ = some (.int .i64 0) := Lib.cell_of_heap HF.out.ee 0
        have fe : wz.frozen? ⟨be, 0, none⟩ = false := Lib.frozen_of_heap HF.out.ee 0
        have m1 : bu ≠ bp := by omega
        have m2 : bp ≠ be := by omega
        have m3 : bu ≠ be := by omega
        by_cases hz0 : z = 0
        · subst hz0
          go_wp2_with fail
          refine leaves_cons (f := 82) (args := #[.pointer (some ⟨bu, 0, none⟩), .pointer (some ⟨bp, 0, none⟩), .pointer (some ⟨be, 0, none⟩)]) (by simp) (by simp [go_sem]) ?_
          refine (catch_idle _ _ _ _).mono ?_
          rintro e u' w' ⟨rfl, rfl, rfl⟩
          simp only [settle]
          obtain ⟨hb, g1, g2, g3, g4⟩ := set3 HF.out.bel (by have := HN.out; omega) n1 n2 HF.out.un HF.out.pp HF.out.ee (.slice A l.length c) 0 0
          refine door_ret (l := l.map (·.1)) (F := fun g => base ≤ g) rfl rfl rfl (by rw [List.length_map]; exact g1) g2 g3 ?_ (fun g (h : base ≤ g) => by have := HF.out.z4; have := HN.out; omega) hb ⟨p0, 0, ws, HW.out, .inr ⟨rfl, .inr ⟨_, HD.out, rfl, HZ.out.symm, by rw [if_pos HZ.out]⟩⟩⟩
          rw [List.length_map]
          exact HF.out.row.fns.keep fun g (q1 : base ≤ g) q2 => ⟨q1, by simpa using q2, g4 g (by have := HF.out.z4; omega) (by have := HF.out.z4; omega) (by have := HF.out.z4; omega)⟩
        · have e1 : (z != 0) = true := by simpa using hz0
          have HZ0 := Lib.hid hz0; clear hz0
          go_wp2_with fail
          refine leaves_cons (f := 82) (args := #[.pointer (some ⟨bu, 0, none⟩), .pointer (some ⟨bp, 0, none⟩), .pointer (some ⟨be, 0, none⟩)]) (by simp) (by simp [go_sem]) ?_
          refine (catch_idle _ _ _ _).mono ?_
          rintro e u' w' ⟨rfl, rfl, rfl⟩
          simp only [settle]
          obtain ⟨hb, g1, g2, g3, g4⟩ := set3 HF.out.bel (by have := HN.out; omega) n1 n2 HF.out.un HF.out.pp HF.out.ee (.slice none 0 0) 0 z
          exact door_ret (l := []) (F := fun _ => False) rfl rfl rfl g1 g2 g3 (.inl ⟨_, _, rfl, rfl⟩) (fun g h => h.elim) hb ⟨p0, 0, ws, HW.out, .inr ⟨rfl, .inr ⟨_, HD.out, rfl, HZ.out.symm, by rw [if_neg (by rw [HZ.out]; exact HZ0.out)]⟩⟩⟩
  · have e1 : (e0 != 0) = true := by simpa using he0
    have HE0 := Lib.hid he0; clear he0
    have cu : w2.cell? ⟨bu, 0, none⟩ = some (.slice none 0 0) := Lib.cell_of_heap HU2.out 0
    have fu : w2.frozen? ⟨bu, 0, none⟩ = false := Lib.frozen_of_heap HU2.out 0
    have cp : w2.cell? ⟨bp, 0, none⟩ = some (.int .i64 p0) := Lib.cell_of_heap HP2.out 0
    have fp : w2.frozen? ⟨bp, 0, none⟩ = false := Lib.frozen_of_heap HP2.out 0
    have ce : w2.cell? ⟨be, 0, none⟩ = some (.int .i64 e0) := Lib.cell_of_heap HE2.out 0
    have fe : w2.frozen? ⟨be, 0, none⟩ = false := Lib.frozen_of_heap HE2.out 0
    have m1 : bu ≠ bp := by omega
    have m2 : bp ≠ be := by omega
    have m3 : bu ≠ be := by omega
    go_upto_region 3 with (fail)
    go_region
    all_goals
      go_wp2_with fail
      obtain ⟨hb, g1, g2, g3, -⟩ := set3 HB2.out (by have := HN.out; omega) n1 n2 HU2.out HP2.out HE2.out (.slice none 0 0) p0 e0
      exact door_ret (l := []) (F := fun _ => False) rfl rfl rfl g1 g2 g3 (.inl ⟨_, _, rfl, rfl⟩) (fun g h => h.elim) (hb.trans ((bel_drew _).mono hb.size)) ⟨p0, e0, ws, HW.out, .inl ⟨HE0.out, rfl, rfl, rfl⟩⟩
end Go.Proofs.YtmngofgminlloaaGreatDoor

namespace Go.Proofs.YtmngofgminlloaaGreatDoor
open Go.RowKit Tw

inductive SameE (q : Bool) : Ex → Ex → Prop
  | mk {a b : Ex} (hk : a.kind = b.kind) (hp : q = true → a.pos = b.pos) (hl : a.args.length = b.args.length) (hn : a.kind = 1 ∨ a.kind = 2 ∨ a.kind = 8 → a.n = b.n) (ht : a.kind = 3 ∨ a.kind = 7 ∨ a.kind = 6 → a.text = b.text)
      (hr : ∀ (k : Nat) (x y : Ex), a.args[k]? = some x → b.args[k]? = some y → SameE q x y) : SameE q a b
inductive SameS (q : Bool) : Sm → Sm → Prop
  | mk {a b : Sm} (hk : a.kind = b.kind) (hp : q = true → a.pos = b.pos) (he : SameE q a.a b.a) (hn : a.kind ≤ 2 → a.name = b.name)
      (hb : a.kind = 3 ∨ a.kind = 4 → a.body.length = b.body.length) (hb2 : a.kind = 3 ∨ a.kind = 4 → ∀ (k : Nat) (x y : Sm), a.body[k]? = some x → b.body[k]? = some y → SameS q x y)
      (hl : a.kind = 3 → a.els.length = b.els.length) (hl2 : a.kind = 3 → ∀ (k : Nat) (x y : Sm), a.els[k]? = some x → b.els[k]? = some y → SameS q x y) : SameS q a b
def SameL (q : Bool) (l m : List Sm) : Prop := l.length = m.length ∧ ∀ (k : Nat) (x y : Sm), l[k]? = some x → m[k]? = some y → SameS q x y
structure SameF (q : Bool) (f g : Fn) : Prop where
  name : f.name = g.name
  names : f.names = g.names
  types : f.types = g.types
  out : f.out = g.out
  pos : q = true → f.pos = g.pos
  body : SameL q f.body g.body
def SameU (q : Bool) (l m : List Fn) : Prop := l.length = m.length ∧ ∀ (k : Nat) (x y : Fn), l[k]? = some x → m[k]? = some y → SameF q x y

theorem same_at {α : Type} {l : List α} {k : Nat} {x y : α} (h1 : l[k]? = some x) (h2 : l[k]? = some y) : x = y := by rw [h1] at h2; exact Option.some.inj h2
theorem SameE.rfl' (q : Bool) (a : Ex) : SameE q a a := by
  cases a with | mk k n t xs p =>
  refine .mk rfl (fun _ => rfl) rfl (fun _ => rfl) (fun _ => rfl) fun i x y h1 h2 => ?_
  obtain rfl := same_at h1 h2
  have hm : x ∈ xs := List.mem_of_getElem? h1
  exact SameE.rfl' q x
  termination_by SizeOf.sizeOf a
  decreasing_by
  have := List.sizeOf_lt_of_mem hm
  simp; omega
theorem SameS.rfl' (q : Bool) (a : Sm) : SameS q a a := by
  cases a with | mk k n a body els p =>
  refine .mk rfl (fun _ => rfl) (SameE.rfl' q _) (fun _ => rfl) (fun _ => rfl) (fun _ i x y h1 h2 => ?_) (fun _ => rfl) (fun _ i x y h1 h2 => ?_)
  · obtain rfl := same_at h1 h2
    have hm : x ∈ body := List.mem_of_getElem? h1
    exact SameS.rfl' q x
  · obtain rfl := same_at h1 h2
    have hm : x ∈ els := List.mem_of_getElem? h1
    exact SameS.rfl' q x
  termination_by SizeOf.sizeOf a
  decreasing_by
  all_goals
    have := List.sizeOf_lt_of_mem hm
    simp; omega
theorem SameL.rfl' (q : Bool) (l : List Sm) : SameL q l l := ⟨rfl, fun _ x _ h1 h2 => by obtain rfl := same_at h1 h2; exact SameS.rfl' q x⟩
theorem SameU.rfl' (q : Bool) (l : List Fn) : SameU q l l := ⟨rfl, fun _ x _ h1 h2 => by obtain rfl := same_at h1 h2; exact ⟨rfl, rfl, rfl, rfl, fun _ => rfl, SameL.rfl' q _⟩⟩
end Go.Proofs.YtmngofgminlloaaGreatDoor

namespace Go.Proofs.YtmngofgminlloaaGreatDoor
open Go.RowKit Tw

set_option maxRecDepth 100000 in
set_option maxHeartbeats 8000000 in
theorem same_e (q : Bool) (a b : Ex) (h : SameE q a b) : ∀ (A A' : Option Addr) (c c' : Nat) (F F' : Nat → Prop) (w : World), ArgsIn w F (.slice A a.args.length c) a.args → ArgsIn w F' (.slice A' b.args.length c') b.args → ExZ a →
    Calls Tryz.prog 111 #[.agg #[.int .i64 a.kind, .int .i64 a.n, .string a.text, .slice A a.args.length c, .int .i64 a.pos], .agg #[.int .i64 b.kind, .int .i64 b.n, .string b.text, .slice A' b.args.length c', .int .i64 b.pos], .bool q] w fun e w' => e = .returned (.bool true) ∧ Below w.heap.size w w' := by
  induction h with
  | @mk a b hk hp hl hn ht hr ih =>
  intro A A' c c' F F' w hA hB hZ
  cases a with | mk k n t xs p =>
  cases b with | mk k' n' t' ys p' =>
  simp only [Ex.kind, Ex.n, Ex.text, Ex.args, Ex.pos] at hk hp hl hn ht hA hB ⊢
  subst hk
  have hzl : xs.length ≤ 281474976710656 := hZ.args.2.1
  have hy : ys.length ≤ 281474976710656 := by omega
  rw [← hl] at hB ⊢
  have HA := Lib.hid hA; have HB := Lib.hid hB; have HZ := Lib.hid hZ; have HL := Lib.hid hl
  have HN := Lib.hid hn; have HT := Lib.hid ht; have HP := Lib.hid hp; have IH := Lib.hid ih
  clear hA hB hZ hl hn ht hp hr ih hy
  go_enter Tryz.func111, Tryz.ntmps111
  go_upto_region 1 with (fail)
  have HB0 := Lib.hid (((Below.refl w.heap.size w).alloc (Nat.le_refl _) (.cells #[.int .i64 k, .int .i64 n, .string t, .slice A xs.length c, .int .i64 p] 186)).alloc (by simp) (.cells #[.int .i64 k, .int .i64 n', .string t', .slice A' xs.length c', .int .i64 p'] 186))
  have HQ1 : Hid (((w.alloc (.cells #[.int .i64 k, .int .i64 n, .string t, .slice A xs.length c, .int .i64 p] 186)).alloc (.cells #[.int .i64 k, .int .i64 n', .string t', .slice A' xs.length c', .int .i64 p'] 186)).heap[w.heap.size]? = some (.cells #[.int .i64 k, .int .i64 n, .string t, .slice A xs.length c, .int .i64 p] 186 (0, 0))) :=
    Lib.hid ((heap_alloc_old _ _ (by simp)).trans (heap_alloc_new w _))
  have HQ2 : Hid (((w.alloc (.cells #[.int .i64 k, .int .i64 n, .string t, .slice A xs.length c, .int .i64 p] 186)).alloc (.cells #[.int .i64 k, .int .i64 n', .string t', .slice A' xs.length c', .int .i64 p'] 186)).heap[w.heap.size + 1]? = some (.cells #[.int .i64 k, .int .i64 n', .string t', .slice A' xs.length c', .int .i64 p'] 186 (0, 0))) :=
    Lib.hid (by simpa using heap_alloc_new (w.alloc (.cells #[.int .i64 k, .int .i64 n, .string t, .slice A xs.length c, .int .i64 p] 186)) (.cells #[.int .i64 k, .int .i64 n', .string t', .slice A' xs.length c', .int .i64 p'] 186))
  generalize (w.alloc _).alloc _ = wa at HB0 HQ1 HQ2 ⊢
  have hs1 := lt_of_some HQ2.out
  generalize hn2 : w.heap.size + 1 = n2 at HQ2 hs1 ⊢
  have HN2 := Lib.hid hn2; clear hn2
  go_cut [31] (fun u W => u = .bool false ∧ W = wa)
  case first =>
    obtain ⟨⟨c0, c1, c2, c3, c4⟩, -⟩ := facts5 HQ1.out
    obtain ⟨⟨d0, d1, d2, d3, d4⟩, -⟩ := facts5 HQ2.out
    cases q with
    | true =>
      obtain rfl := HP.out rfl
      go_wp2_with fail
      go_meet
      case rel => exact ⟨rfl, rfl⟩
    | false =>
      go_wp2_with fail
      go_meet
      case rel => exact ⟨rfl, rfl⟩
  case rest =>
    obtain ⟨rfl, rfl⟩ := hcut
    clear HP
    obtain ⟨⟨c0, c1, c2, c3, c4⟩, -⟩ := facts5 HQ1.out
    go_upto_block 0 with (fail)
    go_cut [] (fun W => W = wc)
    case first =>
      obtain ⟨⟨d0, d1, d2, d3, d4⟩, -⟩ := facts5 HQ2.out
      by_cases h1 : k = 1
      · subst h1; obtain rfl := HN.out (by simp)
        go_wp2_with fail
        go_meet
        case rel => rfl
      by_cases h2 : k = 2
      · subst h2; obtain rfl := HN.out (by simp)
        go_wp2_with fail
        go_meet
        case rel => rfl
      by_cases h8 : k = 8
      · subst h8; obtain rfl := HN.out (by simp)
        go_wp2_with fail
        go_meet
        case rel => rfl
      by_cases h3 : k = 3
      · subst h3; obtain rfl := HT.out (by simp)
        go_wp2_with fail
        go_meet
        case rel => rfl
      by_cases h7 : k = 7
      · subst h7; obtain rfl := HT.out (by simp)
        go_wp2_with fail
        go_meet
        case rel => rfl
      by_cases h6 : k = 6
      · subst h6; obtain rfl := HT.out (by simp)
        go_wp2_with fail
        go_meet
        case rel => rfl
      have e1 : (k == 1) = false := beq_eq_false_iff_ne.2 h1
      have e2 : (k == 2) = false := beq_eq_false_iff_ne.2 h2
      have e8 : (k == 8) = false := beq_eq_false_iff_ne.2 h8
      have e3 : (k == 3) = false := beq_eq_false_iff_ne.2 h3
      have e7 : (k == 7) = false := beq_eq_false_iff_ne.2 h7
      have e6 : (k == 6) = false := beq_eq_false_iff_ne.2 h6
      clear h1 h2 h8 h3 h7 h6
      go_wp2_with fail
      go_meet
      case rel => rfl
    case rest =>
      obtain ⟨wa, rfl⟩ : ∃ wo : World, wo = wc := ⟨_, rfl⟩
      have hw2 := hcut
      subst hw2
      clear HN HT
      obtain ⟨⟨c0, c1, c2, c3, c4⟩, -⟩ := facts5 HQ1.out
      go_wp2_with fail
      clear c0 c1 c2 c3 c4
      go_loopw [55] (fun i wr => ∃ j : Nat, j ≤ xs.length ∧ i = .int .i64 j ∧ Hid (Below w.heap.size w wr) ∧ Hid (wr.heap[w.heap.size]? = some (.cells #[.int .i64 k, .int .i64 n, .string t, .slice A xs.length c, .int .i64 p] 186 (0, 0))) ∧ Hid (wr.heap[n2]? = some (.cells #[.int .i64 k, .int .i64 n', .string t', .slice A' xs.length c', .int .i64 p'] 186 (0, 0)))) (fun i _ => xs.length - (intOf i).toNat)
      case atStart => exact ⟨0, Nat.zero_le _, rfl, HB0, HQ1, HQ2⟩
      case round =>
        clear HB0 HQ1 HQ2 hs1
        obtain ⟨j, hj, rfl, HB0, HQ1, HQ2⟩ := hrel
        by_cases hlt : j < xs.length
        · obtain ⟨x, hx⟩ : ∃ y, xs[j]? = some y := ⟨_, List.getElem?_eq_getElem hlt⟩
          obtain ⟨y, hy⟩ : ∃ y, ys[j]? = some y := ⟨_, List.getElem?_eq_getElem (by have := HL.out; omega)⟩
          obtain ⟨g, off, B, cb, rfl, -, hg, hka, q0, q1, q2, q3, q4⟩ := HA.out.at j x hx
          have hBB := HB.out
          rw [HL.out] at hBB
          obtain ⟨g', off', B', cb', rfl, -, hg', hkb, r0, r1, r2, r3, r4⟩ := hBB.at j y hy
          have a0 := (HB0.out.cell (p := ⟨g, off + j * 5, none⟩) hg).trans q0
          have a1 := (HB0.out.cell (p := ⟨g, off + j * 5 + 1, none⟩) hg).trans q1
          have a2 := (HB0.out.cell (p := ⟨g, off + j * 5 + 2, none⟩) hg).trans q2
          have a3 := (HB0.out.cell (p := ⟨g, off + j * 5 + 3, none⟩) hg).trans q3
          have a4 := (HB0.out.cell (p := ⟨g, off + j * 5 + 4, none⟩) hg).trans q4
          have b0 := (HB0.out.cell (p := ⟨g', off' + j * 5, none⟩) hg').trans r0
          have b1 := (HB0.out.cell (p := ⟨g', off' + j * 5 + 1, none⟩) hg').trans r1
          have b2 := (HB0.out.cell (p := ⟨g', off' + j * 5 + 2, none⟩) hg').trans r2
          have b3 := (HB0.out.cell (p := ⟨g', off' + j * 5 + 3, none⟩) hg').trans r3
          have b4 := (HB0.out.cell (p := ⟨g', off' + j * 5 + 4, none⟩) hg').trans r4
          have c3 := (facts5 HQ1.out).1.2.2.2.1
          have d3 := (facts5 HQ2.out).1.2.2.2.1
          have HX := Lib.hid hx; have HY := Lib.hid hy; have HKA := Lib.hid hka; have HKB := Lib.hid hkb
          have HZX := Lib.hid (HZ.out.args.2.2 x (List.mem_of_getElem? hx))
          clear hx hy hka hkb q0 q1 q2 q3 q4 r0 r1 r2 r3 r4 hBB hg hg'
          have k0 : (0 : Int) ≤ (j : Int) := by omega
          have k1 : (j : Int) < (xs.length : Int) := by omega
          go_upto_region 17 with (fail)
          have HBd : Hid (Below w.heap.size w wr.drew) := Lib.hid (HB0.out.trans ((bel_drew wr).mono HB0.out.size))
          have HC : Hid (Calls Tryz.prog 111 #[.agg #[.int .i64 x.kind, .int .i64 x.n, .string x.text, .slice B x.args.length cb, .int .i64 x.pos], .agg #[.int .i64 y.kind, .int .i64 y.n, .string y.text, .slice B' y.args.length cb', .int .i64 y.pos], .bool q] wr.drew fun e w' => e = .returned (.bool true) ∧ Below wr.drew.heap.size wr.drew w') :=
            Lib.hid (IH.out j x y HX.out HY.out B B' cb cb' F F' _ (HKA.out.keep (F' := F) (fun q h1 h2 => ⟨h1, Nat.lt_of_lt_of_le h2 HBd.out.size, HBd.out.block q h2⟩)) (HKB.out.keep (F' := F') (fun q h1 h2 => ⟨h1, Nat.lt_of_lt_of_le h2 HBd.out.size, HBd.out.block q h2⟩)) HZX.out)
          go_region_law (first | (go_simp; go_at_call 111; refine HC.out.mono ?_; rintro e w8 ⟨rfl, hb8⟩))
          all_goals
            have HB8 := Lib.hid (HBd.out.trans (hb8.mono HBd.out.size))
            have HR1 : Hid (w8.heap[w.heap.size]? = some (.cells #[.int .i64 k, .int .i64 n, .string t, .slice (some ⟨g, off, none⟩) xs.length c, .int .i64 p] 186 (0, 0))) := Lib.hid ((hb8.block _ (lt_of_some HQ1.out)).trans HQ1.out)
            have HR2 : Hid (w8.heap[n2]? = some (.cells #[.int .i64 k, .int .i64 n', .string t', .slice (some ⟨g', off', none⟩) xs.length c', .int .i64 p'] 186 (0, 0))) := Lib.hid ((hb8.block _ (lt_of_some HQ2.out)).trans HQ2.out)
            clear hb8 a0 a1 a2 a3 a4 b0 b1 b2 b3 b4 c3 d3
            go_wp2_with fail
            go_roundw
            case rel => exact ⟨j + 1, by omega, by go_num, HB8, HR1, HR2⟩
            case measure => simp [intOf]; omega
        · go_wp2_with fail
          go_ret
          exact ⟨rfl, HB0.out⟩
end Go.Proofs.YtmngofgminlloaaGreatDoor

namespace Go.Proofs.YtmngofgminlloaaGreatDoor
open Go.RowKit Tw

/-- What the comparing function answers of two statements. -/
def CloS (q : Bool) (x y : Sm) : Prop :=
  ∀ (Aa Ab Ae Aa' Ab' Ae' : Option Addr) (ca cb ce ca' cb' ce' : Nat) (F F' : Nat → Prop) (p : Nat) (w : World), ArgsIn w F (.slice Aa x.a.args.length ca) x.a.args → StmtsIn w F (.slice Ab x.body.length cb) x.body → StmtsIn w F (.slice Ae x.els.length ce) x.els →
    ArgsIn w F' (.slice Aa' y.a.args.length ca') y.a.args → StmtsIn w F' (.slice Ab' y.body.length cb') y.body → StmtsIn w F' (.slice Ae' y.els.length ce') y.els → SmZ x → w.cell? ⟨p, 0, none⟩ = some (.bool q) →
    Calls Tryz.prog 110 #[.agg #[.int .i64 x.kind, .string x.name, .int .i64 x.a.kind, .int .i64 x.a.n, .string x.a.text, .slice Aa x.a.args.length ca, .int .i64 x.a.pos, .slice Ab x.body.length cb, .slice Ae x.els.length ce, .int .i64 x.pos],
      .agg #[.int .i64 y.kind, .string y.name, .int .i64 y.a.kind, .int .i64 y.a.n, .string y.a.text, .slice Aa' y.a.args.length ca', .int .i64 y.a.pos, .slice Ab' y.body.length cb', .slice Ae' y.els.length ce', .int .i64 y.pos], .pointer (some ⟨p, 0, none⟩)] w fun e w' => e = .returned (.bool true) ∧ Below w.heap.size w w'
def LstS (q : Bool) (l m : List Sm) : Prop :=
  ∀ (A A' : Option Addr) (c c' : Nat) (F F' : Nat → Prop) (w : World), StmtsIn w F (.slice A l.length c) l → StmtsIn w F' (.slice A' m.length c') m → (∀ s ∈ l, SmZ s) → l.length ≤ 281474976710656 →
    Calls Tryz.prog 60 #[.slice A l.length c, .slice A' m.length c', .bool q] w fun e w' => e = .returned (.bool true) ∧ Below w.heap.size w w'

set_option maxRecDepth 100000 in
set_option maxHeartbeats 8000000 in
theorem eqf_s (q : Bool) (l m : List Sm) (hl : l.length = m.length) (hc : ∀ (k : Nat) (x y : Sm), l[k]? = some x → m[k]? = some y → CloS q x y)
    (A A' : Option Addr) (c c' : Nat) (F F' : Nat → Prop) (p : Nat) (w : World) (hA : StmtsIn w F (.slice A l.length c) l) (hB : StmtsIn w F' (.slice A' m.length c') m) (hZ : ∀ s ∈ l, SmZ s) (hlen : l.length ≤ 281474976710656) (hp : w.cell? ⟨p, 0, none⟩ = some (.bool q)) (hp2 : p < w.heap.size) :
    Calls Tryz.prog 109 #[.slice A l.length c, .slice A' m.length c', .func (.func 110) #[] #[.pointer (some ⟨p, 0, none⟩)]] w fun e w' => e = .returned (.bool true) ∧ Below w.heap.size w w' := by
  have HA := Lib.hid hA; have HZ := Lib.hid hZ; have HC := Lib.hid hc; have HP := Lib.hid hp; have HL := Lib.hid hl
  have HB : Hid (StmtsIn w F' (.slice A' m.length c') m) := Lib.hid hB
  rw [← hl]
  clear hA hB hZ hc hp hl
  go_enter Tryz.func109, Tryz.ntmps109
  go_wp2_with fail
  go_loopw [17] (fun i wr => ∃ j : Nat, j ≤ l.length ∧ i = .int .i64 j ∧ Hid (Below w.heap.size w wr)) (fun i _ => l.length - (intOf i).toNat)
  case atStart => exact ⟨0, Nat.zero_le _, rfl, Lib.hid (Below.refl _ _)⟩
  case round =>
    obtain ⟨j, hj, rfl, HB0⟩ := hrel
    by_cases hlt : j < l.length
    · obtain ⟨x, hx⟩ : ∃ y, l[j]? = some y := ⟨_, List.getElem?_eq_getElem hlt⟩
      obtain ⟨y, hy⟩ : ∃ y, m[j]? = some y := ⟨_, List.getElem?_eq_getElem (by have := HL.out; omega)⟩
      obtain ⟨g, off, Aa, ca, Ab, cb, Ae, ce, rfl, -, hg, hka, hkb, hke, hq⟩ := HA.out.at j x hx
      obtain ⟨g', off', Aa', ca', Ab', cb', Ae', ce', rfl, -, hg', hka', hkb', hke', hq'⟩ := HB.out.at j y hy
      have a0 := (HB0.out.cell (p := ⟨g, off + j * 10, none⟩) hg).trans (hq 0 _ rfl)
      have a1 := (HB0.out.cell (p := ⟨g, off + j * 10 + 1, none⟩) hg).trans (hq 1 _ rfl)
      have a2 := (HB0.out.cell (p := ⟨g, off + j * 10 + 2, none⟩) hg).trans (hq 2 _ rfl)
      have a3 := (HB0.out.cell (p := ⟨g, off + j * 10 + 3, none⟩) hg).trans (hq 3 _ rfl)
      have a4 := (HB0.out.cell (p := ⟨g, off + j * 10 + 4, none⟩) hg).trans (hq 4 _ rfl)
      have a5 := (HB0.out.cell (p := ⟨g, off + j * 10 + 5, none⟩) hg).trans (hq 5 _ rfl)
      have a6 := (HB0.out.cell (p := ⟨g, off + j * 10 + 6, none⟩) hg).trans (hq 6 _ rfl)
      have a7 := (HB0.out.cell (p := ⟨g, off + j * 10 + 7, none⟩) hg).trans (hq 7 _ rfl)
      have a8 := (HB0.out.cell (p := ⟨g, off + j * 10 + 8, none⟩) hg).trans (hq 8 _ rfl)
      have a9 := (HB0.out.cell (p := ⟨g, off + j * 10 + 9, none⟩) hg).trans (hq 9 _ rfl)
      have HX := Lib.hid hx; have HY := Lib.hid hy; have HKA := Lib.hid hka; have HKB := Lib.hid hkb; have HKE := Lib.hid hke; have HKA' := Lib.hid hka'; have HKB' := Lib.hid hkb'; have HKE' := Lib.hid hke'; have HQ' := Lib.hid hq'
      have HZX := Lib.hid (HZ.out x (List.mem_of_getElem? hx))
      clear hx hy hka hkb hke hka' hkb' hke' hq hq'
      have k0 : (0 : Int) ≤ (j : Int) := by omega
      have k1 : (j : Int) < (l.length : Int) := by omega
      go_upto_region 6 with (fail)
      clear a0 a1 a2 a3 a4 a5 a6 a7 a8 a9
      have HB1 := Lib.hid (HB0.out.alloc HB0.out.size (.cells #[.int .i64 x.kind, .string x.name, .int .i64 x.a.kind, .int .i64 x.a.n, .string x.a.text, .slice Aa x.a.args.length ca, .int .i64 x.a.pos, .slice Ab x.body.length cb, .slice Ae x.els.length ce, .int .i64 x.pos] 188))
      have HN1 := Lib.hid (heap_alloc_new wr (.cells #[.int .i64 x.kind, .string x.name, .int .i64 x.a.kind, .int .i64 x.a.n, .string x.a.text, .slice Aa x.a.args.length ca, .int .i64 x.a.pos, .slice Ab x.body.length cb, .slice Ae x.els.length ce, .int .i64 x.pos] 188))
      generalize wr.alloc _ = w1 at HB1 HN1 ⊢
      have hs1 := lt_of_some HN1.out
      generalize wr.heap.size = n1 at HN1 hs1 ⊢
      have b0 := (HB1.out.cell (p := ⟨g', off' + j * 10, none⟩) hg').trans (HQ'.out 0 _ rfl)
      have b1 := (HB1.out.cell (p := ⟨g', off' + j * 10 + 1, none⟩) hg').trans (HQ'.out 1 _ rfl)
      have b2 := (HB1.out.cell (p := ⟨g', off' + j * 10 + 2, none⟩) hg').trans (HQ'.out 2 _ rfl)
      have b3 := (HB1.out.cell (p := ⟨g', off' + j * 10 + 3, none⟩) hg').trans (HQ'.out 3 _ rfl)
      have b4 := (HB1.out.cell (p := ⟨g', off' + j * 10 + 4, none⟩) hg').trans (HQ'.out 4 _ rfl)
      have b5 := (HB1.out.cell (p := ⟨g', off' + j * 10 + 5, none⟩) hg').trans (HQ'.out 5 _ rfl)
      have b6 := (HB1.out.cell (p := ⟨g', off' + j * 10 + 6, none⟩) hg').trans (HQ'.out 6 _ rfl)
      have b7 := (HB1.out.cell (p := ⟨g', off' + j * 10 + 7, none⟩) hg').trans (HQ'.out 7 _ rfl)
      have b8 := (HB1.out.cell (p := ⟨g', off' + j * 10 + 8, none⟩) hg').trans (HQ'.out 8 _ rfl)
      have b9 := (HB1.out.cell (p := ⟨g', off' + j * 10 + 9, none⟩) hg').trans (HQ'.out 9 _ rfl)
      go_upto_region 7 with (fail)
      clear b0 b1 b2 b3 b4 b5 b6 b7 b8 b9
      have HB2 := Lib.hid (HB1.out.alloc HB1.out.size (.cells #[.int .i64 y.kind, .string y.name, .int .i64 y.a.kind, .int .i64 y.a.n, .string y.a.text, .slice Aa' y.a.args.length ca', .int .i64 y.a.pos, .slice Ab' y.body.length cb', .slice Ae' y.els.length ce', .int .i64 y.pos] 188))
      have HN2 := Lib.hid (heap_alloc_new w1 (.cells #[.int .i64 y.kind, .string y.name, .int .i64 y.a.kind, .int .i64 y.a.n, .string y.a.text, .slice Aa' y.a.args.length ca', .int .i64 y.a.pos, .slice Ab' y.body.length cb', .slice Ae' y.els.length ce', .int .i64 y.pos] 188))
      have HN1' := Lib.hid ((heap_alloc_old w1 (.cells #[.int .i64 y.kind, .string y.name, .int .i64 y.a.kind, .int .i64 y.a.n, .string y.a.text, .slice Aa' y.a.args.length ca', .int .i64 y.a.pos, .slice Ab' y.body.length cb', .slice Ae' y.els.length ce', .int .i64 y.pos] 188) hs1).trans HN1.out)
      clear HN1 hs1
      generalize w1.alloc _ = w2 at HB2 HN1' HN2 ⊢
      generalize w1.heap.size = n2 at HN2 ⊢
      obtain ⟨⟨a0, a1, a2, a3, a4, a5, a6, a7, a8, a9⟩, -⟩ := facts10 HN1'.out
      obtain ⟨⟨b0, b1, b2, b3, b4, b5, b6, b7, b8, b9⟩, -⟩ := facts10 HN2.out
      go_wp2_with fail
      clear a0 a1 a2 a3 a4 a5 a6 a7 a8 a9 b0 b1 b2 b3 b4 b5 b6 b7 b8 b9
      have hk : Keeps F F w w2 := fun q h1 h2 => ⟨h1, Nat.lt_of_lt_of_le h2 HB2.out.size, HB2.out.block q h2⟩
      have hk' : Keeps F' F' w w2 := fun q h1 h2 => ⟨h1, Nat.lt_of_lt_of_le h2 HB2.out.size, HB2.out.block q h2⟩
      refine (HC.out j x y HX.out HY.out Aa Ab Ae Aa' Ab' Ae' ca cb ce ca' cb' ce' F F' p w2 (HKA.out.keep hk) (HKB.out.keep hk) (HKE.out.keep hk) (HKA'.out.keep hk') (HKB'.out.keep hk') (HKE'.out.keep hk') HZX.out ((HB2.out.cell (p := ⟨p, 0, none⟩) hp2).trans HP.out)).mono ?_
      rintro e w8 ⟨rfl, hb8⟩
      have HB8 := Lib.hid (HB2.out.trans (hb8.mono HB2.out.size))
      clear hb8 hk hk'
      go_wp2_with fail
      go_roundw
      case rel => exact ⟨j + 1, by omega, by go_num, HB8⟩
      case measure => simp [intOf]; omega
    · go_wp2_with fail
      go_ret
      exact ⟨rfl, HB0.out⟩

set_option maxRecDepth 100000 in
set_option maxHeartbeats 4000000 in
theorem lst_s (q : Bool) (l m : List Sm) (hl : l.length = m.length) (hc : ∀ (k : Nat) (x y : Sm), l[k]? = some x → m[k]? = some y → CloS q x y) : LstS q l m := by
  intro A A' c c' F F' w hA hB hZ hlen
  have HA := Lib.hid hA; have HB := Lib.hid hB; have HZ := Lib.hid hZ; have HC := Lib.hid hc; have HL := Lib.hid hl
  clear hA hB hZ hc hl
  have hmf : ∀ (fn : Go.Fn) (first cap : Array Value) (w : World), (Instr.makeFunc fn first cap).run Tryz.prog w = .ok (.func fn first cap) w := fun _ _ _ _ => rfl
  have HB1 := Lib.hid ((Below.refl w.heap.size w).alloc (Nat.le_refl _) (.cells #[.bool q] 4))
  have HN1 := Lib.hid (heap_alloc_new w (.cells #[.bool q] 4))
  go_enter Tryz.func60, Tryz.ntmps60
  go_wp2_with fail
  have hk : Keeps F F w (w.alloc (.cells #[.bool q] 4)) := fun q h1 h2 => ⟨h1, Nat.lt_of_lt_of_le h2 HB1.out.size, HB1.out.block q h2⟩
  have hk' : Keeps F' F' w (w.alloc (.cells #[.bool q] 4)) := fun q h1 h2 => ⟨h1, Nat.lt_of_lt_of_le h2 HB1.out.size, HB1.out.block q h2⟩
  refine (eqf_s q l m HL.out HC.out A A' c c' F F' w.heap.size _ (HA.out.keep hk) (HB.out.keep hk') HZ.out hlen (Lib.cell_of_heap HN1.out 0) (by simp)).mono ?_
  rintro e w8 ⟨rfl, hb8⟩
  have HB8 := Lib.hid (HB1.out.trans (hb8.mono HB1.out.size))
  clear hb8 hk hk'
  go_wp2_with fail
  go_ret
  exact ⟨rfl, HB8.out⟩
end Go.Proofs.YtmngofgminlloaaGreatDoor

namespace Go.Proofs.YtmngofgminlloaaGreatDoor
open Go.RowKit Tw

set_option maxRecDepth 100000 in
set_option maxHeartbeats 16000000 in
theorem clo_s (q : Bool) (x y : Sm) (h : SameS q x y) : CloS q x y := by
  induction h with
  | @mk x y hk hp he hn hb hb2 hl hl2 ihb ihl =>
  intro Aa Ab Ae Aa' Ab' Ae' ca cb ce ca' cb' ce' F F' p w h1 h2 h3 h4 h5 h6 hZ hc
  cases x with | mk k nm a body els ps =>
  cases y with | mk k' nm' a' body' els' ps' =>
  have LB : k = 3 ∨ k = 4 → LstS q body body' := fun e => lst_s q body body' (hb e) (ihb e)
  have LE : k = 3 → LstS q els els' := fun e => lst_s q els els' (hl e) (ihl e)
  simp only [Sm.kind, Sm.name, Sm.a, Sm.body, Sm.els, Sm.pos] at hk hp hn he h1 h2 h3 h4 h5 h6 ⊢
  subst hk
  have hpq : (q = true → ps = ps') := hp
  have H1 := Lib.hid h1; have H2 := Lib.hid h2; have H3 := Lib.hid h3; have H4 := Lib.hid h4; have H5 := Lib.hid h5; have H6 := Lib.hid h6; have HZ := Lib.hid hZ
  have HLB := Lib.hid LB; have HLE := Lib.hid LE; have HE := Lib.hid he; have HNM := Lib.hid hn; have HPQ := Lib.hid hpq
  have hp0 : p < w.heap.size := by
    rcases Nat.lt_or_ge p w.heap.size with h | h
    · exact h
    · unfold World.cell? at hc; rw [Array.getElem?_eq_none h] at hc; cases hc
  have HC := Lib.hid hc
  clear hp hb hb2 hl hl2 ihb ihl h1 h2 h3 h4 h5 h6 hZ LB LE he hn hpq hc
  go_enter Tryz.func110, Tryz.ntmps110
  go_upto_region 1 with (fail)
  have HB : Hid (Below w.heap.size w ((w.alloc (.cells #[.int .i64 k, .string nm, .int .i64 a.kind, .int .i64 a.n, .string a.text, .slice Aa a.args.length ca, .int .i64 a.pos, .slice Ab body.length cb, .slice Ae els.length ce, .int .i64 ps] 188)).alloc (.cells #[.int .i64 k, .string nm', .int .i64 a'.kind, .int .i64 a'.n, .string a'.text, .slice Aa' a'.args.length ca', .int .i64 a'.pos, .slice Ab' body'.length cb', .slice Ae' els'.length ce', .int .i64 ps'] 188))) := Lib.hid (((Below.refl w.heap.size w).alloc (Nat.le_refl _) _).alloc (by simp) _)
  have HX : Hid (((w.alloc (.cells #[.int .i64 k, .string nm, .int .i64 a.kind, .int .i64 a.n, .string a.text, .slice Aa a.args.length ca, .int .i64 a.pos, .slice Ab body.length cb, .slice Ae els.length ce, .int .i64 ps] 188)).alloc (.cells #[.int .i64 k, .string nm', .int .i64 a'.kind, .int .i64 a'.n, .string a'.text, .slice Aa' a'.args.length ca', .int .i64 a'.pos, .slice Ab' body'.length cb', .slice Ae' els'.length ce', .int .i64 ps'] 188)).heap[w.heap.size]? = some (.cells #[.int .i64 k, .string nm, .int .i64 a.kind, .int .i64 a.n, .string a.text, .slice Aa a.args.length ca, .int .i64 a.pos, .slice Ab body.length cb, .slice Ae els.length ce, .int .i64 ps] 188 (0, 0))) := Lib.hid ((heap_alloc_old _ _ (by simp)).trans (heap_alloc_new w _))
  have HY : Hid (((w.alloc (.cells #[.int .i64 k, .string nm, .int .i64 a.kind, .int .i64 a.n, .string a.text, .slice Aa a.args.length ca, .int .i64 a.pos, .slice Ab body.length cb, .slice Ae els.length ce, .int .i64 ps] 188)).alloc (.cells #[.int .i64 k, .string nm', .int .i64 a'.kind, .int .i64 a'.n, .string a'.text, .slice Aa' a'.args.length ca', .int .i64 a'.pos, .slice Ab' body'.length cb', .slice Ae' els'.length ce', .int .i64 ps'] 188)).heap[w.heap.size + 1]? = some (.cells #[.int .i64 k, .string nm', .int .i64 a'.kind, .int .i64 a'.n, .string a'.text, .slice Aa' a'.args.length ca', .int .i64 a'.pos, .slice Ab' body'.length cb', .slice Ae' els'.length ce', .int .i64 ps'] 188 (0, 0))) := Lib.hid (by simpa using heap_alloc_new (w.alloc (.cells #[.int .i64 k, .string nm, .int .i64 a.kind, .int .i64 a.n, .string a.text, .slice Aa a.args.length ca, .int .i64 a.pos, .slice Ab body.length cb, .slice Ae els.length ce, .int .i64 ps] 188)) (.cells #[.int .i64 k, .string nm', .int .i64 a'.kind, .int .i64 a'.n, .string a'.text, .slice Aa' a'.args.length ca', .int .i64 a'.pos, .slice Ab' body'.length cb', .slice Ae' els'.length ce', .int .i64 ps'] 188))
  generalize (w.alloc _).alloc _ = wa at HB HX HY ⊢
  generalize hn2 : w.heap.size + 1 = n2 at HY ⊢
  have HN2 := Lib.hid hn2; clear hn2
  go_cut [6] (fun u W => u = .bool true ∧ Hid (Below wa.heap.size wa W))
  case first =>
    have HA0 : Hid (∀ W, Below w.heap.size w W → Calls Tryz.prog 111 #[.agg #[.int .i64 a.kind, .int .i64 a.n, .string a.text, .slice Aa a.args.length ca, .int .i64 a.pos], .agg #[.int .i64 a'.kind, .int .i64 a'.n, .string a'.text, .slice Aa' a'.args.length ca', .int .i64 a'.pos], .bool q] W fun e w' => e = .returned (.bool true) ∧ Below W.heap.size W w') :=
      Lib.hid (fun W hb => same_e q a a' HE.out Aa Aa' ca ca' F F' W (H1.out.keep fun g h1 h2 => ⟨h1, Nat.lt_of_lt_of_le h2 hb.size, hb.block g h2⟩) (H4.out.keep fun g h1 h2 => ⟨h1, Nat.lt_of_lt_of_le h2 hb.size, hb.block g h2⟩) HZ.out.parts.2.1)
    obtain ⟨⟨c0, c1, c2, c3, c4, c5, c6, c7, c8, c9⟩, -⟩ := facts10 HX.out
    obtain ⟨⟨d0, d1, d2, d3, d4, d5, d6, d7, d8, d9⟩, -⟩ := facts10 HY.out
    have hq : wa.cell? ⟨p, 0, none⟩ = some (.bool q) := (HB.out.cell (p := ⟨p, 0, none⟩) hp0).trans HC.out
    cases q with
    | true =>
      obtain rfl := HPQ.out rfl
      go_wp2_with fail
      refine (HA0.out wa HB.out).mono ?_
      rintro e w8 ⟨rfl, hb8⟩
      have HB8 := Lib.hid hb8; clear hb8
      go_wp2_with fail
      go_meet
      case rel => exact ⟨rfl, HB8⟩
    | false =>
      go_wp2_with fail
      refine (HA0.out wa HB.out).mono ?_
      rintro e w8 ⟨rfl, hb8⟩
      have HB8 := Lib.hid hb8; clear hb8
      go_wp2_with fail
      go_meet
      case rel => exact ⟨rfl, HB8⟩
  case rest =>
    obtain ⟨rfl, hb⟩ := hcut
    obtain ⟨wb, rfl⟩ : ∃ wo : World, wo = wc := ⟨_, rfl⟩
    replace HX := Lib.hid ((hb.out.block _ (lt_of_some HX.out)).trans HX.out)
    replace HY := Lib.hid ((hb.out.block _ (lt_of_some HY.out)).trans HY.out)
    replace HB := Lib.hid (HB.out.trans (hb.out.mono HB.out.size))
    clear hb HPQ HE
    by_cases k2 : k ≤ 2
    · obtain rfl := HNM.out k2
      have e3 : (k == 3) = false := beq_eq_false_iff_ne.2 (by omega)
      have e4 : (k == 4) = false := beq_eq_false_iff_ne.2 (by omega)
      have es : (nm.toList == nm.toList) = true := beq_self_eq_true _
      obtain ⟨⟨c0, c1, c2, c3, c4, c5, c6, c7, c8, c9⟩, -⟩ := facts10 HX.out
      obtain ⟨⟨d0, d1, d2, d3, d4, d5, d6, d7, d8, d9⟩, -⟩ := facts10 HY.out
      go_wp2_with fail
      go_ret
      exact ⟨rfl, HB.out⟩
    by_cases k3 : k = 3
    · subst k3
      have LB := HLB.out (.inl rfl)
      have LE := HLE.out rfl
      have HLB2 := Lib.hid LB; have HLE2 := Lib.hid LE
      clear HLB HLE LB LE k2
      obtain ⟨⟨c0, c1, c2, c3, c4, c5, c6, c7, c8, c9⟩, -⟩ := facts10 HX.out
      obtain ⟨⟨d0, d1, d2, d3, d4, d5, d6, d7, d8, d9⟩, -⟩ := facts10 HY.out
      have hq : wb.cell? ⟨p, 0, none⟩ = some (.bool q) := (HB.out.cell (p := ⟨p, 0, none⟩) hp0).trans HC.out
      go_wp2_with fail
      clear c0 c1 c2 c3 c4 c5 c6 c7 c8 c9 d0 d1 d2 d3 d4 d5 d6 d7 d8 d9 hq
      have hkF : Keeps F F w wb := fun g h1 h2 => ⟨h1, Nat.lt_of_lt_of_le h2 HB.out.size, HB.out.block g h2⟩
      have hkF' : Keeps F' F' w wb := fun g h1 h2 => ⟨h1, Nat.lt_of_lt_of_le h2 HB.out.size, HB.out.block g h2⟩
      refine (HLB2.out Ab Ab' cb cb' F F' wb (H2.out.keep hkF) (H5.out.keep hkF') HZ.out.parts.2.2.2.2.1 HZ.out.parts.2.2.1).mono ?_
      rintro e w8 ⟨rfl, hb⟩
      replace HX := Lib.hid ((hb.block _ (lt_of_some HX.out)).trans HX.out)
      replace HY := Lib.hid ((hb.block _ (lt_of_some HY.out)).trans HY.out)
      replace HB := Lib.hid (HB.out.trans (hb.mono HB.out.size))
      clear hb
      clear hkF hkF'
      obtain ⟨⟨c0, c1, c2, c3, c4, c5, c6, c7, c8, c9⟩, -⟩ := facts10 HX.out
      obtain ⟨⟨d0, d1, d2, d3, d4, d5, d6, d7, d8, d9⟩, -⟩ := facts10 HY.out
      have hq : w8.cell? ⟨p, 0, none⟩ = some (.bool q) := (HB.out.cell (p := ⟨p, 0, none⟩) hp0).trans HC.out
      go_wp2_with fail
      clear c0 c1 c2 c3 c4 c5 c6 c7 c8 c9 d0 d1 d2 d3 d4 d5 d6 d7 d8 d9 hq
      have hkF : Keeps F F w w8 := fun g h1 h2 => ⟨h1, Nat.lt_of_lt_of_le h2 HB.out.size, HB.out.block g h2⟩
      have hkF' : Keeps F' F' w w8 := fun g h1 h2 => ⟨h1, Nat.lt_of_lt_of_le h2 HB.out.size, HB.out.block g h2⟩
      refine (HLE2.out Ae Ae' ce ce' F F' w8 (H3.out.keep hkF) (H6.out.keep hkF') HZ.out.parts.2.2.2.2.2 HZ.out.parts.2.2.2.1).mono ?_
      rintro e w9 ⟨rfl, hb⟩
      replace HX := Lib.hid ((hb.block _ (lt_of_some HX.out)).trans HX.out)
      replace HY := Lib.hid ((hb.block _ (lt_of_some HY.out)).trans HY.out)
      replace HB := Lib.hid (HB.out.trans (hb.mono HB.out.size))
      clear hb
      clear hkF hkF'
      go_wp2_with fail
      go_ret
      exact ⟨rfl, HB.out⟩
    have e3 : (k == 3) = false := beq_eq_false_iff_ne.2 k3
    have k2' : 2 < k := by omega
    by_cases k4 : k = 4
    · subst k4
      have LB := HLB.out (.inr rfl)
      have HLB2 := Lib.hid LB
      clear HLB HLE LB k2 k3
      obtain ⟨⟨c0, c1, c2, c3, c4, c5, c6, c7, c8, c9⟩, -⟩ := facts10 HX.out
      obtain ⟨⟨d0, d1, d2, d3, d4, d5, d6, d7, d8, d9⟩, -⟩ := facts10 HY.out
      have hq : wb.cell? ⟨p, 0, none⟩ = some (.bool q) := (HB.out.cell (p := ⟨p, 0, none⟩) hp0).trans HC.out
      go_wp2_with fail
      clear c0 c1 c2 c3 c4 c5 c6 c7 c8 c9 d0 d1 d2 d3 d4 d5 d6 d7 d8 d9 hq
      have hkF : Keeps F F w wb := fun g h1 h2 => ⟨h1, Nat.lt_of_lt_of_le h2 HB.out.size, HB.out.block g h2⟩
      have hkF' : Keeps F' F' w wb := fun g h1 h2 => ⟨h1, Nat.lt_of_lt_of_le h2 HB.out.size, HB.out.block g h2⟩
      refine (HLB2.out Ab Ab' cb cb' F F' wb (H2.out.keep hkF) (H5.out.keep hkF') HZ.out.parts.2.2.2.2.1 HZ.out.parts.2.2.1).mono ?_
      rintro e w8 ⟨rfl, hb⟩
      replace HX := Lib.hid ((hb.block _ (lt_of_some HX.out)).trans HX.out)
      replace HY := Lib.hid ((hb.block _ (lt_of_some HY.out)).trans HY.out)
      replace HB := Lib.hid (HB.out.trans (hb.mono HB.out.size))
      clear hb
      clear hkF hkF'
      obtain ⟨⟨c0, c1, c2, c3, c4, c5, c6, c7, c8, c9⟩, -⟩ := facts10 HX.out
      obtain ⟨⟨d0, d1, d2, d3, d4, d5, d6, d7, d8, d9⟩, -⟩ := facts10 HY.out
      go_wp2_with fail
      go_ret
      exact ⟨rfl, HB.out⟩
    · have e4 : (k == 4) = false := beq_eq_false_iff_ne.2 k4
      clear k2 k3 k4
      obtain ⟨⟨c0, c1, c2, c3, c4, c5, c6, c7, c8, c9⟩, -⟩ := facts10 HX.out
      obtain ⟨⟨d0, d1, d2, d3, d4, d5, d6, d7, d8, d9⟩, -⟩ := facts10 HY.out
      go_wp2_with fail
      go_ret
      exact ⟨rfl, HB.out⟩
theorem same_l (q : Bool) (l m : List Sm) (h : SameL q l m) : LstS q l m := lst_s q l m h.1 fun k x y h1 h2 => clo_s q x y (h.2 k x y h1 h2)
end Go.Proofs.YtmngofgminlloaaGreatDoor
