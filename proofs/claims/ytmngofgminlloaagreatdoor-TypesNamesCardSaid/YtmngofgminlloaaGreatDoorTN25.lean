/-
  The program's Parse answers of a text what the reference's Script answers.
  When two scripts are the same in what their kinds use (with positions, if q), in plain Lean.
  The reference's SameExpr: true of expressions that are the same in what their kinds use.
  The reference's SameStmts: true of statements that are the same in what their kinds use.
  The reference's SameStmts and its comparing function, of statements that are the same in what their kinds use.
  The reference's SameUnit: true of scripts that are the same in what their kinds use.
  The text that the law ParseTells tries first is a script of one function, in plain Lean.
  Script's answer is one thing; there is an answer; the law's first text.
  What the checkers of types may rely on, in plain Lean: types are 1 or 2, names of variables are apart, operators by their levels. No program in sight.
  The program's checker of names and types: its state in memory, the frame of its methods.
-/
import Derived.Test.YtmngofgminlloaaGreatDoorTN24
import Derived.RegionDies
import Derived.Deep.RegionLaw
import Derived.Test.YtmngofgminlloaaGreatDoorTN09
import Derived.Outline
import Derived.Deep.DeepCutAuto
import Derived.Test.YtmngofgminlloaaGreatDoorTN12
import Derived.Test.YtmngofgminlloaaGreatDoorShelf
import Derived.Test.YtmngofgminlloaaGreatDoorTN07
import Derived.Test.YtmngofgminlloaaGreatDoorTN17
import Derived.Test.YtmngofgminlloaaGreatDoorTN23
set_option linter.all false
namespace Go.Proofs.YtmngofgminlloaaGreatDoor
open Go.RowKit Tw

/-- What Parse answers. -/
def PRes (w : World) (src : ByteArray) (e : Ending) (w' : World) : Prop :=
  ∃ (l : List Fn) (A : Option Addr) (c : Nat) (p er : Int), e = .returned (.tuple #[.agg #[.slice A l.length c], .int .i64 p, .int .i64 er]) ∧ FnsIn w' (fun g => w.heap.size ≤ g) (.slice A l.length c) l ∧ Below w.heap.size w w' ∧ SRes src l p er
/-- The same, and the list is no longer than its room. -/
def PResC (w : World) (src : ByteArray) (e : Ending) (w' : World) : Prop :=
  ∃ (l : List Fn) (A : Option Addr) (c : Nat) (p er : Int), e = .returned (.tuple #[.agg #[.slice A l.length c], .int .i64 p, .int .i64 er]) ∧ FnsIn w' (fun g => w.heap.size ≤ g) (.slice A l.length c) l ∧ Below w.heap.size w w' ∧ SRes src l p er ∧ l.length ≤ c
theorem PResC.old {w w' : World} {src : ByteArray} {e : Ending} (h : PResC w src e w') : PRes w src e w' := by
  obtain ⟨l, A, c, p, er, h1, h2, h3, h4, -⟩ := h
  exact ⟨l, A, c, p, er, h1, h2, h3, h4⟩
theorem wrow_int {W W2 : World} {B b : Nat} {v : Value} {ws : List Wd} {n : Int} {T : Nat} (h : WRow W B v ws) (hu : W.heap[b]? = some (.cells #[.int .i64 n] T (0, 0))) (hg : W.grownBy W2 (some b)) (_ : True → True) : WRow W2 B v ws := by
  rcases h with ⟨rfl, rfl⟩ | ⟨g, cap, rfl, hgB, hc⟩
  · exact .inl ⟨rfl, rfl⟩
  · refine .inr ⟨g, cap, rfl, hgB, fun j u hj => ?_⟩
    have hju := hc j u hj
    have hlt : g < W.heap.size := by
      rcases Nat.lt_or_ge g W.heap.size with h | h
      · exact h
      · unfold World.cell? at hju; rw [Array.getElem?_eq_none h] at hju; cases hju
    have hne : g ≠ b := by
      rintro rfl
      cases ws with
      | nil => simp [wcells] at hj
      | cons x ws =>
        have h0 := hc 1 (.string x.text) (by simp [wcells, Wd.cells])
        have h1 := Lib.cell_of_heap hu 1
        rw [h0] at h1
        simp at h1
    exact (World.cell?_of_block (a := ⟨g, j, none⟩) (hg.block g hlt (by simp; exact hne))).trans hju
theorem set3 {B bu bp be : Nat} {w W : World} {s0 : Value} {x0 y0 : Int} (hb : Below B w W) (hB : B ≤ bu) (h1 : bu < bp) (h2 : bp < be) (hu : W.heap[bu]? = some (.cells #[s0] 24 (0, 0))) (hp : W.heap[bp]? = some (.cells #[.int .i64 x0] 3 (0, 0))) (he : W.heap[be]? = some (.cells #[.int .i64 y0] 25 (0, 0))) (s : Value) (x y : Int) :
    Below B w (((W.setCell ⟨bu, 0, none⟩ s).setCell ⟨bp, 0, none⟩ (.int .i64 x)).setCell ⟨be, 0, none⟩ (.int .i64 y)) ∧ (((W.setCell ⟨bu, 0, none⟩ s).setCell ⟨bp, 0, none⟩ (.int .i64 x)).setCell ⟨be, 0, none⟩ (.int .i64 y)).heap[bu]? = some (.cells #[s] 24 (0, 0)) ∧
    (((W.setCell ⟨bu, 0, none⟩ s).setCell ⟨bp, 0, none⟩ (.int .i64 x)).setCell ⟨be, 0, none⟩ (.int .i64 y)).heap[bp]? = some (.cells #[.int .i64 x] 3 (0, 0)) ∧ (((W.setCell ⟨bu, 0, none⟩ s).setCell ⟨bp, 0, none⟩ (.int .i64 x)).setCell ⟨be, 0, none⟩ (.int .i64 y)).heap[be]? = some (.cells #[.int .i64 y] 25 (0, 0)) ∧
    (∀ g, g ≠ bu → g ≠ bp → g ≠ be → (((W.setCell ⟨bu, 0, none⟩ s).setCell ⟨bp, 0, none⟩ (.int .i64 x)).setCell ⟨be, 0, none⟩ (.int .i64 y)).heap[g]? = W.heap[g]?) := by
  have o1 : ∀ (V : World) (k j : Nat) (u : Value), j ≠ k → (V.setCell ⟨k, 0, none⟩ u).heap[j]? = V.heap[j]? := fun V k j u h => Below.heap_setCell V ⟨k, 0, none⟩ u j (by simpa using h)
  refine ⟨below_set (below_set (below_set hb hB 0 _) (by omega) 0 _) (by omega) 0 _, ?_, ?_, ?_, ?_⟩
  · rw [o1 _ _ _ _ (by omega), o1 _ _ _ _ (by omega)]
    simpa using heap_setCell_same W bu 0 _ _ s hu
  · rw [o1 _ _ _ _ (by omega)]
    simpa using heap_setCell_same _ bp 0 _ _ (.int .i64 x) ((o1 W bu bp s (by omega)).trans hp)
  · simpa using heap_setCell_same _ be 0 _ _ (.int .i64 y) ((o1 _ bp be (.int .i64 x) (by omega)).trans ((o1 W bu be s (by omega)).trans he))
  · intro g g1 g2 g3
    rw [o1 _ _ _ _ g3, o1 _ _ _ _ g2, o1 _ _ _ _ g1]
/-- Behind the deferred function: the results are read. -/
theorem door_ret {w W : World} {src : ByteArray} {bu bp be : Nat} {tmps : Array Value} {l : List Fn} {A : Option Addr} {c : Nat} {p er : Int} {F : Nat → Prop}
    (h0 : tmps.getD 2 undef = .pointer (some ⟨bu, 0, none⟩)) (h1 : tmps.getD 3 undef = .pointer (some ⟨bp, 0, none⟩)) (h2 : tmps.getD 4 undef = .pointer (some ⟨be, 0, none⟩))
    (hu : W.heap[bu]? = some (.cells #[.slice A l.length c] 24 (0, 0))) (hp : W.heap[bp]? = some (.cells #[.int .i64 p] 3 (0, 0))) (he : W.heap[be]? = some (.cells #[.int .i64 er] 25 (0, 0)))
    (hF : FnsIn W F (.slice A l.length c) l) (hFF : ∀ g, F g → w.heap.size ≤ g) (hb : Below w.heap.size w W) (hs : SRes src l p er) (hcp : l.length ≤ c) :
    Leaves Tryz.prog Tryz.f22 tmps (fun e w' => PResC w src e w') [] .returning W :=
  ⟨_, results_parse bu bp be A l.length c p er tmps W h0 h1 h2 hu hp he, l, A, c, p, er, rfl, hF.keep (fun g h1 h2 => ⟨hFF g h1, h2, rfl⟩), hb, hs, hcp⟩

set_option maxRecDepth 100000 in
set_option maxHeartbeats 16000000 in
theorem parse_cc (src : ByteArray) (w : World) (hs : src.size ≤ maxLen) (hG : Glob w) (p0 e0 : Int) (ws : List Wd) (hw : WRes src p0 e0 ws) (q : Ru) (hq : Du ws src.size 0 q) :
    Calls Tryz.prog 22 #[.string src] w fun e w' => PResC w src e w' := by
  have HW := Lib.hid hw; have HD := Lib.hid hq
  have hbig := hG.big
  have HG := Lib.hid hG
  have hB3 : Below w.heap.size w (((w.alloc (.cells #[.slice none 0 0] 24)).alloc (.cells #[.int .i64 0] 3)).alloc (.cells #[.int .i64 0] 25)) := (((Below.refl _ _).alloc (Nat.le_refl _) _).alloc (by simp) _).alloc (by simp; omega) _
  have WC := Lib.hid (split_c src _ p0 e0 ws hs (hG.to hB3) hw)
  have hmf : ∀ (fn : Go.Fn) (first cap : Array Value) (w : World), (Instr.makeFunc fn first cap).run Tryz.prog w = .ok (.func fn first cap) w := fun _ _ _ _ => rfl
  clear hw hq hG
  unfold maxLen at hs
  go_enter_defers Tryz.func22, Tryz.ntmps22
  go_wp2_with fail
  refine WC.out.mono ?_
  rintro e w1 ⟨⟨v, rfl, hv⟩, hb⟩
  have hu : w1.heap[w.heap.size]? = some (.cells #[.slice none 0 0] 24 (0, 0)) := (hb.block _ (by simp; omega)).trans ((heap_alloc_old _ _ (by simp; omega)).trans ((heap_alloc_old _ _ (by simp)).trans (heap_alloc_new w _)))
  have hp : w1.heap[w.heap.size + 1]? = some (.cells #[.int .i64 0] 3 (0, 0)) := (hb.block _ (by simp)).trans ((heap_alloc_old _ _ (by simp)).trans (by simpa using heap_alloc_new (w.alloc (.cells #[.slice none 0 0] 24)) (.cells #[.int .i64 0] 3)))
  have he : w1.heap[w.heap.size + 2]? = some (.cells #[.int .i64 0] 25 (0, 0)) := (hb.block _ (by simp)).trans (by simpa using heap_alloc_new ((w.alloc (.cells #[.slice none 0 0] 24)).alloc (.cells #[.int .i64 0] 3)) (.cells #[.int .i64 0] 25))
  have HB1 := Lib.hid (hB3.trans (hb.mono hB3.size))
  have hz1 := hb.size
  simp at hz1
  have HV := Lib.hid hv
  obtain ⟨A0, cap0, rfl, -⟩ := hv.form
  have HU := Lib.hid hu; have HP := Lib.hid hp; have HE := Lib.hid he
  have cp := Lib.cell_of_heap hp 0; have fp := Lib.frozen_of_heap hp 0
  have ce := Lib.cell_of_heap he 0; have fe := Lib.frozen_of_heap he 0
  simp at cp ce
  clear hv hb hu hp he WC hB3
  go_upto_region 2 with (fail)
  clear cp fp ce fe
  have HU2 : Hid (((w1.setCell ⟨w.heap.size + 1, 0, none⟩ (.int .i64 p0)).setCell ⟨w.heap.size + 2, 0, none⟩ (.int .i64 e0)).heap[w.heap.size]? = some (.cells #[.slice none 0 0] 24 (0, 0))) :=
    Lib.hid ((Below.heap_setCell _ ⟨w.heap.size + 2, 0, none⟩ _ _ (by simp)).trans ((Below.heap_setCell _ ⟨w.heap.size + 1, 0, none⟩ _ _ (by simp)).trans HU.out))
  have HP2 : Hid (((w1.setCell ⟨w.heap.size + 1, 0, none⟩ (.int .i64 p0)).setCell ⟨w.heap.size + 2, 0, none⟩ (.int .i64 e0)).heap[w.heap.size + 1]? = some (.cells #[.int .i64 p0] 3 (0, 0))) :=
    Lib.hid ((Below.heap_setCell _ ⟨w.heap.size + 2, 0, none⟩ _ _ (by simp)).trans (by simpa using heap_setCell_same w1 (w.heap.size + 1) 0 _ _ (.int .i64 p0) HP.out))
  have HE2 : Hid (((w1.setCell ⟨w.heap.size + 1, 0, none⟩ (.int .i64 p0)).setCell ⟨w.heap.size + 2, 0, none⟩ (.int .i64 e0)).heap[w.heap.size + 2]? = some (.cells #[.int .i64 e0] 25 (0, 0))) :=
    Lib.hid (by simpa using heap_setCell_same _ (w.heap.size + 2) 0 _ _ (.int .i64 e0) ((Below.heap_setCell w1 ⟨w.heap.size + 1, 0, none⟩ (.int .i64 p0) (w.heap.size + 2) (by simp)).trans HE.out))
  have HB2 := Lib.hid (below_set (below_set HB1.out (show w.heap.size ≤ w.heap.size + 1 by omega) 0 (.int .i64 p0)) (show w.heap.size ≤ w.heap.size + 2 by omega) 0 (.int .i64 e0))
  have hzs : ((w1.setCell ⟨w.heap.size + 1, 0, none⟩ (.int .i64 p0)).setCell ⟨w.heap.size + 2, 0, none⟩ (.int .i64 e0)).heap.size = w1.heap.size := by simp
  have HV2 : Hid (WRow ((w1.setCell ⟨w.heap.size + 1, 0, none⟩ (.int .i64 p0)).setCell ⟨w.heap.size + 2, 0, none⟩ (.int .i64 e0)) ((w1.setCell ⟨w.heap.size + 1, 0, none⟩ (.int .i64 p0)).setCell ⟨w.heap.size + 2, 0, none⟩ (.int .i64 e0)).heap.size (.slice A0 ws.length cap0) ws) :=
    Lib.hid (by rw [hzs]; exact wrow_int (wrow_int HV.out HP.out (grown_set _ _ _ _) (fun h => h)) ((Below.heap_setCell w1 ⟨w.heap.size + 1, 0, none⟩ (.int .i64 p0) (w.heap.size + 2) (by simp)).trans HE.out) (grown_set _ _ _ _) (fun h => h))
  clear HU HP HE HV HB1
  generalize (w1.setCell _ _).setCell _ _ = w2 at HU2 HP2 HE2 HB2 HV2 hzs ⊢
  have hz2 : w.heap.size + 3 ≤ w2.heap.size := by omega
  clear hzs hz1
  obtain ⟨bu, hbu⟩ : ∃ b, w.heap.size = b := ⟨_, rfl⟩
  obtain ⟨bp, hbp⟩ : ∃ b, w.heap.size + 1 = b := ⟨_, rfl⟩
  obtain ⟨be, hbe⟩ : ∃ b, bp + 1 = b := ⟨_, rfl⟩
  rw [hbp] at HP2; rw [show w.heap.size + 2 = be by omega] at HE2; rw [hbu] at HU2
  simp only [hbp]
  simp only [hbe]
  simp only [hbu]
  have n1 : bu < bp := by omega
  have n2 : bp < be := by omega
  have n3 : be < w2.heap.size := by omega
  have n0 : 10 < bu := by omega
  have HN := Lib.hid hbu; clear hbp hbe hbu hz2 hbig
  by_cases he0 : e0 = 0
  · subst he0
    have hnum : NumsOk ws := HW.out.nums
    have hws := HW.out.small
    have HNU := Lib.hid hnum; have HWS := Lib.hid hws
    clear hnum hws
    have hbA : Below w.heap.size w (w2.alloc (.cells #[.slice A0 ws.length cap0, .int .i64 0, .int .i64 src.size] 157)) := HB2.out.alloc HB2.out.size _
    have hba2 : Below w2.heap.size w2 (w2.alloc (.cells #[.slice A0 ws.length cap0, .int .i64 0, .int .i64 src.size] 157)) := (Below.refl _ _).alloc (Nat.le_refl _) _
    have HF : Hid (FrW w (w2.alloc (.cells #[.slice A0 ws.length cap0, .int .i64 0, .int .i64 src.size] 157)) w2.heap.size bu bp be (w2.heap.size + 1) (.slice A0 ws.length cap0) ws 0 src.size none 0 [] p0 0) :=
      Lib.hid ⟨⟨heap_alloc_new w2 _, HV2.out.same fun k hk => hba2.block k hk, HWS.out.1, Nat.zero_le _⟩, (heap_alloc_old w2 _ (by omega)).trans HU2.out, (heap_alloc_old w2 _ (by omega)).trans HP2.out, (heap_alloc_old w2 _ n3).trans HE2.out, GRow.nil _ _ _ _ _, hbA, HG.out.to hbA, by omega, n0, by have := HN.out; omega, n1, n2, n3, by omega, by simp⟩
    clear hbA hba2
    have ce : w2.cell? ⟨be, 0, none⟩ = some (.int .i64 0) := Lib.cell_of_heap HE2.out 0
    go_upto_block 0 with (fail)
    clear ce HU2 HP2 HE2 HB2 HV2
    generalize w2.alloc _ = w3 at HF ⊢
    generalize w2.heap.size + 1 = base at HF
    generalize w2.heap.size = rb at HF n3 ⊢
    have HR0 := HF.out.r0
    go_wp2_with fail
    go_loopw [] (fun wr => ∃ (l : List (Fn × Value × Value × Value)) (A : Option Addr) (c i' : Nat) (q' : Ru), Hid (FrW w wr rb bu bp be base (.slice A0 ws.length cap0) ws i' src.size A c l p0 0) ∧ Hid (l.length ≤ i' ∧ Du ws src.size i' q' ∧ q = joinU (l.map (·.1)) q'))
      (fun wr => ws.length - placeOf wr rb)
    case atStart => exact ⟨[], none, 0, 0, q, HF, Lib.hid ⟨Nat.zero_le _, HD.out, (joinU_nil q).symm⟩⟩
    case round =>
      clear HF
      obtain ⟨l, A, c, i', q', HF, HI⟩ := hrel
      have hpl := HF.out.rd.place
      have hpos := HF.out.rd.pos
      have hlen := HF.out.rd.len
      have c0 := HF.out.rd.c0; have c1 := HF.out.rd.c1
      by_cases hlt : i' < ws.length
      · have hlti : (i' : Int) < (ws.length : Int) := by omega
        go_upto_region 6 with (fail)
        go_quiet (fail)
        clear c0 c1
        have HFn : Hid (∀ n, FrW w (wr.drewN n) rb bu bp be base (.slice A0 ws.length cap0) ws i' src.size A c l p0 0) := Lib.hid (fun n => HF.out.below (below_drewN (Below.refl _ _) n))
        go_upto_region 7 with (fail)
        generalize hwn : World.drewN wr _ = wn
        have HF2 : Hid (FrW w wn rb bu bp be base (.slice A0 ws.length cap0) ws i' src.size A c l p0 0) := Lib.hid (hwn ▸ HFn.out _)
        clear hwn HFn HF
        have HF := HF2
        clear HF2
        have hll : l.length ≤ 4000 := by have := HI.out.1; omega
        have cu : wn.cell? ⟨bu, 0, none⟩ = some (.slice A l.length c) := Lib.cell_of_heap HF.out.un 0
        have HFd := Lib.hid (HF.out.below (bel_drew _))
        have hX := du_more HI.out.2.1 hlt
        rcases hX with ⟨j, hy, hq⟩ | ⟨f, j, q2, hy, hm, hq⟩
        · have HY := Lib.hid hy
          have hqq : q = .bad j := by rw [HI.out.2.2, hq]; rfl
          subst hqq
          clear hy hq
          first | go_region_dies | fail
          all_goals
            go_at_call 83
            refine (fun_p rb _ ws src.size i' HNU.out HR0 _ HY.out _ HFd.out.rd HFd.out.gl).mono ?_
            rintro e w9 ⟨rfl, hg⟩
            have HK := Lib.hid (HFd.out.keepBad hg); clear hg
            unfold badP
            go_wp2_with fail
            refine leaves_cons (f := 82) (args := #[.pointer (some ⟨bu, 0, none⟩), .pointer (some ⟨bp, 0, none⟩), .pointer (some ⟨be, 0, none⟩)]) (by simp) (by simp [go_sem]) ?_
            refine (catch_bad bu bp be _ p0 0 _ [] w9 HK.out.1 HK.out.2.1 HK.out.2.2.1 n1 n2).mono ?_
            rintro e u' w' ⟨rfl, rfl, hb, g1, g2, g3⟩
            simp only [settle, List.dropWhile_nil]
            exact door_ret (l := []) (F := fun _ => False) rfl rfl rfl g1 g2 g3 (.inl ⟨_, _, rfl, rfl⟩) (fun g h => h.elim) (HK.out.2.2.2.trans (hb.mono (by have := HN.out; omega))) ⟨p0, 0, ws, HW.out, .inr ⟨rfl, .inl ⟨j, HD.out, rfl, rfl, rfl⟩⟩⟩ (Nat.zero_le _)
        · have HY := Lib.hid hy; have HM := Lib.hid hm; have HQ := Lib.hid hq; clear hy hm hq
          have hon : i' < j := HY.out.on
          have hbz0 := HF.out.z5; have hbz1 := HF.out.z4
          first | (go_region_law (first | (go_simp; go_at_call 83; refine (fun_p rb _ ws src.size i' HNU.out HR0 _ HY.out _ HFd.out.rd HFd.out.gl).mono ?_; rintro e w8 ⟨An, cn, At, ct, Ab, cb, rfl, hS, hT, hB, hR, hg⟩; have HKd : Hid (fnElem.kid w8 (fun g => wn.heap.size ≤ g) (f, .slice An f.names.length cn, .slice At f.types.length ct, .slice Ab f.body.length cb)) := Lib.hid ⟨hS, hT, hB⟩; have HF8 := Lib.hid (HFd.out.step hR hg); have d1 : w8.cell? ⟨bu, 0, none⟩ = some (.slice A l.length c) := Lib.cell_of_heap HF8.out.un 0; have hb8 := HF8.out.z5; have hb9 := lt_of_some HF8.out.un; have hown := HFd.out.row.1.lt; clear hS hT hB hR hg) | (refine step_app1 elemFn (by rfl) _ _ (by rfl) base _ l.length (l.flatMap fnElem.cells) (by rfl) (HF8.out.row.1.alloc _) w8.heap.size 1 #[.string f.name, .slice An f.names.length cn, .slice At f.types.length ct, .int .i64 f.out, .slice Ab f.body.length cb, .int .i64 f.pos] (by rfl) (heap_alloc_new w8 _) rfl (by simp [Value.oneCell']) (by omega) (by simp; omega) ?_; intro g9 cap9 w9 hown9 hgrow9 hat9 hlt9; have hun := HF8.out.app_un hgrow9; have q1 := Lib.cell_of_heap hun 0; have q2' := Lib.frozen_of_heap hun 0; clear hun))) | fail
          all_goals
            have HFA := Lib.hid (HF8.out.app HKd.out (fun g (hg : wn.heap.size ≤ g) => ⟨by omega, fun e => by have := (hown g e).2; have h2 : wn.drew.heap.size = wn.heap.size := rfl; omega⟩) hown9 hgrow9 hat9 rfl)
            go_wp2_with fail
            go_roundw
            case rel => exact ⟨l ++ [(f, .slice An f.names.length cn, .slice At f.types.length ct, .slice Ab f.body.length cb)], some ⟨g9, 0, none⟩, cap9, j, q2, by simpa using HFA, Lib.hid ⟨by have := HI.out.1; simp; omega, HM.out, by rw [HI.out.2.2, HQ.out, joinU_join]; simp⟩⟩
            case measure => rw [HFA.out.rd.place, hpl]; have := HFA.out.rd.pos; omega
      · have hlti : (ws.length : Int) ≤ (i' : Int) := by omega
        have hii : ws.length ≤ i' := by omega
        have hq' := du_done HI.out.2.1 hii
        have hqq : q = .fns (l.map (·.1)) := by rw [HI.out.2.2, hq']; simp [joinU]
        have hll : l.length ≤ 4000 := by have := HI.out.1; omega
        subst hqq
        clear hq' hii
        go_upto_region 6 with (fail)
        go_quiet (fail)
        clear c0 c1
        have HFn : Hid (∀ n, FrW w (wr.drewN n) rb bu bp be base (.slice A0 ws.length cap0) ws i' src.size A c l p0 0) := Lib.hid (fun n => HF.out.below (below_drewN (Below.refl _ _) n))
        go_upto_region 8 with (fail)
        generalize hwn : World.drewN wr _ = wn
        have HF2 : Hid (FrW w wn rb bu bp be base (.slice A0 ws.length cap0) ws i' src.size A c l p0 0) := Lib.hid (hwn ▸ HFn.out _)
        clear hwn HFn HF
        have HF := HF2
        clear HF2
        have cu : wn.cell? ⟨bu, 0, none⟩ = some (.slice A l.length c) := Lib.cell_of_heap HF.out.un 0
        have hCk := check_c (l.map (·.1)) A c (fun g => base ≤ g) wn (by rw [List.length_map]; exact HF.out.row.fns) ((HD.out.small HWS.out) _ rfl).2.2 (by rw [List.length_map]; omega)
        rw [List.length_map] at hCk
        obtain ⟨z, hz⟩ : ∃ z, unitF (l.map (·.1)) = z := ⟨_, rfl⟩
        rw [hz] at hCk
        have HCk := Lib.hid hCk; have HZ := Lib.hid hz
        clear hCk hz
        go_wp2_with fail
        clear cu
        refine HCk.out.mono ?_
        rintro e wz ⟨rfl, hb⟩
        replace HF := Lib.hid (HF.out.below hb)
        clear hb
        have cu : wz.cell? ⟨bu, 0, none⟩ = some (.slice A l.length c) := Lib.cell_of_heap HF.out.un 0
        have fu : wz.frozen? ⟨bu, 0, none⟩ = false := Lib.frozen_of_heap HF.out.un 0
        have cp : wz.cell? ⟨bp, 0, none⟩ = some (.int .i64 p0) := Lib.cell_of_heap HF.out.pp 0
        have fp : wz.frozen? ⟨bp, 0, none⟩ = false := Lib.frozen_of_heap HF.out.pp 0
        have ce : wz.cell? ⟨be, 0, none⟩ = some (.int .i64 0) := Lib.cell_of_heap HF.out.ee 0
        have fe : wz.frozen? ⟨be, 0, none⟩ = false := Lib.frozen_of_heap HF.out.ee 0
        have m1 : bu ≠ bp := by omega
        have m2 : bp ≠ be := by omega
        have m3 : bu ≠ be := by omega
        by_cases hz0 : z = 0
        · subst hz0
          go_wp2_with fail
          refine leaves_cons (f := 82) (args := #[.pointer (some ⟨bu, 0, none⟩), .pointer (some ⟨bp, 0, none⟩), .pointer (some ⟨be, 0, none⟩)]) (by simp) (by simp [go_sem]) ?_
          refine (catch_idle _ _ _ _).mono ?_
          rintro e u' w' ⟨rfl, rfl, rfl⟩
          simp only [settle]
          obtain ⟨hb, g1, g2, g3, g4⟩ := set3 HF.out.bel (by have := HN.out; omega) n1 n2 HF.out.un HF.out.pp HF.out.ee (.slice A l.length c) 0 0
          refine door_ret (l := l.map (·.1)) (F := fun g => base ≤ g) rfl rfl rfl (by rw [List.length_map]; exact g1) g2 g3 ?_ (fun g (h : base ≤ g) => by have := HF.out.z4; have := HN.out; omega) hb ⟨p0, 0, ws, HW.out, .inr ⟨rfl, .inr ⟨_, HD.out, rfl, HZ.out.symm, by rw [if_pos HZ.out]⟩⟩⟩ (by rw [List.length_map]; exact row_cap HF.out.row)
          rw [List.length_map]
          exact HF.out.row.fns.keep fun g (q1 : base ≤ g) q2 => ⟨q1, by simpa using q2, g4 g (by have := HF.out.z4; omega) (by have := HF.out.z4; omega) (by have := HF.out.z4; omega)⟩
        · have e1 : (z != 0) = true := by simpa using hz0
          have HZ0 := Lib.hid hz0; clear hz0
          go_wp2_with fail
          refine leaves_cons (f := 82) (args := #[.pointer (some ⟨bu, 0, none⟩), .pointer (some ⟨bp, 0, none⟩), .pointer (some ⟨be, 0, none⟩)]) (by simp) (by simp [go_sem]) ?_
          refine (catch_idle _ _ _ _).mono ?_
          rintro e u' w' ⟨rfl, rfl, rfl⟩
          simp only [settle]
          obtain ⟨hb, g1, g2, g3, g4⟩ := set3 HF.out.bel (by have := HN.out; omega) n1 n2 HF.out.un HF.out.pp HF.out.ee (.slice none 0 0) 0 z
          exact door_ret (l := []) (F := fun _ => False) rfl rfl rfl g1 g2 g3 (.inl ⟨_, _, rfl, rfl⟩) (fun g h => h.elim) hb ⟨p0, 0, ws, HW.out, .inr ⟨rfl, .inr ⟨_, HD.out, rfl, HZ.out.symm, by rw [if_neg (by rw [HZ.out]; exact HZ0.out)]⟩⟩⟩ (Nat.zero_le _)
  · have e1 : (e0 != 0) = true := by simpa using he0
    have HE0 := Lib.hid he0; clear he0
    have cu : w2.cell? ⟨bu, 0, none⟩ = some (.slice none 0 0) := Lib.cell_of_heap HU2.out 0
    have fu : w2.frozen? ⟨bu, 0, none⟩ = false := Lib.frozen_of_heap HU2.out 0
    have cp : w2.cell? ⟨bp, 0, none⟩ = some (.int .i64 p0) := Lib.cell_of_heap HP2.out 0
    have fp : w2.frozen? ⟨bp, 0, none⟩ = false := Lib.frozen_of_heap HP2.out 0
    have ce : w2.cell? ⟨be, 0, none⟩ = some (.int .i64 e0) := Lib.cell_of_heap HE2.out 0
    have fe : w2.frozen? ⟨be, 0, none⟩ = false := Lib.frozen_of_heap HE2.out 0
    have m1 : bu ≠ bp := by omega
    have m2 : bp ≠ be := by omega
    have m3 : bu ≠ be := by omega
    go_upto_region 3 with (fail)
    go_region
    all_goals
      go_wp2_with fail
      obtain ⟨hb, g1, g2, g3, -⟩ := set3 HB2.out (by have := HN.out; omega) n1 n2 HU2.out HP2.out HE2.out (.slice none 0 0) p0 e0
      exact door_ret (l := []) (F := fun _ => False) rfl rfl rfl g1 g2 g3 (.inl ⟨_, _, rfl, rfl⟩) (fun g h => h.elim) (hb.trans ((bel_drew _).mono hb.size)) ⟨p0, e0, ws, HW.out, .inl ⟨HE0.out, rfl, rfl, rfl⟩⟩ (Nat.zero_le _)
end Go.Proofs.YtmngofgminlloaaGreatDoor

namespace Go.Proofs.YtmngofgminlloaaGreatDoor
open Go.RowKit Tw

inductive SameE (q : Bool) : Ex → Ex → Prop
  | mk {a b : Ex} (hk : a.kind = b.kind) (hp : q = true → a.pos = b.pos) (hl : a.args.length = b.args.length) (hn : a.kind = 1 ∨ a.kind = 2 ∨ a.kind = 8 → a.n = b.n) (ht : a.kind = 3 ∨ a.kind = 7 ∨ a.kind = 6 → a.text = b.text)
      (hr : ∀ (k : Nat) (x y : Ex), a.args[k]? = some x → b.args[k]? = some y → SameE q x y) : SameE q a b
inductive SameS (q : Bool) : Sm → Sm → Prop
  | mk {a b : Sm} (hk : a.kind = b.kind) (hp : q = true → a.pos = b.pos) (he : SameE q a.a b.a) (hn : a.kind ≤ 2 → a.name = b.name)
      (hb : a.kind = 3 ∨ a.kind = 4 → a.body.length = b.body.length) (hb2 : a.kind = 3 ∨ a.kind = 4 → ∀ (k : Nat) (x y : Sm), a.body[k]? = some x → b.body[k]? = some y → SameS q x y)
      (hl : a.kind = 3 → a.els.length = b.els.length) (hl2 : a.kind = 3 → ∀ (k : Nat) (x y : Sm), a.els[k]? = some x → b.els[k]? = some y → SameS q x y) : SameS q a b
def SameL (q : Bool) (l m : List Sm) : Prop := l.length = m.length ∧ ∀ (k : Nat) (x y : Sm), l[k]? = some x → m[k]? = some y → SameS q x y
structure SameF (q : Bool) (f g : Fn) : Prop where
  name : f.name = g.name
  names : f.names = g.names
  types : f.types = g.types
  out : f.out = g.out
  pos : q = true → f.pos = g.pos
  body : SameL q f.body g.body
def SameU (q : Bool) (l m : List Fn) : Prop := l.length = m.length ∧ ∀ (k : Nat) (x y : Fn), l[k]? = some x → m[k]? = some y → SameF q x y

theorem same_at {α : Type} {l : List α} {k : Nat} {x y : α} (h1 : l[k]? = some x) (h2 : l[k]? = some y) : x = y := by rw [h1] at h2; exact Option.some.inj h2
theorem SameE.rfl' (q : Bool) (a : Ex) : SameE q a a := by
  cases a with | mk k n t xs p =>
  refine .mk rfl (fun _ => rfl) rfl (fun _ => rfl) (fun _ => rfl) fun i x y h1 h2 => ?_
  obtain rfl := same_at h1 h2
  have hm : x ∈ xs := List.mem_of_getElem? h1
  exact SameE.rfl' q x
  termination_by SizeOf.sizeOf a
  decreasing_by
  have := List.sizeOf_lt_of_mem hm
  simp; omega
theorem SameS.rfl' (q : Bool) (a : Sm) : SameS q a a := by
  cases a with | mk k n a body els p =>
  refine .mk rfl (fun _ => rfl) (SameE.rfl' q _) (fun _ => rfl) (fun _ => rfl) (fun _ i x y h1 h2 => ?_) (fun _ => rfl) (fun _ i x y h1 h2 => ?_)
  · obtain rfl := same_at h1 h2
    have hm : x ∈ body := List.mem_of_getElem? h1
    exact SameS.rfl' q x
  · obtain rfl := same_at h1 h2
    have hm : x ∈ els := List.mem_of_getElem? h1
    exact SameS.rfl' q x
  termination_by SizeOf.sizeOf a
  decreasing_by
  all_goals
    have := List.sizeOf_lt_of_mem hm
    simp; omega
theorem SameL.rfl' (q : Bool) (l : List Sm) : SameL q l l := ⟨rfl, fun _ x _ h1 h2 => by obtain rfl := same_at h1 h2; exact SameS.rfl' q x⟩
theorem SameU.rfl' (q : Bool) (l : List Fn) : SameU q l l := ⟨rfl, fun _ x _ h1 h2 => by obtain rfl := same_at h1 h2; exact ⟨rfl, rfl, rfl, rfl, fun _ => rfl, SameL.rfl' q _⟩⟩
end Go.Proofs.YtmngofgminlloaaGreatDoor

namespace Go.Proofs.YtmngofgminlloaaGreatDoor
open Go.RowKit Tw

end Go.Proofs.YtmngofgminlloaaGreatDoor

namespace Go.Proofs.YtmngofgminlloaaGreatDoor
open Go.RowKit Tw

end Go.Proofs.YtmngofgminlloaaGreatDoor

namespace Go.Proofs.YtmngofgminlloaaGreatDoor
open Go.RowKit Tw

end Go.Proofs.YtmngofgminlloaaGreatDoor

namespace Go.Proofs.YtmngofgminlloaaGreatDoor
open Go.RowKit Tw

end Go.Proofs.YtmngofgminlloaaGreatDoor

namespace Go.Proofs.YtmngofgminlloaaGreatDoor
open Go.RowKit Tw

end Go.Proofs.YtmngofgminlloaaGreatDoor

namespace Go.Proofs.YtmngofgminlloaaGreatDoor
open Go.RowKit Tw

theorem lex_det {s : ByteArray} {k : Nat} {l : List Wd} {r : Option Nat × List Wd} (h : Lex s k l r) : ∀ r', Lex s k l r' → r = r' := by
  induction h with
  | done e => intro r' h'; exact (h'.go_done (by omega)).symm
  | bad e ht => intro r' h'; exact (h'.go_bad e ht).symm
  | skip e ht _ ih => intro r' h'; exact ih _ (h'.go_skip e ht)
  | word e ht _ ih => intro r' h'; exact ih _ (h'.go_word e ht)
theorem wres_det {s : ByteArray} {p e p' e' : Int} {ws ws' : List Wd} (h : WRes s p e ws) (h' : WRes s p' e' ws') : p = p' ∧ e = e' ∧ ws = ws' := by
  rcases h with ⟨h1, rfl, rfl, rfl⟩ | ⟨h1, r, hr, rfl, rfl, rfl⟩
  · rcases h' with ⟨g1, rfl, rfl, rfl⟩ | ⟨g1, _⟩
    · exact ⟨rfl, rfl, rfl⟩
    · omega
  · rcases h' with ⟨g1, _⟩ | ⟨g1, r', hr', rfl, rfl, rfl⟩
    · omega
    · obtain rfl := lex_det hr _ hr'
      exact ⟨rfl, rfl, rfl⟩
theorem sres_det {s : ByteArray} {l l' : List Fn} {p er p' er' : Int} (h : SRes s l p er) (h' : SRes s l' p' er') : l = l' ∧ p = p' ∧ er = er' := by
  obtain ⟨p0, e0, ws, hw, h⟩ := h
  obtain ⟨p1, e1, ws1, hw1, h'⟩ := h'
  obtain ⟨rfl, rfl, rfl⟩ := wres_det hw hw1
  rcases h with ⟨a, rfl, rfl, rfl⟩ | ⟨rfl, h⟩
  · rcases h' with ⟨_, rfl, rfl, rfl⟩ | ⟨b, _⟩
    · exact ⟨rfl, rfl, rfl⟩
    · exact absurd b a
  · rcases h' with ⟨b, _⟩ | ⟨_, h'⟩
    · exact absurd rfl b
    · rcases h with ⟨j, hd, rfl, rfl, rfl⟩ | ⟨m, hd, rfl, rfl, rfl⟩
      · rcases h' with ⟨j', hd', rfl, rfl, rfl⟩ | ⟨m', hd', _⟩
        · have e := hd.det _ hd'; injection e with e; subst e; exact ⟨rfl, rfl, rfl⟩
        · have e := hd.det _ hd'; cases e
      · rcases h' with ⟨j', hd', _⟩ | ⟨m', hd', rfl, rfl, rfl⟩
        · have e := hd.det _ hd'; cases e
        · have e := hd.det _ hd'; injection e with e; subst e; exact ⟨rfl, rfl, rfl⟩
/-- What Script has read is of sizes that memory has. -/
theorem sres_small {s : ByteArray} {l : List Fn} {p er : Int} (h : SRes s l p er) : (∀ f ∈ l, FnZ f) ∧ l.length ≤ 281474976710656 := by
  obtain ⟨p0, e0, ws, hw, h⟩ := h
  rcases h with ⟨_, rfl, _⟩ | ⟨_, ⟨j, _, rfl, _⟩ | ⟨m, hd, _, _, rfl⟩⟩
  · exact ⟨by simp, by simp⟩
  · exact ⟨by simp, by simp⟩
  · split
    · have := (hd.small hw.small) _ rfl
      exact ⟨this.2.2, by have h1 := this.1; have h2 := hw.small.1; omega⟩
    · exact ⟨by simp, by simp⟩
end Go.Proofs.YtmngofgminlloaaGreatDoor

namespace Go.Proofs.YtmngofgminlloaaGreatDoor
open Go.RowKit Tw

/-- The variables that can be seen have different names, and types. -/
def EnvOK (env : Env) : Prop := (env.map Prod.fst).Nodup ∧ ∀ q ∈ env, q.2 = 1 ∨ q.2 = 2
theorem EnvOK.nil : EnvOK [] := ⟨List.nodup_nil, fun _ h => by cases h⟩
theorem lookE_some : ∀ {env : Env} {s : ByteArray} {t : Int}, (env.map Prod.fst).Nodup → (s, t) ∈ env → lookE env s = t := by
  intro env s t hn h
  induction env with
  | nil => cases h
  | cons q env ih =>
    obtain ⟨n, u⟩ := q
    simp only [List.map_cons, List.nodup_cons] at hn
    rw [lookE]
    rcases List.mem_cons.1 h with h | h
    · injection h with h1 h2
      rw [if_pos h1.symm, h2]
    · rw [if_neg (fun e => hn.1 (by rw [e]; exact List.mem_map_of_mem (f := Prod.fst) h))]
      exact ih hn.2 h
theorem lookE_none : ∀ {env : Env} {s : ByteArray}, (∀ q ∈ env, q.1 ≠ s) → lookE env s = 0 := by
  intro env s h
  induction env with
  | nil => rfl
  | cons q env ih =>
    obtain ⟨n, u⟩ := q
    rw [lookE, if_neg (h (n, u) (List.mem_cons_self ..))]
    exact ih fun q hq => h q (List.mem_cons_of_mem _ hq)
theorem lookE_mem : ∀ {env : Env} {s : ByteArray}, lookE env s ≠ 0 → (s, lookE env s) ∈ env := by
  intro env s h
  induction env with
  | nil => exact absurd rfl h
  | cons q env ih =>
    obtain ⟨n, u⟩ := q
    rw [lookE] at h ⊢
    by_cases e : n = s
    · rw [if_pos e] at h ⊢; rw [e]; exact List.mem_cons_self ..
    · rw [if_neg e] at h ⊢; exact List.mem_cons_of_mem _ (ih h)
theorem EnvOK.look {env : Env} (h : EnvOK env) {s : ByteArray} (h0 : lookE env s ≠ 0) : lookE env s = 1 ∨ lookE env s = 2 := h.2 _ (lookE_mem h0)
theorem EnvOK.absent {env : Env} (h : EnvOK env) {s : ByteArray} (h0 : lookE env s = 0) : ∀ q ∈ env, q.1 ≠ s := by
  intro q hq e
  obtain ⟨n, t⟩ := q
  simp only at e
  subst e
  have := lookE_some h.1 hq
  have := h.2 _ hq
  simp only at this
  omega
theorem EnvOK.letT {env env' : Env} {m m' : Nat} {p : Int} {nm : ByteArray} {t : Int} (h : EnvOK env) (ht : t = 1 ∨ t = 2) (hl : letT env m p nm t = .ok (env', m')) : EnvOK env' := by
  obtain ⟨-, -, rfl, h0⟩ := letT_le hl
  refine ⟨?_, ?_⟩
  · simp only [List.map_cons, List.nodup_cons]
    refine ⟨fun hm => ?_, h.1⟩
    obtain ⟨q, hq, e⟩ := List.mem_map.1 hm
    exact h.absent h0 q hq e
  · intro q hq
    rcases List.mem_cons.1 hq with rfl | hq
    · exact ht
    · exact h.2 q hq
theorem EnvOK.pos {env : Env} (h : EnvOK env) (s : ByteArray) : 0 ≤ lookE env s := by
  by_cases h0 : lookE env s = 0
  · omega
  · rcases h.look h0 with h | h <;> omega
/-- The functions' results have types. -/
def OutsOK (us : List Fn) : Prop := ∀ f ∈ us, typB f.out = true
theorem typB_iff {t : Int} : typB t = true ↔ t = 1 ∨ t = 2 := by simp [typB]
theorem exT_types {us : List Fn} {env : Env} (hU : OutsOK us) (hE : EnvOK env) (x : Ex) {t : Int} (h : exT us env x = .ok t) : t = 1 ∨ t = 2 := by
  cases x with | mk k n s xs p =>
  rw [exT] at h
  split at h
  · injection h with h; omega
  split at h
  · injection h with h; omega
  split at h
  · split at h
    · cases h
    · rename_i h0; injection h with h; subst h; exact hE.look h0
  split at h
  · split at h <;> cases h; omega
  split at h
  · split at h
    · cases h
    · rename_i f hf
      split at h
      · cases h
      · split at h <;> cases h
        exact typB_iff.1 (hU f (List.mem_of_find?_eq_some hf))
  split at h
  · split at h <;> cases h; omega
  split at h
  · split at h
    · split at h <;> cases h; omega
    · cases h
  · split at h
    · injection h with h; subst h; split <;> omega
    · cases h
theorem smT_env {us : List Fn} {out : Int} (hU : OutsOK us) (s : Sm) {env env' : Env} {m m' : Nat} {r : Bool} (hE : EnvOK env) (h : smT us out s env m = .ok (env', m', r)) : EnvOK env' := by
  cases s with | mk k nm a body els p =>
  rw [smT] at h
  split at h
  · cases h
  cases hx : exT us env a with
  | bad q e => rw [hx] at h; cases h
  | ok t =>
    rw [hx] at h
    simp only at h
    have ht := exT_types hU hE a hx
    split at h
    · cases hl : letT env m p nm t with
      | bad q e => rw [hl] at h; cases h
      | ok z =>
        obtain ⟨e1, m1⟩ := z
        rw [hl] at h
        injection h with h; injection h with h2 h3
        subst h2
        exact hE.letT ht hl
    split at h
    · split at h
      · cases h
      · injection h with h; injection h with h2 h3; subst h2; exact hE
    split at h
    · split at h
      · cases h
      split at h
      · cases h
      split at h
      · cases h
      · injection h with h; injection h with h2 h3; subst h2; exact hE
    split at h
    · split at h
      · cases h
      split at h
      · cases h
      · injection h with h; injection h with h2 h3; subst h2; exact hE
    split at h
    · split at h
      · cases h
      · injection h with h; injection h with h2 h3; subst h2; exact hE
    split at h
    · split at h
      · cases h
      · injection h with h; injection h with h2 h3; subst h2; exact hE
    · injection h with h; injection h with h2 h3; subst h2; exact hE
theorem runT_env {us : List Fn} {out : Int} (hU : OutsOK us) : ∀ (l : List Sm) {env env' : Env} {m m' : Nat} {r r' : Bool}, EnvOK env → runT us out l env m r = .ok (env', m', r') → EnvOK env' := by
  intro l
  induction l with
  | nil => intro env env' m m' r r' hE h; rw [runT] at h; injection h with h; injection h with h1 h2; subst h1; exact hE
  | cons s l ih =>
    intro env env' m m' r r' hE h
    rw [runT] at h
    cases hs : smT us out s env m with
    | bad q e => rw [hs] at h; cases h
    | ok z =>
      obtain ⟨e1, m1, r1⟩ := z
      rw [hs] at h
      exact ih (smT_env hU s hE hs) h
/-- A statement keeps the older variables. -/
theorem smT_old {us : List Fn} {out : Int} (s : Sm) {env env' : Env} {m m' : Nat} {r : Bool} (h : smT us out s env m = .ok (env', m', r)) : ∃ pre, env' = pre ++ env := by
  cases s with | mk k nm a body els p =>
  rw [smT] at h
  split at h
  · cases h
  cases hx : exT us env a with
  | bad q e => rw [hx] at h; cases h
  | ok t =>
    rw [hx] at h
    simp only at h
    split at h
    · cases hl : letT env m p nm t with
      | bad q e => rw [hl] at h; cases h
      | ok z =>
        obtain ⟨e1, m1⟩ := z
        rw [hl] at h
        injection h with h; injection h with h2 h3
        subst h2
        obtain ⟨-, -, rfl, -⟩ := letT_le hl
        exact ⟨[_], rfl⟩
    split at h
    · split at h
      · cases h
      · injection h with h; injection h with h2 h3; subst h2; exact ⟨[], rfl⟩
    split at h
    · split at h
      · cases h
      split at h
      · cases h
      split at h
      · cases h
      · injection h with h; injection h with h2 h3; subst h2; exact ⟨[], rfl⟩
    split at h
    · split at h
      · cases h
      split at h
      · cases h
      · injection h with h; injection h with h2 h3; subst h2; exact ⟨[], rfl⟩
    split at h
    · split at h
      · cases h
      · injection h with h; injection h with h2 h3; subst h2; exact ⟨[], rfl⟩
    split at h
    · split at h
      · cases h
      · injection h with h; injection h with h2 h3; subst h2; exact ⟨[], rfl⟩
    · injection h with h; injection h with h2 h3; subst h2; exact ⟨[], rfl⟩
theorem runT_old {us : List Fn} {out : Int} : ∀ (l : List Sm) {env env' : Env} {m m' : Nat} {r r' : Bool}, runT us out l env m r = .ok (env', m', r') → ∃ pre, env' = pre ++ env := by
  intro l
  induction l with
  | nil => intro env env' m m' r r' h; rw [runT] at h; injection h with h; injection h with h1 h2; subst h1; exact ⟨[], rfl⟩
  | cons s l ih =>
    intro env env' m m' r r' h
    rw [runT] at h
    cases hs : smT us out s env m with
    | bad q e => rw [hs] at h; cases h
    | ok z =>
      obtain ⟨e1, m1, r1⟩ := z
      rw [hs] at h
      obtain ⟨p1, rfl⟩ := smT_old s hs
      obtain ⟨p2, rfl⟩ := ih h
      exact ⟨p2 ++ p1, by simp⟩
theorem runT_le {us : List Fn} {out : Int} : ∀ (l : List Sm) {env env' : Env} {m m' : Nat} {r r' : Bool}, runT us out l env m r = .ok (env', m', r') → m ≤ m' ∧ (m ≤ 64 → m' ≤ 64) ∧ (env.length ≤ m → env'.length ≤ m') := by
  intro l
  induction l with
  | nil => intro env env' m m' r r' h; rw [runT] at h; injection h with h; injection h with h1 h2; injection h2 with h2 h3; subst h1 h2; exact ⟨by omega, by omega, by omega⟩
  | cons s l ih =>
    intro env env' m m' r r' h
    rw [runT] at h
    cases hs : smT us out s env m with
    | bad q e => rw [hs] at h; cases h
    | ok z =>
      obtain ⟨e1, m1, r1⟩ := z
      rw [hs] at h
      obtain ⟨a1, a2, a3⟩ := smT_le us out s env m e1 m1 r1 hs
      obtain ⟨b1, b2, b3⟩ := ih h
      exact ⟨by omega, by omega, by omega⟩
/-- The operators of the third level: all but == and != begin with < or >. -/
theorem lv3 {t : ByteArray} (h : lv t.data.toList = 3) (h2 : ¬ (t = ⟨#[61, 61]⟩ ∨ t = ⟨#[33, 61]⟩)) : t.data.toList = [60] ∨ t.data.toList = [60, 61] ∨ t.data.toList = [62] ∨ t.data.toList = [62, 61] := by
  unfold lv at h
  repeat' (first | split at h)
  all_goals first | omega | skip
  rename_i h3
  rcases h3 with h3 | h3 | h3 | h3 | h3 | h3
  · exact .inl h3
  · exact .inr (.inl h3)
  · exact .inr (.inr (.inl h3))
  · exact .inr (.inr (.inr h3))
  · exact absurd (.inl (by rw [show t = ⟨t.data.toList.toArray⟩ by simp, h3])) h2
  · exact absurd (.inr (by rw [show t = ⟨t.data.toList.toArray⟩ by simp, h3])) h2
theorem lv45 {t : ByteArray} (h : 3 < lv t.data.toList) : ∃ c, t.data.toList = [c] ∧ (c = 43 ∨ c = 45 ∨ c = 42 ∨ c = 47 ∨ c = 37) := by
  unfold lv at h
  repeat' (first | split at h)
  all_goals first | omega | skip
  · rename_i h4
    rcases h4 with h4 | h4
    · exact ⟨43, h4, by simp⟩
    · exact ⟨45, h4, by simp⟩
  · rename_i h4
    rcases h4 with h4 | h4 | h4
    · exact ⟨42, h4, by simp⟩
    · exact ⟨47, h4, by simp⟩
    · exact ⟨37, h4, by simp⟩
theorem lv12 {t : ByteArray} (h : 1 ≤ lv t.data.toList) (h2 : lv t.data.toList ≤ 2) : t.data.toList = [124, 124] ∨ t.data.toList = [38, 38] := by
  by_cases h1 : t.data.toList = [124, 124]
  · exact .inl h1
  by_cases h3 : t.data.toList = [38, 38]
  · exact .inr h3
  exfalso
  unfold lv at h h2
  rw [if_neg h1, if_neg h3] at h h2
  repeat' (first | split at h2)
  all_goals first | omega | skip
  simp_all
end Go.Proofs.YtmngofgminlloaaGreatDoor

namespace Go.Proofs.YtmngofgminlloaaGreatDoor
open Go.RowKit Tw

/-- What stands in the checker's state and is not written: the script's functions and the function that is checked. -/
structure Hd where
  U : Value
  nm : ByteArray
  vn : Value
  vt : Value
  out : Int
  vb : Value
  pos : Int
def vCells (q : ByteArray × Int) : List Value := [.string q.1, .int .i64 q.2]
def envCells (env : Env) : List Value := env.reverse.flatMap vCells
theorem envCells_length (env : Env) : (envCells env).length = env.length * 2 := by
  unfold envCells
  rw [List.length_flatMap]
  have : ∀ l : Env, (l.map fun a => (vCells a).length).sum = l.length * 2 := by
    intro l
    induction l with
    | nil => rfl
    | cons a l ih =>
      rw [List.map_cons, List.sum_cons, ih, List.length_cons, show (vCells a).length = 2 from rfl]; omega
  rw [this]; simp
theorem envCells_cons (q : ByteArray × Int) (env : Env) : envCells (q :: env) = envCells env ++ vCells q := by
  simp [envCells]
theorem envCells_take (pre env : Env) : (envCells (pre ++ env)).take (env.length * 2) = envCells env := by
  have : envCells (pre ++ env) = envCells env ++ pre.reverse.flatMap vCells := by simp [envCells]
  rw [this, ← envCells_length env, List.take_left']
  rfl
theorem own_take {w : World} {base e size n : Nat} {A : Option Addr} {c : Nat} {xs : List Value} (h : w.ownsRow base e size (.slice A n c) n xs) (k : Nat) (hk : k ≤ n) : w.ownsRow base e size (.slice A k c) k (xs.take (k * size)) := by
  have hks : k * size ≤ n * size := Nat.mul_le_mul_right _ hk
  refine ⟨by rw [List.length_take, h.1]; omega, ?_⟩
  rcases h.2 with ⟨h1, h2⟩ | ⟨g, cap, cur, h1, h2, h3, h4, h5, h6, h7⟩
  · injection h1 with e1 e2 e3
    subst e1 e3
    have : k = 0 := by omega
    subst this
    exact .inl ⟨rfl, rfl⟩
  · injection h1 with e1 e2 e3
    subst e1 e3
    refine .inr ⟨g, c, cur, rfl, h2, h3, by omega, h5, h6, ?_⟩
    rw [← h7, List.take_take, Nat.min_eq_left hks]
/-- The checker's state: its block cb. -/
structure Chk (w : World) (base cb : Nat) (K : Hd) (A : Option Addr) (c : Nat) (env : Env) (many : Nat) : Prop where
  blk : w.heap[cb]? = some (.cells #[K.U, .string K.nm, K.vn, K.vt, .int .i64 K.out, K.vb, .int .i64 K.pos, .slice A env.length c, .int .i64 many] 130 (0, 0))
  row : w.ownsRow base 201 2 (.slice A env.length c) env.length (envCells env)
  b0 : base ≤ cb
  apart : (Value.slice A env.length c).ownBlock ≠ some cb
theorem facts9 {w : World} {b t : Nat} {u0 u1 u2 u3 u4 u5 u6 u7 u8 : Value} (h : w.heap[b]? = some (.cells #[u0, u1, u2, u3, u4, u5, u6, u7, u8] t (0, 0))) :
    (w.cell? ⟨b, 0, none⟩ = some u0 ∧ w.cell? ⟨b, 1, none⟩ = some u1 ∧ w.cell? ⟨b, 2, none⟩ = some u2 ∧ w.cell? ⟨b, 3, none⟩ = some u3 ∧ w.cell? ⟨b, 4, none⟩ = some u4 ∧ w.cell? ⟨b, 5, none⟩ = some u5 ∧ w.cell? ⟨b, 6, none⟩ = some u6 ∧ w.cell? ⟨b, 7, none⟩ = some u7 ∧ w.cell? ⟨b, 8, none⟩ = some u8) ∧
    w.frozen? ⟨b, 7, none⟩ = false ∧ w.frozen? ⟨b, 8, none⟩ = false :=
  ⟨⟨Lib.cell_of_heap h 0, Lib.cell_of_heap h 1, Lib.cell_of_heap h 2, Lib.cell_of_heap h 3, Lib.cell_of_heap h 4, Lib.cell_of_heap h 5, Lib.cell_of_heap h 6, Lib.cell_of_heap h 7, Lib.cell_of_heap h 8⟩, Lib.frozen_of_heap h 7, Lib.frozen_of_heap h 8⟩
section
variable {w w' : World} {base cb : Nat} {K : Hd} {A : Option Addr} {c : Nat} {env : Env} {many : Nat}
theorem Chk.lt (h : Chk w base cb K A c env many) : cb < w.heap.size := lt_of_some h.blk
theorem Chk.below (h : Chk w base cb K A c env many) (hb : Below w.heap.size w w') : Chk w' base cb K A c env many :=
  ⟨(hb.block cb h.lt).trans h.blk, h.row.kept (grown_of_below hb none) (by cases hv : (Value.slice A env.length c).ownBlock <;> simp), h.b0, h.apart⟩
theorem Chk.var (h : Chk w base cb K A c env many) (i : Nat) (q : ByteArray × Int) (hq : env.reverse[i]? = some q) : ∃ g, A = some ⟨g, 0, none⟩ ∧ g < w.heap.size ∧ w.cell? ⟨g, i * 2, none⟩ = some (.string q.1) ∧ w.cell? ⟨g, i * 2 + 1, none⟩ = some (.int .i64 q.2) := by
  rcases own_cells h.row with ⟨h1, h0⟩ | ⟨g, cap, h1, hb, hg, hc⟩
  · have : env = [] := List.eq_nil_of_length_eq_zero h0
    subst this
    simp at hq
  · injection h1 with e1 e2 e3
    subst e1 e3
    have c0 := hc _ _ (flat_at vCells 2 (fun _ => rfl) env.reverse i q hq 0 _ rfl)
    have c1 := hc _ _ (flat_at vCells 2 (fun _ => rfl) env.reverse i q hq 1 _ rfl)
    exact ⟨g, rfl, hg, by simpa using c0, c1⟩
/-- The variables are as many as they were. -/
theorem Chk.cut {pre : Env} (h : Chk w base cb K A c (pre ++ env) many) : Chk (w.setCell ⟨cb, 7, none⟩ (.slice A env.length c)) base cb K A c env many := by
  have hr := own_take h.row env.length (by simp)
  rw [envCells_take] at hr
  refine ⟨by simpa using heap_setCell_same w cb 7 _ _ (.slice A env.length c) h.blk, hr.kept (grown_set w cb 7 _) ?_, h.b0, ?_⟩
  · right
    have := h.apart
    cases A <;> simpa [Value.ownBlock] using this
  · have := h.apart
    cases A <;> simpa [Value.ownBlock] using this
end
/-- The frame of the checker's methods. -/
structure FrC (w0 w : World) (base cb : Nat) (K : Hd) (A : Option Addr) (c : Nat) (env : Env) (many : Nat) (us : List Fn) (F : Nat → Prop) : Prop where
  chk : Chk w base cb K A c env many
  fns : FnsIn w F K.U us
  bel : Below base w0 w
  gl : Glob w
  fb : ∀ g, F g → g < base
  big : 10 < base
  bs : base ≤ w.heap.size
section
variable {w0 w w' : World} {base cb : Nat} {K : Hd} {A : Option Addr} {c : Nat} {env : Env} {many : Nat} {us : List Fn} {F : Nat → Prop}
theorem FrC.below (h : FrC w0 w base cb K A c env many us F) (hb : Below w.heap.size w w') : FrC w0 w' base cb K A c env many us F :=
  ⟨h.chk.below hb, h.fns.keep (fun g h1 h2 => ⟨h1, Nat.lt_of_lt_of_le h2 hb.size, hb.block g h2⟩), h.bel.trans (hb.mono h.bs), h.gl.to hb, h.fb, h.big, Nat.le_trans h.bs hb.size⟩
theorem FrC.reb (h : FrC w0 w base cb K A c env many us F) : FrC w w base cb K A c env many us F := { h with bel := Below.refl _ _ }
theorem FrC.since {w1 : World} (h : FrC w1 w base cb K A c env many us F) (hb : Below base w0 w1) : FrC w0 w base cb K A c env many us F := { h with bel := hb.trans h.bel }
theorem FrC.args {v : Value} {l : List Ex} (h : FrC w0 w base cb K A c env many us F) (hb : Below base w w') (ha : ArgsIn w F v l) : ArgsIn w' F v l :=
  ha.keep (fun g h1 h2 => ⟨h1, Nat.lt_of_lt_of_le h2 hb.size, hb.block g (h.fb g h1)⟩)
theorem FrC.stms {v : Value} {l : List Sm} (h : FrC w0 w base cb K A c env many us F) (hb : Below base w w') (ha : StmtsIn w F v l) : StmtsIn w' F v l :=
  ha.keep (fun g h1 h2 => ⟨h1, Nat.lt_of_lt_of_le h2 hb.size, hb.block g (h.fb g h1)⟩)
/-- What another world with the same older blocks, and the state as it is said to be, has. -/
theorem FrC.other {A' : Option Addr} {c' : Nat} {env' : Env} {many' : Nat} (h : FrC w0 w base cb K A c env many us F) (hb : Below base w w') (hc : Chk w' base cb K A' c' env' many') : FrC w0 w' base cb K A' c' env' many' us F :=
  ⟨hc, h.fns.keep (fun g h1 h2 => ⟨h1, Nat.lt_of_lt_of_le h2 hb.size, hb.block g (h.fb g h1)⟩), h.bel.trans hb, h.gl.same hb.size (fun g hg => hb.block g (by have := h.big; omega)), h.fb, h.big, Nat.le_trans h.bs hb.size⟩
end
/-- The checker has failed at a place with an error. -/
def faultE (p e : Int) : Ending := .panicked [{ v := .iface 123 (.agg #[.int .i64 p, .int .i64 e]), recovered := false }]
/-- A call ends as an answer says. -/
def EndT {α : Type} (r : TyR α) (f : α → Value) (e : Ending) : Prop := match r with | .ok a => e = .returned (f a) | .bad p q => e = faultE p q
/-- An expression of a type. -/
def wantT (us : List Fn) (env : Env) (x : Ex) (t : Int) : TyR Unit := match exT us env x with | .ok u => if u = t then .ok () else .bad x.pos 8 | .bad q e => .bad q e
/-- What expr answers, for expressions that are well formed so deep. -/
def ExC (left : Nat) : Prop :=
  ∀ (x : Ex) (B : Option Addr) (d : Nat) (F : Nat → Prop) (w : World) (base cb : Nat) (K : Hd) (A : Option Addr) (c : Nat) (env : Env) (many : Nat) (us : List Fn), exF x left = 0 → ExZ x → (∀ f ∈ us, FnZ f) → us.length ≤ 281474976710656 → env.length ≤ 1000 → EnvOK env → OutsOK us →
    FrC w w base cb K A c env many us F → ArgsIn w F (.slice B x.args.length d) x.args →
    Calls Tryz.prog 165 #[.pointer (some ⟨cb, 0, none⟩), .agg #[.int .i64 x.kind, .int .i64 x.n, .string x.text, .slice B x.args.length d, .int .i64 x.pos]] w fun e w' => EndT (exT us env x) (.int .i64 ·) e ∧ Below w.heap.size w w'
def WantC (left : Nat) : Prop :=
  ∀ (x : Ex) (t : Int) (B : Option Addr) (d : Nat) (F : Nat → Prop) (w : World) (base cb : Nat) (K : Hd) (A : Option Addr) (c : Nat) (env : Env) (many : Nat) (us : List Fn), exF x left = 0 → ExZ x → (∀ f ∈ us, FnZ f) → us.length ≤ 281474976710656 → env.length ≤ 1000 → EnvOK env → OutsOK us →
    FrC w w base cb K A c env many us F → ArgsIn w F (.slice B x.args.length d) x.args →
    Calls Tryz.prog 167 #[.pointer (some ⟨cb, 0, none⟩), .agg #[.int .i64 x.kind, .int .i64 x.n, .string x.text, .slice B x.args.length d, .int .i64 x.pos], .int .i64 t] w fun e w' => EndT (wantT us env x t) (fun _ => .tuple #[]) e ∧ Below w.heap.size w w'
end Go.Proofs.YtmngofgminlloaaGreatDoor
