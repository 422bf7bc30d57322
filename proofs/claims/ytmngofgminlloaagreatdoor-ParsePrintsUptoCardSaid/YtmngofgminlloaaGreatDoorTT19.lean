/-
  The reference's Script, at every text.
  The program's checker of names and types: its state in memory, the frame of its methods.
-/
import Derived.Test.YtmngofgminlloaaGreatDoorTT15
import Derived.Deep.RegionLaw
import Derived.Outline
import Derived.Deep.DeepCutAuto
import Derived.Test.YtmngofgminlloaaGreatDoorTT16
import Derived.Test.YtmngofgminlloaaGreatDoorTT14
set_option linter.all false
namespace Go.Proofs.YtmngofgminlloaaGreatDoor
open Go.RowKit Tw Go.Maps

theorem toknum_le {l : Bs} {k n : Nat} (h : tok l = .word k n) (hk : k = 1) : n ≤ 12 := by
  subst hk
  unfold Tw.tok at h
  split at h
  · cases h
  split at h
  · cases h
  split at h
  · split at h
    · rename_i hn
      injection h with _ h
      have h1 := (isNum_parts _ hn).1
      have h2 : runLen isA l ≤ l.length := by unfold runLen; exact (List.takeWhile_sublist _).length_le
      rw [List.length_take, Nat.min_eq_left h2] at h1
      omega
    · cases h
  split at h
  · split at h
    · injection h with h _; omega
    · split at h
      · cases h
      · injection h with h _; omega
  · split at h
    · cases h
    · injection h with h _; omega
theorem Tw.Lex.nums {s : ByteArray} {k : Nat} {l : List Wd} {r : Option Nat × List Wd} (h : Lex s k l r) : NumsOk l → NumsOk r.2 := by
  induction h with
  | done e => exact id
  | bad _ _ => intro _ x hx; simp at hx
  | skip _ _ _ ih => exact ih
  | @word i k n l r h1 h2 _ ih =>
    intro hl
    refine ih fun x hx hk => ?_
    rcases List.mem_append.1 hx with hx | hx
    · exact hl x hx hk
    · simp at hx; subst hx
      have := toknum_le h2 hk
      simp; omega
theorem WRes.nums {s : ByteArray} {p e : Int} {ws : List Wd} (h : WRes s p e ws) : NumsOk ws := by
  rcases h with ⟨_, _, _, rfl⟩ | ⟨_, r, hr, _, _, rfl⟩
  · intro x hx; simp at hx
  · exact hr.nums (fun x hx => by simp at hx)
theorem results_cell_tt {P : Program} {fn : Func} {p a b : Tmp} {ty : TypeId} (h : fn.results = #[.cell p ty, .tmp a, .tmp b]) (tmps : Array Value) (w : World) (g : Nat) (t : TypeId) (cs : Array Value) (fr : Nat × Nat) (d : TypeDesc)
    (hp : tmps.getD p undef = .pointer (some ⟨g, 0, none⟩)) (hg : w.heap[g]? = some (.cells cs t fr))
    (hu : P.underlying ty = some d) (hd : (match d with | .struct _ | .array _ _ => true | _ => false) = true) (hi : (P.info? ty).map (·.size) = some cs.size) :
    (results fn tmps).run P w = .ok (.tuple #[.agg cs, tmps.getD a undef, tmps.getD b undef]) w := by
  have hp' : tmps[p]?.getD undef = .pointer (some ⟨g, 0, none⟩) := by simpa using hp
  simp [results, h, hp', asAddr, run_loadVar_row w g t ty cs fr d hg hu hd hi]
theorem FrU.start {w w1 : World} {v : Value} {ws : List Wd} {en : Nat} (hG : Glob w) (hv : WRow w1 w1.heap.size v ws) (hl : ws.length ≤ 4000) (hb : Below w.heap.size w w1) (h0 : w1.heap[w.heap.size]? = some (.cells #[.slice none 0 0] 24 (0, 0))) :
    FrU w ((w1.alloc (.cells #[v, .int .i64 0, .int .i64 en, .bool false] 115)).alloc (.cells #[.slice none 0 0] 24)) w1.heap.size (w1.heap.size + 1) w.heap.size (w1.heap.size + 2) v ws 0 en false none 0 [] := by
  have hbig := hG.big
  have h1 := lt_of_some h0
  have b1 : Below w1.heap.size w1 (w1.alloc (.cells #[v, .int .i64 0, .int .i64 en, .bool false] 115)) := (Below.refl _ _).alloc (Nat.le_refl _) _
  have b2 : Below w1.heap.size w1 ((w1.alloc (.cells #[v, .int .i64 0, .int .i64 en, .bool false] 115)).alloc (.cells #[.slice none 0 0] 24)) := b1.alloc b1.size _
  have bw := hb.trans (b2.mono hb.size)
  refine ⟨⟨?_, hv.same fun k hk => b2.block k hk, hl, Nat.zero_le _⟩, ?_, (b2.block _ h1).trans h0, GRow.nil _ _ _ _ _, bw, hG.to bw, by omega, Nat.le_refl _, h1, by omega, by omega, by simp⟩
  · exact (heap_alloc_old _ _ (by simp)).trans (heap_alloc_new w1 _)
  · simpa using heap_alloc_new (w1.alloc (.cells #[v, .int .i64 0, .int .i64 en, .bool false] 115)) (.cells #[.slice none 0 0] 24)
theorem FrF.start {wr W : World} {rb : Nat} {v : Value} {ws : List Wd} {i en : Nat} {b : Bool} (hR : Rd W rb v ws i en b) (hG : Glob W) (hr : 10 < rb) (h0 : rb < wr.heap.size) (hg : wr.grownBy W (some rb)) (pos : Int) :
    FrF wr (W.alloc (.cells #[.string ⟨#[]⟩, .slice none 0 0, .slice none 0 0, .int .i64 0, .slice none 0 0, .int .i64 pos] 32)) rb W.heap.size (W.heap.size + 1) v ws i en b ⟨#[]⟩ none 0 [] none 0 [] 0 (.slice none 0 0) pos := by
  have hb : Below W.heap.size W (W.alloc (.cells #[.string ⟨#[]⟩, .slice none 0 0, .slice none 0 0, .int .i64 0, .slice none 0 0, .int .i64 pos] 32)) := (Below.refl _ _).alloc (Nat.le_refl _) _
  exact ⟨hR.keep hb, heap_alloc_new W _, grown_trans hg (grown_of_below hb _), hG.to hb, GRow.nil _ _ _ _ _, GRow.nil _ _ _ _ _, fun g h => by simp [Value.ownBlock] at h, hr, h0, hg.size, by omega, by simp⟩
/-- One element more, in a region that draws its order. -/
theorem step_app1 {P : Program} {ops : Array Oper} {o : Oper} {a : Act} {K : Act → World → Prop} {Q : Exit → Act → World → Prop} {E' : Prop} {w : World} {t e size : Nat} (E : ElemOk P t e size) (hgd : o.guard = none) (s x : Operand)
    (ho : o.op = .call { callee := .builtin .append, args := #[s, x], argTypes := #[t, t] })
    (base : Nat) (v : Value) (n : Nat) (xs : List Value) (hs : a.eval s = v) (hown : w.ownsRow base e size v n xs)
    (H c : Nat) (cs : Array Value) (hx : a.eval x = .slice (some ⟨H, 0, none⟩) 1 c) (hblk : w.heap[H]? = some (.cells cs e (0, 0))) (hl : cs.size = size) (h1 : ∀ u ∈ cs.toList, u.oneCell' = true)
    (hn : n + 1 ≤ 500000000000) (hbase : base ≤ w.heap.size)
    (h : ∀ g cap w', w'.ownsRow base e size (.slice (some ⟨g, 0, none⟩) (n + 1) cap) (n + 1) (xs ++ cs.toList) → w.grownBy w' v.ownBlock → (v.ownBlock = some g ∨ g = w.heap.size) → g < w'.heap.size → K (a.put o.dst (.slice (some ⟨g, 0, none⟩) (n + 1) cap)) w') :
    if Region.wanted o (yielded ops a.tmps) = true then Oper.wp P o a w K Q else E' := by
  obtain ⟨i, z, hi, hz, hsz, hby, hzs⟩ := E.get
  exact step_append_lies w hgd s x t ho base e i z size i.bytes E.ut hi hz hsz rfl hzs E.pos v n xs hs hown ⟨H, 0, none⟩ 1 c cs.toList hx (by simp [hl]) (World.news_of_block hblk) h1 (by omega)
    (by unfold maxLen; omega) (app_bytes hby hn) hbase w.heap.size rfl h
section
variable {wr W W' : World} {rb bf base : Nat} {v : Value} {ws : List Wd} {i en : Nat} {b : Bool} {nm : ByteArray} {An : Option Addr} {cn : Nat} {ns : List ByteArray} {At : Option Addr} {ct : Nat} {ts : List Int} {out : Int} {vb : Value} {pos : Int}
theorem FrF.fbN (h : FrF wr W rb bf base v ws i en b nm An cn ns At ct ts out vb pos) (hg : W.grownBy W' (Value.slice An ns.length cn).ownBlock) : W'.heap[bf]? = some (.cells #[.string nm, .slice An ns.length cn, .slice At ts.length ct, .int .i64 out, vb, .int .i64 pos] 32 (0, 0)) := by
  have h2 := h.z2; have h3 := h.z3
  exact (hg.block bf (by omega) (fun e => by have := (h.rn.1.lt bf e.symm).1; omega)).trans h.fb
theorem FrF.fbT (h : FrF wr W rb bf base v ws i en b nm An cn ns At ct ts out vb pos) (hg : W.grownBy W' (Value.slice At ts.length ct).ownBlock) : W'.heap[bf]? = some (.cells #[.string nm, .slice An ns.length cn, .slice At ts.length ct, .int .i64 out, vb, .int .i64 pos] 32 (0, 0)) := by
  have h2 := h.z2; have h3 := h.z3
  exact (hg.block bf (by omega) (fun e => by have := (h.rt.1.lt bf e.symm).1; omega)).trans h.fb
end
theorem below_set {B : Nat} {w w' : World} {b : Nat} (h : Below B w w') (hb : B ≤ b) (j : Nat) (u : Value) : Below B w (w'.setCell ⟨b, j, none⟩ u) :=
  ⟨h.os, h.tape, h.output, by simpa using h.size, fun k hk => (Below.heap_setCell w' ⟨b, j, none⟩ u k (by simp; omega)).trans (h.block k hk)⟩
theorem FrU.app_un {w W W' : World} {rb bu b2 base : Nat} {v : Value} {ws : List Wd} {i en : Nat} {b : Bool} {A : Option Addr} {c : Nat} {l : List (Fn × Value × Value × Value)} {o : Obj}
    (h : FrU w W rb bu b2 base v ws i en b A c l) (hg : (W.alloc o).grownBy W' (Value.slice A l.length c).ownBlock) : W'.heap[bu]? = some (.cells #[.slice A l.length c] 24 (0, 0)) := by
  have h3 := h.z3; have h4 := h.z4
  exact (hg.block bu (by simp; omega) (fun e => by have := (h.row.1.lt bu e.symm).1; omega)).trans ((heap_alloc_old W o (by omega)).trans h.un)
/-- One function more. -/
theorem FrU.app {w W W' : World} {rb bu b2 base : Nat} {v : Value} {ws : List Wd} {i en : Nat} {b : Bool} {A : Option Addr} {c : Nat} {l : List (Fn × Value × Value × Value)} {a : Fn × Value × Value × Value} {F0 : Nat → Prop} {o : Obj} {g cap : Nat}
    (h : FrU w W rb bu b2 base v ws i en b A c l) (ha : fnElem.kid W F0 a) (hF0 : ∀ g, F0 g → base ≤ g ∧ (Value.slice A l.length c).ownBlock ≠ some g)
    (ho : W'.ownsRow base 32 6 (.slice (some ⟨g, 0, none⟩) (l.length + 1) cap) (l.length + 1) (l.flatMap fnElem.cells ++ fnElem.cells a)) (hg : (W.alloc o).grownBy W' (Value.slice A l.length c).ownBlock) (hat : (Value.slice A l.length c).ownBlock = some g ∨ g = (W.alloc o).heap.size) :
    FrU w (W'.setCell ⟨bu, 0, none⟩ (.slice (some ⟨g, 0, none⟩) (l.length + 1) cap)) rb bu b2 base v ws i en b (some ⟨g, 0, none⟩) cap (l ++ [a]) := by
  have h0 := h.z0; have h1 := h.z1; have h2 := h.z2; have h3 := h.z3; have h4 := h.z4
  have hb : Below W.heap.size W (W.alloc o) := (Below.refl _ _).alloc (Nat.le_refl _) _
  have hA := h.step (h.rd.keep hb) (grown_of_below hb _)
  have hlt := h.row.1.lt
  have hrow : ∀ k, (Value.slice A l.length c).ownBlock = some k → base ≤ k := fun k e => (hlt k e).1
  have hk : fnElem.kid (W.alloc o) F0 a := fnElem.keep (fun q q1 q2 => ⟨q1, by simp; omega, heap_alloc_old W o q2⟩) ha
  have hr : GRow fnElem W' base 32 6 (.slice (some ⟨g, 0, none⟩) (l.length + 1) cap) (l ++ [a]) := GRow.app hA.row hk hF0 ho hg hat
  have hset := grown_set W' bu 0 (.slice (some ⟨g, 0, none⟩) (l.length + 1) cap)
  have e1 : (l ++ [a]).length = l.length + 1 := by simp
  have hz := hb.size
  have hrd : Rd W' rb v ws i en b := ⟨(hg.block rb hA.rd.lt (fun e => by have := hrow rb e.symm; omega)).trans hA.rd.blk, hA.rd.row.same fun q hq => hg.block q (Nat.lt_trans hq hA.rd.lt) (fun e => by have := hrow q e.symm; omega), hA.rd.len, hA.rd.pos⟩
  have hbe : Below w.heap.size w W' := ⟨hg.os.trans hA.be.os, hg.tape.trans hA.be.tape, hg.output.trans hA.be.output, Nat.le_trans hA.be.size hg.size, fun k hk => (hg.block k (by omega) (fun e => by have := hrow k e.symm; omega)).trans (hA.be.block k hk)⟩
  refine ⟨⟨(hset.block rb hrd.lt (by simp; omega)).trans hrd.blk, hrd.row.same fun q hq => hset.block q (Nat.lt_trans hq hrd.lt) (by simp; omega), hrd.len, hrd.pos⟩, by rw [e1]; simpa using heap_setCell_same W' bu 0 _ _ (.slice (some ⟨g, 0, none⟩) (l.length + 1) cap) (h.app_un hg),
    (hset.block b2 (by have := hg.size; simp at this; omega) (by simp; omega)).trans ((hg.block b2 (by simp; omega) (fun e => by have := hrow b2 e.symm; omega)).trans hA.res),
    by rw [e1]; exact hr.kept hset (fun k e => .inl (by cases e; omega)), below_set hbe (by omega) _ _,
    (hA.gl.same hg.size (fun q hq => hg.block q (by have := h.r0; simp; omega) (fun e => by have := hrow q e.symm; have := h.r0; omega))).same hset.size (fun q hq => hset.block q (by have := h.r0; have := hg.size; simp at this; omega) (by simp; have := h.r0; omega)),
    h.r0, h0, h1, h2, h3, Nat.le_trans h4 (Nat.le_trans hz (Nat.le_trans hg.size hset.size))⟩
theorem unInfo : (Tryz.prog.info? 24).map (·.size) = some 1 := by kernel_rfl
/-- What Script answers of a text. -/
def SRes (src : ByteArray) (l : List Fn) (p er : Int) : Prop :=
  ∃ p0 e0 ws, WRes src p0 e0 ws ∧ ((e0 ≠ 0 ∧ l = [] ∧ p = p0 ∧ er = e0) ∨
    (e0 = 0 ∧ ((∃ j, Du ws src.size 0 (.bad j) ∧ l = [] ∧ p = posAt ws j src.size ∧ er = 15) ∨
      (∃ m, Du ws src.size 0 (.fns m) ∧ p = 0 ∧ er = unitF m ∧ l = (if unitF m = 0 then m else [])))))
theorem elemFn : ElemOk Tryz.prog 22 32 6 := ⟨Tryz.underlying22, by kernel_rfl, by decide⟩
theorem elemStr : ElemOk Tryz.prog 28 9 1 := ⟨Tryz.underlying28, by kernel_rfl, by decide⟩
theorem elemInt : ElemOk Tryz.prog 29 3 1 := ⟨Tryz.underlying29, by kernel_rfl, by decide⟩

set_option maxRecDepth 100000 in
set_option maxHeartbeats 16000000 in
theorem script_cc (src : ByteArray) (w : World) (hs : src.size ≤ maxLen) (hG : Glob w) :
    Calls Tryz.prog 15 #[.string src] w fun e w' => ∃ (l : List Fn) (A : Option Addr) (c : Nat) (p er : Int), e = .returned (.tuple #[.agg #[.slice A l.length c], .int .i64 p, .int .i64 er]) ∧ FnsIn w' (fun g => w.heap.size ≤ g) (.slice A l.length c) l ∧ Below w.heap.size w w' ∧ l.length ≤ c ∧ SRes src l p er := by
  obtain ⟨p0, e0, ws, hw⟩ := WRes.total src
  have HW := Lib.hid hw
  have hbig := hG.big
  have HG := Lib.hid hG
  have WC := Lib.hid (words_c src (w.alloc (.cells #[.slice none 0 0] 24)) p0 e0 ws hs (hG.to ((Below.refl _ _).alloc (Nat.le_refl _) _)) hw)
  clear hw hG
  unfold maxLen at hs
  go_enter Tryz.func15, Tryz.ntmps15
  go_wp2_with fail
  refine WC.out.mono ?_
  rintro e w1 ⟨⟨v, rfl, hv⟩, hb⟩
  have HB1 := Lib.hid (((Below.refl w.heap.size w).alloc (Nat.le_refl _) (.cells #[.slice none 0 0] 24)).trans (hb.mono (by simp)))
  have HU0 := Lib.hid ((hb.block w.heap.size (by simp)).trans (heap_alloc_new w _))
  have HV := Lib.hid hv
  clear hb WC
  by_cases he : e0 = 0
  · subst he
    obtain ⟨A0, cap0, rfl, -⟩ := hv.form
    clear hv
    go_upto_block 0 with (fail)
    have HWZ : Hid (WsZ ws) := Lib.hid HW.out.small
    have HNum : Hid (NumsOk ws) := Lib.hid HW.out.nums
    have HF := Lib.hid (FrU.start (en := src.size) HG.out HV.out HWZ.out.1 HB1.out HU0.out)
    clear HV HB1 HU0
    generalize (w1.alloc _).alloc _ = W1 at HF ⊢
    generalize hbu : w1.heap.size + 1 = bu at HF ⊢
    generalize w1.heap.size + 2 = base at HF
    generalize w1.heap.size = rb at HF hbu ⊢
    clear hbu
    obtain ⟨b2, hb2⟩ : ∃ b2, w.heap.size = b2 := ⟨_, rfl⟩
    rw [hb2] at HF
    simp only [hb2]
    have HB2 := Lib.hid hb2; clear hb2
    generalize hen : src.size = en at HF ⊢
    have HEN := Lib.hid hen; clear hen
    go_cut [] (fun W => ∃ (l : List (Fn × Value × Value × Value)) (A : Option Addr) (c i' : Nat) (b' : Bool), Hid (FrU w W rb bu b2 base (.slice A0 ws.length cap0) ws i' en b' A c l) ∧ Hid (InU ws en (l.map (·.1)) i' b') ∧ Hid (b' = true ∨ i' = ws.length))
    case first =>
      go_wp2_with fail
      go_loopw [] (fun wr => ∃ (l : List (Fn × Value × Value × Value)) (A : Option Addr) (c i' : Nat) (b' : Bool), Hid (FrU w wr rb bu b2 base (.slice A0 ws.length cap0) ws i' en b' A c l) ∧ Hid (InU ws en (l.map (·.1)) i' b')) (fun wr => leftOf ws wr rb)
      case atStart => exact ⟨[], none, 0, 0, false, HF, Lib.hid (InU.start ws en)⟩
      case round =>
        obtain ⟨l, A, c, i', b', HF, HI⟩ := hrel
        have r0 := HF.out.rd.c0; have r1 := HF.out.rd.c1; have r3 := HF.out.rd.c3
        have hn := HF.out.rd.len; have hp := HF.out.rd.pos
        by_cases hlt : i' < ws.length
        · have k1 : (i' : Int) < (ws.length : Int) := by omega
          cases b' with
          | true =>
            go_wp2_with fail
            go_meet
            case rel => exact ⟨l, A, c, i', true, HF, HI, Lib.hid (.inl rfl)⟩
          | false =>
            go_wp2_with fail
            clear r0 r1 r3
            refine (at_r HF.out.rd).mono ?_
            rintro e w2 ⟨rfl, hb⟩
            have HF0 := Lib.hid (HF.out.step (HF.out.rd.keep hb) (grown_of_below hb _))
            have hz0 := HF.out.rd.lt; have hr0 := HF.out.r0
            have HFF := Lib.hid (FrF.start HF0.out.rd HF0.out.gl hr0 hz0 (grown_of_below hb _) (posAt ws i' en))
            clear hb HF0
            go_upto_region 8 with (fail)
            generalize w2.alloc _ = W2 at HFF ⊢
            generalize w2.heap.size + 1 = base1 at HFF
            generalize w2.heap.size = bf at HFF ⊢
            go_wp2_with fail
            refine (want_r sFun HFF.out.rd).mono ?_
            rintro e w3 ⟨rfl, ⟨i1, k1', hR, hW⟩, hg⟩
            have HW1 := Lib.hid hW
            replace HFF := Lib.hid (HFF.out.step hR hg)
            clear hR hg hW
            go_wp2_with fail
            refine (kind_r 2 HFF.out.rd).mono ?_
            rintro e w4 ⟨⟨nm, i2, k2, rfl, hR, hK⟩, hg⟩
            have HK2 := Lib.hid hK
            replace HFF := Lib.hid (HFF.out.step hR hg)
            clear hR hg hK
            have c0 := (facts6 HFF.out.fb).1.1
            have f0 := (facts6 HFF.out.fb).2.1
            go_wp2_with fail
            clear c0 f0
            replace HFF := Lib.hid (HFF.out.s0 nm)
            generalize w4.setCell ⟨bf, 0, none⟩ _ = W4 at HFF ⊢
            refine (want_r sOpen HFF.out.rd).mono ?_
            rintro e w5 ⟨rfl, ⟨i3, k3, hR, hW⟩, hg⟩
            have HW3 := Lib.hid hW
            replace HFF := Lib.hid (HFF.out.step hR hg)
            clear hR hg hW
            go_upto_block 2 with (fail)
            go_cut [] (fun W => ∃ (An : Option Addr) (cn : Nat) (ns : List ByteArray) (At : Option Addr) (ct : Nat) (ts : List Int) (i4 : Nat) (b4 : Bool), Hid (FrF wr W rb bf base1 (.slice A0 ws.length cap0) ws i4 en b4 nm An cn ns At ct ts 0 (.slice none 0 0) (posAt ws i' en)) ∧ Hid (OutP ws en i3 k3 ns ts i4 b4))
            case first =>
              obtain ⟨wo, rfl⟩ : ∃ wo : World, wo = wr := ⟨_, rfl⟩
              go_wp2_with fail
              go_loopw [11] (fun k wq => ∃ (An : Option Addr) (cn : Nat) (ns : List ByteArray) (At : Option Addr) (ct : Nat) (ts : List Int) (i4 : Nat) (b4 : Bool), k = .int .i64 ns.length ∧ Hid (FrF wo wq rb bf base1 (.slice A0 ws.length cap0) ws i4 en b4 nm An cn ns At ct ts 0 (.slice none 0 0) (posAt ws i' en)) ∧ Hid (InP ws en i3 k3 ns ts i4 b4)) (fun _ wq => leftOf ws wq rb)
              case atStart => exact ⟨none, 0, [], none, 0, [], i3, k3, rfl, HFF, Lib.hid (InP.start ws en i3 k3)⟩
              case round =>
                clear HFF
                obtain ⟨An, cn, ns, At, ct, ts, i4, b4, rfl, HFF, HP⟩ := hrel
                have HRl := Lib.hid HFF.out.rd
                obtain ⟨t, ht⟩ : ∃ t, seeB ws i4 b4 sClose = t := ⟨_, rfl⟩
                have T := Lib.hid ht
                go_wp2_with fail
                refine (take_r sClose t HFF.out.rd ht).mono ?_
                rintro e w6 ⟨rfl, hR, hg⟩
                replace HFF := Lib.hid (HFF.out.step hR hg)
                clear hR hg ht
                cases t with
                | true =>
                  obtain ⟨rfl, ha⟩ := seeB_yes T.out
                  have HA := Lib.hid ha; clear ha
                  simp only [if_true] at HFF
                  go_wp2_with fail
                  go_meet
                  case rel => exact ⟨An, cn, ns, At, ct, ts, i4 + 1, false, HFF, Lib.hid (HP.out.close HA.out)⟩
                | false =>
                  simp only [Bool.false_eq_true, if_false] at HFF
                  have c3 := HFF.out.rd.c3
                  cases b4 with
                  | true =>
                    go_wp2_with fail
                    go_meet
                    case rel => exact ⟨An, cn, ns, At, ct, ts, i4, true, HFF, Lib.hid HP.out.out⟩
                  | false =>
                    have HA := Lib.hid (seeB_no T.out)
                    clear T
                    go_upto_if 66 with (fail)
                    clear c3
                    go_cut [] (fun W => ∃ (i5 : Nat) (b5 : Bool), Hid (FrF wo W rb bf base1 (.slice A0 ws.length cap0) ws i5 en b5 nm An cn ns At ct ts 0 (.slice none 0 0) (posAt ws i' en)) ∧ Hid (CommaS ws ns.length i4 i5 b5))
                    case first =>
                      by_cases hl : ns.length = 0
                      · have HL := Lib.hid hl; clear hl
                        go_wp2_with fail
                        · exfalso; have := HL.out; omega
                        go_meet
                        case rel => exact ⟨i4, false, HFF, Lib.hid (.inl ⟨HL.out, rfl, rfl⟩)⟩
                      · have e0 : 0 < ns.length := by omega
                        have HL := Lib.hid hl; clear hl
                        go_wp2_with fail
                        refine (want_r sComma HFF.out.rd).mono ?_
                        rintro e w7 ⟨rfl, ⟨i5, k5, hR, hW⟩, hg⟩
                        have HWc := Lib.hid hW
                        replace HFF := Lib.hid (HFF.out.step hR hg)
                        clear hR hW hg
                        go_wp2_with fail
                        go_meet
                        case rel => exact ⟨i5, k5, HFF, Lib.hid (.inr ⟨HL.out, HWc.out⟩)⟩
                    case rest =>
                      clear HFF
                      obtain ⟨i5, b5, HFF, HC⟩ := hcut
                      have hnl : ns.length ≤ 5000 := by have := HP.out.len; have := HRl.out.pos; have := HRl.out.len; simp at *; omega
                      have htl : ts.length ≤ 5000 := by have := HP.out.eq; omega
                      go_upto_region 16 with (fail)
                      obtain ⟨wa, rfl⟩ : ∃ wo : World, wo = wc := ⟨_, rfl⟩
                      go_cut [] (fun W => ∃ (i6 : Nat) (k6 : Bool) (n2 : ByteArray) (g9 cap9 : Nat), Hid (FrF wo W rb bf base1 (.slice A0 ws.length cap0) ws i6 en k6 nm (some ⟨g9, 0, none⟩) cap9 (ns ++ [n2]) At ct ts 0 (.slice none 0 0) (posAt ws i' en)) ∧ Hid (KindS ws 2 i5 b5 n2 i6 k6))
                      case first =>
                        have c1 := (facts6 HFF.out.fb).1.2.1
                        have HFd := Lib.hid (HFF.out.below (bel_drew _))
                        go_region_law (first | (go_simp; go_at_call 53; refine (kind_r 2 HFd.out.rd).mono ?_; rintro e w8 ⟨⟨n2, i6, k6, rfl, hR, hK⟩, hg⟩; have HF8 := Lib.hid (HFd.out.step hR hg); have HK8 := Lib.hid hK; have d1 := (facts6 HF8.out.fb).1.2.1; have hbf8 := lt_of_some HF8.out.fb; clear hR hK hg) | (refine step_app1 elemStr (by rfl) _ _ (by rfl) base1 _ ns.length (ns.flatMap strElem.cells) (by rfl) (HF8.out.rn.1.alloc _) w8.heap.size 1 #[.string n2] (by rfl) (heap_alloc_new w8 _) rfl (by simp [Value.oneCell']) (by omega) (by have := HF8.out.z3; simp; omega) ?_; intro g9 cap9 w9 hown9 hgrow9 hat9 hlt9; have HF9 := Lib.hid (HF8.out.below ((Below.refl _ _).alloc (Nat.le_refl _) (.cells #[.string n2] 9))); have hfb := HF9.out.fbN hgrow9; have q1 := (facts6 hfb).1.2.1; have q2 := (facts6 hfb).2.2.1; clear hfb))
                        all_goals
                          go_wp2_with fail
                          go_meet
                          case rel => exact ⟨i6, k6, n2, g9, cap9, Lib.hid (HF9.out.name hown9 hgrow9 hat9 rfl), HK8⟩
                      case rest =>
                        clear HFF
                        obtain ⟨i6, k6, n2, g9, cap9, HFF, HK8⟩ := hcut
                        obtain ⟨wa, rfl⟩ : ∃ wo : World, wo = wc := ⟨_, rfl⟩
                        go_upto_region 17 with (fail)
                        have c1 := (facts6 HFF.out.fb).1.2.2.1
                        have HFd := Lib.hid (HFF.out.below (bel_drew _))
                        go_region_law (first | (go_simp; go_at_call 55; refine (typ_r HFd.out.rd).mono ?_; rintro e w8 ⟨⟨t2, i7, k7, rfl, hR, hK⟩, hg⟩; have HF8 := Lib.hid (HFd.out.step hR hg); have HT8 := Lib.hid hK; have d1 := (facts6 HF8.out.fb).1.2.2.1; have hbf8 := lt_of_some HF8.out.fb; clear hR hK hg) | (refine step_app1 elemInt (by rfl) _ _ (by rfl) base1 _ ts.length (ts.flatMap intElem.cells) (by rfl) (HF8.out.rt.1.alloc _) w8.heap.size 1 #[.int .i64 t2] (by rfl) (heap_alloc_new w8 _) rfl (by simp [Value.oneCell']) (by omega) (by have := HF8.out.z3; simp; omega) ?_; intro g9' cap9' w9 hown9 hgrow9 hat9 hlt9; have HF9 := Lib.hid (HF8.out.below ((Below.refl _ _).alloc (Nat.le_refl _) (.cells #[.int .i64 t2] 3))); have hfb := HF9.out.fbT hgrow9; have q1 := (facts6 hfb).1.2.2.1; have q2 := (facts6 hfb).2.2.2.1; clear hfb))
                        all_goals
                          have HFn := Lib.hid (HF9.out.typ hown9 hgrow9 hat9 rfl)
                          have HS := Lib.hid (HP.out.step HA.out HC.out HK8.out HT8.out)
                          go_wp2_with fail
                          go_roundw
                          case rel => exact ⟨some ⟨g9, 0, none⟩, cap9, ns ++ [n2], some ⟨g9', 0, none⟩, cap9', ts ++ [t2], i7, k7, by simp, HFn, Lib.hid HS.out.1⟩
                          case measure => exact HRl.out.less HFn.out.rd HS.out.2.1 HS.out.2.2
            case rest =>
              clear HFF
              obtain ⟨An, cn, ns, At, ct, ts, i4, b4, HFF, HP⟩ := hcut
              go_wp2_with fail
              refine (typ_r HFF.out.rd).mono ?_
              rintro e w6 ⟨⟨t, i5, b5, rfl, hR, hT⟩, hg⟩
              have HT := Lib.hid hT
              replace HFF := Lib.hid (HFF.out.step hR hg)
              clear hR hg hT
              have c3 := (facts6 HFF.out.fb).1.2.2.2.1
              have f3 := (facts6 HFF.out.fb).2.2.2.2.1
              go_wp2_with fail
              clear c3 f3
              replace HFF := Lib.hid (HFF.out.s3 t)
              generalize w6.setCell ⟨bf, 3, none⟩ _ = W6 at HFF ⊢
              refine (block_r rb _ ws en hr0 HNum.out i5 W6 b5 HFF.out.rd HFF.out.gl).mono ?_
              rintro e w7 ⟨lb, Ab, cb, i6, b6, rfl, hB, hR, hg, hO⟩
              have HO := Lib.hid hO
              have hz3 := HFF.out.z3; have hz2 := HFF.out.z2; have hz1 := HFF.out.z1
              have HB : Hid (StmtsIn w7 (fun g => base1 ≤ g) (.slice Ab lb.length cb) lb) := Lib.hid (hB.keep fun g (h1 : W6.heap.size ≤ g) h2 => ⟨by omega, h2, rfl⟩)
              replace HFF := Lib.hid (HFF.out.step hR hg)
              clear hR hg hO hB
              have c4 := (facts6 HFF.out.fb).1.2.2.2.2.1
              have f4 := (facts6 HFF.out.fb).2.2.2.2.2.1
              go_upto_region 20 with (fail)
              clear c4 f4
              replace HB := Lib.hid (HB.out.later (some bf) (grown_set w7 bf 4 (.slice Ab lb.length cb)) (fun g h => by simp; omega) (fun g h => h))
              replace HFF := Lib.hid (HFF.out.s4 (.slice Ab lb.length cb))
              generalize w7.setCell ⟨bf, 4, none⟩ _ = W7 at HFF HB ⊢
              have HFU := Lib.hid (HF.out.step HFF.out.rd HFF.out.gr)
              have HS := Lib.hid (HI.out.step hlt (outf HW1.out HK2.out HW3.out HP.out HT.out HO.out))
              have hown := HF.out.row.1.lt
              have HKd : Hid (fnElem.kid W7 (fun g => base1 ≤ g) (⟨nm, ns, ts, t, lb, posAt ws i' en⟩, .slice An ns.length cn, .slice At ts.length ct, .slice Ab lb.length cb)) := Lib.hid ⟨HFF.out.rn.strs, HFF.out.rt.ints, HB.out⟩
              have hll : l.length ≤ 5000 := by have := HI.out.len; simp at this; omega
              have cu : W7.cell? ⟨bu, 0, none⟩ = some (.slice A l.length c) := Lib.cell_of_heap HFU.out.un 0
              obtain ⟨⟨c0, c1, c2, c3, c4, c5⟩, -⟩ := facts6 HFF.out.fb
              have hbz := HF.out.z2; have hbz3 := HF.out.z3; have hbz4 := HF.out.z4
              go_wp2_with ((at_builtin; go_must (refine wpList_app1 elemFn rfl _ _ rfl base _ l.length (l.flatMap fnElem.cells) rfl (HFU.out.row.1.alloc _) W7.heap.size 1 #[.string nm, .slice An ns.length cn, .slice At ts.length ct, .int .i64 t, .slice Ab lb.length cb, .int .i64 (posAt ws i' en)] rfl (heap_alloc_new W7 _) rfl (by simp [Value.oneCell']) (by omega) (by have := HFU.out.z4; simp; omega) ?_); intro g8 cap8 w8 hown8 hgrow8 hat8 hlt8; have hun := HFU.out.app_un hgrow8; have q1 := Lib.cell_of_heap hun 0; have q2 := Lib.frozen_of_heap hun 0; clear hun))
              have HFA := Lib.hid (HFU.out.app HKd.out (fun g hg => ⟨by omega, fun e => by have := (hown g e).2; omega⟩) hown8 hgrow8 hat8)
              go_roundw
              case rel => exact ⟨l ++ [(⟨nm, ns, ts, t, lb, posAt ws i' en⟩, .slice An ns.length cn, .slice At ts.length ct, .slice Ab lb.length cb)], some ⟨g8, 0, none⟩, cap8, i6, b6, HFA, by simpa using (Lib.hid HS.out.1 : Hid _)⟩
              case measure => exact HF.out.rd.less HFA.out.rd HS.out.2.1 HS.out.2.2
        · go_wp2_with fail
          go_meet
          case rel => exact ⟨l, A, c, i', b', HF, HI, Lib.hid (.inr (by omega))⟩
    case rest =>
      clear HF
      obtain ⟨l, A, c, i', b', HF, HI, HX⟩ := hcut
      have c3 := HF.out.rd.c3
      cases b' with
      | true =>
        go_wp2_with fail
        clear c3
        refine (at_r HF.out.rd).mono ?_
        rintro e wz ⟨rfl, hb⟩
        replace HF := Lib.hid (HF.out.step (HF.out.rd.keep hb) (grown_of_below hb _))
        clear hb
        have c0 : wz.cell? ⟨b2, 0, none⟩ = some (.slice none 0 0) := Lib.cell_of_heap HF.out.res 0
        have f0 : wz.frozen? ⟨b2, 0, none⟩ = false := Lib.frozen_of_heap HF.out.res 0
        go_wp2_with fail
        have HR : Hid ((wz.setCell ⟨b2, 0, none⟩ (.slice none 0 0)).heap[b2]? = some (.cells #[.slice none 0 0] 24 (0, 0))) := Lib.hid (by simpa using heap_setCell_same wz b2 0 _ _ (.slice none 0 0) HF.out.res)
        refine bodyPost_ret (results_cell_tt rfl _ _ b2 _ _ _ _ rfl HR.out Tryz.underlying24 rfl unInfo) rfl ?_
        exact ⟨[], none, 0, posAt ws i' en, 15, rfl, .inl ⟨_, _, rfl, rfl⟩, below_set HF.out.be HF.out.z0 _ _, Nat.le_refl _, p0, 0, ws, HW.out, .inr ⟨rfl, .inl ⟨i', by rw [HEN.out]; exact HI.out.bad rfl, rfl, by rw [HEN.out], rfl⟩⟩⟩
      | false =>
        have hi : i' = ws.length := HX.out.resolve_left (by simp)
        have hD : Du ws en 0 (.fns (l.map (·.1))) := by simpa using (HI.out.okk rfl).1 [] (.done (by omega))
        have hll : l.length ≤ 5000 := by have := HI.out.len; have := HWZ.out.1; simp at *; omega
        have hUC := unitF_c (l.map (·.1)) A c (fun g => base ≤ g) wc (by rw [List.length_map]; exact HF.out.row.fns) ((hD.small HWZ.out) _ rfl).2.2 (by rw [List.length_map]; omega) HF.out.gl
        rw [List.length_map] at hUC
        obtain ⟨z, hz⟩ : ∃ z, unitF (l.map (·.1)) = z := ⟨_, rfl⟩
        rw [hz] at hUC
        have HUC := Lib.hid hUC; have HD := Lib.hid hD; have HZ := Lib.hid hz
        clear hUC hD hz hi
        have cu : wc.cell? ⟨bu, 0, none⟩ = some (.slice A l.length c) := Lib.cell_of_heap HF.out.un 0
        go_wp2_with fail
        clear c3 cu
        refine HUC.out.mono ?_
        rintro e wz ⟨rfl, hb⟩
        replace HF := Lib.hid (HF.out.step (HF.out.rd.keep hb) (grown_of_below hb _))
        clear hb
        have c0 : wz.cell? ⟨b2, 0, none⟩ = some (.slice none 0 0) := Lib.cell_of_heap HF.out.res 0
        have f0 : wz.frozen? ⟨b2, 0, none⟩ = false := Lib.frozen_of_heap HF.out.res 0
        have cu : wz.cell? ⟨bu, 0, none⟩ = some (.slice A l.length c) := Lib.cell_of_heap HF.out.un 0
        by_cases hz0 : z = 0
        · subst hz0
          go_wp2_with fail
          have HR : Hid ((wz.setCell ⟨b2, 0, none⟩ (.slice A l.length c)).heap[b2]? = some (.cells #[.slice A l.length c] 24 (0, 0))) := Lib.hid (by simpa using heap_setCell_same wz b2 0 _ _ (.slice A l.length c) HF.out.res)
          refine bodyPost_ret (results_cell_tt rfl _ _ b2 _ _ _ _ rfl HR.out Tryz.underlying24 rfl unInfo) rfl ?_
          refine ⟨l.map (·.1), A, c, 0, 0, by rw [List.length_map]; rfl, ?_, below_set HF.out.be HF.out.z0 _ _, by rw [List.length_map]; exact row_cap HF.out.row, p0, 0, ws, HW.out, .inr ⟨rfl, .inr ⟨l.map (·.1), by rw [HEN.out]; exact HD.out, rfl, HZ.out.symm, by rw [if_pos HZ.out]⟩⟩⟩
          rw [List.length_map]
          have h0 := HF.out.z0; have h1 := HF.out.z1; have h2 := HF.out.z2; have h3 := HF.out.z3
          exact HF.out.row.fns.keep fun g q1 q2 => ⟨by have := HB2.out; omega, by simpa using q2, Below.heap_setCell wz ⟨b2, 0, none⟩ _ g (by simp; omega)⟩
        · have e1 : (z != 0) = true := by simpa using hz0
          have HZ0 := Lib.hid hz0; clear hz0
          go_wp2_with fail
          have HR : Hid ((wz.setCell ⟨b2, 0, none⟩ (.slice none 0 0)).heap[b2]? = some (.cells #[.slice none 0 0] 24 (0, 0))) := Lib.hid (by simpa using heap_setCell_same wz b2 0 _ _ (.slice none 0 0) HF.out.res)
          refine bodyPost_ret (results_cell_tt rfl _ _ b2 _ _ _ _ rfl HR.out Tryz.underlying24 rfl unInfo) rfl ?_
          exact ⟨[], none, 0, 0, z, rfl, .inl ⟨_, _, rfl, rfl⟩, below_set HF.out.be HF.out.z0 _ _, Nat.le_refl _, p0, 0, ws, HW.out, .inr ⟨rfl, .inr ⟨l.map (·.1), by rw [HEN.out]; exact HD.out, rfl, HZ.out.symm, by rw [if_neg (by rw [HZ.out]; exact HZ0.out)]⟩⟩⟩
  · have e1 : (e0 != 0) = true := by simpa using he
    have HE := Lib.hid he; clear he hv
    have c0 : w1.cell? ⟨w.heap.size, 0, none⟩ = some (.slice none 0 0) := Lib.cell_of_heap HU0.out 0
    have f0 : w1.frozen? ⟨w.heap.size, 0, none⟩ = false := Lib.frozen_of_heap HU0.out 0
    go_wp2_with fail
    have HR : Hid ((w1.setCell ⟨w.heap.size, 0, none⟩ (.slice none 0 0)).heap[w.heap.size]? = some (.cells #[.slice none 0 0] 24 (0, 0))) := Lib.hid (by simpa using heap_setCell_same w1 w.heap.size 0 _ _ (.slice none 0 0) HU0.out)
    refine bodyPost_ret (results_cell_tt rfl _ _ w.heap.size _ _ _ _ rfl HR.out Tryz.underlying24 rfl unInfo) rfl ?_
    exact ⟨[], none, 0, p0, e0, rfl, .inl ⟨_, _, rfl, rfl⟩, below_set HB1.out (Nat.le_refl _) _ _, Nat.le_refl _, p0, e0, ws, HW.out, .inl ⟨HE.out, rfl, rfl, rfl⟩⟩
end Go.Proofs.YtmngofgminlloaaGreatDoor

namespace Go.Proofs.YtmngofgminlloaaGreatDoor
open Go.RowKit Tw

/-- What stands in the checker's state and is not written: the script's functions and the function that is checked. -/
structure Hd where
  U : Value
  nm : ByteArray
  vn : Value
  vt : Value
  out : Int
  vb : Value
  pos : Int
def vCells (q : ByteArray × Int) : List Value := [.string q.1, .int .i64 q.2]
def envCells (env : Env) : List Value := env.reverse.flatMap vCells
theorem envCells_length (env : Env) : (envCells env).length = env.length * 2 := by
  unfold envCells
  rw [List.length_flatMap]
  have : ∀ l : Env, (l.map fun a => (vCells a).length).sum = l.length * 2 := by
    intro l
    induction l with
    | nil => rfl
    | cons a l ih =>
      rw [List.map_cons, List.sum_cons, ih, List.length_cons, show (vCells a).length = 2 from rfl]; omega
  rw [this]; simp
theorem envCells_cons (q : ByteArray × Int) (env : Env) : envCells (q :: env) = envCells env ++ vCells q := by
  simp [envCells]
theorem envCells_take (pre env : Env) : (envCells (pre ++ env)).take (env.length * 2) = envCells env := by
  have : envCells (pre ++ env) = envCells env ++ pre.reverse.flatMap vCells := by simp [envCells]
  rw [this, ← envCells_length env, List.take_left']
  rfl
theorem own_take {w : World} {base e size n : Nat} {A : Option Addr} {c : Nat} {xs : List Value} (h : w.ownsRow base e size (.slice A n c) n xs) (k : Nat) (hk : k ≤ n) : w.ownsRow base e size (.slice A k c) k (xs.take (k * size)) := by
  have hks : k * size ≤ n * size := Nat.mul_le_mul_right _ hk
  refine ⟨by rw [List.length_take, h.1]; omega, ?_⟩
  rcases h.2 with ⟨h1, h2⟩ | ⟨g, cap, cur, h1, h2, h3, h4, h5, h6, h7⟩
  · injection h1 with e1 e2 e3
    subst e1 e3
    have : k = 0 := by omega
    subst this
    exact .inl ⟨rfl, rfl⟩
  · injection h1 with e1 e2 e3
    subst e1 e3
    refine .inr ⟨g, c, cur, rfl, h2, h3, by omega, h5, h6, ?_⟩
    rw [← h7, List.take_take, Nat.min_eq_left hks]
/-- The checker's state: its block cb. -/
structure Chk (w : World) (base cb : Nat) (K : Hd) (A : Option Addr) (c : Nat) (env : Env) (many : Nat) : Prop where
  blk : w.heap[cb]? = some (.cells #[K.U, .string K.nm, K.vn, K.vt, .int .i64 K.out, K.vb, .int .i64 K.pos, .slice A env.length c, .int .i64 many] 130 (0, 0))
  row : w.ownsRow base 201 2 (.slice A env.length c) env.length (envCells env)
  b0 : base ≤ cb
  apart : (Value.slice A env.length c).ownBlock ≠ some cb
theorem facts9 {w : World} {b t : Nat} {u0 u1 u2 u3 u4 u5 u6 u7 u8 : Value} (h : w.heap[b]? = some (.cells #[u0, u1, u2, u3, u4, u5, u6, u7, u8] t (0, 0))) :
    (w.cell? ⟨b, 0, none⟩ = some u0 ∧ w.cell? ⟨b, 1, none⟩ = some u1 ∧ w.cell? ⟨b, 2, none⟩ = some u2 ∧ w.cell? ⟨b, 3, none⟩ = some u3 ∧ w.cell? ⟨b, 4, none⟩ = some u4 ∧ w.cell? ⟨b, 5, none⟩ = some u5 ∧ w.cell? ⟨b, 6, none⟩ = some u6 ∧ w.cell? ⟨b, 7, none⟩ = some u7 ∧ w.cell? ⟨b, 8, none⟩ = some u8) ∧
    w.frozen? ⟨b, 7, none⟩ = false ∧ w.frozen? ⟨b, 8, none⟩ = false :=
  ⟨⟨Lib.cell_of_heap h 0, Lib.cell_of_heap h 1, Lib.cell_of_heap h 2, Lib.cell_of_heap h 3, Lib.cell_of_heap h 4, Lib.cell_of_heap h 5, Lib.cell_of_heap h 6, Lib.cell_of_heap h 7, Lib.cell_of_heap h 8⟩, Lib.frozen_of_heap h 7, Lib.frozen_of_heap h 8⟩
section
variable {w w' : World} {base cb : Nat} {K : Hd} {A : Option Addr} {c : Nat} {env : Env} {many : Nat}
theorem Chk.lt (h : Chk w base cb K A c env many) : cb < w.heap.size := lt_of_some h.blk
theorem Chk.below (h : Chk w base cb K A c env many) (hb : Below w.heap.size w w') : Chk w' base cb K A c env many :=
  ⟨(hb.block cb h.lt).trans h.blk, h.row.kept (grown_of_below hb none) (by cases hv : (Value.slice A env.length c).ownBlock <;> simp), h.b0, h.apart⟩
theorem Chk.var (h : Chk w base cb K A c env many) (i : Nat) (q : ByteArray × Int) (hq : env.reverse[i]? = some q) : ∃ g, A = some ⟨g, 0, none⟩ ∧ g < w.heap.size ∧ w.cell? ⟨g, i * 2, none⟩ = some (.string q.1) ∧ w.cell? ⟨g, i * 2 + 1, none⟩ = some (.int .i64 q.2) := by
  rcases own_cells h.row with ⟨h1, h0⟩ | ⟨g, cap, h1, hb, hg, hc⟩
  · have : env = [] := List.eq_nil_of_length_eq_zero h0
    subst this
    simp at hq
  · injection h1 with e1 e2 e3
    subst e1 e3
    have c0 := hc _ _ (flat_at vCells 2 (fun _ => rfl) env.reverse i q hq 0 _ rfl)
    have c1 := hc _ _ (flat_at vCells 2 (fun _ => rfl) env.reverse i q hq 1 _ rfl)
    exact ⟨g, rfl, hg, by simpa using c0, c1⟩
/-- The variables are as many as they were. -/
theorem Chk.cut {pre : Env} (h : Chk w base cb K A c (pre ++ env) many) : Chk (w.setCell ⟨cb, 7, none⟩ (.slice A env.length c)) base cb K A c env many := by
  have hr := own_take h.row env.length (by simp)
  rw [envCells_take] at hr
  refine ⟨by simpa using heap_setCell_same w cb 7 _ _ (.slice A env.length c) h.blk, hr.kept (grown_set w cb 7 _) ?_, h.b0, ?_⟩
  · right
    have := h.apart
    cases A <;> simpa [Value.ownBlock] using this
  · have := h.apart
    cases A <;> simpa [Value.ownBlock] using this
end
/-- The frame of the checker's methods. -/
structure FrC (w0 w : World) (base cb : Nat) (K : Hd) (A : Option Addr) (c : Nat) (env : Env) (many : Nat) (us : List Fn) (F : Nat → Prop) : Prop where
  chk : Chk w base cb K A c env many
  fns : FnsIn w F K.U us
  bel : Below base w0 w
  gl : Glob w
  fb : ∀ g, F g → g < base
  big : 10 < base
  bs : base ≤ w.heap.size
section
variable {w0 w w' : World} {base cb : Nat} {K : Hd} {A : Option Addr} {c : Nat} {env : Env} {many : Nat} {us : List Fn} {F : Nat → Prop}
theorem FrC.below (h : FrC w0 w base cb K A c env many us F) (hb : Below w.heap.size w w') : FrC w0 w' base cb K A c env many us F :=
  ⟨h.chk.below hb, h.fns.keep (fun g h1 h2 => ⟨h1, Nat.lt_of_lt_of_le h2 hb.size, hb.block g h2⟩), h.bel.trans (hb.mono h.bs), h.gl.to hb, h.fb, h.big, Nat.le_trans h.bs hb.size⟩
theorem FrC.reb (h : FrC w0 w base cb K A c env many us F) : FrC w w base cb K A c env many us F := { h with bel := Below.refl _ _ }
theorem FrC.since {w1 : World} (h : FrC w1 w base cb K A c env many us F) (hb : Below base w0 w1) : FrC w0 w base cb K A c env many us F := { h with bel := hb.trans h.bel }
theorem FrC.args {v : Value} {l : List Ex} (h : FrC w0 w base cb K A c env many us F) (hb : Below base w w') (ha : ArgsIn w F v l) : ArgsIn w' F v l :=
  ha.keep (fun g h1 h2 => ⟨h1, Nat.lt_of_lt_of_le h2 hb.size, hb.block g (h.fb g h1)⟩)
theorem FrC.stms {v : Value} {l : List Sm} (h : FrC w0 w base cb K A c env many us F) (hb : Below base w w') (ha : StmtsIn w F v l) : StmtsIn w' F v l :=
  ha.keep (fun g h1 h2 => ⟨h1, Nat.lt_of_lt_of_le h2 hb.size, hb.block g (h.fb g h1)⟩)
/-- What another world with the same older blocks, and the state as it is said to be, has. -/
theorem FrC.other {A' : Option Addr} {c' : Nat} {env' : Env} {many' : Nat} (h : FrC w0 w base cb K A c env many us F) (hb : Below base w w') (hc : Chk w' base cb K A' c' env' many') : FrC w0 w' base cb K A' c' env' many' us F :=
  ⟨hc, h.fns.keep (fun g h1 h2 => ⟨h1, Nat.lt_of_lt_of_le h2 hb.size, hb.block g (h.fb g h1)⟩), h.bel.trans hb, h.gl.same hb.size (fun g hg => hb.block g (by have := h.big; omega)), h.fb, h.big, Nat.le_trans h.bs hb.size⟩
end
/-- The checker has failed at a place with an error. -/
def faultE (p e : Int) : Ending := .panicked [{ v := .iface 123 (.agg #[.int .i64 p, .int .i64 e]), recovered := false }]
/-- A call ends as an answer says. -/
def EndT {α : Type} (r : TyR α) (f : α → Value) (e : Ending) : Prop := match r with | .ok a => e = .returned (f a) | .bad p q => e = faultE p q
/-- An expression of a type. -/
def wantT (us : List Fn) (env : Env) (x : Ex) (t : Int) : TyR Unit := match exT us env x with | .ok u => if u = t then .ok () else .bad x.pos 8 | .bad q e => .bad q e
/-- What expr answers, for expressions that are well formed so deep. -/
def ExC (left : Nat) : Prop :=
  ∀ (x : Ex) (B : Option Addr) (d : Nat) (F : Nat → Prop) (w : World) (base cb : Nat) (K : Hd) (A : Option Addr) (c : Nat) (env : Env) (many : Nat) (us : List Fn), exF x left = 0 → ExZ x → (∀ f ∈ us, FnZ f) → us.length ≤ 281474976710656 → env.length ≤ 1000 → EnvOK env → OutsOK us →
    FrC w w base cb K A c env many us F → ArgsIn w F (.slice B x.args.length d) x.args →
    Calls Tryz.prog 165 #[.pointer (some ⟨cb, 0, none⟩), .agg #[.int .i64 x.kind, .int .i64 x.n, .string x.text, .slice B x.args.length d, .int .i64 x.pos]] w fun e w' => EndT (exT us env x) (.int .i64 ·) e ∧ Below w.heap.size w w'
def WantC (left : Nat) : Prop :=
  ∀ (x : Ex) (t : Int) (B : Option Addr) (d : Nat) (F : Nat → Prop) (w : World) (base cb : Nat) (K : Hd) (A : Option Addr) (c : Nat) (env : Env) (many : Nat) (us : List Fn), exF x left = 0 → ExZ x → (∀ f ∈ us, FnZ f) → us.length ≤ 281474976710656 → env.length ≤ 1000 → EnvOK env → OutsOK us →
    FrC w w base cb K A c env many us F → ArgsIn w F (.slice B x.args.length d) x.args →
    Calls Tryz.prog 167 #[.pointer (some ⟨cb, 0, none⟩), .agg #[.int .i64 x.kind, .int .i64 x.n, .string x.text, .slice B x.args.length d, .int .i64 x.pos], .int .i64 t] w fun e w' => EndT (wantT us env x t) (fun _ => .tuple #[]) e ∧ Below w.heap.size w w'
end Go.Proofs.YtmngofgminlloaaGreatDoor
