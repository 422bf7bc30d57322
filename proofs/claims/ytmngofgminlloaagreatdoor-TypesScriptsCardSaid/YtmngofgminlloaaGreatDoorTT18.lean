/-
  The reference's checker of names and types: statements.
-/
import Derived.Test.YtmngofgminlloaaGreatDoorTT16
import Derived.Test.YtmngofgminlloaaGreatDoorTT17
set_option linter.all false
namespace Go.Proofs.YtmngofgminlloaaGreatDoor
open Go.RowKit Tw Go.Maps

/-- What stmts answers where there is no error yet. -/
def StmsR (w : World) (cb : Nat) (U : Value) (out : Int) (r : TyR (Nat × Bool)) (e : Ending) (w' : World) : Prop :=
  w.grownBy w' (some cb) ∧ match r with
  | .ok (m, b) => e = .returned (.bool b) ∧ Sco w' cb U out m none
  | .bad p q => ∃ b m, e = .returned (.bool b) ∧ Sco w' cb U out m (some (p, q))
theorem FrT.two {w0 w w' : World} {cb b : Nat} {Au : Option Addr} {cu : Nat} {us : List Fn} {out : Int} {many many' : Nat} {Fl Fl' : Flt} {env env' : Env} {F : Nat → Prop} (h : FrT w0 w cb b Au cu us out many Fl env F) (hs : Sco w' cb (.slice Au us.length cu) out many' Fl') (he : SeenAt w' b env') (ht : Two w w' cb b) (hcb : cb < w0.heap.size) (hb : w0.heap.size ≤ b) (hz : w0.heap.size ≤ w.heap.size) (hF : ∀ g, F g → g < w0.heap.size) : FrT w0 w' cb b Au cu us out many' Fl' env' F :=
  ⟨hs, he, h.fns.keep (fun g h1 h2 => ⟨h1, Nat.lt_of_lt_of_le h2 ht.size, ht.block g h2 (h.fc g h1) (by have := hF g h1; omega)⟩),
    ⟨ht.os.trans h.gr.os, ht.tape.trans h.gr.tape, ht.output.trans h.gr.output, Nat.le_trans h.gr.size ht.size, fun k hk hne => (ht.block k (by omega) (by simpa using hne) (by omega)).trans (h.gr.block k hk hne)⟩,
    h.gl.same ht.size (fun g hg => ht.block g (by have := h.sco.lt; have := h.sco.big; omega) (by have := h.sco.big; omega) (by have := h.sco.big; have := h.gr.size; have h0 := h.sco.lt; omega)), h.bc, h.fc⟩
theorem smsF_all : ∀ (l : List Sm) (left : Nat), smsF l left = 0 → ∀ s ∈ l, smF s left = 0 := by
  intro l
  induction l with
  | nil => intro left _ s hs; cases hs
  | cons b l ih =>
    intro left h s hs
    rw [smsF] at h
    split at h
    · rename_i h0
      rcases List.mem_cons.1 hs with rfl | hs
      · exact h0
      · exact ih left h s hs
    · rename_i h0; exact absurd h h0
theorem smF_parts {s : Sm} {left : Nat} (h : smF s left = 0) : 1 ≤ left ∧ (1 ≤ s.kind ∧ s.kind ≤ 7) ∧ exF s.a (left - 1) = 0 ∧ (s.kind = 3 ∨ s.kind = 4 → smsF s.body (left - 1) = 0) ∧ (s.kind = 3 → smsF s.els (left - 1) = 0) := by
  cases s with | mk k nm a body els p =>
  simp only [Sm.kind, Sm.a, Sm.body, Sm.els]
  rw [smF] at h
  by_cases h0 : left = 0
  · rw [if_pos h0] at h; cases h
  rw [if_neg h0] at h
  by_cases h1 : k < 1 ∨ 7 < k ∨ (k ≤ 2 ∧ nameB nm = false)
  · rw [if_pos h1] at h; cases h
  rw [if_neg h1] at h
  by_cases h2 : exF a (left - 1) = 0
  · rw [if_neg (fun e => e h2)] at h
    by_cases h3 : (k = 3 ∨ k = 4) ∧ smsF body (left - 1) ≠ 0
    · rw [if_pos h3] at h; exact absurd h h3.2
    · rw [if_neg h3] at h
      refine ⟨by omega, by omega, h2, fun hk => ?_, fun hk => ?_⟩
      · by_cases e : smsF body (left - 1) = 0
        · exact e
        · exact absurd ⟨hk, e⟩ h3
      · rw [if_pos hk] at h; exact h
  · rw [if_pos h2] at h; exact absurd h h2
def StmsC (left : Nat) : Prop :=
  ∀ (l : List Sm) (A : Option Addr) (c : Nat) (F : Nat → Prop) (w : World) (cb b : Nat) (Au : Option Addr) (cu : Nat) (us : List Fn) (out : Int) (many : Nat) (env : Env), smsF l left = 0 → (∀ s ∈ l, SmZ s) → l.length ≤ 281474976710656 → (∀ f ∈ us, FnZ f) → us.length ≤ 281474976710656 → Apart us → OutsOK us → (out = 1 ∨ out = 2) → EnvOK env → env.length ≤ many → many ≤ 64 →
    FrT w w cb b Au cu us out many none env F → StmtsIn w F (.slice A l.length c) l →
    Calls Tryz.prog 67 #[.pointer (some ⟨cb, 0, none⟩), .slice A l.length c, .map (some b)] w (StmsR w cb (.slice Au us.length cu) out (blT us out l env many))
/-- Where there is an error already. -/
def StmsE : Prop :=
  ∀ (l : List Sm) (A : Option Addr) (c : Nat) (F : Nat → Prop) (w : World) (cb b : Nat) (U : Value) (out : Int) (many : Nat) (env : Env) (q : Int × Int), l.length ≤ 281474976710656 → env.length ≤ 1000 → Sco w cb U out many (some q) → SeenAt w b env → (∀ g, F g → g ≠ cb) → StmtsIn w F (.slice A l.length c) l →
    Calls Tryz.prog 67 #[.pointer (some ⟨cb, 0, none⟩), .slice A l.length c, .map (some b)] w fun e w' => (∃ r, e = .returned (.bool r)) ∧ Sco w' cb U out many (some q) ∧ w.grownBy w' (some cb)
theorem FrT.re {w0 w w' : World} {cb b : Nat} {Au : Option Addr} {cu : Nat} {us : List Fn} {out : Int} {many many' : Nat} {Fl Fl' : Flt} {env : Env} {F : Nat → Prop} (h : FrT w0 w cb b Au cu us out many Fl env F) (hs : Sco w' cb (.slice Au us.length cu) out many' Fl') (hg : w.grownBy w' (some cb)) : FrT w0 w' cb b Au cu us out many' Fl' env F :=
  ⟨hs, h.seen.kept hg (by have := h.bc; simpa using fun e => this e.symm), h.fns.keep (fun g h1 h2 => ⟨h1, Nat.lt_of_lt_of_le h2 hg.size, hg.block g h2 (by have := h.fc g h1; simpa using this)⟩), grown_trans h.gr hg, h.gl.of hg h.sco.big, h.bc, h.fc⟩
theorem FrT.stms' {w0 w w1 : World} {cb b : Nat} {Au : Option Addr} {cu : Nat} {us : List Fn} {out : Int} {many : Nat} {Fl : Flt} {env : Env} {F : Nat → Prop} {v : Value} {l : List Sm} (h : FrT w0 w cb b Au cu us out many Fl env F) (hg : w1.grownBy w (some cb)) (ha : StmtsIn w1 F v l) : StmtsIn w F v l :=
  ha.keep (fun g h1 h2 => ⟨h1, Nat.lt_of_lt_of_le h2 hg.size, hg.block g h2 (by have := h.fc g h1; simpa using this)⟩)
theorem Sco.clear {w : World} {cb : Nat} {U : Value} {out : Int} {many : Nat} {F : Flt} (h : Sco w cb U out many F) : Sco ((w.setCell ⟨cb, 4, none⟩ (.int .i64 0)).setCell ⟨cb, 3, none⟩ (.int .i64 0)) cb U out many none := by
  refine ⟨?_, (fun _ h => by cases h), h.big⟩
  have h1 := heap_setCell_same w cb 4 _ _ (.int .i64 0) h.blk
  simpa [Flt.p, Flt.e] using heap_setCell_same (w.setCell ⟨cb, 4, none⟩ (.int .i64 0)) cb 3 _ _ (.int .i64 0) h1
section
variable {us : List Fn} {out : Int} {s : Sm} {env : Env} {m : Nat}
theorem smT_A (h : s.kind = 2 ∧ lookE env s.name = 0) : smT us out s env m = .bad s.pos 16 := by
  cases s with | mk k nm a body els p => simp only [Sm.kind, Sm.name] at h; rw [smT, if_pos h]; rfl
theorem smT_B {q e : Int} (h : ¬ (s.kind = 2 ∧ lookE env s.name = 0)) (hx : exT us env s.a = .bad q e) : smT us out s env m = .bad q e := by
  cases s with | mk k nm a body els p => simp only [Sm.kind, Sm.name, Sm.a] at h hx; rw [smT, if_neg h, hx]
theorem smT_C {t : Int} (h : ¬ (s.kind = 2 ∧ lookE env s.name = 0)) (hx : exT us env s.a = .ok t) (hw : 0 < tabV true true true true true out (lookE env s.name) s.kind) (ht : t ≠ tabV true true true true true out (lookE env s.name) s.kind) : smT us out s env m = .bad s.a.pos 8 := by
  cases s with | mk k nm a body els p =>
  simp only [Sm.kind, Sm.name, Sm.a] at *
  rw [smT, if_neg h, hx]
  simp only [tabV, if_true] at hw ht
  by_cases h3 : k = 3
  · subst h3; simp at ht; simp [ht]
  rw [if_neg h3] at hw ht
  by_cases h4 : k = 4
  · subst h4; simp at ht; simp [ht]
  rw [if_neg h4] at hw ht
  by_cases h5 : k = 5
  · subst h5; simp at ht; simp [ht]
  rw [if_neg h5] at hw ht
  by_cases h6 : k = 6
  · subst h6; simp at ht; simp [ht]
  rw [if_neg h6] at hw ht
  by_cases h2 : k = 2
  · subst h2; simp at ht; simp [ht]
  rw [if_neg h2] at hw
  omega
theorem smT_D {t : Int} (h : ¬ (s.kind = 2 ∧ lookE env s.name = 0)) (hx : exT us env s.a = .ok t) (hw : 0 < tabV true true true true true out (lookE env s.name) s.kind → t = tabV true true true true true out (lookE env s.name) s.kind) (hout : 0 < out) (hpos : 0 ≤ lookE env s.name) :
    (s.kind = 1 → smT us out s env m = match letT env m s.pos s.name t with | .ok (e, n) => .ok (e, n, false) | .bad q e => .bad q e) ∧ (s.kind = 2 → smT us out s env m = .ok (env, m, false)) ∧
    (s.kind = 3 → smT us out s env m = match blT us out s.body env m with | .bad q e => .bad q e | .ok (m1, r1) => match blT us out s.els env m1 with | .bad q e => .bad q e | .ok (m2, r2) => .ok (env, m2, r1 && r2)) ∧
    (s.kind = 4 → smT us out s env m = match blT us out s.body env m with | .bad q e => .bad q e | .ok (m1, _) => .ok (env, m1, false)) ∧
    (s.kind = 5 → smT us out s env m = .ok (env, m, true)) ∧ (s.kind = 6 → smT us out s env m = .ok (env, m, false)) ∧ (s.kind = 7 → smT us out s env m = .ok (env, m, false)) := by
  cases s with | mk k nm a body els p =>
  simp only [Sm.kind, Sm.name, Sm.a, Sm.body, Sm.els, Sm.pos] at *
  refine ⟨?_, ?_, ?_, ?_, ?_, ?_, ?_⟩ <;> intro hk <;> subst hk <;> rw [smT, if_neg h, hx] <;> simp only [tabV, if_true] at hw
  · simp
    cases letT env m p nm t <;> rfl
  · have h2 : lookE env nm ≠ 0 := fun e => h ⟨rfl, e⟩
    simp at hw
    simp [hw (by omega)]
  · simp at hw; simp [hw]
    cases blT us out body env m with
    | bad q e => rfl
    | ok z => obtain ⟨a1, b1⟩ := z; simp only; cases blT us out els env a1 <;> rfl
  · simp at hw; simp [hw]
    cases blT us out body env m <;> rfl
  · simp at hw; simp [hw hout]
  · simp at hw; simp [hw]
  · simp
end
theorem grown_two {w w1 w2 : World} {cb b : Nat} (h : w.grownBy w1 (some cb)) (ht : Two w1 w2 cb b) (hb : w.heap.size ≤ b) : w.grownBy w2 (some cb) :=
  ⟨ht.os.trans h.os, ht.tape.trans h.tape, ht.output.trans h.output, Nat.le_trans h.size ht.size, fun k hk hne => (ht.block k (Nat.lt_of_lt_of_le hk h.size) (by simpa using hne) (by omega)).trans (h.block k hk hne)⟩
theorem runT_at {us : List Fn} {out : Int} {l : List Sm} {j : Nat} {s : Sm} {env env' env2 : Env} {m m' m2 : Nat} {r r2 : Bool} (hs : l[j]? = some s) (h : runT us out (l.take j) env m false = .ok (env', m', r)) (h2 : smT us out s env' m' = .ok (env2, m2, r2)) : runT us out (l.take (j + 1)) env m false = .ok (env2, m2, r || r2) := by
  rw [take_snoc_at hs, runT_snoc, h]
  simp only [h2]
set_option maxRecDepth 100000 in
set_option maxHeartbeats 4000000 in
theorem sms_e : StmsE := by
  intro l A c F w cb b U out many env q hlen hel h hs hF hA
  have HS := Lib.hid (hs.copied hel)
  have HC := Lib.hid h; have HA := Lib.hid hA; have HFC := Lib.hid hF
  have hcb := h.lt
  clear h hs hA hF
  go_enter Tryz.func67, Tryz.ntmps67
  go_wp2_with fail
  refine HS.out.mono ?_
  rintro e w1 ⟨rfl, -, hb1⟩
  have HG := Lib.hid (grown_of_below hb1 (some cb))
  have HC1 := Lib.hid (HC.out.kept (hb1.block cb hcb))
  have HA1 := Lib.hid (HA.out.keep (F' := F) (w' := w1) (fun g h1 h2 => ⟨h1, Nat.lt_of_lt_of_le h2 hb1.size, hb1.block g h2⟩))
  clear hb1 HS
  by_cases h0 : 0 < l.length
  · obtain ⟨s, hs⟩ : ∃ s, l[0]? = some s := ⟨_, List.getElem?_eq_getElem h0⟩
    obtain ⟨g, off, Aa, ca, Ab, cbb, Ae, ce, rfl, hFg, hg, -, -, -, hc⟩ := HA1.out.at 0 s hs
    have b0 : w1.cell? ⟨g, off + 0 * 10, none⟩ = _ := hc 0 _ rfl
    have b1 := hc 1 _ rfl; have b2 := hc 2 _ rfl; have b3 := hc 3 _ rfl; have b4 := hc 4 _ rfl; have b5 := hc 5 _ rfl; have b6 := hc 6 _ rfl; have b7 := hc 7 _ rfl; have b8 := hc 8 _ rfl; have b9 := hc 9 _ rfl
    simp only [Nat.zero_mul, Nat.add_zero] at b0 b1 b2 b3 b4 b5 b6 b7 b8 b9
    have k1 : (0 : Int) < (l.length : Int) := by omega
    obtain ⟨-, -, -, -, c4⟩ := HC1.out.cells
    have hq : (q.2 != 0) = true := by simpa using HC1.out.ne q rfl
    have hcw : cb < w1.heap.size := HC1.out.lt
    simp only [Flt.e] at c4
    clear hc hs
    go_wp2_with fail
    go_loopw [8, 19] (fun u i wr => u = .bool false ∧ i = .int .i64 0 ∧ wr = w1) (fun _ i _ => 0)
    case atStart => exact ⟨rfl, rfl, rfl⟩
    case round =>
      obtain ⟨rfl, rfl, rfl⟩ := hrel
      go_wp2_with fail
      go_ret
      have hb := (Below.refl wr.heap.size wr).alloc (Nat.le_refl _) (.cells #[.int .i64 s.kind, .string s.name, .int .i64 s.a.kind, .int .i64 s.a.n, .string s.a.text, .slice Aa s.a.args.length ca, .int .i64 s.a.pos, .slice Ab s.body.length cbb, .slice Ae s.els.length ce, .int .i64 s.pos] 188)
      exact ⟨⟨true, rfl⟩, HC1.out.kept (hb.block cb hcw), grown_trans HG.out (grown_of_below hb (some cb))⟩
  · have h1 : l.length = 0 := by omega
    go_wp2_with fail
    go_loopw [8, 19] (fun u i wr => u = .bool false ∧ i = .int .i64 0 ∧ wr = w1) (fun _ i _ => 0)
    case atStart => exact ⟨rfl, rfl, rfl⟩
    case round =>
      obtain ⟨rfl, rfl, rfl⟩ := hrel
      have k1 : (l.length : Int) ≤ 0 := by omega
      go_wp2_with fail
      go_ret
      exact ⟨⟨false, rfl⟩, HC1.out, HG.out⟩
set_option maxRecDepth 100000 in
set_option maxHeartbeats 16000000 in
theorem sms_step (left : Nat) (ih : 1 ≤ left → StmsC (left - 1)) : StmsC left := by
  intro l A c F w cb b Au cu us out many env hfl hZ hlen hFZ hUL hap hO hout hE hem hm h hA
  have HS := Lib.hid (h.seen.copied (by omega))
  have HF0 := Lib.hid h; have HA := Lib.hid (hA.keep (F' := fun g => F g ∧ g < w.heap.size) (w' := w) (fun g h1 h2 => ⟨⟨h1, h2⟩, h2, rfl⟩))
  have HFL := Lib.hid hfl; have HZ := Lib.hid hZ; have HFZ := Lib.hid hFZ; have HUL := Lib.hid hUL; have HAP := Lib.hid hap; have HO := Lib.hid hO; have HE := Lib.hid hE; have IH := Lib.hid ih
  have hcb := h.sco.lt
  have hbig := h.sco.big
  have hF0 := h.fc
  clear h hA hfl hZ hFZ hUL hap hO hE ih
  go_enter Tryz.func67, Tryz.ntmps67
  go_wp2_with fail
  refine HS.out.mono ?_
  rintro e w1 ⟨rfl, hS1, hb1⟩
  have HF1 : Hid (FrT w w1 cb w.heap.size Au cu us out many none env (fun g => F g ∧ g < w.heap.size)) := Lib.hid ⟨HF0.out.sco.kept (hb1.block cb hcb), hS1, HF0.out.fns.keep (fun g h1 h2 => ⟨⟨h1, h2⟩, Nat.lt_of_lt_of_le h2 hb1.size, hb1.block g h2⟩), grown_of_below hb1 _, HF0.out.gl.to hb1, by omega, fun g hg => HF0.out.fc g hg.1⟩
  obtain ⟨bm, hbm⟩ : ∃ n, w.heap.size = n := ⟨_, rfl⟩
  have HBM := Lib.hid hbm
  rw [hbm] at HF1 HA ⊢
  clear hS1 hb1 HS HF0 hbm
  have hbm' : cb < bm := by have := HBM.out; omega
  go_wp2_with fail
  go_loopw [8, 19] (fun u i wr => ∃ (j : Nat) (r : Bool), j ≤ l.length ∧ i = .int .i64 j ∧ u = .bool r ∧ ((∃ (env' : Env) (m : Nat), Hid (runT us out (l.take j) env many false = .ok (env', m, r)) ∧ Hid (FrT w wr cb bm Au cu us out m none env' (fun g => F g ∧ g < bm))) ∨
    (∃ (p q : Int) (m : Nat), Hid (blT us out l env many = .bad p q) ∧ Hid (Sco wr cb (.slice Au us.length cu) out m (some (p, q))) ∧ Hid (w.grownBy wr (some cb))))) (fun _ i _ => l.length - (intOf i).toNat)
  case atStart => exact ⟨0, false, Nat.zero_le _, rfl, rfl, .inl ⟨env, many, Lib.hid rfl, HF1⟩⟩
  case round =>
    obtain ⟨j, r, hj, rfl, rfl, hcase⟩ := hrel
    clear HF1
    by_cases hlt : j < l.length
    · obtain ⟨s, hs⟩ : ∃ s, l[j]? = some s := ⟨_, List.getElem?_eq_getElem hlt⟩
      obtain ⟨g, off, Aa, ca, Ab, cbb, Ae, ce, rfl, hFg, hg, hka, hkb, hke, hc⟩ := HA.out.at j s hs
      have hgc : g ≠ cb := hF0 g hFg.1
      have k0 : (0 : Int) ≤ (j : Int) := by omega
      have k1 : (j : Int) < (l.length : Int) := by omega
      rcases hcase with ⟨env', m, HR, HF⟩ | ⟨p, q, m, HB, HC, HG⟩
      · have GR := HF.out.gr
        have b0 := kept_cell (o := off + j * 10) GR hg hgc (hc 0 _ rfl)
        have b1 := kept_cell GR hg hgc (hc 1 _ rfl)
        have b2 := kept_cell GR hg hgc (hc 2 _ rfl)
        have b3 := kept_cell GR hg hgc (hc 3 _ rfl)
        have b4 := kept_cell GR hg hgc (hc 4 _ rfl)
        have b5 := kept_cell GR hg hgc (hc 5 _ rfl)
        have b6 := kept_cell GR hg hgc (hc 6 _ rfl)
        have b7 := kept_cell GR hg hgc (hc 7 _ rfl)
        have b8 := kept_cell GR hg hgc (hc 8 _ rfl)
        have b9 := kept_cell GR hg hgc (hc 9 _ rfl)
        have hne : g < w.heap.size := hg
        obtain ⟨hl1, hk17, hex, hbo, hel⟩ := smF_parts (smsF_all _ _ HFL.out s (List.mem_of_getElem? hs))
        have HSJ := Lib.hid hs; have HKA := Lib.hid hka; have HKB := Lib.hid hkb; have HKE := Lib.hid hke; have HEX := Lib.hid hex; have HBO := Lib.hid hbo; have HEL := Lib.hid hel
        have HZS := Lib.hid (HZ.out s (List.mem_of_getElem? hs))
        have HEV := Lib.hid (runT_env HO.out _ HE.out HR.out)
        have hle := runT_le _ HR.out
        have hm64 : m ≤ 64 := hle.2.1 hm
        have hel2 : env'.length ≤ m := hle.2.2 hem
        clear hs hka hkb hke hex hbo hel hle hc
        go_upto_region 6 with (fail)
        clear b0 b1 b2 b3 b4 b5 b6 b7 b8 b9
        have hb := (Below.refl wr.heap.size wr).alloc (Nat.le_refl _) (.cells #[.int .i64 s.kind, .string s.name, .int .i64 s.a.kind, .int .i64 s.a.n, .string s.a.text, .slice Aa s.a.args.length ca, .int .i64 s.a.pos, .slice Ab s.body.length cbb, .slice Ae s.els.length ce, .int .i64 s.pos] 188)
        have HFa := Lib.hid (HF.out.below hb)
        have HXa := Lib.hid (heap_alloc_new wr (.cells #[.int .i64 s.kind, .string s.name, .int .i64 s.a.kind, .int .i64 s.a.n, .string s.a.text, .slice Aa s.a.args.length ca, .int .i64 s.a.pos, .slice Ab s.body.length cbb, .slice Ae s.els.length ce, .int .i64 s.pos] 188))
        have hcwr := HF.out.sco.lt
        clear hb GR HF
        generalize wr.alloc _ = wa at HFa HXa ⊢
        have hsa := lt_of_some HXa.out
        have hcx : cb ≠ wr.heap.size := by omega
        generalize wr.heap.size = bx at HXa hsa hcx hcwr ⊢
        obtain ⟨⟨z0, z1, z2, z3, z4, z5, z6, z7, z8, z9⟩, -⟩ := facts10 HXa.out
        obtain ⟨c0, c1, c2, c3, c4⟩ := HFa.out.sco.cells
        simp only [Flt.e, Flt.p] at c3 c4
        go_wp2_with fail
        refine (typeOf_r (left - 1) s.a Aa ca _ w wa cb bm Au cu us out m none env' HEX.out HZS.out.parts.2.1 HFZ.out HUL.out HAP.out HFa.out (HFa.out.args' HFa.out.gr HKA.out)).mono ?_
        rintro e w2 ⟨t, rfl, hT, hC, hg2⟩
        have HF2 := Lib.hid (HFa.out.step hC hg2)
        have HX2 := Lib.hid ((hg2.block _ hsa (by simpa using fun e => hcx e.symm)).trans HXa.out)
        have HT := Lib.hid (hT rfl)
        have hs2 := lt_of_some HX2.out
        clear z0 z1 z2 z3 z4 z5 z6 z7 z8 z9 c0 c1 c2 c3 c4 hT hC hg2 hsa HFa HXa
        go_upto_region 9 with (fail)
        obtain ⟨lk, hlk⟩ : ∃ v, lookE env' s.name = v := ⟨_, rfl⟩
        have hrun1 := HF2.out.seen.look s.name HZS.out.parts.1
        rw [hlk] at hrun1
        have HLK := Lib.hid hlk
        have hlw : (Lit.int .i64 lk).wf = true := by
          have := HEV.out.pos s.name
          by_cases h0 : lookE env' s.name = 0
          · rw [← hlk, h0]; decide
          · rcases HEV.out.look h0 with h | h <;> rw [← hlk, h] <;> decide
        have how : (Lit.int .i64 out).wf = true := by rcases hout with rfl | rfl <;> decide
        have hkw : (Lit.int .i64 s.kind).wf = true := by
          have hc : s.kind = 1 ∨ s.kind = 2 ∨ s.kind = 3 ∨ s.kind = 4 ∨ s.kind = 5 ∨ s.kind = 6 ∨ s.kind = 7 := by omega
          rcases hc with h | h | h | h | h | h | h <;> rw [h] <;> decide
        have HLW := Lib.hid hlw; have HOW := Lib.hid how; have HKW := Lib.hid hkw; have HRUN := Lib.hid hrun1
        clear hlk hlw how hkw hrun1
        go_cut [12] (fun u W => u = .int .i64 (tabV true true true true true out lk s.kind) ∧ Hid (Below w2.heap.size w2 W))
        case first =>
          have HF2d := Lib.hid (HF2.out.below (bel_drew w2))
          generalize hT9 : tab9 cb bm bx w2.heap.size out lk s.kind (tabV true true true true true out lk s.kind) s.name = T
          generalize ha0 : Act.mk _ _ = a0
          have e0 : a0.tmps[0]? = some (.pointer (some ⟨cb, 0, none⟩)) := by rw [← ha0]; rfl
          have e7 : a0.tmps[7]? = some (.map (some bm)) := by rw [← ha0]; rfl
          have e10 : a0.tmps[10]? = some (.pointer (some ⟨bx, 0, none⟩)) := by rw [← ha0]; rfl
          have ez : a0.tmps.size = 122 := by rw [← ha0]; rfl
          have hmem : ∀ (e : Nat × Nat × Value), e ∈ tab9 cb bm bx w2.heap.size out lk s.kind (tabV true true true true true out lk s.kind) s.name → e ∈ T := fun e he => by rw [← hT9]; exact he
          have hn1 : (T.map (·.1)).Nodup := by rw [← hT9]; show ([0, 3, 4, 5, 6, 9, 10, 11, 12, 14, 15, 16, 17, 18] : List Nat).Nodup; decide
          have hn2 : (T.map (·.2.1)).Nodup := by rw [← hT9]; show ([33, 34, 35, 36, 37, 38, 39, 40, 41, 42, 43, 44, 45, 12] : List Nat).Nodup; decide
          have hsl : ∀ e ∈ T, (12 = e.2.1 ∨ 33 ≤ e.2.1 ∧ e.2.1 ≤ 45) ∧ (e.1 ≠ 1 ∧ e.1 ≠ 2 ∧ e.1 ≠ 7 ∧ e.1 ≠ 8 ∧ e.1 ≠ 13) := by
            intro e he
            rw [← hT9] at he
            simp only [tab9, List.mem_cons, List.mem_nil_iff, or_false] at he
            rcases he with rfl | rfl | rfl | rfl | rfl | rfl | rfl | rfl | rfl | rfl | rfl | rfl | rfl | rfl <;> simp
          have hsz : ∀ e ∈ T, e.2.1 < a0.tmps.size := fun e he => by have := (hsl e he).1; omega
          have HA0 := Lib.hid ha0; have HT9 := Lib.hid hT9
          clear ha0 hT9
          refine region_inv (by kernel_rfl) (fun L a w => L.size = 19 ∧ S9 T a0 L a ∧ W9 w2.drew out lk L w ∧ C9 L) ?_ ?_ ?_
          · exact ⟨by simp, S9.start _ _ _, W9.start w2.drew out lk _, C9.start _⟩
          · rintro L a w i ⟨hz, hS, hW, hC⟩ hi
            have hlt := (ready_sub hi).1
            have hi19 : i < 19 := hlt
            have hli := ready_lt hi (by omega)
            have f0 : a.tmps[0]? = some (.pointer (some ⟨cb, 0, none⟩)) := ((hS.un 0 fun e he => by have := (hsl e he).1; omega).trans e0)
            have f7 : a.tmps[7]? = some (.map (some bm)) := ((hS.un 7 fun e he => by have := (hsl e he).1; omega).trans e7)
            have f10 : a.tmps[10]? = some (.pointer (some ⟨bx, 0, none⟩)) := ((hS.un 10 fun e he => by have := (hsl e he).1; omega).trans e10)
            have hbz := hW.bel.size
            have kc : ∀ (b o : Nat) (v : Value), b < w2.heap.size → w2.cell? ⟨b, o, none⟩ = some v → w.cell? ⟨b, o, none⟩ = some v := fun b o v h1 h2 => (hW.bel.cell (p := ⟨b, o, none⟩) h1).trans h2
            have hcs : i = 0 ∨ i = 1 ∨ i = 2 ∨ i = 3 ∨ i = 4 ∨ i = 5 ∨ i = 6 ∨ i = 7 ∨ i = 8 ∨ i = 9 ∨ i = 10 ∨ i = 11 ∨ i = 12 ∨ i = 13 ∨ i = 14 ∨ i = 15 ∨ i = 16 ∨ i = 17 ∨ i = 18 := by omega
            have c1 := kc cb 1 _ HF2.out.sco.lt HF2.out.sco.cells.2.1
            have x0 := kc bx 0 _ hs2 (facts10 HX2.out).1.1
            have x1 := kc bx 1 _ hs2 (facts10 HX2.out).1.2.1
            rcases hcs with rfl | rfl | rfl | rfl | rfl | rfl | rfl | rfl | rfl | rfl | rfl | rfl | rfl | rfl | rfl | rfl | rfl | rfl | rfl
            · have hd := ready_dep hi rfl
              obtain ⟨hb, hW'⟩ := hW.make (by omega) hli
              refine wpOp_value 33 (v := .map (some w2.heap.size)) rfl rfl rfl (by simp [execOp, go_sem, run_makeMap, hb]; rfl) ?_
              exact ⟨by simpa using hz, hS.put hn1 hn2 hsz _ (hmem _ (List.mem_cons_self ..)), hW', hC.skip 0 (by decide)⟩
            · have hd := ready_dep hi rfl
              have g0 : L.getD 0 false = true := hd ⟨0, .data⟩ (by simp) (by decide)
              have v0 := hS.tb _ (hmem _ (List.mem_cons_self ..)) g0
              simp only at v0
              obtain ⟨w', hr, hW'⟩ := W9.ins3 (by omega) hW g0 hli
              refine wpOp_skip (w' := w') rfl rfl rfl (by simp [execOp, go_sem, v0]; exact congrArg (fun r => Result.andThen r (fun _ w' => Result.ok Next.skip w')) hr) ?_
              exact ⟨by simpa using hz, hS.skip 1 (fun e he => by have := (hsl e he).2; omega), hW', hC.skip 1 (by decide)⟩
            · have hd := ready_dep hi rfl
              have g0 : L.getD 0 false = true := hd ⟨0, .data⟩ (by simp) (by decide)
              have v0 := hS.tb _ (hmem _ (List.mem_cons_self ..)) g0
              simp only at v0
              obtain ⟨w', hr, hW'⟩ := W9.ins4 (by omega) hW g0 hli
              refine wpOp_skip (w' := w') rfl rfl rfl (by simp [execOp, go_sem, v0]; exact congrArg (fun r => Result.andThen r (fun _ w' => Result.ok Next.skip w')) hr) ?_
              exact ⟨by simpa using hz, hS.skip 2 (fun e he => by have := (hsl e he).2; omega), hW', hC.skip 2 (by decide)⟩
            · have hd := ready_dep hi rfl
              refine wpOp_value 34 (w' := w) (v := _) rfl rfl rfl (by simp [execOp, go_sem, f0]; rfl) ?_
              exact ⟨by simpa using hz, hS.put hn1 hn2 hsz _ (hmem _ (List.mem_cons_of_mem _ (List.mem_cons_self ..))), hW.skip 3 (by decide), hC.skip 3 (by decide)⟩
            · have hd := ready_dep hi rfl
              have g3 : L.getD 3 false = true := hd ⟨3, .data⟩ (by simp) (by decide)
              have v3 := hS.tb _ (hmem _ (List.mem_cons_of_mem _ (List.mem_cons_self ..))) g3
              simp only at v3
              refine wpOp_value 35 (w' := w) (v := _) rfl rfl rfl (by simp [execOp, go_sem, v3]; rfl) ?_
              exact ⟨by simpa using hz, hS.put hn1 hn2 hsz _ (hmem _ (List.mem_cons_of_mem _ (List.mem_cons_of_mem _ (List.mem_cons_self ..)))), hW.skip 4 (by decide), hC.skip 4 (by decide)⟩
            · have hd := ready_dep hi rfl
              have g4 : L.getD 4 false = true := hd ⟨4, .data⟩ (by simp) (by decide)
              have v4 := hS.tb _ (hmem _ (List.mem_cons_of_mem _ (List.mem_cons_of_mem _ (List.mem_cons_self ..)))) g4
              simp only at v4
              refine wpOp_value 36 (w' := w) (v := _) rfl rfl rfl (by simp [execOp, go_sem, v4]; rfl) ?_
              exact ⟨by simpa using hz, hS.put hn1 hn2 hsz _ (hmem _ (List.mem_cons_of_mem _ (List.mem_cons_of_mem _ (List.mem_cons_of_mem _ (List.mem_cons_self ..))))), hW.skip 5 (by decide), hC.skip 5 (by decide)⟩
            · have hd := ready_dep hi rfl
              have g5 : L.getD 5 false = true := hd ⟨5, .data⟩ (by simp) (by decide)
              have v5 := hS.tb _ (hmem _ (List.mem_cons_of_mem _ (List.mem_cons_of_mem _ (List.mem_cons_of_mem _ (List.mem_cons_self ..))))) g5
              simp only at v5
              refine wpOp_value 37 (w' := w) (v := _) rfl rfl rfl (by simp [execOp, go_sem, v5, c1]; rfl) ?_
              exact ⟨by simpa using hz, hS.put hn1 hn2 hsz _ (hmem _ (List.mem_cons_of_mem _ (List.mem_cons_of_mem _ (List.mem_cons_of_mem _ (List.mem_cons_of_mem _ (List.mem_cons_self ..)))))), hW.skip 6 (by decide), hC.skip 6 (by decide)⟩
            · have hd := ready_dep hi rfl
              have g0 : L.getD 0 false = true := hd ⟨0, .data⟩ (by simp) (by decide)
              have v0 := hS.tb _ (hmem _ (List.mem_cons_self ..)) g0
              simp only at v0
              have g6 : L.getD 6 false = true := hd ⟨6, .data⟩ (by simp) (by decide)
              have v6 := hS.tb _ (hmem _ (List.mem_cons_of_mem _ (List.mem_cons_of_mem _ (List.mem_cons_of_mem _ (List.mem_cons_of_mem _ (List.mem_cons_self ..)))))) g6
              simp only at v6
              obtain ⟨w', hr, hW'⟩ := W9.ins5 HOW.out (by omega) hW g0 hli
              refine wpOp_skip (w' := w') rfl rfl rfl (by simp [execOp, go_sem, v0, v6]; exact congrArg (fun r => Result.andThen r (fun _ w' => Result.ok Next.skip w')) hr) ?_
              exact ⟨by simpa using hz, hS.skip 7 (fun e he => by have := (hsl e he).2; omega), hW', hC.skip 7 (by decide)⟩
            · have hd := ready_dep hi rfl
              have g0 : L.getD 0 false = true := hd ⟨0, .data⟩ (by simp) (by decide)
              have v0 := hS.tb _ (hmem _ (List.mem_cons_self ..)) g0
              simp only at v0
              obtain ⟨w', hr, hW'⟩ := W9.ins6 (by omega) hW g0 hli
              refine wpOp_skip (w' := w') rfl rfl rfl (by simp [execOp, go_sem, v0]; exact congrArg (fun r => Result.andThen r (fun _ w' => Result.ok Next.skip w')) hr) ?_
              exact ⟨by simpa using hz, hS.skip 8 (fun e he => by have := (hsl e he).2; omega), hW', hC.skip 8 (by decide)⟩
            · have hd := ready_dep hi rfl
              refine wpOp_value 38 (w' := w) (v := _) rfl rfl rfl (by simp [execOp, go_sem, f7]; rfl) ?_
              exact ⟨by simpa using hz, hS.put hn1 hn2 hsz _ (hmem _ (List.mem_cons_of_mem _ (List.mem_cons_of_mem _ (List.mem_cons_of_mem _ (List.mem_cons_of_mem _ (List.mem_cons_of_mem _ (List.mem_cons_self ..))))))), hW.skip 9 (by decide), hC.skip 9 (by decide)⟩
            · have hd := ready_dep hi rfl
              refine wpOp_value 39 (w' := w) (v := _) rfl rfl rfl (by simp [execOp, go_sem, f10]; rfl) ?_
              exact ⟨by simpa using hz, hS.put hn1 hn2 hsz _ (hmem _ (List.mem_cons_of_mem _ (List.mem_cons_of_mem _ (List.mem_cons_of_mem _ (List.mem_cons_of_mem _ (List.mem_cons_of_mem _ (List.mem_cons_of_mem _ (List.mem_cons_self ..)))))))), hW.skip 10 (by decide), hC.skip 10 (by decide)⟩
            · have hd := ready_dep hi rfl
              have g10 : L.getD 10 false = true := hd ⟨10, .data⟩ (by simp) (by decide)
              have v10 := hS.tb _ (hmem _ (List.mem_cons_of_mem _ (List.mem_cons_of_mem _ (List.mem_cons_of_mem _ (List.mem_cons_of_mem _ (List.mem_cons_of_mem _ (List.mem_cons_of_mem _ (List.mem_cons_self ..)))))))) g10
              simp only at v10
              refine wpOp_value 40 (w' := w) (v := _) rfl rfl rfl (by simp [execOp, go_sem, v10, x1]; rfl) ?_
              exact ⟨by simpa using hz, hS.put hn1 hn2 hsz _ (hmem _ (List.mem_cons_of_mem _ (List.mem_cons_of_mem _ (List.mem_cons_of_mem _ (List.mem_cons_of_mem _ (List.mem_cons_of_mem _ (List.mem_cons_of_mem _ (List.mem_cons_of_mem _ (List.mem_cons_self ..))))))))), hW.skip 11 (by decide), hC.skip 11 (by decide)⟩
            · have hd := ready_dep hi rfl
              have g9 : L.getD 9 false = true := hd ⟨9, .data⟩ (by simp) (by decide)
              have v9 := hS.tb _ (hmem _ (List.mem_cons_of_mem _ (List.mem_cons_of_mem _ (List.mem_cons_of_mem _ (List.mem_cons_of_mem _ (List.mem_cons_of_mem _ (List.mem_cons_self ..))))))) g9
              simp only at v9
              have g11 : L.getD 11 false = true := hd ⟨11, .data⟩ (by simp) (by decide)
              have v11 := hS.tb _ (hmem _ (List.mem_cons_of_mem _ (List.mem_cons_of_mem _ (List.mem_cons_of_mem _ (List.mem_cons_of_mem _ (List.mem_cons_of_mem _ (List.mem_cons_of_mem _ (List.mem_cons_of_mem _ (List.mem_cons_self ..))))))))) g11
              simp only at v11
              have hrunw := (HF2.out.seen.kept (grown_of_below ((bel_drew w2).trans hW.bel) none) (by simp)).look s.name HZS.out.parts.1
              rw [HLK.out] at hrunw
              refine wpOp_value 41 (w' := w) (v := _) rfl rfl rfl (by simp [execOp, go_sem, v9, v11]; exact congrArg (fun r => Result.andThen r (fun a w' => Result.ok (Next.value a) w')) hrunw) ?_
              exact ⟨by simpa using hz, hS.put hn1 hn2 hsz _ (hmem _ (List.mem_cons_of_mem _ (List.mem_cons_of_mem _ (List.mem_cons_of_mem _ (List.mem_cons_of_mem _ (List.mem_cons_of_mem _ (List.mem_cons_of_mem _ (List.mem_cons_of_mem _ (List.mem_cons_of_mem _ (List.mem_cons_self ..)))))))))), hW.skip 12 (by decide), hC.skip 12 (by decide)⟩
            · have hd := ready_dep hi rfl
              have g0 : L.getD 0 false = true := hd ⟨0, .data⟩ (by simp) (by decide)
              have v0 := hS.tb _ (hmem _ (List.mem_cons_self ..)) g0
              simp only at v0
              have g12 : L.getD 12 false = true := hd ⟨12, .data⟩ (by simp) (by decide)
              have v12 := hS.tb _ (hmem _ (List.mem_cons_of_mem _ (List.mem_cons_of_mem _ (List.mem_cons_of_mem _ (List.mem_cons_of_mem _ (List.mem_cons_of_mem _ (List.mem_cons_of_mem _ (List.mem_cons_of_mem _ (List.mem_cons_of_mem _ (List.mem_cons_self ..)))))))))) g12
              simp only at v12
              obtain ⟨w', hr, hW'⟩ := W9.ins2 HLW.out (by omega) hW g0 hli
              refine wpOp_skip (w' := w') rfl rfl rfl (by simp [execOp, go_sem, v0, v12]; exact congrArg (fun r => Result.andThen r (fun _ w' => Result.ok Next.skip w')) hr) ?_
              exact ⟨by simpa using hz, hS.skip 13 (fun e he => by have := (hsl e he).2; omega), hW', hC.skip 13 (by decide)⟩
            · have hd := ready_dep hi rfl
              have g0 : L.getD 0 false = true := hd ⟨0, .data⟩ (by simp) (by decide)
              have v0 := hS.tb _ (hmem _ (List.mem_cons_self ..)) g0
              simp only at v0
              refine wpOp_value 42 (w' := w) (v := _) rfl rfl rfl (by simp [execOp, go_sem, v0]; rfl) ?_
              exact ⟨by simpa using hz, hS.put hn1 hn2 hsz _ (hmem _ (List.mem_cons_of_mem _ (List.mem_cons_of_mem _ (List.mem_cons_of_mem _ (List.mem_cons_of_mem _ (List.mem_cons_of_mem _ (List.mem_cons_of_mem _ (List.mem_cons_of_mem _ (List.mem_cons_of_mem _ (List.mem_cons_of_mem _ (List.mem_cons_self ..))))))))))), hW.skip 14 (by decide), C9.named (hd ⟨0, .data⟩ (by simp) (by decide)) (hd ⟨1, .data⟩ (by simp) (by decide)) (hd ⟨2, .data⟩ (by simp) (by decide)) (hd ⟨7, .data⟩ (by simp) (by decide)) (hd ⟨8, .data⟩ (by simp) (by decide)) (hd ⟨13, .data⟩ (by simp) (by decide))⟩
            · have hd := ready_dep hi rfl
              refine wpOp_value 43 (w' := w) (v := _) rfl rfl rfl (by simp [execOp, go_sem, f10]; rfl) ?_
              exact ⟨by simpa using hz, hS.put hn1 hn2 hsz _ (hmem _ (List.mem_cons_of_mem _ (List.mem_cons_of_mem _ (List.mem_cons_of_mem _ (List.mem_cons_of_mem _ (List.mem_cons_of_mem _ (List.mem_cons_of_mem _ (List.mem_cons_of_mem _ (List.mem_cons_of_mem _ (List.mem_cons_of_mem _ (List.mem_cons_of_mem _ (List.mem_cons_self ..)))))))))))), hW.skip 15 (by decide), hC.skip 15 (by decide)⟩
            · have hd := ready_dep hi rfl
              have g15 : L.getD 15 false = true := hd ⟨15, .data⟩ (by simp) (by decide)
              have v15 := hS.tb _ (hmem _ (List.mem_cons_of_mem _ (List.mem_cons_of_mem _ (List.mem_cons_of_mem _ (List.mem_cons_of_mem _ (List.mem_cons_of_mem _ (List.mem_cons_of_mem _ (List.mem_cons_of_mem _ (List.mem_cons_of_mem _ (List.mem_cons_of_mem _ (List.mem_cons_of_mem _ (List.mem_cons_self ..)))))))))))) g15
              simp only at v15
              refine wpOp_value 44 (w' := w) (v := _) rfl rfl rfl (by simp [execOp, go_sem, v15, x0]; rfl) ?_
              exact ⟨by simpa using hz, hS.put hn1 hn2 hsz _ (hmem _ (List.mem_cons_of_mem _ (List.mem_cons_of_mem _ (List.mem_cons_of_mem _ (List.mem_cons_of_mem _ (List.mem_cons_of_mem _ (List.mem_cons_of_mem _ (List.mem_cons_of_mem _ (List.mem_cons_of_mem _ (List.mem_cons_of_mem _ (List.mem_cons_of_mem _ (List.mem_cons_of_mem _ (List.mem_cons_self ..))))))))))))), hW.skip 16 (by decide), hC.skip 16 (by decide)⟩
            · have hd := ready_dep hi rfl
              have g14 : L.getD 14 false = true := hd ⟨14, .data⟩ (by simp) (by decide)
              have v14 := hS.tb _ (hmem _ (List.mem_cons_of_mem _ (List.mem_cons_of_mem _ (List.mem_cons_of_mem _ (List.mem_cons_of_mem _ (List.mem_cons_of_mem _ (List.mem_cons_of_mem _ (List.mem_cons_of_mem _ (List.mem_cons_of_mem _ (List.mem_cons_of_mem _ (List.mem_cons_self ..))))))))))) g14
              simp only at v14
              have g16 : L.getD 16 false = true := hd ⟨16, .data⟩ (by simp) (by decide)
              have v16 := hS.tb _ (hmem _ (List.mem_cons_of_mem _ (List.mem_cons_of_mem _ (List.mem_cons_of_mem _ (List.mem_cons_of_mem _ (List.mem_cons_of_mem _ (List.mem_cons_of_mem _ (List.mem_cons_of_mem _ (List.mem_cons_of_mem _ (List.mem_cons_of_mem _ (List.mem_cons_of_mem _ (List.mem_cons_of_mem _ (List.mem_cons_self ..))))))))))))) g16
              simp only at v16
              obtain ⟨d0, d1, d2, d7, d8, d13⟩ := hC g14
              have hy := hW.yes d0
              rw [d1, d2, d7, d8, d13] at hy
              have hrunw := hy.look s.kind HKW.out
              refine wpOp_value 45 (w' := w) (v := _) rfl rfl rfl (by simp [execOp, go_sem, v14, v16]; exact congrArg (fun r => Result.andThen r (fun a w' => Result.ok (Next.value a) w')) hrunw) ?_
              exact ⟨by simpa using hz, hS.put hn1 hn2 hsz _ (hmem _ (List.mem_cons_of_mem _ (List.mem_cons_of_mem _ (List.mem_cons_of_mem _ (List.mem_cons_of_mem _ (List.mem_cons_of_mem _ (List.mem_cons_of_mem _ (List.mem_cons_of_mem _ (List.mem_cons_of_mem _ (List.mem_cons_of_mem _ (List.mem_cons_of_mem _ (List.mem_cons_of_mem _ (List.mem_cons_of_mem _ (List.mem_cons_self ..)))))))))))))), hW.skip 17 (by decide), hC.skip 17 (by decide)⟩
            · have hd := ready_dep hi rfl
              have g17 : L.getD 17 false = true := hd ⟨17, .data⟩ (by simp) (by decide)
              have v17 := hS.tb _ (hmem _ (List.mem_cons_of_mem _ (List.mem_cons_of_mem _ (List.mem_cons_of_mem _ (List.mem_cons_of_mem _ (List.mem_cons_of_mem _ (List.mem_cons_of_mem _ (List.mem_cons_of_mem _ (List.mem_cons_of_mem _ (List.mem_cons_of_mem _ (List.mem_cons_of_mem _ (List.mem_cons_of_mem _ (List.mem_cons_of_mem _ (List.mem_cons_self ..)))))))))))))) g17
              simp only at v17
              refine wpOp_value 12 (w' := w) (v := _) rfl rfl rfl (by simp [execOp, go_sem, v17]; rfl) ?_
              exact ⟨by simpa using hz, hS.put hn1 hn2 hsz _ (hmem _ (List.mem_cons_of_mem _ (List.mem_cons_of_mem _ (List.mem_cons_of_mem _ (List.mem_cons_of_mem _ (List.mem_cons_of_mem _ (List.mem_cons_of_mem _ (List.mem_cons_of_mem _ (List.mem_cons_of_mem _ (List.mem_cons_of_mem _ (List.mem_cons_of_mem _ (List.mem_cons_of_mem _ (List.mem_cons_of_mem _ (List.mem_cons_of_mem _ (List.mem_cons_self ..))))))))))))))), hW.skip 18 (by decide), hC.skip 18 (by decide)⟩
          · rintro L a w ⟨hz, hS, hW, hC⟩ hnil
            have r0 : L.getD 0 false = true := ready_nil hnil rfl (by omega) (by simp)
            have r3 : L.getD 3 false = true := ready_nil hnil rfl (by omega) (by simp)
            have r9 : L.getD 9 false = true := ready_nil hnil rfl (by omega) (by simp)
            have r10 : L.getD 10 false = true := ready_nil hnil rfl (by omega) (by simp)
            have r15 : L.getD 15 false = true := ready_nil hnil rfl (by omega) (by simp)
            have r1 : L.getD 1 false = true := ready_nil hnil rfl (by omega) (by intro e he; simp at he; rcases he with rfl <;> assumption)
            have r2 : L.getD 2 false = true := ready_nil hnil rfl (by omega) (by intro e he; simp at he; rcases he with rfl <;> assumption)
            have r8 : L.getD 8 false = true := ready_nil hnil rfl (by omega) (by intro e he; simp at he; rcases he with rfl <;> assumption)
            have r4 : L.getD 4 false = true := ready_nil hnil rfl (by omega) (by intro e he; simp at he; rcases he with rfl <;> assumption)
            have r5 : L.getD 5 false = true := ready_nil hnil rfl (by omega) (by intro e he; simp at he; rcases he with rfl <;> assumption)
            have r6 : L.getD 6 false = true := ready_nil hnil rfl (by omega) (by intro e he; simp at he; rcases he with rfl <;> assumption)
            have r7 : L.getD 7 false = true := ready_nil hnil rfl (by omega) (by intro e he; simp at he; rcases he with rfl | rfl <;> assumption)
            have r11 : L.getD 11 false = true := ready_nil hnil rfl (by omega) (by intro e he; simp at he; rcases he with rfl <;> assumption)
            have r12 : L.getD 12 false = true := ready_nil hnil rfl (by omega) (by intro e he; simp at he; rcases he with rfl | rfl <;> assumption)
            have r13 : L.getD 13 false = true := ready_nil hnil rfl (by omega) (by intro e he; simp at he; rcases he with rfl | rfl <;> assumption)
            have r14 : L.getD 14 false = true := ready_nil hnil rfl (by omega) (by intro e he; simp at he; rcases he with rfl | rfl | rfl | rfl | rfl | rfl | rfl | rfl | rfl | rfl | rfl | rfl | rfl | rfl <;> assumption)
            have r16 : L.getD 16 false = true := ready_nil hnil rfl (by omega) (by intro e he; simp at he; rcases he with rfl <;> assumption)
            have r17 : L.getD 17 false = true := ready_nil hnil rfl (by omega) (by intro e he; simp at he; rcases he with rfl | rfl <;> assumption)
            have r18 : L.getD 18 false = true := ready_nil hnil rfl (by omega) (by intro e he; simp at he; rcases he with rfl | rfl | rfl | rfl | rfl | rfl | rfl | rfl | rfl | rfl | rfl | rfl | rfl | rfl | rfl | rfl | rfl | rfl | rfl <;> assumption)
            have hT := HT9.out
            subst hT
            have hall := hS.whole (by omega) (fun e he => by
              simp only [tab9, List.mem_cons, List.mem_nil_iff, or_false] at he
              rcases he with rfl | rfl | rfl | rfl | rfl | rfl | rfl | rfl | rfl | rfl | rfl | rfl | rfl | rfl <;> assumption)
            rw [hall, ← HA0.out]
            have HBw := Lib.hid ((bel_drew w2).trans hW.bel)
            clear hall hS hW hC hnil r0 r1 r2 r3 r4 r5 r6 r7 r8 r9 r10 r11 r12 r13 r14 r15 r16 r17 r18
            go_wp2_with fail
            go_meet
            case rel => exact ⟨rfl, HBw⟩
        case rest =>
          obtain ⟨rfl, HBt⟩ := hcut
          obtain ⟨w3, rfl⟩ : ∃ wo : World, wo = wc := ⟨_, rfl⟩
          have HF3 := Lib.hid (HF2.out.below HBt.out)
          have HX3 := Lib.hid ((HBt.out.block _ hs2).trans HX2.out)
          obtain ⟨wv, hwv⟩ : ∃ v, tabV true true true true true out lk s.kind = v := ⟨_, rfl⟩
          rw [hwv]
          have HWV := Lib.hid hwv
          clear hwv HX2 HF2 HRUN HKW HOW HLW HBt hs2
          obtain ⟨⟨z0, z1, z2, z3, z4, z5, z6, z7, z8, z9⟩, -⟩ := facts10 HX3.out
          obtain ⟨c0, c1, c2, c3, c4⟩ := HF3.out.sco.cells
          obtain ⟨f2, f3, f4⟩ := HF3.out.sco.frz
          by_cases hA : s.kind = 2 ∧ lk = 0
          · have hw0 : wv = 0 := by rw [← HWV.out, hA.1, hA.2]; rfl
            have m2 : (s.kind == 2) = true := by simp [hA.1]
            have HAA : Hid (s.kind = 2 ∧ lookE env' s.name = 0) := Lib.hid ⟨hA.1, HLK.out.trans hA.2⟩
            subst hw0
            clear hA
            have HSC := Lib.hid HF3.out.sco.clear
            have HGC := Lib.hid (grown_trans (grown_set w3 cb 4 (.int .i64 0)) (grown_set (w3.setCell ⟨cb, 4, none⟩ (.int .i64 0)) cb 3 (.int .i64 0)))
            have HXC : Hid (((w3.setCell ⟨cb, 4, none⟩ (.int .i64 0)).setCell ⟨cb, 3, none⟩ (.int .i64 0)).heap[bx]? = _) := Lib.hid ((HGC.out.block bx (lt_of_some HX3.out) (by simpa using fun e => hcx e.symm)).trans HX3.out)
            go_upto_region 12 with (fail)
            clear z0 z1 z2 z3 z4 z5 z6 z7 z8 z9 c0 c1 c2 c3 c4 f2 f3 f4
            generalize (w3.setCell _ _).setCell _ _ = w4 at HSC HGC HXC ⊢
            obtain ⟨⟨z0, z1, z2, z3, z4, z5, z6, z7, z8, z9⟩, -⟩ := facts10 HXC.out
            go_wp2_with fail
            refine (bad_c s.pos 16 (by decide) HSC.out).mono ?_
            rintro ee w5 ⟨rfl, hC, hg⟩
            have HC5 := Lib.hid hC
            have HG5 := Lib.hid (grown_trans HF3.out.gr (grown_trans HGC.out hg))
            clear hC hg z0 z1 z2 z3 z4 z5 z6 z7 z8 z9
            go_wp2_with fail
            go_ret
            refine ⟨HG5.out, ?_⟩
            rw [blT_hit HSJ.out HR.out (smT_A HAA.out)]
            exact ⟨true, m, rfl, HC5.out⟩
          have HNA : Hid (¬ (s.kind = 2 ∧ lookE env' s.name = 0)) := Lib.hid (fun e => hA ⟨e.1, HLK.out.symm.trans e.2⟩)
          have hm2 : (s.kind == 2) = false ∨ ((s.kind == 2) = true ∧ (wv == 0) = false) := by
            by_cases h : s.kind = 2
            · refine .inr ⟨by simp [h], ?_⟩
              rw [beq_eq_false_iff_ne, ← HWV.out, h]
              exact fun e => hA ⟨h, e⟩
            · exact .inl (by simpa using h)
          clear hA
          have hrx : (∃ q er, exT us env' s.a = .bad q er) ∨ exT us env' s.a = .ok t := by
            cases hx : exT us env' s.a with
            | bad q er => exact .inl ⟨q, er, rfl⟩
            | ok u => exact .inr (by rw [HT.out u hx])
          have hwt : (0 < wv ∧ t ≠ wv) ∨ (0 < wv → t = wv) := by
            by_cases h : 0 < wv ∧ t ≠ wv
            · exact .inl h
            · refine .inr fun h1 => ?_
              by_cases h2 : t = wv
              · exact h2
              · exact absurd ⟨h1, h2⟩ h
          rcases hrx with ⟨q, er, hx⟩ | hx
          · have HXB := Lib.hid hx
            have hsc : Hid (Sco w3 cb (.slice Au us.length cu) out m (some (q, er))) := Lib.hid (by have := HF3.out.sco; rw [hx] at this; exact this)
            have her : (er != 0) = true := by simpa using hsc.out.ne _ rfl
            rw [hx] at c3 c4
            simp only [Flt.on, Flt.p, Flt.e] at c3 c4
            clear hx
            rcases hwt with ⟨hw1, hw2⟩ | hw
            · have m8 : (t != wv) = true := by simpa using hw2
              clear hw2
              rcases hm2 with m2 | ⟨m2, m20⟩
              all_goals
                go_wp2_with fail
                refine (bad_c s.a.pos 8 (by decide) hsc.out).mono ?_
                rintro ee w5 ⟨rfl, hC, hg⟩
                have HC5 := Lib.hid hC
                have HG5 := Lib.hid (grown_trans HF3.out.gr hg)
                clear hC hg z0 z1 z2 z3 z4 z5 z6 z7 z8 z9 c0 c1 c2 c3 c4 f2 f3 f4
                obtain ⟨-, -, -, -, c4⟩ := HC5.out.cells
                simp only [Flt.or, Flt.e] at c4
                go_wp2_with fail
                go_ret
                refine ⟨HG5.out, ?_⟩
                rw [blT_hit HSJ.out HR.out (smT_B HNA.out HXB.out)]
                exact ⟨true, m, rfl, HC5.out⟩
            · have hw' : wv ≤ 0 ∨ (0 < wv ∧ (t != wv) = false) := by
                by_cases h : 0 < wv
                · exact .inr ⟨h, by simpa using hw h⟩
                · exact .inl (by omega)
              clear hw
              rcases hm2 with m2 | ⟨m2, m20⟩
              all_goals
                rcases hw' with hw' | ⟨hw', hw''⟩
                all_goals
                  go_wp2_with fail
                  go_ret
                  refine ⟨HF3.out.gr, ?_⟩
                  rw [blT_hit HSJ.out HR.out (smT_B HNA.out HXB.out)]
                  exact ⟨true, m, rfl, hsc.out⟩
          · have HXO := Lib.hid hx
            have hsc : Hid (Sco w3 cb (.slice Au us.length cu) out m none) := Lib.hid (by have := HF3.out.sco; rw [hx] at this; exact this)
            have HF4 : Hid (FrT w w3 cb bm Au cu us out m none env' (fun g => F g ∧ g < bm)) := Lib.hid (by have := HF3.out; rw [hx] at this; exact this)
            rw [hx] at c3 c4
            simp only [Flt.on, Flt.p, Flt.e] at c3 c4
            have ht12 : t = 1 ∨ t = 2 := exT_types HO.out HEV.out s.a hx
            clear hx
            rcases hwt with ⟨hw1, hw2⟩ | hw
            · have m8 : (t != wv) = true := by simpa using hw2
              have HSM : Hid (∀ m, smT us out s env' m = .bad s.a.pos 8) := Lib.hid (fun m => smT_C HNA.out HXO.out (by rw [HLK.out, HWV.out]; exact hw1) (by rw [HLK.out, HWV.out]; exact hw2))
              clear hw2
              rcases hm2 with m2 | ⟨m2, m20⟩
              all_goals
                go_wp2_with fail
                refine (bad_c s.a.pos 8 (by decide) hsc.out).mono ?_
                rintro ee w5 ⟨rfl, hC, hg⟩
                have HC5 := Lib.hid hC
                have HG5 := Lib.hid (grown_trans HF3.out.gr hg)
                clear hC hg z0 z1 z2 z3 z4 z5 z6 z7 z8 z9 c0 c1 c2 c3 c4 f2 f3 f4
                obtain ⟨-, -, -, -, c4⟩ := HC5.out.cells
                simp only [Flt.or, Flt.e] at c4
                go_wp2_with fail
                go_ret
                refine ⟨HG5.out, ?_⟩
                rw [blT_hit HSJ.out HR.out (HSM.out m)]
                exact ⟨true, m, rfl, HC5.out⟩
            · have HSD := Lib.hid (smT_D (us := us) (out := out) (m := m) HNA.out HXO.out (by rw [HLK.out, HWV.out]; exact hw) (by omega) (HEV.out.pos s.name))
              have hw' : wv ≤ 0 ∨ (0 < wv ∧ (t != wv) = false) := by
                by_cases h : 0 < wv
                · exact .inr ⟨h, by simpa using hw h⟩
                · exact .inl (by omega)
              have HW' := Lib.hid hw'
              clear hw hw'
              obtain ⟨D1, D2, D3, D4, D5, D6, D7⟩ := HSD.out
              have hbmz : w.heap.size ≤ bm := by have := HBM.out; omega
              have hF' : ∀ g, (F g ∧ g < bm) → g < w.heap.size := fun g hg => by have := HBM.out; have := hg.2; omega
              have HF'' := Lib.hid hF'
              have hzw := HF4.out.gr.size
              clear hF' HSD HF3
              have hkk : s.kind = 1 ∨ s.kind = 3 ∨ s.kind = 4 ∨ s.kind = 5 ∨ (s.kind = 2 ∨ s.kind = 6 ∨ s.kind = 7) := by omega
              rcases hkk with hk | hk | hk | hk | hk
              · have m1 : (s.kind == 1) = true := by simp [hk]
                have m5 : (s.kind == 5) = false := by simp [hk]
                have m4 : (s.kind == 4) = false := by simp [hk]
                have m3 : (s.kind == 3) = false := by simp [hk]
                have m2' : (s.kind == 2) = false := by simp [hk]
                clear hm2
                rcases HW'.out with hw' | ⟨hw', hw''⟩
                all_goals
                  go_wp2_with fail
                  refine (let_c s.pos s.name t HZS.out.parts.1 (by rcases ht12 with h | h <;> rw [h] <;> decide) hsc.out HF4.out.seen (by omega) (by omega) (by omega) HEV.out.pos).mono ?_
                  rintro ee w4 ⟨rfl, hC, hS, hT2⟩
                  have HC4 := Lib.hid hC; have HS4 := Lib.hid hS; have HT2 := Lib.hid hT2
                  have HD1 := Lib.hid (D1 hk)
                  clear hC hS hT2
                  clear z0 z1 z2 z3 z4 z5 z6 z7 z8 z9 c0 c1 c2 c3 c4 f2 f3 f4
                  go_wp2_with fail
                  go_roundw
                  case rel =>
                    refine ⟨j + 1, r, by omega, by go_num, rfl, ?_⟩
                    cases hl : letT env' m s.pos s.name t with
                    | ok z =>
                      obtain ⟨e1, m1⟩ := z
                      have h1 := HD1.out
                      rw [hl] at h1
                      obtain ⟨rfl, -, rfl, -⟩ := letT_le hl
                      have h2 := runT_at HSJ.out HR.out h1
                      rw [Bool.or_false] at h2
                      have h3 := HC4.out
                      rw [hl] at h3
                      exact .inl ⟨_, _, Lib.hid h2, Lib.hid (HF4.out.two h3 HS4.out HT2.out hcb hbmz hzw HF''.out)⟩
                    | bad q er =>
                      have h1 := HD1.out
                      rw [hl] at h1
                      have h3 := HC4.out
                      rw [hl] at h3
                      exact .inr ⟨q, er, _, Lib.hid (blT_hit HSJ.out HR.out h1), Lib.hid h3, Lib.hid (grown_two HF4.out.gr HT2.out hbmz)⟩
                  case measure => simp [intOf]; omega
              · have m1 : (s.kind == 1) = false := by simp [hk]
                have m5 : (s.kind == 5) = false := by simp [hk]
                have m4 : (s.kind == 4) = false := by simp [hk]
                have m3 : (s.kind == 3) = true := by simp [hk]
                have m2' : (s.kind == 2) = false := by simp [hk]
                clear hm2
                rcases HW'.out with hw' | ⟨hw', hw''⟩
                all_goals
                  go_wp2_with fail
                  refine (IH.out hl1 s.body Ab cbb _ w3 cb bm Au cu us out m env' (HBO.out (.inl hk)) HZS.out.parts.2.2.2.2.1 HZS.out.parts.2.2.1 HFZ.out HUL.out HAP.out HO.out hout HEV.out hel2 hm64 HF4.out.reb (HF4.out.stms' HF4.out.gr HKB.out)).mono ?_
                  rintro e w4 ⟨hg4, hr4⟩
                  have HX4 := Lib.hid ((hg4.block bx (lt_of_some HX3.out) (by simpa using fun e => hcx e.symm)).trans HX3.out)
                  have HG4 := Lib.hid hg4
                  have HD3 := Lib.hid (D3 hk)
                  clear z0 z1 z2 z3 z4 z5 z6 z7 z8 z9 c0 c1 c2 c3 c4 f2 f3 f4
                  obtain ⟨⟨z0, z1, z2, z3, z4, z5, z6, z7, z8, z9⟩, -⟩ := facts10 HX4.out
                  cases hbb : blT us out s.body env' m with
                  | ok z =>
                    obtain ⟨m1, ra⟩ := z
                    rw [hbb] at hr4
                    obtain ⟨rfl, hs4⟩ := hr4
                    have HF5 := Lib.hid (HF4.out.re hs4 hg4)
                    have HBB := Lib.hid hbb
                    have hm1 := blT_le us out _ _ _ _ _ hbb
                    clear hbb hs4 hg4
                    go_wp2_with fail
                    refine (IH.out hl1 s.els Ae ce _ w4 cb bm Au cu us out m1 env' (HEL.out hk) HZS.out.parts.2.2.2.2.2 HZS.out.parts.2.2.2.1 HFZ.out HUL.out HAP.out HO.out hout HEV.out (by omega) (by omega) HF5.out.reb (HF5.out.stms' HF5.out.gr HKE.out)).mono ?_
                    rintro e w5 ⟨hg5, hr5⟩
                    have HG5 := Lib.hid hg5
                    clear z0 z1 z2 z3 z4 z5 z6 z7 z8 z9
                    cases hee : blT us out s.els env' m1 with
                    | ok z =>
                      obtain ⟨m2', rb⟩ := z
                      rw [hee] at hr5
                      obtain ⟨rfl, hs5⟩ := hr5
                      have HF6 := Lib.hid (HF5.out.re hs5 hg5)
                      have HEE := Lib.hid hee
                      clear hee hs5 hg5
                      have HRL : Hid (runT us out (l.take (j + 1)) env many false = .ok (env', m2', r || (ra && rb))) := Lib.hid (by
                        have h1 := HD3.out
                        rw [HBB.out] at h1
                        simp only [HEE.out] at h1
                        exact runT_at HSJ.out HR.out h1)
                      obtain ⟨rr, hrr⟩ : ∃ q, (r || (ra && rb)) = q := ⟨_, rfl⟩
                      have HRR := Lib.hid hrr
                      cases r <;> cases ra <;> cases rb
                      all_goals
                        simp only [Bool.or_true, Bool.true_or, Bool.false_or, Bool.or_false, Bool.and_true, Bool.true_and, Bool.and_false, Bool.false_and] at hrr
                        subst hrr
                        go_wp2_with fail
                        go_roundw
                        case rel => exact ⟨j + 1, _, by omega, by go_num, rfl, .inl ⟨_, _, HRL, HF6⟩⟩
                        case measure => simp [intOf]; omega
                    | bad q er =>
                      rw [hee] at hr5
                      obtain ⟨rb, m2', rfl, hs5⟩ := hr5
                      have HS5 := Lib.hid hs5
                      have HBL : Hid (blT us out l env many = .bad q er) := Lib.hid (blT_hit HSJ.out HR.out (by
                        rw [HD3.out, HBB.out]
                        simp only [hee]))
                      have HGL := Lib.hid (grown_trans HF4.out.gr (grown_trans HG4.out hg5))
                      clear hee hs5 hg5
                      cases r <;> cases ra <;> cases rb
                      all_goals
                        go_wp2_with fail
                        go_roundw
                        case rel => exact ⟨j + 1, _, by omega, by go_num, rfl, .inr ⟨q, er, m2', HBL, HS5, HGL⟩⟩
                        case measure => simp [intOf]; omega
                  | bad q er =>
                    rw [hbb] at hr4
                    obtain ⟨ra, m1, rfl, hs4⟩ := hr4
                    have HS4 := Lib.hid hs4
                    have HBL : Hid (blT us out l env many = .bad q er) := Lib.hid (blT_hit HSJ.out HR.out (by rw [HD3.out, hbb]))
                    have HGL := Lib.hid (grown_trans HF4.out.gr hg4)
                    have HSE := Lib.hid (HF4.out.seen.kept hg4 (by simpa using (show cb ≠ bm by omega)))
                    clear hbb hs4 hg4
                    go_wp2_with fail
                    refine (sms_e s.els Ae ce (fun g => F g ∧ g < bm) w4 cb bm _ out m1 env' (q, er) HZS.out.parts.2.2.2.1 (by omega) HS4.out HSE.out HF4.out.fc ((HKE.out).keep (F' := fun g => F g ∧ g < bm) (w' := w4) (fun g h1 h2 => ⟨h1, Nat.lt_of_lt_of_le h2 HGL.out.size, HGL.out.block g h2 (by have := HF4.out.fc g h1; simpa using this)⟩))).mono ?_
                    rintro e w5 ⟨⟨rb, rfl⟩, hs5, hg5⟩
                    have HS5 := Lib.hid hs5
                    have HGM := Lib.hid (grown_trans HGL.out hg5)
                    clear hs5 hg5 z0 z1 z2 z3 z4 z5 z6 z7 z8 z9
                    cases r <;> cases ra <;> cases rb
                    all_goals
                      go_wp2_with fail
                      go_roundw
                      case rel => exact ⟨j + 1, _, by omega, by go_num, rfl, .inr ⟨q, er, m1, HBL, HS5, HGM⟩⟩
                      case measure => simp [intOf]; omega
              · have m1 : (s.kind == 1) = false := by simp [hk]
                have m5 : (s.kind == 5) = false := by simp [hk]
                have m4 : (s.kind == 4) = true := by simp [hk]
                have m3 : (s.kind == 3) = false := by simp [hk]
                have m2' : (s.kind == 2) = false := by simp [hk]
                clear hm2
                rcases HW'.out with hw' | ⟨hw', hw''⟩
                all_goals
                  go_wp2_with fail
                  refine (IH.out hl1 s.body Ab cbb _ w3 cb bm Au cu us out m env' (HBO.out (.inr hk)) HZS.out.parts.2.2.2.2.1 HZS.out.parts.2.2.1 HFZ.out HUL.out HAP.out HO.out hout HEV.out hel2 hm64 HF4.out.reb (HF4.out.stms' HF4.out.gr HKB.out)).mono ?_
                  rintro e w4 ⟨hg4, hr4⟩
                  have HG4 := Lib.hid hg4
                  have HD4 := Lib.hid (D4 hk)
                  clear z0 z1 z2 z3 z4 z5 z6 z7 z8 z9 c0 c1 c2 c3 c4 f2 f3 f4
                  cases hbb : blT us out s.body env' m with
                  | ok z =>
                    obtain ⟨m1, ra⟩ := z
                    rw [hbb] at hr4
                    obtain ⟨rfl, hs4⟩ := hr4
                    have HF5 := Lib.hid (HF4.out.re hs4 hg4)
                    have HRL : Hid (runT us out (l.take (j + 1)) env many false = .ok (env', m1, r)) := Lib.hid (by
                      have h1 := HD4.out
                      rw [hbb] at h1
                      have h2 := runT_at HSJ.out HR.out h1
                      rwa [Bool.or_false] at h2)
                    clear hbb hs4 hg4
                    go_wp2_with fail
                    go_roundw
                    case rel => exact ⟨j + 1, _, by omega, by go_num, rfl, .inl ⟨_, _, HRL, HF5⟩⟩
                    case measure => simp [intOf]; omega
                  | bad q er =>
                    rw [hbb] at hr4
                    obtain ⟨ra, m1, rfl, hs4⟩ := hr4
                    have HS4 := Lib.hid hs4
                    have HBL : Hid (blT us out l env many = .bad q er) := Lib.hid (blT_hit HSJ.out HR.out (by rw [HD4.out, hbb]))
                    have HGL := Lib.hid (grown_trans HF4.out.gr hg4)
                    clear hbb hs4 hg4
                    go_wp2_with fail
                    go_roundw
                    case rel => exact ⟨j + 1, _, by omega, by go_num, rfl, .inr ⟨q, er, m1, HBL, HS4, HGL⟩⟩
                    case measure => simp [intOf]; omega
              · have m1 : (s.kind == 1) = false := by simp [hk]
                have m5 : (s.kind == 5) = true := by simp [hk]
                have m4 : (s.kind == 4) = false := by simp [hk]
                have m3 : (s.kind == 3) = false := by simp [hk]
                have m2' : (s.kind == 2) = false := by simp [hk]
                clear hm2
                rcases HW'.out with hw' | ⟨hw', hw''⟩
                all_goals
                  have HRL := Lib.hid (runT_at HSJ.out HR.out (D5 hk))
                  go_wp2_with fail
                  go_roundw
                  case rel => exact ⟨j + 1, true, by omega, by go_num, rfl, .inl ⟨_, _, Lib.hid (by have := HRL.out; rwa [Bool.or_true] at this), HF4⟩⟩
                  case measure => simp [intOf]; omega
              · have HRL : Hid (runT us out (l.take (j + 1)) env many false = .ok (env', m, r)) := Lib.hid (by
                  have h2 : runT us out (l.take (j + 1)) env many false = .ok (env', m, r || false) := by
                    rcases hk with hk | hk | hk
                    · exact runT_at HSJ.out HR.out (D2 hk)
                    · exact runT_at HSJ.out HR.out (D6 hk)
                    · exact runT_at HSJ.out HR.out (D7 hk)
                  rwa [Bool.or_false] at h2)
                have m1 : (s.kind == 1) = false := by simp; omega
                have m5 : (s.kind == 5) = false := by simp; omega
                have m4 : (s.kind == 4) = false := by simp; omega
                have m3 : (s.kind == 3) = false := by simp; omega
                rcases hm2 with m2 | ⟨m2, m20⟩
                all_goals
                  rcases HW'.out with hw' | ⟨hw', hw''⟩
                  all_goals
                    go_wp2_with fail
                    go_roundw
                    case rel => exact ⟨j + 1, r, by omega, by go_num, rfl, .inl ⟨_, _, HRL, HF4⟩⟩
                    case measure => simp [intOf]; omega
      · have hgc' := hgc
        have GR := HG.out
        have b0 := kept_cell (o := off + j * 10) GR hg hgc (hc 0 _ rfl)
        have b1 := kept_cell GR hg hgc (hc 1 _ rfl)
        have b2 := kept_cell GR hg hgc (hc 2 _ rfl)
        have b3 := kept_cell GR hg hgc (hc 3 _ rfl)
        have b4 := kept_cell GR hg hgc (hc 4 _ rfl)
        have b5 := kept_cell GR hg hgc (hc 5 _ rfl)
        have b6 := kept_cell GR hg hgc (hc 6 _ rfl)
        have b7 := kept_cell GR hg hgc (hc 7 _ rfl)
        have b8 := kept_cell GR hg hgc (hc 8 _ rfl)
        have b9 := kept_cell GR hg hgc (hc 9 _ rfl)
        obtain ⟨-, -, -, -, c4⟩ := HC.out.cells
        have hq : (q != 0) = true := by simpa using HC.out.ne _ rfl
        have hcw : cb < wr.heap.size := HC.out.lt
        simp only [Flt.e] at c4
        clear hc hs GR
        go_wp2_with fail
        go_ret
        have hb := (Below.refl wr.heap.size wr).alloc (Nat.le_refl _) (.cells #[.int .i64 s.kind, .string s.name, .int .i64 s.a.kind, .int .i64 s.a.n, .string s.a.text, .slice Aa s.a.args.length ca, .int .i64 s.a.pos, .slice Ab s.body.length cbb, .slice Ae s.els.length ce, .int .i64 s.pos] 188)
        refine ⟨grown_trans HG.out (grown_of_below hb (some cb)), ?_⟩
        rw [HB.out]
        exact ⟨true, m, rfl, HC.out.kept (hb.block cb hcw)⟩
    · obtain rfl : j = l.length := by omega
      rcases hcase with ⟨env', m, HR, HF⟩ | ⟨p, q, m, HB, HC, HG⟩
      · go_wp2_with fail
        go_ret
        refine ⟨HF.out.gr, ?_⟩
        have := HR.out
        rw [List.take_length] at this
        rw [blT_eq, this]
        exact ⟨rfl, HF.out.sco⟩
      · go_wp2_with fail
        go_ret
        refine ⟨HG.out, ?_⟩
        rw [HB.out]
        exact ⟨r, m, rfl, HC.out⟩
theorem stms_r : ∀ left : Nat, StmsC left := by
  have h0 : StmsC 0 := by
    intro l A c F w cb b Au cu us out many env hfl
    cases l with
    | nil => exact sms_step 0 (fun h => absurd h (by decide)) [] A c F w cb b Au cu us out many env hfl
    | cons s l => exact absurd (smF_parts (smsF_all _ _ hfl s (List.mem_cons_self ..))).1 (by omega)
  intro left
  induction left with
  | zero => exact h0
  | succ left ih => exact sms_step (left + 1) (fun _ => ih)
end Go.Proofs.YtmngofgminlloaaGreatDoor
