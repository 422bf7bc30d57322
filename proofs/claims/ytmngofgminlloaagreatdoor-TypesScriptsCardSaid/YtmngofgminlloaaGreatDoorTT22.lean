/-
  The program's checker of names and types: every expression; one variable more.
  The program's checker of names and types: a statement.
  The program's checker of names and types: blocks; statements of any depth.
-/
import Derived.Test.YtmngofgminlloaaGreatDoorTT21
import Derived.RegionDies
set_option linter.all false
namespace Go.Proofs.YtmngofgminlloaaGreatDoor
open Go.RowKit Tw

theorem expr_x : ∀ left : Nat, ExC left := by
  intro left
  induction left with
  | zero =>
    intro x B d F w base cb K A c env many us hex
    cases x with | mk k n t xs p =>
    exact absurd (exF_args' hex).1 (by omega)
  | succ left ih =>
    intro x B d F w base cb K A c env many us hex hZ hFZ hUL hEL hE hO h hA
    cases x with | mk k n t xs p =>
    obtain ⟨h1, hok, _⟩ := exF_args' hex
    have iw : WantC (left + 1 - 1) := want_x left ih
    simp only [Ex.kind, Ex.n, Ex.text, Ex.args, Ex.pos] at hA ⊢
    by_cases k1 : k = 1
    · subst k1; exact ex_k1 n t xs p B d F w base cb K A c env many us hZ hFZ hUL hEL hE hO h hA
    by_cases k2 : k = 2
    · subst k2; exact ex_k2 n t xs p B d F w base cb K A c env many us hZ hFZ hUL hEL hE hO h hA
    by_cases k3 : k = 3
    · subst k3; exact ex_k3 n t xs p B d F w base cb K A c env many us hZ hFZ hUL hEL hE hO h hA
    by_cases k4 : k = 4
    · subst k4; exact ex_k4 (left + 1) iw n t xs p B d F w base cb K A c env many us hex hZ hFZ hUL hEL hE hO h hA
    by_cases k5 : k = 5
    · subst k5; exact ex_k5 (left + 1) iw n t xs p B d F w base cb K A c env many us hex hZ hFZ hUL hEL hE hO h hA
    by_cases k6 : k = 6
    · subst k6; exact ex_k6 (left + 1) h1 ih iw n t xs p B d F w base cb K A c env many us hex hZ hFZ hUL hEL hE hO h hA
    by_cases k7 : k = 7
    · subst k7; exact ex_k7 (left + 1) iw n t xs p B d F w base cb K A c env many us hex hZ hFZ hUL hEL hE hO h hA
    by_cases k8 : k = 8
    · subst k8; exact ex_k8 (left + 1) iw n t xs p B d F w base cb K A c env many us hex hZ hFZ hUL hEL hE hO h hA
    rw [oko (by omega)] at hok
    cases hok
theorem want_all (left : Nat) : WantC left := want_x left (expr_x left)
theorem elemVar : ElemOk Tryz.prog 128 201 2 := ⟨Tryz.underlying128, by kernel_rfl, by decide⟩
/-- What is kept where the variables, first at A, lie at A' at last. -/
structure Kept (w w' : World) (cb : Nat) (A A' : Option Addr) : Prop where
  size : w.heap.size ≤ w'.heap.size
  blk : ∀ k, k < w.heap.size → k ≠ cb → (∀ a, A = some a → a.block ≠ k) → w'.heap[k]? = w.heap[k]?
  own : ∀ a, A' = some a → (∃ b, A = some b ∧ b.block = a.block) ∨ w.heap.size ≤ a.block
theorem Kept.trans {w w1 w2 : World} {cb : Nat} {A A1 A2 : Option Addr} (h : Kept w w1 cb A A1) (h' : Kept w1 w2 cb A1 A2) : Kept w w2 cb A A2 := by
  refine ⟨Nat.le_trans h.size h'.size, fun k hk hc hA => ?_, fun a ha => ?_⟩
  · refine (h'.blk k (Nat.lt_of_lt_of_le hk h.size) hc fun a ha => ?_).trans (h.blk k hk hc hA)
    rcases h.own a ha with ⟨b, hb, e⟩ | hz
    · rw [← e]; exact hA b hb
    · omega
  · rcases h'.own a ha with ⟨b, hb, e⟩ | hz
    · rw [← e]; exact h.own b hb
    · exact .inr (Nat.le_trans h.size hz)
theorem Kept.of {w w' : World} (cb : Nat) (A : Option Addr) (h : Below w.heap.size w w') : Kept w w' cb A A := ⟨h.size, fun k hk _ _ => h.block k hk, fun a ha => .inl ⟨a, ha, rfl⟩⟩
theorem Kept.set (w : World) (cb : Nat) (A : Option Addr) (j : Nat) (v : Value) : Kept w (w.setCell ⟨cb, j, none⟩ v) cb A A :=
  ⟨(grown_set w cb j v).size, fun k hk hc _ => (grown_set w cb j v).block k hk (by simpa using hc), fun a ha => .inl ⟨a, ha, rfl⟩⟩
theorem Kept.app {w w' : World} (cb : Nat) {A : Option Addr} {n c g : Nat} {o : Obj} (hg : (w.alloc o).grownBy w' (Value.slice A n c).ownBlock) (hat : (Value.slice A n c).ownBlock = some g ∨ g = (w.alloc o).heap.size) : Kept w w' cb A (some ⟨g, 0, none⟩) := by
  have hz : (w.alloc o).heap.size = w.heap.size + 1 := by simp
  refine ⟨by have := hg.size; omega, fun k hk _ hA => ?_, fun a ha => ?_⟩
  · refine (hg.block k (by omega) fun e => ?_).trans (heap_alloc_old w o hk)
    cases A with
    | none => simp [Value.ownBlock] at e
    | some a => simp [Value.ownBlock] at e; exact hA a rfl e.symm
  · injection ha with ha
    subst ha
    rcases hat with e | e
    · left
      cases A with
      | none => simp [Value.ownBlock] at e
      | some a => simp [Value.ownBlock] at e; exact ⟨a, rfl, e⟩
    · right; simp only; omega
/-- What add answers. -/
def AddR (w : World) (base cb : Nat) (K : Hd) (us : List Fn) (F : Nat → Prop) (A0 : Option Addr) (r : TyR (Env × Nat)) (e : Ending) (w' : World) : Prop :=
  Below base w w' ∧ match r with
  | .ok (env, m) => e = .returned (.tuple #[]) ∧ ∃ A c, FrC w w' base cb K A c env m us F ∧ Kept w w' cb A0 A
  | .bad p q => e = faultE p q
theorem Chk.setMany {w : World} {base cb : Nat} {K : Hd} {A : Option Addr} {c : Nat} {env : Env} {many : Nat} (h : Chk w base cb K A c env many) : Chk (w.setCell ⟨cb, 8, none⟩ (.int .i64 ((many : Int) + 1))) base cb K A c env (many + 1) :=
  ⟨by simpa using heap_setCell_same w cb 8 _ _ (.int .i64 ((many : Int) + 1)) h.blk, h.row.kept (grown_set w cb 8 _) (.inr h.apart), h.b0, h.apart⟩
theorem Chk.app {w w' : World} {base cb : Nat} {K : Hd} {A : Option Addr} {c : Nat} {env : Env} {many g cap : Nat} {nm : ByteArray} {t : Int} {o : Obj} (h : Chk w base cb K A c env many) (hown : w'.ownsRow base 201 2 (.slice (some ⟨g, 0, none⟩) (env.length + 1) cap) (env.length + 1) (envCells env ++ [.string nm, .int .i64 t])) (hg : (w.alloc o).grownBy w' (Value.slice A env.length c).ownBlock) (hat : (Value.slice A env.length c).ownBlock = some g ∨ g = (w.alloc o).heap.size) :
    w'.heap[cb]? = some (.cells #[K.U, .string K.nm, K.vn, K.vt, .int .i64 K.out, K.vb, .int .i64 K.pos, .slice A env.length c, .int .i64 many] 130 (0, 0)) ∧ Chk (w'.setCell ⟨cb, 7, none⟩ (.slice (some ⟨g, 0, none⟩) (env.length + 1) cap)) base cb K (some ⟨g, 0, none⟩) cap ((nm, t) :: env) many := by
  have hlt := h.lt
  have hb : w'.heap[cb]? = some (.cells #[K.U, .string K.nm, K.vn, K.vt, .int .i64 K.out, K.vb, .int .i64 K.pos, .slice A env.length c, .int .i64 many] 130 (0, 0)) := (hg.block cb (by simp; omega) (fun e => h.apart e.symm)).trans ((heap_alloc_old w o hlt).trans h.blk)
  have hgc : g ≠ cb := by
    rcases hat with e | e
    · intro e2; subst e2; exact h.apart e
    · simp at e; omega
  refine ⟨hb, by simpa using heap_setCell_same w' cb 7 _ _ (.slice (some ⟨g, 0, none⟩) (env.length + 1) cap) hb, ?_, h.b0, by simpa [Value.ownBlock] using hgc⟩
  have h2 := hown.kept (grown_set w' cb 7 (.slice (some ⟨g, 0, none⟩) (env.length + 1) cap)) (.inr (by simpa [Value.ownBlock] using hgc))
  rw [envCells_cons]
  exact h2
set_option maxRecDepth 100000 in
set_option maxHeartbeats 8000000 in
theorem add_x (p : Int) (nm : ByteArray) (t : Int) (F : Nat → Prop) (w : World) (base cb : Nat) (K : Hd) (A : Option Addr) (c : Nat) (env : Env) (many : Nat) (us : List Fn) (hE : EnvOK env) (hel : env.length ≤ 1000) (hm : many ≤ 1000) (h : FrC w w base cb K A c env many us F) :
    Calls Tryz.prog 64 #[.pointer (some ⟨cb, 0, none⟩), .int .i64 p, .string nm, .int .i64 t] w (AddR w base cb K us F A (letT env many p nm t)) := by
  have hb := (Below.refl w.heap.size w).alloc (Nat.le_refl _) (.cells #[.string nm] 9)
  have HX := Lib.hid (heap_alloc_new w (.cells #[.string nm] 9))
  have HF := Lib.hid (h.reb.below hb)
  have HF0 := Lib.hid h
  have HK1 := Lib.hid (Kept.of cb A hb)
  have hmf : ∀ (fn : Go.Fn) (first cap : Array Value) (w : World), (Instr.makeFunc fn first cap).run Tryz.prog w = .ok (.func fn first cap) w := fun _ _ _ _ => rfl
  have hs0 := lt_of_some HX.out
  have x0 : (w.alloc (.cells #[.string nm] 9)).cell? ⟨w.heap.size, 0, none⟩ = some (.string nm) := Lib.cell_of_heap HX.out 0
  have HH := Lib.hid (has_var ⟨w.heap.size, 0, none⟩ nm A c env hE _ HF.out.chk.vars (clo_add w.heap.size nm _ hs0 x0) hel)
  have hbs := h.bs
  have hwb : base ≤ w.heap.size := h.bs
  have hbc : base ≤ cb := h.chk.b0
  clear hb h hE
  go_enter Tryz.func64, Tryz.ntmps64
  go_upto_region 1 with (fail)
  generalize w.alloc _ = w1 at HX HF HH HK1 hs0 x0 ⊢
  generalize hbx : w.heap.size = bx at HX HH hs0 x0 ⊢
  have hbb : base ≤ bx := by omega
  clear hbx
  obtain ⟨⟨-, -, -, -, -, -, -, c7, -⟩, -⟩ := facts9 HF.out.chk.blk
  obtain ⟨bd, hbd⟩ : ∃ b, decide (lookE env nm ≠ 0) = b := ⟨_, rfl⟩
  rw [hbd] at HH
  have HBD := Lib.hid hbd
  clear hbd
  go_wp2_with fail
  refine HH.out.mono ?_
  rintro e w2 ⟨rfl, hb2⟩
  have HF2 := Lib.hid (HF.out.below hb2)
  have HX2 := Lib.hid ((hb2.block _ hs0).trans HX.out)
  have hs2 := lt_of_some HX2.out
  have HK2 := Lib.hid (HK1.out.trans (Kept.of cb A hb2))
  clear hb2 x0 c7 HF HX HH hs0 HK1
  cases bd with
  | true =>
    have HL : Hid (lookE env nm ≠ 0) := Lib.hid (of_decide_eq_true HBD.out)
    go_wp2_with fail
    refine ⟨rfl, HF2.out.bel, ?_⟩
    unfold letT
    rw [if_pos HL.out]
    rfl
  | false =>
    have HL : Hid (lookE env nm = 0) := Lib.hid (by have := of_decide_eq_false HBD.out; simpa using this)
    obtain ⟨⟨-, -, -, -, -, -, -, c7, c8⟩, -, f8⟩ := facts9 HF2.out.chk.blk
    have HK3 := Lib.hid HF2.out.chk.setMany
    have HG3 := Lib.hid (grown_set w2 cb 8 (.int .i64 ((many : Int) + 1)))
    have hcx : cb ≠ bx := by
      intro e
      have h1 := HF2.out.chk.blk
      rw [e, HX2.out] at h1
      injection h1 with h1
      injection h1 with h1 h2
      simp at h1
    have hm' : (many : Int) ≤ 1000 := by omega
    go_upto_region 4 with (fail)
    clear c7 c8 f8
    have HK3' := Lib.hid (HK2.out.trans (Kept.set w2 cb A 8 (.int .i64 ((many : Int) + 1))))
    have HB3 := Lib.hid (below_set HF2.out.bel hbc 8 (.int .i64 ((many : Int) + 1)))
    have HX3 := Lib.hid ((HG3.out.block bx hs2 (by simpa using fun e => hcx e.symm)).trans HX2.out)
    generalize w2.setCell _ _ = w3 at HK3 HG3 HB3 HX3 HK3' ⊢
    obtain ⟨⟨-, -, -, -, -, -, -, -, c8⟩, -⟩ := facts9 HK3.out.blk
    have c8' : w3.cell? ⟨cb, 8, none⟩ = some (.int .i64 ((many : Int) + 1)) := c8
    clear c8
    by_cases h64 : 64 ≤ many
    · have h64' : (64 : Int) < (many : Int) + 1 := by omega
      have H6 := Lib.hid h64
      clear h64
      go_wp2_with fail
      refine ⟨rfl, HB3.out, ?_⟩
      unfold letT
      rw [if_neg (by rw [HL.out]; simp), if_pos H6.out]
      rfl
    · have h64' : (many : Int) + 1 ≤ 64 := by omega
      have H6 := Lib.hid h64
      clear h64
      go_upto_region 6 with (fail)
      clear c8'
      have HKd := Lib.hid (HK3.out.below (bel_drew w3))
      have HKP := Lib.hid (HK3'.out.trans (Kept.of cb A (bel_drew w3)))
      have HBd := Lib.hid (HB3.out.trans ((bel_drew w3).mono (Nat.le_trans hbs HB3.out.size)))
      obtain ⟨⟨-, -, -, -, -, -, -, c7, -⟩, -, -⟩ := facts9 HK3.out.blk
      have x0 : w3.cell? ⟨bx, 0, none⟩ = some (.string nm) := Lib.cell_of_heap HX3.out 0
      have hcb3 := HK3.out.lt
      have hbx3 := lt_of_some HX3.out
      go_region_law (first | (refine step_app1 elemVar (by rfl) _ _ (by rfl) base _ env.length (envCells env) (by rfl) (HKd.out.row.alloc _) w3.heap.size 1 #[.string nm, .int .i64 t] (by rfl) (heap_alloc_new w3.drew _) rfl (by simp [Value.oneCell']) (by omega) (by simp; omega) ?_; intro g9 cap9 w9 hown9 hgrow9 hat9 hlt9; have hch := HKd.out.app hown9 hgrow9 hat9; have q1 := (facts9 hch.1).1.2.2.2.2.2.2.2.1; have q2 := (facts9 hch.1).2.1))
      all_goals
        have HBn := Lib.hid (below_set (below_app ((HBd.out).alloc (Nat.le_trans hbs HB3.out.size) (.cells #[.string nm, .int .i64 t] 201)) (HKd.out.row.alloc (.cells #[.string nm, .int .i64 t] 201)) (Nat.le_refl _) (by have := HB3.out.size; simp; omega) hgrow9) hbc 7 (.slice (some ⟨g9, 0, none⟩) (env.length + 1) cap9))
        have HKn := Lib.hid hch.2
        have HKK := Lib.hid ((HKP.out.trans (Kept.app cb hgrow9 hat9)).trans (Kept.set w9 cb _ 7 (.slice (some ⟨g9, 0, none⟩) (env.length + 1) cap9)))
        clear hch hgrow9 hat9 hown9 q1 q2 x0 c7
        go_wp2_with fail
        go_end0
        refine ⟨HBn.out, ?_⟩
        unfold letT
        rw [if_neg (by rw [HL.out]; simp), if_neg H6.out]
        exact ⟨rfl, _, _, HF0.out.other HBn.out HKn.out, HKK.out⟩
end Go.Proofs.YtmngofgminlloaaGreatDoor

namespace Go.Proofs.YtmngofgminlloaaGreatDoor
open Go.RowKit Tw

theorem smsF_all' : ∀ (l : List Sm) (left : Nat), smsF l left = 0 → ∀ s ∈ l, smF s left = 0 := by
  intro l
  induction l with
  | nil => intro left _ s hs; cases hs
  | cons b l ih =>
    intro left h s hs
    rw [smsF] at h
    split at h
    · rename_i h0
      rcases List.mem_cons.1 hs with rfl | hs
      · exact h0
      · exact ih left h s hs
    · rename_i h0; exact absurd h h0
theorem smF_parts' {s : Sm} {left : Nat} (h : smF s left = 0) : 1 ≤ left ∧ (1 ≤ s.kind ∧ s.kind ≤ 7) ∧ exF s.a (left - 1) = 0 ∧ (s.kind = 3 ∨ s.kind = 4 → smsF s.body (left - 1) = 0) ∧ (s.kind = 3 → smsF s.els (left - 1) = 0) := by
  cases s with | mk k nm a body els p =>
  simp only [Sm.kind, Sm.a, Sm.body, Sm.els]
  rw [smF] at h
  by_cases h0 : left = 0
  · rw [if_pos h0] at h; cases h
  rw [if_neg h0] at h
  by_cases h1 : k < 1 ∨ 7 < k ∨ (k ≤ 2 ∧ nameB nm = false)
  · rw [if_pos h1] at h; cases h
  rw [if_neg h1] at h
  by_cases h2 : exF a (left - 1) = 0
  · rw [if_neg (fun e => e h2)] at h
    by_cases h3 : (k = 3 ∨ k = 4) ∧ smsF body (left - 1) ≠ 0
    · rw [if_pos h3] at h; exact absurd h h3.2
    · rw [if_neg h3] at h
      refine ⟨by omega, by omega, h2, fun hk => ?_, fun hk => ?_⟩
      · by_cases e : smsF body (left - 1) = 0
        · exact e
        · exact absurd ⟨hk, e⟩ h3
      · rw [if_pos hk] at h; exact h
  · rw [if_pos h2] at h; exact absurd h h2
section
variable {us : List Fn} {out : Int} {s : Sm} {env : Env} {m : Nat}
theorem smT_1 (h : s.kind = 1) : smT us out s env m = (exT us env s.a).bind fun t => (letT env m s.pos s.name t).bind fun z => .ok (z.1, z.2, false) := by
  cases s with | mk k nm a body els p =>
  simp only [Sm.kind, Sm.name, Sm.a, Sm.pos] at *
  subst h
  rw [smT]
  cases exT us env a with
  | bad q e => simp [TyR.bind]
  | ok t => simp [TyR.bind]; cases letT env m p nm t <;> rfl
theorem smT_2n (h : s.kind = 2) (h0 : lookE env s.name = 0) : smT us out s env m = .bad s.pos 16 := by
  cases s with | mk k nm a body els p => simp only [Sm.kind, Sm.name] at *; rw [smT, if_pos ⟨h, h0⟩]; rfl
theorem smT_2 (h : s.kind = 2) (h0 : lookE env s.name ≠ 0) : smT us out s env m = (wantT us env s.a (lookE env s.name)).bind fun _ => .ok (env, m, false) := by
  cases s with | mk k nm a body els p =>
  simp only [Sm.kind, Sm.name, Sm.a, Sm.pos] at *
  subst h
  rw [smT, if_neg (fun e => h0 e.2)]
  unfold wantT
  cases exT us env a with
  | bad q e => simp [TyR.bind]
  | ok t => simp only; by_cases e : t = lookE env nm <;> simp [TyR.bind, e]
theorem smT_3 (h : s.kind = 3) : smT us out s env m = (wantT us env s.a 2).bind fun _ => (blT us out s.body env m).bind fun z => (blT us out s.els env z.1).bind fun y => .ok (env, y.1, z.2 && y.2) := by
  cases s with | mk k nm a body els p =>
  simp only [Sm.kind, Sm.name, Sm.a, Sm.pos, Sm.body, Sm.els] at *
  subst h
  rw [smT]
  unfold wantT
  cases exT us env a with
  | bad q e => simp [TyR.bind]
  | ok t =>
    by_cases e : t = 2
    · subst e; simp [TyR.bind]
      cases blT us out body env m with
      | bad q e => rfl
      | ok z => obtain ⟨a1, b1⟩ := z; simp only; cases blT us out els env a1 <;> rfl
    · simp [TyR.bind, e]
theorem smT_4 (h : s.kind = 4) : smT us out s env m = (wantT us env s.a 2).bind fun _ => (blT us out s.body env m).bind fun z => .ok (env, z.1, false) := by
  cases s with | mk k nm a body els p =>
  simp only [Sm.kind, Sm.name, Sm.a, Sm.pos, Sm.body, Sm.els] at *
  subst h
  rw [smT]
  unfold wantT
  cases exT us env a with
  | bad q e => simp [TyR.bind]
  | ok t =>
    by_cases e : t = 2
    · subst e; simp [TyR.bind]; cases blT us out body env m <;> rfl
    · simp [TyR.bind, e]
theorem smT_5 (h : s.kind = 5) : smT us out s env m = (wantT us env s.a out).bind fun _ => .ok (env, m, true) := by
  cases s with | mk k nm a body els p =>
  simp only [Sm.kind, Sm.name, Sm.a, Sm.pos] at *
  subst h
  rw [smT]
  unfold wantT
  cases exT us env a with
  | bad q e => simp [TyR.bind]
  | ok t => simp; by_cases e : t = out <;> simp [TyR.bind, e]
theorem smT_6 (h : s.kind = 6) : smT us out s env m = (wantT us env s.a 1).bind fun _ => .ok (env, m, false) := by
  cases s with | mk k nm a body els p =>
  simp only [Sm.kind, Sm.name, Sm.a, Sm.pos] at *
  subst h
  rw [smT]
  unfold wantT
  cases exT us env a with
  | bad q e => simp [TyR.bind]
  | ok t => simp; by_cases e : t = 1 <;> simp [TyR.bind, e]
theorem smT_7 (h : s.kind = 7) : smT us out s env m = (exT us env s.a).bind fun _ => .ok (env, m, false) := by
  cases s with | mk k nm a body els p =>
  simp only [Sm.kind, Sm.name, Sm.a, Sm.pos] at *
  subst h
  rw [smT]
  cases exT us env a <;> simp [TyR.bind]
end
/-- What stmt, block answer. -/
def StmtR (w : World) (base cb : Nat) (K : Hd) (us : List Fn) (F : Nat → Prop) (A0 : Option Addr) (r : TyR (Env × Nat × Bool)) (e : Ending) (w' : World) : Prop :=
  Below base w w' ∧ match r with
  | .ok (env, m, b) => e = .returned (.bool b) ∧ ∃ A c, FrC w w' base cb K A c env m us F ∧ Kept w w' cb A0 A
  | .bad p q => e = faultE p q
def BlockR (w : World) (base cb : Nat) (K : Hd) (us : List Fn) (F : Nat → Prop) (A0 : Option Addr) (env : Env) (r : TyR (Nat × Bool)) (e : Ending) (w' : World) : Prop :=
  Below base w w' ∧ match r with
  | .ok (m, b) => e = .returned (.bool b) ∧ ∃ A c, FrC w w' base cb K A c env m us F ∧ Kept w w' cb A0 A
  | .bad p q => e = faultE p q
/-- What the script's functions have, and the variables. -/
structure OkC (us : List Fn) (env : Env) (many : Nat) : Prop where
  fz : ∀ f ∈ us, FnZ f
  ul : us.length ≤ 281474976710656
  outs : OutsOK us
  ev : EnvOK env
  el : env.length ≤ many
  m64 : many ≤ 64
def BlkC (left : Nat) : Prop :=
  ∀ (l : List Sm) (B : Option Addr) (d : Nat) (F : Nat → Prop) (w : World) (base cb : Nat) (K : Hd) (A : Option Addr) (c : Nat) (env : Env) (many : Nat) (us : List Fn), smsF l left = 0 → (∀ s ∈ l, SmZ s) → l.length ≤ 281474976710656 → OkC us env many →
    FrC w w base cb K A c env many us F → StmtsIn w F (.slice B l.length d) l → Calls Tryz.prog 65 #[.pointer (some ⟨cb, 0, none⟩), .slice B l.length d] w (BlockR w base cb K us F A env (blT us K.out l env many))
def StmC (left : Nat) : Prop :=
  ∀ (s : Sm) (Aa Ab Ae : Option Addr) (ca cbb ce : Nat) (F : Nat → Prop) (w : World) (base cb : Nat) (K : Hd) (A : Option Addr) (c : Nat) (env : Env) (many : Nat) (us : List Fn), smF s left = 0 → SmZ s → OkC us env many →
    FrC w w base cb K A c env many us F → ArgsIn w F (.slice Aa s.a.args.length ca) s.a.args → StmtsIn w F (.slice Ab s.body.length cbb) s.body → StmtsIn w F (.slice Ae s.els.length ce) s.els →
    Calls Tryz.prog 115 #[.pointer (some ⟨cb, 0, none⟩), .agg #[.int .i64 s.kind, .string s.name, .int .i64 s.a.kind, .int .i64 s.a.n, .string s.a.text, .slice Aa s.a.args.length ca, .int .i64 s.a.pos, .slice Ab s.body.length cbb, .slice Ae s.els.length ce, .int .i64 s.pos]] w (StmtR w base cb K us F A (smT us K.out s env many))
set_option maxRecDepth 100000 in
set_option maxHeartbeats 16000000 in
theorem stmt_x (left : Nat) (ib : 1 ≤ left → BlkC (left - 1)) : StmC left := by
  intro s Aa Ab Ae ca cbb ce F w base cb K A c env many us hsf hZ hK h hka hkb hke
  obtain ⟨hl1, hk17, hex, hbo, hel⟩ := smF_parts' hsf
  have hel2 := hK.el; have hm64 := hK.m64
  have hlen : env.length ≤ 1000 := by omega
  have CW : Hid (∀ (W : World) (ty : Int), FrC w W base cb K A c env many us F → Calls Tryz.prog 167 #[.pointer (some ⟨cb, 0, none⟩), .agg #[.int .i64 s.a.kind, .int .i64 s.a.n, .string s.a.text, .slice Aa s.a.args.length ca, .int .i64 s.a.pos], .int .i64 ty] W fun e w' => EndT (wantT us env s.a ty) (fun _ => .tuple #[]) e ∧ Below W.heap.size W w') :=
    Lib.hid (fun W ty hW => want_all (left - 1) s.a ty Aa ca F W base cb K A c env many us hex hZ.parts.2.1 hK.fz hK.ul hlen hK.ev hK.outs hW.reb (h.args hW.bel hka))
  have CX : Hid (∀ (W : World), FrC w W base cb K A c env many us F → Calls Tryz.prog 165 #[.pointer (some ⟨cb, 0, none⟩), .agg #[.int .i64 s.a.kind, .int .i64 s.a.n, .string s.a.text, .slice Aa s.a.args.length ca, .int .i64 s.a.pos]] W fun e w' => EndT (exT us env s.a) (.int .i64 ·) e ∧ Below W.heap.size W w') :=
    Lib.hid (fun W hW => expr_x (left - 1) s.a Aa ca F W base cb K A c env many us hex hZ.parts.2.1 hK.fz hK.ul hlen hK.ev hK.outs hW.reb (h.args hW.bel hka))
  have CB : Hid ((s.kind = 3 ∨ s.kind = 4) → ∀ (W : World) (A' : Option Addr) (c' m : Nat), FrC w W base cb K A' c' env m us F → env.length ≤ m → m ≤ 64 → Calls Tryz.prog 65 #[.pointer (some ⟨cb, 0, none⟩), .slice Ab s.body.length cbb] W (BlockR W base cb K us F A' env (blT us K.out s.body env m))) :=
    Lib.hid (fun hk W A' c' m hW h1 h2 => ib hl1 s.body Ab cbb F W base cb K A' c' env m us (hbo hk) hZ.parts.2.2.2.2.1 hZ.parts.2.2.1 { hK with el := h1, m64 := h2 } hW.reb (h.stms hW.bel hkb))
  have CE : Hid (s.kind = 3 → ∀ (W : World) (A' : Option Addr) (c' m : Nat), FrC w W base cb K A' c' env m us F → env.length ≤ m → m ≤ 64 → Calls Tryz.prog 65 #[.pointer (some ⟨cb, 0, none⟩), .slice Ae s.els.length ce] W (BlockR W base cb K us F A' env (blT us K.out s.els env m))) :=
    Lib.hid (fun hk W A' c' m hW h1 h2 => ib hl1 s.els Ae ce F W base cb K A' c' env m us (hel hk) hZ.parts.2.2.2.2.2 hZ.parts.2.2.2.1 { hK with el := h1, m64 := h2 } hW.reb (h.stms hW.bel hke))
  have hb := (Below.refl w.heap.size w).alloc (Nat.le_refl _) (.cells #[.int .i64 s.kind, .string s.name, .int .i64 s.a.kind, .int .i64 s.a.n, .string s.a.text, .slice Aa s.a.args.length ca, .int .i64 s.a.pos, .slice Ab s.body.length cbb, .slice Ae s.els.length ce, .int .i64 s.pos] 188)
  have HX := Lib.hid (heap_alloc_new w (.cells #[.int .i64 s.kind, .string s.name, .int .i64 s.a.kind, .int .i64 s.a.n, .string s.a.text, .slice Aa s.a.args.length ca, .int .i64 s.a.pos, .slice Ab s.body.length cbb, .slice Ae s.els.length ce, .int .i64 s.pos] 188))
  have HF := Lib.hid (h.reb.below hb)
  have HKP := Lib.hid (Kept.of cb A hb)
  have HK := Lib.hid hK; have HZ := Lib.hid hZ
  have hs0 := lt_of_some HX.out
  have hwb : base ≤ w.heap.size := h.bs
  have hbc : base ≤ cb := h.chk.b0
  have hcx : w.heap.size ≠ cb := by have := h.chk.lt; omega
  have hAx : ∀ a, A = some a → a.block ≠ w.heap.size := by
    rintro a rfl
    have := (h.chk.row.lt a.block rfl).2
    omega
  have hmf : ∀ (fn : Go.Fn) (first cap : Array Value) (w : World), (Instr.makeFunc fn first cap).run Tryz.prog w = .ok (.func fn first cap) w := fun _ _ _ _ => rfl
  have HAx := Lib.hid hAx
  clear hb h hK hZ hka hkb hke hsf hex hbo hel ib hAx
  go_enter Tryz.func115, Tryz.ntmps115
  go_upto_region 1 with (fail)
  generalize w.alloc _ = w1 at HX HF HKP hs0 ⊢
  generalize w.heap.size = bx at HX hs0 hwb hcx HAx ⊢
  obtain ⟨⟨z0, z1, z2, z3, z4, z5, z6, z7, z8, z9⟩, -⟩ := facts10 HX.out
  have hkk : s.kind = 1 ∨ s.kind = 2 ∨ s.kind = 3 ∨ s.kind = 4 ∨ s.kind = 5 ∨ s.kind = 6 ∨ s.kind = 7 := by omega
  rcases hkk with hk | hk | hk | hk | hk | hk | hk
  · have m1 : (s.kind == 1) = true := by simp [hk]
    have m2 : (s.kind == 2) = false := by simp [hk]
    have m3 : (s.kind == 3) = false := by simp [hk]
    have m4 : (s.kind == 4) = false := by simp [hk]
    have m5 : (s.kind == 5) = false := by simp [hk]
    have m6 : (s.kind == 6) = false := by simp [hk]
    have m7 : (s.kind == 7) = false := by simp [hk]
    go_wp2_with fail
    refine (CX.out w1 HF.out).mono ?_
    rintro e w2 ⟨he, hb2⟩
    have HF2 := Lib.hid (HF.out.below hb2)
    have HKP2 := Lib.hid (HKP.out.trans (Kept.of cb A hb2))
    obtain ⟨ra, hr⟩ : ∃ r, exT us env s.a = r := ⟨_, rfl⟩
    rw [hr] at he
    have Hra := Lib.hid hr
    clear hr
    cases ra with
    | bad q er =>
      have he' : e = faultE q er := he
      subst he'
      clear he
      unfold faultE
      go_wp2_with fail
      exact ⟨rfl, HF2.out.bel, by rw [smT_1 hk, Hra.out]; rfl⟩
    | ok t =>
      have he' : e = .returned (.int .i64 t) := he
      subst he'
      clear he
      have HX2 := Lib.hid ((hb2.block _ hs0).trans HX.out)
      have hs2 := lt_of_some HX2.out
      clear hb2
      clear z0 z1 z2 z3 z4 z5 z6 z7 z8 z9
      obtain ⟨⟨z0, z1, z2, z3, z4, z5, z6, z7, z8, z9⟩, -⟩ := facts10 HX2.out
      obtain ⟨r3, hr3⟩ : ∃ r, letT env many s.pos s.name t = r := ⟨_, rfl⟩
      have HR3 := Lib.hid hr3
      have HAD : Hid (Calls Tryz.prog 64 #[.pointer (some ⟨cb, 0, none⟩), .int .i64 s.pos, .string s.name, .int .i64 t] w2 (AddR w2 base cb K us F A r3)) := Lib.hid (by rw [← hr3]; exact add_x s.pos s.name t F w2 base cb K A c env many us HK.out.ev hlen (by omega) HF2.out.reb)
      clear hr3
      go_wp2_with fail
      refine HAD.out.mono ?_
      rintro e w3 ⟨hb3, hr⟩
      clear z0 z1 z2 z3 z4 z5 z6 z7 z8 z9
      have HB3 := Lib.hid (HF2.out.bel.trans hb3)
      cases r3 with
      | bad q er =>
        have he' : e = faultE q er := hr
        subst he'
        unfold faultE
        go_wp2_with fail
        exact ⟨rfl, HB3.out, by rw [smT_1 hk, Hra.out]; simp only [TyR.bind]; rw [HR3.out]; rfl⟩
      | ok z =>
        obtain ⟨e1, m1⟩ := z
        obtain ⟨he', A', c', hF', hKK⟩ := hr
        subst he'
        have HFn := Lib.hid (hF'.since HF2.out.bel)
        have HKn := Lib.hid (HKP2.out.trans hKK)
        clear hF' hb3 hKK
        go_wp2_with fail
        go_ret
        exact ⟨HB3.out, by rw [smT_1 hk, Hra.out]; simp only [TyR.bind]; rw [HR3.out]; exact ⟨rfl, _, _, HFn.out, HKn.out⟩⟩
  · have m1 : (s.kind == 1) = false := by simp [hk]
    have m2 : (s.kind == 2) = true := by simp [hk]
    have m3 : (s.kind == 3) = false := by simp [hk]
    have m4 : (s.kind == 4) = false := by simp [hk]
    have m5 : (s.kind == 5) = false := by simp [hk]
    have m6 : (s.kind == 6) = false := by simp [hk]
    have m7 : (s.kind == 7) = false := by simp [hk]
    have HI := Lib.hid (idx_set ⟨bx, 0, none⟩ s.name A c env w1 HF.out.chk.vars (clo_set bx s.name w1 hs0 z1) hlen)
    obtain ⟨⟨-, -, -, -, -, -, -, c7, -⟩, -⟩ := facts9 HF.out.chk.blk
    go_wp2_with fail
    refine HI.out.mono ?_
    rintro e w2 ⟨z, rfl, hz, hb2⟩
    have HF2 := Lib.hid (HF.out.below hb2)
    have HKP2 := Lib.hid (HKP.out.trans (Kept.of cb A hb2))
    clear c7 HI
    have HX2 := Lib.hid ((hb2.block _ hs0).trans HX.out)
    have hs2 := lt_of_some HX2.out
    clear hb2
    clear z0 z1 z2 z3 z4 z5 z6 z7 z8 z9
    obtain ⟨⟨z0, z1, z2, z3, z4, z5, z6, z7, z8, z9⟩, -⟩ := facts10 HX2.out
    obtain ⟨⟨-, -, -, -, -, -, -, c7, -⟩, -⟩ := facts9 HF2.out.chk.blk
    rcases hz with ⟨i, ty, h1, rfl⟩ | ⟨h1, rfl⟩
    · obtain ⟨q1, q2, q3⟩ := env_at HK.out.ev h1
      obtain ⟨g, rfl, hg, d0, d1⟩ := HF2.out.chk.var i (s.name, ty) h1
      simp only at d1
      have HQ := Lib.hid q1; have HQ2 := Lib.hid q2
      have k0 : (0 : Int) ≤ (i : Int) := by omega
      have k1 : (i : Int) < (env.length : Int) := by omega
      have HFd := Lib.hid (HF2.out.below (bel_drew w2))
      obtain ⟨ra, hr⟩ : ∃ r, wantT us env s.a ty = r := ⟨_, rfl⟩
      have Hra := Lib.hid hr
      have HD : Hid (Calls Tryz.prog 167 #[.pointer (some ⟨cb, 0, none⟩), .agg #[.int .i64 s.a.kind, .int .i64 s.a.n, .string s.a.text, .slice Aa s.a.args.length ca, .int .i64 s.a.pos], .int .i64 ty] w2.drew fun e w' => EndT ra (fun _ => .tuple #[]) e ∧ Below w2.drew.heap.size w2.drew w') := Lib.hid (by rw [← hr]; exact CW.out w2.drew ty HFd.out)
      clear h1 q1 q2 d0 hg hr
      go_upto_region 9 with (fail)
      cases ra with
      | bad q er =>
        go_region_dies
        all_goals
          go_at_call 167
          refine HD.out.mono ?_
          rintro e w3 ⟨he, hb3⟩
          have HF3 := Lib.hid (HFd.out.below hb3)
          have he' : e = faultE q er := he
          subst he'
          clear he hb3
          unfold faultE
          go_wp2_with fail
          exact ⟨rfl, HF3.out.bel, by rw [smT_2 hk (by rw [HQ.out]; exact HQ2.out), HQ.out, Hra.out]; rfl⟩
      | ok u =>
        go_region_law (first | (go_simp; go_at_call 167; refine HD.out.mono ?_; rintro e w3 ⟨he, hb3⟩; have he' : e = .returned (.tuple #[]) := he; subst he'; clear he))
        all_goals
          have HF3 := Lib.hid (HFd.out.below hb3)
          have HKn := Lib.hid ((HKP2.out.trans (Kept.of cb _ (bel_drew w2))).trans (Kept.of cb _ hb3))
          clear hb3 c7 d1
          clear z0 z1 z2 z3 z4 z5 z6 z7 z8 z9
          go_wp2_with fail
          go_ret
          exact ⟨HF3.out.bel, by rw [smT_2 hk (by rw [HQ.out]; exact HQ2.out), HQ.out, Hra.out]; exact ⟨rfl, _, _, HF3.out, HKn.out⟩⟩
    · have HN := Lib.hid (lookE_none h1)
      clear h1
      go_wp2_with fail
      exact ⟨rfl, HF2.out.bel, by rw [smT_2n hk HN.out]; rfl⟩
  · have m1 : (s.kind == 1) = false := by simp [hk]
    have m2 : (s.kind == 2) = false := by simp [hk]
    have m3 : (s.kind == 3) = true := by simp [hk]
    have m4 : (s.kind == 4) = false := by simp [hk]
    have m5 : (s.kind == 5) = false := by simp [hk]
    have m6 : (s.kind == 6) = false := by simp [hk]
    have m7 : (s.kind == 7) = false := by simp [hk]
    go_wp2_with fail
    refine (CW.out w1 2 HF.out).mono ?_
    rintro e w2 ⟨he, hb2⟩
    have HF2 := Lib.hid (HF.out.below hb2)
    have HKP2 := Lib.hid (HKP.out.trans (Kept.of cb A hb2))
    obtain ⟨ra, hr⟩ : ∃ r, wantT us env s.a 2 = r := ⟨_, rfl⟩
    rw [hr] at he
    have Hra := Lib.hid hr
    clear hr
    cases ra with
    | bad q er =>
      have he' : e = faultE q er := he
      subst he'
      clear he
      unfold faultE
      go_wp2_with fail
      exact ⟨rfl, HF2.out.bel, by rw [smT_3 hk, Hra.out]; rfl⟩
    | ok u =>
      have he' : e = .returned (.tuple #[]) := he
      subst he'
      clear he
      have HX2 := Lib.hid ((hb2.block _ hs0).trans HX.out)
      have hs2 := lt_of_some HX2.out
      clear hb2
      clear z0 z1 z2 z3 z4 z5 z6 z7 z8 z9
      obtain ⟨⟨z0, z1, z2, z3, z4, z5, z6, z7, z8, z9⟩, -⟩ := facts10 HX2.out
      have HFd := Lib.hid (HF2.out.below (bel_drew w2))
      have HKd := Lib.hid (HKP2.out.trans (Kept.of cb A (bel_drew w2)))
      obtain ⟨rb, hr⟩ : ∃ r, blT us K.out s.body env many = r := ⟨_, rfl⟩
      have HRB := Lib.hid hr
      have HDB : Hid (Calls Tryz.prog 65 #[.pointer (some ⟨cb, 0, none⟩), .slice Ab s.body.length cbb] w2.drew (BlockR w2.drew base cb K us F A env rb)) := Lib.hid (by rw [← hr]; exact CB.out (.inl hk) w2.drew A c many HFd.out hel2 hm64)
      clear hr
      go_upto_region 12 with (fail)
      cases rb with
      | bad q er =>
        go_region_dies
        all_goals
          go_at_call 65
          refine HDB.out.mono ?_
          rintro e w3 ⟨hb3, he⟩
          have HB3 := Lib.hid (HFd.out.bel.trans hb3)
          have he' : e = faultE q er := he
          subst he'
          clear he hb3
          unfold faultE
          go_wp2_with fail
          exact ⟨rfl, HB3.out, by rw [smT_3 hk, Hra.out]; simp only [TyR.bind]; rw [HRB.out]; rfl⟩
      | ok zb =>
        obtain ⟨m1, b1⟩ := zb
        have hm1 := (blT_le us K.out _ _ _ _ _ HRB.out).1
        have hm1' := (blT_le us K.out _ _ _ _ _ HRB.out).2 hm64
        obtain ⟨re, hr⟩ : ∃ r, blT us K.out s.els env m1 = r := ⟨_, rfl⟩
        have HRE := Lib.hid hr
        have HDE : Hid (∀ (W : World) (A' : Option Addr) (c' : Nat), FrC w W base cb K A' c' env m1 us F → Calls Tryz.prog 65 #[.pointer (some ⟨cb, 0, none⟩), .slice Ae s.els.length ce] W (BlockR W base cb K us F A' env re)) := Lib.hid (fun W A' c' hW => by rw [← hr]; exact CE.out hk W A' c' m1 hW (by omega) (by omega))
        clear hr
        cases re with
        | bad q er =>
          go_region_dies
          · rename_i K1 hK1
            go_at_call 65
            refine HDB.out.mono ?_
            rintro e w3 ⟨hb3, he', A3, c3, hF3, hK3⟩
            subst he'
            have HF3 := Lib.hid (hF3.since HFd.out.bel)
            have HX3 := Lib.hid ((hK3.blk bx hs2 hcx HAx.out).trans HX2.out)
            obtain ⟨⟨y0, y1, y2, y3, y4, y5, y6, y7, y8, y9⟩, -⟩ := facts10 HX3.out
            clear hb3 hF3 hK3
            refine hK1 _ _ ?_
            clear hK1 K1
            refine wpAny_ready (rs := [6]) (by kernel_rfl) (by simp) ?_
            refine AllReady.cons rfl (fun K2 hK2 => ?_) AllReady.nil
            go_simp
            refine hK2 _ _ ?_
            clear hK2 K2
            refine wpAny_ready (rs := [7]) (by kernel_rfl) (by simp) ?_
            refine AllReady.cons rfl (fun K3 hK3 => ?_) AllReady.nil
            go_simp
            clear hK3
            go_at_call 65
            refine (HDE.out w3 A3 c3 HF3.out).mono ?_
            rintro e w4 ⟨hb4, he⟩
            have HB4 := Lib.hid (HF3.out.bel.trans hb4)
            have he' : e = faultE q er := he
            subst he'
            clear he hb4
            unfold faultE
            exact ⟨rfl, HB4.out, by rw [smT_3 hk, Hra.out]; simp only [TyR.bind]; rw [HRB.out]; simp only [HRE.out]; rfl⟩
          · rename_i K1 hK1
            go_at_call 65
            refine HDB.out.mono ?_
            rintro e w3 ⟨hb3, he', A3, c3, hF3, hK3⟩
            subst he'
            have HF3 := Lib.hid (hF3.since HFd.out.bel)
            have HX3 := Lib.hid ((hK3.blk bx hs2 hcx HAx.out).trans HX2.out)
            obtain ⟨⟨y0, y1, y2, y3, y4, y5, y6, y7, y8, y9⟩, -⟩ := facts10 HX3.out
            clear hb3 hF3 hK3
            refine hK1 _ _ ?_
            clear hK1 K1
            refine wpAny_ready (rs := [7]) (by kernel_rfl) (by simp) ?_
            refine AllReady.cons rfl (fun K3 hK3 => ?_) AllReady.nil
            go_simp
            clear hK3
            go_at_call 65
            refine (HDE.out w3 A3 c3 HF3.out).mono ?_
            rintro e w4 ⟨hb4, he⟩
            have HB4 := Lib.hid (HF3.out.bel.trans hb4)
            have he' : e = faultE q er := he
            subst he'
            clear he hb4
            unfold faultE
            exact ⟨rfl, HB4.out, by rw [smT_3 hk, Hra.out]; simp only [TyR.bind]; rw [HRB.out]; simp only [HRE.out]; rfl⟩
          · rename_i K1 hK1
            go_at_call 65
            refine HDB.out.mono ?_
            rintro e w3 ⟨hb3, he', A3, c3, hF3, hK3⟩
            subst he'
            have HF3 := Lib.hid (hF3.since HFd.out.bel)
            have HX3 := Lib.hid ((hK3.blk bx hs2 hcx HAx.out).trans HX2.out)
            obtain ⟨⟨y0, y1, y2, y3, y4, y5, y6, y7, y8, y9⟩, -⟩ := facts10 HX3.out
            clear hb3 hF3 hK3
            refine hK1 _ _ ?_
            clear hK1 K1
            refine wpAny_ready (rs := [7]) (by kernel_rfl) (by simp) ?_
            refine AllReady.cons rfl (fun K3 hK3 => ?_) AllReady.nil
            go_simp
            clear hK3
            go_at_call 65
            refine (HDE.out w3 A3 c3 HF3.out).mono ?_
            rintro e w4 ⟨hb4, he⟩
            have HB4 := Lib.hid (HF3.out.bel.trans hb4)
            have he' : e = faultE q er := he
            subst he'
            clear he hb4
            unfold faultE
            exact ⟨rfl, HB4.out, by rw [smT_3 hk, Hra.out]; simp only [TyR.bind]; rw [HRB.out]; simp only [HRE.out]; rfl⟩
        | ok ze =>
          obtain ⟨m2', b2⟩ := ze
          go_region_law (first | (go_simp; go_at_call 65; refine (HDE.out w3 A3 c3 HF3.out).mono ?_; rintro e w4 ⟨hb4, he', A4, c4, hF4, hK4⟩; subst he'; have HF4 := Lib.hid (hF4.since HF3.out.bel); have HK4 := Lib.hid (HK3.out.trans hK4); clear hb4 hF4 hK4) | (go_simp; go_at_call 65; refine HDB.out.mono ?_; rintro e w3 ⟨hb3, he', A3, c3, hF3, hK3⟩; subst he'; have HF3 := Lib.hid (hF3.since HFd.out.bel); have HX3 := Lib.hid ((hK3.blk bx hs2 hcx HAx.out).trans HX2.out); have HK3 := Lib.hid (HKd.out.trans hK3); obtain ⟨⟨y0, y1, y2, y3, y4, y5, y6, y7, y8, y9⟩, -⟩ := facts10 HX3.out; clear hb3 hF3 hK3))
          all_goals
            cases b1 <;> cases b2
            all_goals
              go_wp2_with fail
              go_ret
              exact ⟨HF4.out.bel, by rw [smT_3 hk, Hra.out]; simp only [TyR.bind]; rw [HRB.out]; simp only [HRE.out]; exact ⟨rfl, _, _, HF4.out, HK4.out⟩⟩
  · have m1 : (s.kind == 1) = false := by simp [hk]
    have m2 : (s.kind == 2) = false := by simp [hk]
    have m3 : (s.kind == 3) = false := by simp [hk]
    have m4 : (s.kind == 4) = true := by simp [hk]
    have m5 : (s.kind == 5) = false := by simp [hk]
    have m6 : (s.kind == 6) = false := by simp [hk]
    have m7 : (s.kind == 7) = false := by simp [hk]
    go_wp2_with fail
    refine (CW.out w1 2 HF.out).mono ?_
    rintro e w2 ⟨he, hb2⟩
    have HF2 := Lib.hid (HF.out.below hb2)
    have HKP2 := Lib.hid (HKP.out.trans (Kept.of cb A hb2))
    obtain ⟨ra, hr⟩ : ∃ r, wantT us env s.a 2 = r := ⟨_, rfl⟩
    rw [hr] at he
    have Hra := Lib.hid hr
    clear hr
    cases ra with
    | bad q er =>
      have he' : e = faultE q er := he
      subst he'
      clear he
      unfold faultE
      go_wp2_with fail
      exact ⟨rfl, HF2.out.bel, by rw [smT_4 hk, Hra.out]; rfl⟩
    | ok u =>
      have he' : e = .returned (.tuple #[]) := he
      subst he'
      clear he
      have HX2 := Lib.hid ((hb2.block _ hs0).trans HX.out)
      have hs2 := lt_of_some HX2.out
      clear hb2
      clear z0 z1 z2 z3 z4 z5 z6 z7 z8 z9
      obtain ⟨⟨z0, z1, z2, z3, z4, z5, z6, z7, z8, z9⟩, -⟩ := facts10 HX2.out
      obtain ⟨rb, hr⟩ : ∃ r, blT us K.out s.body env many = r := ⟨_, rfl⟩
      have HRB := Lib.hid hr
      have HDB : Hid (Calls Tryz.prog 65 #[.pointer (some ⟨cb, 0, none⟩), .slice Ab s.body.length cbb] w2 (BlockR w2 base cb K us F A env rb)) := Lib.hid (by rw [← hr]; exact CB.out (.inr hk) w2 A c many HF2.out hel2 hm64)
      clear hr
      go_wp2_with fail
      refine HDB.out.mono ?_
      rintro e w3 ⟨hb3, he⟩
      have HB3 := Lib.hid (HF2.out.bel.trans hb3)
      clear z0 z1 z2 z3 z4 z5 z6 z7 z8 z9
      cases rb with
      | bad q er =>
        have he' : e = faultE q er := he
        subst he'
        clear he hb3
        unfold faultE
        go_wp2_with fail
        exact ⟨rfl, HB3.out, by rw [smT_4 hk, Hra.out]; simp only [TyR.bind]; rw [HRB.out]; rfl⟩
      | ok zb =>
        obtain ⟨m1, b1⟩ := zb
        obtain ⟨he', A', c', hF', hKK⟩ := he
        subst he'
        have HFn := Lib.hid (hF'.since HF2.out.bel)
        have HKn := Lib.hid (HKP2.out.trans hKK)
        clear hF' hb3 hKK
        go_wp2_with fail
        go_ret
        exact ⟨HB3.out, by rw [smT_4 hk, Hra.out]; simp only [TyR.bind]; rw [HRB.out]; exact ⟨rfl, _, _, HFn.out, HKn.out⟩⟩
  · have m1 : (s.kind == 1) = false := by simp [hk]
    have m2 : (s.kind == 2) = false := by simp [hk]
    have m3 : (s.kind == 3) = false := by simp [hk]
    have m4 : (s.kind == 4) = false := by simp [hk]
    have m5 : (s.kind == 5) = true := by simp [hk]
    have m6 : (s.kind == 6) = false := by simp [hk]
    have m7 : (s.kind == 7) = false := by simp [hk]
    obtain ⟨⟨-, -, -, -, c4, -⟩, -⟩ := facts9 HF.out.chk.blk
    have HFd := Lib.hid (HF.out.below (bel_drew w1))
    obtain ⟨ra, hr⟩ : ∃ r, wantT us env s.a K.out = r := ⟨_, rfl⟩
    have Hra := Lib.hid hr
    have HD : Hid (Calls Tryz.prog 167 #[.pointer (some ⟨cb, 0, none⟩), .agg #[.int .i64 s.a.kind, .int .i64 s.a.n, .string s.a.text, .slice Aa s.a.args.length ca, .int .i64 s.a.pos], .int .i64 K.out] w1.drew fun e w' => EndT ra (fun _ => .tuple #[]) e ∧ Below w1.drew.heap.size w1.drew w') := Lib.hid (by rw [← hr]; exact CW.out w1.drew K.out HFd.out)
    clear hr
    go_upto_region 18 with (fail)
    cases ra with
    | bad q er =>
      go_region_dies
      all_goals
        go_at_call 167
        refine HD.out.mono ?_
        rintro e w3 ⟨he, hb3⟩
        have HF3 := Lib.hid (HFd.out.below hb3)
        have he' : e = faultE q er := he
        subst he'
        clear he hb3
        unfold faultE
        go_wp2_with fail
        exact ⟨rfl, HF3.out.bel, by rw [smT_5 hk, Hra.out]; rfl⟩
    | ok u =>
      go_region_law (first | (go_simp; go_at_call 167; refine HD.out.mono ?_; rintro e w3 ⟨he, hb3⟩; have he' : e = .returned (.tuple #[]) := he; subst he'; clear he))
      all_goals
        have HF3 := Lib.hid (HFd.out.below hb3)
        have HKn := Lib.hid ((HKP.out.trans (Kept.of cb _ (bel_drew w1))).trans (Kept.of cb _ hb3))
        clear hb3 c4
        clear z0 z1 z2 z3 z4 z5 z6 z7 z8 z9
        go_wp2_with fail
        go_ret
        exact ⟨HF3.out.bel, by rw [smT_5 hk, Hra.out]; exact ⟨rfl, _, _, HF3.out, HKn.out⟩⟩
  · have m1 : (s.kind == 1) = false := by simp [hk]
    have m2 : (s.kind == 2) = false := by simp [hk]
    have m3 : (s.kind == 3) = false := by simp [hk]
    have m4 : (s.kind == 4) = false := by simp [hk]
    have m5 : (s.kind == 5) = false := by simp [hk]
    have m6 : (s.kind == 6) = true := by simp [hk]
    have m7 : (s.kind == 7) = false := by simp [hk]
    go_wp2_with fail
    refine (CW.out w1 1 HF.out).mono ?_
    rintro e w2 ⟨he, hb2⟩
    have HF2 := Lib.hid (HF.out.below hb2)
    have HKP2 := Lib.hid (HKP.out.trans (Kept.of cb A hb2))
    obtain ⟨ra, hr⟩ : ∃ r, wantT us env s.a 1 = r := ⟨_, rfl⟩
    rw [hr] at he
    have Hra := Lib.hid hr
    clear hr
    cases ra with
    | bad q er =>
      have he' : e = faultE q er := he
      subst he'
      clear he
      unfold faultE
      go_wp2_with fail
      exact ⟨rfl, HF2.out.bel, by rw [smT_6 hk, Hra.out]; rfl⟩
    | ok u =>
      have he' : e = .returned (.tuple #[]) := he
      subst he'
      clear he
      clear hb2
      clear z0 z1 z2 z3 z4 z5 z6 z7 z8 z9
      go_wp2_with fail
      go_ret
      exact ⟨HF2.out.bel, by rw [smT_6 hk, Hra.out]; exact ⟨rfl, _, _, HF2.out, HKP2.out⟩⟩
  · have m1 : (s.kind == 1) = false := by simp [hk]
    have m2 : (s.kind == 2) = false := by simp [hk]
    have m3 : (s.kind == 3) = false := by simp [hk]
    have m4 : (s.kind == 4) = false := by simp [hk]
    have m5 : (s.kind == 5) = false := by simp [hk]
    have m6 : (s.kind == 6) = false := by simp [hk]
    have m7 : (s.kind == 7) = true := by simp [hk]
    go_wp2_with fail
    refine (CX.out w1 HF.out).mono ?_
    rintro e w2 ⟨he, hb2⟩
    have HF2 := Lib.hid (HF.out.below hb2)
    have HKP2 := Lib.hid (HKP.out.trans (Kept.of cb A hb2))
    obtain ⟨ra, hr⟩ : ∃ r, exT us env s.a = r := ⟨_, rfl⟩
    rw [hr] at he
    have Hra := Lib.hid hr
    clear hr
    cases ra with
    | bad q er =>
      have he' : e = faultE q er := he
      subst he'
      clear he
      unfold faultE
      go_wp2_with fail
      exact ⟨rfl, HF2.out.bel, by rw [smT_7 hk, Hra.out]; rfl⟩
    | ok t =>
      have he' : e = .returned (.int .i64 t) := he
      subst he'
      clear he
      clear hb2
      clear z0 z1 z2 z3 z4 z5 z6 z7 z8 z9
      go_wp2_with fail
      go_ret
      exact ⟨HF2.out.bel, by rw [smT_7 hk, Hra.out]; exact ⟨rfl, _, _, HF2.out, HKP2.out⟩⟩
end Go.Proofs.YtmngofgminlloaaGreatDoor

namespace Go.Proofs.YtmngofgminlloaaGreatDoor
open Go.RowKit Tw

theorem Chk.cap {w : World} {base cb : Nat} {K : Hd} {A : Option Addr} {c : Nat} {env : Env} {many : Nat} (h : Chk w base cb K A c env many) : env.length ≤ c ∧ (A = none ∨ ∃ g, A = some ⟨g, 0, none⟩) := by
  rcases h.row.2 with ⟨h1, h2⟩ | ⟨g, cap, cur, h1, h2, h3, h4, h5, h6, h7⟩
  · injection h1 with e1 e2 e3; exact ⟨by omega, .inl e1⟩
  · injection h1 with e1 e2 e3; subst e3; exact ⟨h4, .inr ⟨g, e1⟩⟩
theorem runT_at' {us : List Fn} {out : Int} {l : List Sm} {j : Nat} {s : Sm} {env env' env2 : Env} {m m' m2 : Nat} {r r2 : Bool} (hs : l[j]? = some s) (h : runT us out (l.take j) env m false = .ok (env', m', r)) (h2 : smT us out s env' m' = .ok (env2, m2, r2)) : runT us out (l.take (j + 1)) env m false = .ok (env2, m2, r || r2) := by
  rw [take_snoc_at hs, runT_snoc, h]
  simp only [h2]
set_option maxRecDepth 100000 in
set_option maxHeartbeats 8000000 in
theorem block_x (left : Nat) (ist : StmC left) : BlkC left := by
  intro l B d F w base cb K A c env many us hsf hZ hlen hK h hA
  have HF := Lib.hid h; have HA := Lib.hid hA; have HZ := Lib.hid hZ; have HK := Lib.hid hK; have HSF := Lib.hid hsf; have IS := Lib.hid ist
  have hm64 := hK.m64; have hel := hK.el
  obtain ⟨⟨-, -, -, -, -, -, -, c7, -⟩, -⟩ := facts9 h.chk.blk
  clear h hA hZ hK hsf ist
  go_enter Tryz.func65, Tryz.ntmps65
  go_wp2_with fail
  clear c7
  go_loopw [6, 16] (fun u i wr => ∃ (j : Nat) (r : Bool) (env' : Env) (m : Nat) (A' : Option Addr) (c' : Nat), j ≤ l.length ∧ i = .int .i64 j ∧ u = .bool r ∧ Hid (runT us K.out (l.take j) env many false = .ok (env', m, r)) ∧ Hid (FrC w wr base cb K A' c' env' m us F) ∧ Hid (Kept w wr cb A A')) (fun _ i _ => l.length - (intOf i).toNat)
  case atStart => exact ⟨0, false, env, many, A, c, Nat.zero_le _, rfl, rfl, Lib.hid rfl, HF, Lib.hid (Kept.of cb A (Below.refl _ _))⟩
  case round =>
    obtain ⟨j, r, env', m, A', c', hj, rfl, rfl, HR, HFj, HKj⟩ := hrel
    by_cases hlt : j < l.length
    · obtain ⟨s, hs⟩ : ∃ s, l[j]? = some s := ⟨_, List.getElem?_eq_getElem hlt⟩
      obtain ⟨g, off, Aa, ca, Ab, cbb, Ae, ce, rfl, hFg, hg, hka, hkb, hke, hc⟩ := HA.out.at j s hs
      have hgb : g < base := HF.out.fb g hFg
      have b0 := (HFj.out.bel.cell (p := ⟨g, off + j * 10, none⟩) hgb).trans (hc 0 _ rfl)
      have b1 := (HFj.out.bel.cell (p := ⟨g, off + j * 10 + 1, none⟩) hgb).trans (hc 1 _ rfl)
      have b2 := (HFj.out.bel.cell (p := ⟨g, off + j * 10 + 2, none⟩) hgb).trans (hc 2 _ rfl)
      have b3 := (HFj.out.bel.cell (p := ⟨g, off + j * 10 + 3, none⟩) hgb).trans (hc 3 _ rfl)
      have b4 := (HFj.out.bel.cell (p := ⟨g, off + j * 10 + 4, none⟩) hgb).trans (hc 4 _ rfl)
      have b5 := (HFj.out.bel.cell (p := ⟨g, off + j * 10 + 5, none⟩) hgb).trans (hc 5 _ rfl)
      have b6 := (HFj.out.bel.cell (p := ⟨g, off + j * 10 + 6, none⟩) hgb).trans (hc 6 _ rfl)
      have b7 := (HFj.out.bel.cell (p := ⟨g, off + j * 10 + 7, none⟩) hgb).trans (hc 7 _ rfl)
      have b8 := (HFj.out.bel.cell (p := ⟨g, off + j * 10 + 8, none⟩) hgb).trans (hc 8 _ rfl)
      have b9 := (HFj.out.bel.cell (p := ⟨g, off + j * 10 + 9, none⟩) hgb).trans (hc 9 _ rfl)
      have hin := List.mem_of_getElem? hs
      have hle := runT_le _ HR.out
      have HOK : Hid (OkC us env' m) := Lib.hid ⟨HK.out.fz, HK.out.ul, HK.out.outs, runT_env HK.out.outs _ HK.out.ev HR.out, hle.2.2 hel, hle.2.1 hm64⟩
      have hb := (Below.refl wr.heap.size wr).alloc (Nat.le_refl _) (.cells #[.int .i64 s.kind, .string s.name, .int .i64 s.a.kind, .int .i64 s.a.n, .string s.a.text, .slice Aa s.a.args.length ca, .int .i64 s.a.pos, .slice Ab s.body.length cbb, .slice Ae s.els.length ce, .int .i64 s.pos] 188)
      have HFa := Lib.hid (HFj.out.below hb)
      have HXa := Lib.hid (heap_alloc_new wr (.cells #[.int .i64 s.kind, .string s.name, .int .i64 s.a.kind, .int .i64 s.a.n, .string s.a.text, .slice Aa s.a.args.length ca, .int .i64 s.a.pos, .slice Ab s.body.length cbb, .slice Ae s.els.length ce, .int .i64 s.pos] 188))
      have HKa := Lib.hid (HKj.out.trans (Kept.of cb A' hb))
      obtain ⟨rs, hr⟩ : ∃ r, smT us K.out s env' m = r := ⟨_, rfl⟩
      have HRS := Lib.hid hr
      have HS : Hid (Calls Tryz.prog 115 #[.pointer (some ⟨cb, 0, none⟩), .agg #[.int .i64 s.kind, .string s.name, .int .i64 s.a.kind, .int .i64 s.a.n, .string s.a.text, .slice Aa s.a.args.length ca, .int .i64 s.a.pos, .slice Ab s.body.length cbb, .slice Ae s.els.length ce, .int .i64 s.pos]] (wr.alloc (.cells #[.int .i64 s.kind, .string s.name, .int .i64 s.a.kind, .int .i64 s.a.n, .string s.a.text, .slice Aa s.a.args.length ca, .int .i64 s.a.pos, .slice Ab s.body.length cbb, .slice Ae s.els.length ce, .int .i64 s.pos] 188)) (StmtR (wr.alloc (.cells #[.int .i64 s.kind, .string s.name, .int .i64 s.a.kind, .int .i64 s.a.n, .string s.a.text, .slice Aa s.a.args.length ca, .int .i64 s.a.pos, .slice Ab s.body.length cbb, .slice Ae s.els.length ce, .int .i64 s.pos] 188)) base cb K us F A' rs)) := Lib.hid (by
        rw [← hr]
        exact IS.out s Aa Ab Ae ca cbb ce F _ base cb K A' c' env' m us (smsF_all' _ _ HSF.out s hin) (HZ.out s hin) HOK.out HFa.out.reb (HF.out.args HFa.out.bel hka) (HF.out.stms HFa.out.bel hkb) (HF.out.stms HFa.out.bel hke))
      have HSJ := Lib.hid hs
      have k0 : (0 : Int) ≤ (j : Int) := by omega
      have k1 : (j : Int) < (l.length : Int) := by omega
      clear hs hka hkb hke hc hin hle hr hb hFg
      go_upto_region 6 with (fail)
      clear b0 b1 b2 b3 b4 b5 b6 b7 b8 b9
      obtain ⟨⟨z0, z1, z2, z3, z4, z5, z6, z7, z8, z9⟩, -⟩ := facts10 HXa.out
      generalize wr.alloc _ = wa at HFa HXa HKa HS z0 z1 z2 z3 z4 z5 z6 z7 z8 z9 ⊢
      generalize wr.heap.size = bx at HXa z0 z1 z2 z3 z4 z5 z6 z7 z8 z9 ⊢
      go_wp2_with fail
      refine HS.out.mono ?_
      rintro e w2 ⟨hb2, he⟩
      have HB2 := Lib.hid (HFa.out.bel.trans hb2)
      clear z0 z1 z2 z3 z4 z5 z6 z7 z8 z9 hb2 HS
      cases rs with
      | bad q er =>
        have he' : e = faultE q er := he
        subst he'
        clear he
        unfold faultE
        go_wp2_with fail
        exact ⟨rfl, HB2.out, by rw [blT_hit HSJ.out HR.out HRS.out]; rfl⟩
      | ok z =>
        obtain ⟨env2, m2, r2⟩ := z
        obtain ⟨he', A2, c2, hF2, hK2⟩ := he
        subst he'
        have HF2 := Lib.hid (hF2.since HFa.out.bel)
        have HK2 := Lib.hid (HKa.out.trans hK2)
        have HRN := Lib.hid (runT_at' HSJ.out HR.out HRS.out)
        clear hF2 hK2
        cases r2 with
        | false =>
          go_wp2_with fail
          go_roundw
          case rel => exact ⟨j + 1, r, env2, m2, A2, c2, by omega, by go_num, rfl, Lib.hid (by have := HRN.out; rwa [Bool.or_false] at this), HF2, HK2⟩
          case measure => simp [intOf]; omega
        | true =>
          go_wp2_with fail
          go_roundw
          case rel => exact ⟨j + 1, true, env2, m2, A2, c2, by omega, by go_num, rfl, Lib.hid (by have := HRN.out; rwa [Bool.or_true] at this), HF2, HK2⟩
          case measure => simp [intOf]; omega
    · obtain rfl : j = l.length := by omega
      obtain ⟨pre, rfl⟩ := runT_old _ HR.out
      obtain ⟨hcap, hA0⟩ := HFj.out.chk.cap
      have hn0 : (0 : Int) ≤ (env.length : Int) := by omega
      have hn1 : (env.length : Int) ≤ (c' : Int) := by simp at hcap; omega
      obtain ⟨⟨-, -, -, -, -, -, -, c7, -⟩, f7, -⟩ := facts9 HFj.out.chk.blk
      have HCU := Lib.hid HFj.out.chk.cut
      have HBU := Lib.hid (below_set HFj.out.bel HFj.out.chk.b0 7 (.slice A' env.length c'))
      have HKU := Lib.hid (HKj.out.trans (Kept.set wr cb A' 7 (.slice A' env.length c')))
      have HRR : Hid (blT us K.out l env many = .ok (m, r)) := Lib.hid (by have := HR.out; rw [List.take_length] at this; rw [blT_eq, this])
      rcases hA0 with rfl | ⟨gA, rfl⟩
      all_goals
        go_wp2_with fail
        go_ret
        exact ⟨HBU.out, by rw [HRR.out]; exact ⟨rfl, _, _, HF.out.other HBU.out HCU.out, HKU.out⟩⟩
theorem blk_x : ∀ left : Nat, BlkC left := by
  intro left
  induction left with
  | zero => exact block_x 0 (stmt_x 0 fun h => absurd h (by decide))
  | succ left ih => exact block_x (left + 1) (stmt_x (left + 1) fun _ => ih)
end Go.Proofs.YtmngofgminlloaaGreatDoor
