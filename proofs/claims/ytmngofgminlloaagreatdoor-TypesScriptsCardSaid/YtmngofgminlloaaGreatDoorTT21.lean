/-
  The program's checker of names and types: expressions, kind by kind.
  The program's checker of names and types: operators.
-/
import Derived.Test.YtmngofgminlloaaGreatDoorTT20
import Derived.RegionDies
set_option linter.all false
namespace Go.Proofs.YtmngofgminlloaaGreatDoor
open Go.RowKit Tw

theorem Chk.vars {w : World} {base cb : Nat} {K : Hd} {A : Option Addr} {c : Nat} {env : Env} {many : Nat} (h : Chk w base cb K A c env many) : VarsAt w A env := fun i q hq => h.var i q hq
theorem FnsIn.form' {w : World} {F : Nat → Prop} {v : Value} {us : List Fn} (h : FnsIn w F v us) : ∃ A c, v = .slice A us.length c := by
  rcases h with ⟨a, c, rfl, rfl⟩ | ⟨g, off, cap, _, _, _, rfl, _⟩
  · exact ⟨a, c, rfl⟩
  · exact ⟨_, cap, rfl⟩
theorem env_at {env : Env} (hE : EnvOK env) {i : Nat} {s : ByteArray} {t : Int} (h : env.reverse[i]? = some (s, t)) : lookE env s = t ∧ t ≠ 0 ∧ i < env.length := by
  have hm := List.mem_reverse.1 (List.mem_of_getElem? h)
  have h3 := hE.2 _ hm
  simp only at h3
  have := (List.getElem?_eq_some_iff.1 h).1
  exact ⟨lookE_some hE.1 hm, by omega, by simpa using this⟩
theorem headD_at' {ws : List Int} {j : Nat} {s : Int} (h : ws[j]? = some s) : (ws.drop j).headD 1 = s := by
  rw [List.headD_eq_head?_getD, List.head?_drop, h]; rfl
set_option maxRecDepth 100000 in
set_option maxHeartbeats 16000000 in
theorem ex_k1 (n : Int) (t : ByteArray) (xs : List Ex) (p : Int) (B : Option Addr) (d : Nat) (F : Nat → Prop) (w : World) (base cb : Nat) (K : Hd) (A : Option Addr) (c : Nat) (env : Env) (many : Nat) (us : List Fn) (hZ : ExZ (.mk 1 n t xs p)) (hFZ : ∀ f ∈ us, FnZ f) (hUL : us.length ≤ 281474976710656) (hEL : env.length ≤ 1000) (hE : EnvOK env) (hO : OutsOK us) (h : FrC w w base cb K A c env many us F) (hA : ArgsIn w F (.slice B xs.length d) xs) :
    Calls Tryz.prog 165 #[.pointer (some ⟨cb, 0, none⟩), .agg #[.int .i64 1, .int .i64 n, .string t, .slice B xs.length d, .int .i64 p]] w fun e w' => EndT (exT us env (.mk 1 n t xs p)) (.int .i64 ·) e ∧ Below w.heap.size w w' := by
  have hb := (Below.refl w.heap.size w).alloc (Nat.le_refl _) (.cells #[.int .i64 1, .int .i64 n, .string t, .slice B xs.length d, .int .i64 p] 186)
  have HX := Lib.hid (heap_alloc_new w (.cells #[.int .i64 1, .int .i64 n, .string t, .slice B xs.length d, .int .i64 p] 186))
  have HB := Lib.hid hb
  have HF := Lib.hid (h.reb.below hb)
  have HA := Lib.hid (h.args (hb.mono h.bs) hA)
  have HZ := Lib.hid hZ; have HFZ := Lib.hid hFZ; have HUL := Lib.hid hUL; have HE := Lib.hid hE; have HO := Lib.hid hO
  have hs0 := lt_of_some HX.out
  have hmf : ∀ (fn : Go.Fn) (first cap : Array Value) (w : World), (Instr.makeFunc fn first cap).run Tryz.prog w = .ok (.func fn first cap) w := fun _ _ _ _ => rfl
  clear hb h hA hZ hFZ hUL hE hO
  go_enter Tryz.func165, Tryz.ntmps165
  go_upto_region 1 with (fail)
  obtain ⟨⟨z0, z1, z2, z3, z4⟩, -⟩ := facts5 HX.out
  generalize w.alloc _ = w1 at HX HB HF HA hs0 z0 z1 z2 z3 z4 ⊢
  generalize w.heap.size = b1 at HX hs0 z0 z1 z2 z3 z4 ⊢
  go_wp2_with fail
  go_ret
  refine ⟨?_, HB.out⟩
  rw [exT]; rfl
set_option maxRecDepth 100000 in
set_option maxHeartbeats 16000000 in
theorem ex_k2 (n : Int) (t : ByteArray) (xs : List Ex) (p : Int) (B : Option Addr) (d : Nat) (F : Nat → Prop) (w : World) (base cb : Nat) (K : Hd) (A : Option Addr) (c : Nat) (env : Env) (many : Nat) (us : List Fn) (hZ : ExZ (.mk 2 n t xs p)) (hFZ : ∀ f ∈ us, FnZ f) (hUL : us.length ≤ 281474976710656) (hEL : env.length ≤ 1000) (hE : EnvOK env) (hO : OutsOK us) (h : FrC w w base cb K A c env many us F) (hA : ArgsIn w F (.slice B xs.length d) xs) :
    Calls Tryz.prog 165 #[.pointer (some ⟨cb, 0, none⟩), .agg #[.int .i64 2, .int .i64 n, .string t, .slice B xs.length d, .int .i64 p]] w fun e w' => EndT (exT us env (.mk 2 n t xs p)) (.int .i64 ·) e ∧ Below w.heap.size w w' := by
  have hb := (Below.refl w.heap.size w).alloc (Nat.le_refl _) (.cells #[.int .i64 2, .int .i64 n, .string t, .slice B xs.length d, .int .i64 p] 186)
  have HX := Lib.hid (heap_alloc_new w (.cells #[.int .i64 2, .int .i64 n, .string t, .slice B xs.length d, .int .i64 p] 186))
  have HB := Lib.hid hb
  have HF := Lib.hid (h.reb.below hb)
  have HA := Lib.hid (h.args (hb.mono h.bs) hA)
  have HZ := Lib.hid hZ; have HFZ := Lib.hid hFZ; have HUL := Lib.hid hUL; have HE := Lib.hid hE; have HO := Lib.hid hO
  have hs0 := lt_of_some HX.out
  have hmf : ∀ (fn : Go.Fn) (first cap : Array Value) (w : World), (Instr.makeFunc fn first cap).run Tryz.prog w = .ok (.func fn first cap) w := fun _ _ _ _ => rfl
  clear hb h hA hZ hFZ hUL hE hO
  go_enter Tryz.func165, Tryz.ntmps165
  go_upto_region 1 with (fail)
  obtain ⟨⟨z0, z1, z2, z3, z4⟩, -⟩ := facts5 HX.out
  generalize w.alloc _ = w1 at HX HB HF HA hs0 z0 z1 z2 z3 z4 ⊢
  generalize w.heap.size = b1 at HX hs0 z0 z1 z2 z3 z4 ⊢
  go_wp2_with fail
  go_ret
  refine ⟨?_, HB.out⟩
  rw [exT]; rfl
set_option maxRecDepth 100000 in
set_option maxHeartbeats 16000000 in
theorem ex_k3 (n : Int) (t : ByteArray) (xs : List Ex) (p : Int) (B : Option Addr) (d : Nat) (F : Nat → Prop) (w : World) (base cb : Nat) (K : Hd) (A : Option Addr) (c : Nat) (env : Env) (many : Nat) (us : List Fn) (hZ : ExZ (.mk 3 n t xs p)) (hFZ : ∀ f ∈ us, FnZ f) (hUL : us.length ≤ 281474976710656) (hEL : env.length ≤ 1000) (hE : EnvOK env) (hO : OutsOK us) (h : FrC w w base cb K A c env many us F) (hA : ArgsIn w F (.slice B xs.length d) xs) :
    Calls Tryz.prog 165 #[.pointer (some ⟨cb, 0, none⟩), .agg #[.int .i64 3, .int .i64 n, .string t, .slice B xs.length d, .int .i64 p]] w fun e w' => EndT (exT us env (.mk 3 n t xs p)) (.int .i64 ·) e ∧ Below w.heap.size w w' := by
  have hb := (Below.refl w.heap.size w).alloc (Nat.le_refl _) (.cells #[.int .i64 3, .int .i64 n, .string t, .slice B xs.length d, .int .i64 p] 186)
  have HX := Lib.hid (heap_alloc_new w (.cells #[.int .i64 3, .int .i64 n, .string t, .slice B xs.length d, .int .i64 p] 186))
  have HB := Lib.hid hb
  have HF := Lib.hid (h.reb.below hb)
  have HA := Lib.hid (h.args (hb.mono h.bs) hA)
  have HZ := Lib.hid hZ; have HFZ := Lib.hid hFZ; have HUL := Lib.hid hUL; have HE := Lib.hid hE; have HO := Lib.hid hO
  have hs0 := lt_of_some HX.out
  have hmf : ∀ (fn : Go.Fn) (first cap : Array Value) (w : World), (Instr.makeFunc fn first cap).run Tryz.prog w = .ok (.func fn first cap) w := fun _ _ _ _ => rfl
  have hzt : t.size ≤ maxLen := hZ.args.1
  clear hb h hA hZ hFZ hUL hE hO
  go_enter Tryz.func165, Tryz.ntmps165
  go_upto_region 1 with (fail)
  obtain ⟨⟨z0, z1, z2, z3, z4⟩, -⟩ := facts5 HX.out
  generalize w.alloc _ = w1 at HX HB HF HA hs0 z0 z1 z2 z3 z4 ⊢
  generalize w.heap.size = b1 at HX hs0 z0 z1 z2 z3 z4 ⊢
  have HI := Lib.hid (idx_var ⟨b1, 0, none⟩ t A c env w1 HF.out.chk.vars (clo_var b1 t w1 hs0 z2) hEL)
  obtain ⟨⟨-, -, -, -, -, -, -, c7, -⟩, -⟩ := facts9 HF.out.chk.blk
  have hcb := HF.out.chk.lt
  clear hzt
  go_wp2_with fail
  refine HI.out.mono ?_
  rintro e w2 ⟨z, rfl, hz, hb2⟩
  have HB2 := Lib.hid (HB.out.trans (hb2.mono HB.out.size))
  have HF2 := Lib.hid (HF.out.below hb2)
  have HX2 := Lib.hid ((hb2.block _ hs0).trans HX.out)
  clear z0 z1 z2 z3 z4 c7 HI hb2
  obtain ⟨⟨z0, z1, z2, z3, z4⟩, -⟩ := facts5 HX2.out
  obtain ⟨⟨-, -, -, -, -, -, -, c7, -⟩, -⟩ := facts9 HF2.out.chk.blk
  rcases hz with ⟨i, ty, h1, rfl⟩ | ⟨h1, rfl⟩
  · obtain ⟨q1, q2, q3⟩ := env_at HE.out h1
    obtain ⟨g, rfl, hg, d0, d1⟩ := HF2.out.chk.var i (t, ty) h1
    simp only at d1
    have HQ := Lib.hid q1; have HQ2 := Lib.hid q2
    have k0 : (0 : Int) ≤ (i : Int) := by omega
    have k1 : (i : Int) < (env.length : Int) := by omega
    clear h1 q1 q2 d0 hg
    go_wp2_with fail
    go_ret
    refine ⟨?_, HB2.out⟩
    rw [exT_var', if_neg (by rw [HQ.out]; exact HQ2.out), HQ.out]
    rfl
  · have HN := Lib.hid (lookE_none h1)
    clear h1
    go_wp2_with fail
    refine ⟨rfl, ?_, HB2.out⟩
    rw [exT_var', if_pos HN.out]
    rfl
set_option maxRecDepth 100000 in
set_option maxHeartbeats 16000000 in
theorem ex_k4 (left : Nat) (iw : WantC (left - 1)) (n : Int) (t : ByteArray) (xs : List Ex) (p : Int) (B : Option Addr) (d : Nat) (F : Nat → Prop) (w : World) (base cb : Nat) (K : Hd) (A : Option Addr) (c : Nat) (env : Env) (many : Nat) (us : List Fn) (hex : exF (.mk 4 n t xs p) left = 0) (hZ : ExZ (.mk 4 n t xs p)) (hFZ : ∀ f ∈ us, FnZ f) (hUL : us.length ≤ 281474976710656) (hEL : env.length ≤ 1000) (hE : EnvOK env) (hO : OutsOK us) (h : FrC w w base cb K A c env many us F) (hA : ArgsIn w F (.slice B xs.length d) xs) :
    Calls Tryz.prog 165 #[.pointer (some ⟨cb, 0, none⟩), .agg #[.int .i64 4, .int .i64 n, .string t, .slice B xs.length d, .int .i64 p]] w fun e w' => EndT (exT us env (.mk 4 n t xs p)) (.int .i64 ·) e ∧ Below w.heap.size w w' := by
  obtain ⟨hl, hok, hargs⟩ := exF_args' hex
  obtain ⟨a, rfl⟩ : ∃ a, xs = [a] := by
    have : xs.length = 1 := by simpa [okEx] using hok
    match xs, this with
    | [a], _ => exact ⟨a, rfl⟩
  have hxa := hargs a (List.mem_cons_self ..)
  have hza : ExZ a := hZ.args.2.2 a (List.mem_cons_self ..)
  obtain ⟨g, off, Ba, da, rfl, -, hg, hka, a0, a1, a2, a3, a4⟩ := hA.at 0 a rfl
  have CA : Hid (∀ W, Below w.heap.size w W → Calls Tryz.prog 167 #[.pointer (some ⟨cb, 0, none⟩), .agg #[.int .i64 a.kind, .int .i64 a.n, .string a.text, .slice Ba a.args.length da, .int .i64 a.pos], .int .i64 1] W fun e w' => EndT (wantT us env a 1) (fun _ => .tuple #[]) e ∧ Below W.heap.size W w') :=
    Lib.hid (fun W hb => iw a 1 Ba da F W base cb K A c env many us hxa hza hFZ hUL hEL hE hO (h.below hb).reb (h.args (hb.mono h.bs) hka))
  have HA0 := Lib.hid (And.intro a0 (And.intro a1 (And.intro a2 (And.intro a3 a4))))
  have HG := Lib.hid hg
  clear a0 a1 a2 a3 a4 hxa hza hargs hok hex hka hg
  have hb := (Below.refl w.heap.size w).alloc (Nat.le_refl _) (.cells #[.int .i64 4, .int .i64 n, .string t, .slice (some ⟨g, off, none⟩) 1 d, .int .i64 p] 186)
  have HX := Lib.hid (heap_alloc_new w (.cells #[.int .i64 4, .int .i64 n, .string t, .slice (some ⟨g, off, none⟩) 1 d, .int .i64 p] 186))
  have HB := Lib.hid hb
  have HF := Lib.hid (h.reb.below hb)
  have HA := Lib.hid (h.args (hb.mono h.bs) hA)
  have HZ := Lib.hid hZ; have HFZ := Lib.hid hFZ; have HUL := Lib.hid hUL; have HE := Lib.hid hE; have HO := Lib.hid hO
  have hs0 := lt_of_some HX.out
  have hmf : ∀ (fn : Go.Fn) (first cap : Array Value) (w : World), (Instr.makeFunc fn first cap).run Tryz.prog w = .ok (.func fn first cap) w := fun _ _ _ _ => rfl
  clear hb h hA hZ hFZ hUL hE hO
  go_enter Tryz.func165, Tryz.ntmps165
  go_upto_region 1 with (fail)
  obtain ⟨⟨z0, z1, z2, z3, z4⟩, -⟩ := facts5 HX.out
  generalize w.alloc _ = w1 at HX HB HF HA hs0 z0 z1 z2 z3 z4 ⊢
  generalize w.heap.size = b1 at HX hs0 z0 z1 z2 z3 z4 ⊢
  obtain ⟨a0, a1, a2, a3, a4⟩ := HA0.out
  replace a0 := (HB.out.cell (p := ⟨g, off + 0 * 5, none⟩) HG.out).trans a0
  replace a1 := (HB.out.cell (p := ⟨g, off + 0 * 5 + 1, none⟩) HG.out).trans a1
  replace a2 := (HB.out.cell (p := ⟨g, off + 0 * 5 + 2, none⟩) HG.out).trans a2
  replace a3 := (HB.out.cell (p := ⟨g, off + 0 * 5 + 3, none⟩) HG.out).trans a3
  replace a4 := (HB.out.cell (p := ⟨g, off + 0 * 5 + 4, none⟩) HG.out).trans a4
  simp only [Nat.zero_mul, Nat.add_zero] at a0 a1 a2 a3 a4
  go_wp2_with fail
  refine (CA.out w1 HB.out).mono ?_
  rintro e w2 ⟨he, hb2⟩
  have HB2 := Lib.hid (HB.out.trans (hb2.mono HB.out.size))
  clear hb2 a0 a1 a2 a3 a4 z0 z1 z2 z3 z4
  obtain ⟨r, hr⟩ : ∃ r, wantT us env a 1 = r := ⟨_, rfl⟩
  rw [hr] at he
  have HR := Lib.hid hr
  clear hr CA
  cases r with
  | bad q er =>
    have he' : e = faultE q er := he
    subst he'
    clear he
    unfold faultE
    go_wp2_with fail
    exact ⟨rfl, by rw [exT_neg', HR.out]; rfl, HB2.out⟩
  | ok u =>
    have he' : e = .returned (.tuple #[]) := he
    subst he'
    clear he
    go_wp2_with fail
    go_ret
    exact ⟨by rw [exT_neg', HR.out]; rfl, HB2.out⟩
set_option maxRecDepth 100000 in
set_option maxHeartbeats 16000000 in
theorem ex_k5 (left : Nat) (iw : WantC (left - 1)) (n : Int) (t : ByteArray) (xs : List Ex) (p : Int) (B : Option Addr) (d : Nat) (F : Nat → Prop) (w : World) (base cb : Nat) (K : Hd) (A : Option Addr) (c : Nat) (env : Env) (many : Nat) (us : List Fn) (hex : exF (.mk 5 n t xs p) left = 0) (hZ : ExZ (.mk 5 n t xs p)) (hFZ : ∀ f ∈ us, FnZ f) (hUL : us.length ≤ 281474976710656) (hEL : env.length ≤ 1000) (hE : EnvOK env) (hO : OutsOK us) (h : FrC w w base cb K A c env many us F) (hA : ArgsIn w F (.slice B xs.length d) xs) :
    Calls Tryz.prog 165 #[.pointer (some ⟨cb, 0, none⟩), .agg #[.int .i64 5, .int .i64 n, .string t, .slice B xs.length d, .int .i64 p]] w fun e w' => EndT (exT us env (.mk 5 n t xs p)) (.int .i64 ·) e ∧ Below w.heap.size w w' := by
  obtain ⟨hl, hok, hargs⟩ := exF_args' hex
  obtain ⟨a, rfl⟩ : ∃ a, xs = [a] := by
    have : xs.length = 1 := by simpa [okEx] using hok
    match xs, this with
    | [a], _ => exact ⟨a, rfl⟩
  have hxa := hargs a (List.mem_cons_self ..)
  have hza : ExZ a := hZ.args.2.2 a (List.mem_cons_self ..)
  obtain ⟨g, off, Ba, da, rfl, -, hg, hka, a0, a1, a2, a3, a4⟩ := hA.at 0 a rfl
  have CA : Hid (∀ W, Below w.heap.size w W → Calls Tryz.prog 167 #[.pointer (some ⟨cb, 0, none⟩), .agg #[.int .i64 a.kind, .int .i64 a.n, .string a.text, .slice Ba a.args.length da, .int .i64 a.pos], .int .i64 2] W fun e w' => EndT (wantT us env a 2) (fun _ => .tuple #[]) e ∧ Below W.heap.size W w') :=
    Lib.hid (fun W hb => iw a 2 Ba da F W base cb K A c env many us hxa hza hFZ hUL hEL hE hO (h.below hb).reb (h.args (hb.mono h.bs) hka))
  have HA0 := Lib.hid (And.intro a0 (And.intro a1 (And.intro a2 (And.intro a3 a4))))
  have HG := Lib.hid hg
  clear a0 a1 a2 a3 a4 hxa hza hargs hok hex hka hg
  have hb := (Below.refl w.heap.size w).alloc (Nat.le_refl _) (.cells #[.int .i64 5, .int .i64 n, .string t, .slice (some ⟨g, off, none⟩) 1 d, .int .i64 p] 186)
  have HX := Lib.hid (heap_alloc_new w (.cells #[.int .i64 5, .int .i64 n, .string t, .slice (some ⟨g, off, none⟩) 1 d, .int .i64 p] 186))
  have HB := Lib.hid hb
  have HF := Lib.hid (h.reb.below hb)
  have HA := Lib.hid (h.args (hb.mono h.bs) hA)
  have HZ := Lib.hid hZ; have HFZ := Lib.hid hFZ; have HUL := Lib.hid hUL; have HE := Lib.hid hE; have HO := Lib.hid hO
  have hs0 := lt_of_some HX.out
  have hmf : ∀ (fn : Go.Fn) (first cap : Array Value) (w : World), (Instr.makeFunc fn first cap).run Tryz.prog w = .ok (.func fn first cap) w := fun _ _ _ _ => rfl
  clear hb h hA hZ hFZ hUL hE hO
  go_enter Tryz.func165, Tryz.ntmps165
  go_upto_region 1 with (fail)
  obtain ⟨⟨z0, z1, z2, z3, z4⟩, -⟩ := facts5 HX.out
  generalize w.alloc _ = w1 at HX HB HF HA hs0 z0 z1 z2 z3 z4 ⊢
  generalize w.heap.size = b1 at HX hs0 z0 z1 z2 z3 z4 ⊢
  obtain ⟨a0, a1, a2, a3, a4⟩ := HA0.out
  replace a0 := (HB.out.cell (p := ⟨g, off + 0 * 5, none⟩) HG.out).trans a0
  replace a1 := (HB.out.cell (p := ⟨g, off + 0 * 5 + 1, none⟩) HG.out).trans a1
  replace a2 := (HB.out.cell (p := ⟨g, off + 0 * 5 + 2, none⟩) HG.out).trans a2
  replace a3 := (HB.out.cell (p := ⟨g, off + 0 * 5 + 3, none⟩) HG.out).trans a3
  replace a4 := (HB.out.cell (p := ⟨g, off + 0 * 5 + 4, none⟩) HG.out).trans a4
  simp only [Nat.zero_mul, Nat.add_zero] at a0 a1 a2 a3 a4
  go_wp2_with fail
  refine (CA.out w1 HB.out).mono ?_
  rintro e w2 ⟨he, hb2⟩
  have HB2 := Lib.hid (HB.out.trans (hb2.mono HB.out.size))
  clear hb2 a0 a1 a2 a3 a4 z0 z1 z2 z3 z4
  obtain ⟨r, hr⟩ : ∃ r, wantT us env a 2 = r := ⟨_, rfl⟩
  rw [hr] at he
  have HR := Lib.hid hr
  clear hr CA
  cases r with
  | bad q er =>
    have he' : e = faultE q er := he
    subst he'
    clear he
    unfold faultE
    go_wp2_with fail
    exact ⟨rfl, by rw [exT_not', HR.out]; rfl, HB2.out⟩
  | ok u =>
    have he' : e = .returned (.tuple #[]) := he
    subst he'
    clear he
    go_wp2_with fail
    go_ret
    exact ⟨by rw [exT_not', HR.out]; rfl, HB2.out⟩
set_option maxRecDepth 100000 in
set_option maxHeartbeats 16000000 in
theorem ex_k8 (left : Nat) (iw : WantC (left - 1)) (n : Int) (t : ByteArray) (xs : List Ex) (p : Int) (B : Option Addr) (d : Nat) (F : Nat → Prop) (w : World) (base cb : Nat) (K : Hd) (A : Option Addr) (c : Nat) (env : Env) (many : Nat) (us : List Fn) (hex : exF (.mk 8 n t xs p) left = 0) (hZ : ExZ (.mk 8 n t xs p)) (hFZ : ∀ f ∈ us, FnZ f) (hUL : us.length ≤ 281474976710656) (hEL : env.length ≤ 1000) (hE : EnvOK env) (hO : OutsOK us) (h : FrC w w base cb K A c env many us F) (hA : ArgsIn w F (.slice B xs.length d) xs) :
    Calls Tryz.prog 165 #[.pointer (some ⟨cb, 0, none⟩), .agg #[.int .i64 8, .int .i64 n, .string t, .slice B xs.length d, .int .i64 p]] w fun e w' => EndT (exT us env (.mk 8 n t xs p)) (.int .i64 ·) e ∧ Below w.heap.size w w' := by
  obtain ⟨hl, hok, hargs⟩ := exF_args' hex
  have CA : Hid (∀ W, Below w.heap.size w W → ∀ (x : Ex), x ∈ xs → ∀ (B' : Option Addr) (d' : Nat), ArgsIn w F (.slice B' x.args.length d') x.args → ∀ ty : Int, Calls Tryz.prog 167 #[.pointer (some ⟨cb, 0, none⟩), .agg #[.int .i64 x.kind, .int .i64 x.n, .string x.text, .slice B' x.args.length d', .int .i64 x.pos], .int .i64 ty] W fun e w' => EndT (wantT us env x ty) (fun _ => .tuple #[]) e ∧ Below W.heap.size W w') :=
    Lib.hid (fun W hb x hx B' d' hka ty => iw x ty B' d' F W base cb K A c env many us (hargs x hx) (hZ.args.2.2 x hx) hFZ hUL hEL hE hO (h.below hb).reb (h.args (hb.mono h.bs) hka))
  have HA0 := Lib.hid hA
  have hxl : xs.length ≤ 281474976710656 := hZ.args.2.1
  clear hok hargs hex
  have hb := (Below.refl w.heap.size w).alloc (Nat.le_refl _) (.cells #[.int .i64 8, .int .i64 n, .string t, .slice B xs.length d, .int .i64 p] 186)
  have HX := Lib.hid (heap_alloc_new w (.cells #[.int .i64 8, .int .i64 n, .string t, .slice B xs.length d, .int .i64 p] 186))
  have HB := Lib.hid hb
  have HF := Lib.hid (h.reb.below hb)
  have HA := Lib.hid (h.args (hb.mono h.bs) hA)
  have HZ := Lib.hid hZ; have HFZ := Lib.hid hFZ; have HUL := Lib.hid hUL; have HE := Lib.hid hE; have HO := Lib.hid hO
  have hs0 := lt_of_some HX.out
  have hmf : ∀ (fn : Go.Fn) (first cap : Array Value) (w : World), (Instr.makeFunc fn first cap).run Tryz.prog w = .ok (.func fn first cap) w := fun _ _ _ _ => rfl
  clear hb h hA hZ hFZ hUL hE hO
  go_enter Tryz.func165, Tryz.ntmps165
  go_upto_region 1 with (fail)
  obtain ⟨⟨z0, z1, z2, z3, z4⟩, -⟩ := facts5 HX.out
  generalize w.alloc _ = w1 at HX HB HF HA hs0 z0 z1 z2 z3 z4 ⊢
  generalize w.heap.size = b1 at HX hs0 z0 z1 z2 z3 z4 ⊢
  go_wp2_with fail
  clear z0 z1 z2 z3 z4
  go_loopw [117] (fun i wr => ∃ j : Nat, j ≤ xs.length ∧ i = .int .i64 j ∧ Hid (wantsT us env (xs.take j) [] = .ok ()) ∧ Hid (Below w.heap.size w wr)) (fun i _ => xs.length - (intOf i).toNat)
  case atStart => exact ⟨0, Nat.zero_le _, rfl, Lib.hid (by rw [List.take_zero, wantsT]), HB⟩
  case round =>
    obtain ⟨j, hj, rfl, HW, HBj⟩ := hrel
    by_cases hlt : j < xs.length
    · obtain ⟨x, hx⟩ : ∃ x, xs[j]? = some x := ⟨_, List.getElem?_eq_getElem hlt⟩
      obtain ⟨g, off, B', d', rfl, -, hg, hka, a0, a1, a2, a3, a4⟩ := HA0.out.at j x hx
      have b0 := (HBj.out.cell (p := ⟨g, off + j * 5, none⟩) hg).trans a0
      have b1 := (HBj.out.cell (p := ⟨g, off + j * 5 + 1, none⟩) hg).trans a1
      have b2 := (HBj.out.cell (p := ⟨g, off + j * 5 + 2, none⟩) hg).trans a2
      have b3 := (HBj.out.cell (p := ⟨g, off + j * 5 + 3, none⟩) hg).trans a3
      have b4 := (HBj.out.cell (p := ⟨g, off + j * 5 + 4, none⟩) hg).trans a4
      have HC := Lib.hid (CA.out (wr.alloc (.cells #[.int .i64 x.kind, .int .i64 x.n, .string x.text, .slice B' x.args.length d', .int .i64 x.pos] 186)) (HBj.out.alloc HBj.out.size (.cells #[.int .i64 x.kind, .int .i64 x.n, .string x.text, .slice B' x.args.length d', .int .i64 x.pos] 186)) x (List.mem_of_getElem? hx) B' d' hka 1)
      have HN := Lib.hid (heap_alloc_new wr (.cells #[.int .i64 x.kind, .int .i64 x.n, .string x.text, .slice B' x.args.length d', .int .i64 x.pos] 186))
      have HBn := Lib.hid (HBj.out.alloc HBj.out.size (.cells #[.int .i64 x.kind, .int .i64 x.n, .string x.text, .slice B' x.args.length d', .int .i64 x.pos] 186))
      have HXJ := Lib.hid hx
      clear a0 a1 a2 a3 a4 hx hka hg
      have k0 : (0 : Int) ≤ (j : Int) := by omega
      have k1 : (j : Int) < (xs.length : Int) := by omega
      go_upto_region 35 with (fail)
      clear b0 b1 b2 b3 b4
      obtain ⟨⟨y0, y1, y2, y3, y4⟩, -⟩ := facts5 HN.out
      generalize wr.alloc _ = wn at HC HN HBn y0 y1 y2 y3 y4 ⊢
      generalize wr.heap.size = bn' at HN y0 y1 y2 y3 y4 ⊢
      go_wp2_with fail
      refine HC.out.mono ?_
      rintro e w3 ⟨he, hb3⟩
      have HB3 := Lib.hid (HBn.out.trans (hb3.mono HBn.out.size))
      clear hb3 y0 y1 y2 y3 y4 HC
      obtain ⟨r, hr⟩ : ∃ r, wantT us env x 1 = r := ⟨_, rfl⟩
      rw [hr] at he
      have HR := Lib.hid hr; clear hr
      cases r with
      | bad q er =>
        have he' : e = faultE q er := he
        subst he'
        clear he
        unfold faultE
        go_wp2_with fail
        refine ⟨rfl, ?_, HB3.out⟩
        rw [exT_host', wants_hit HXJ.out HW.out (by simpa using HR.out)]
        rfl
      | ok u =>
        have he' : e = .returned (.tuple #[]) := he
        subst he'
        clear he
        go_wp2_with fail
        go_roundw
        case rel => exact ⟨j + 1, by omega, by go_num, Lib.hid (wants_next HXJ.out HW.out (by simpa using HR.out)), HB3⟩
        case measure => simp [intOf]; omega
    · obtain rfl : j = xs.length := by omega
      go_wp2_with fail
      go_ret
      refine ⟨?_, HBj.out⟩
      have := HW.out
      rw [List.take_length] at this
      rw [exT_host', this]
      rfl
set_option maxRecDepth 100000 in
set_option maxHeartbeats 16000000 in
theorem ex_k7 (left : Nat) (iw : WantC (left - 1)) (n : Int) (t : ByteArray) (xs : List Ex) (p : Int) (B : Option Addr) (d : Nat) (F : Nat → Prop) (w : World) (base cb : Nat) (K : Hd) (A : Option Addr) (c : Nat) (env : Env) (many : Nat) (us : List Fn) (hex : exF (.mk 7 n t xs p) left = 0) (hZ : ExZ (.mk 7 n t xs p)) (hFZ : ∀ f ∈ us, FnZ f) (hUL : us.length ≤ 281474976710656) (hEL : env.length ≤ 1000) (hE : EnvOK env) (hO : OutsOK us) (h : FrC w w base cb K A c env many us F) (hA : ArgsIn w F (.slice B xs.length d) xs) :
    Calls Tryz.prog 165 #[.pointer (some ⟨cb, 0, none⟩), .agg #[.int .i64 7, .int .i64 n, .string t, .slice B xs.length d, .int .i64 p]] w fun e w' => EndT (exT us env (.mk 7 n t xs p)) (.int .i64 ·) e ∧ Below w.heap.size w w' := by
  obtain ⟨hl, hok, hargs⟩ := exF_args' hex
  have CA : Hid (∀ W, Below w.heap.size w W → ∀ (x : Ex), x ∈ xs → ∀ (B' : Option Addr) (d' : Nat), ArgsIn w F (.slice B' x.args.length d') x.args → ∀ ty : Int, Calls Tryz.prog 167 #[.pointer (some ⟨cb, 0, none⟩), .agg #[.int .i64 x.kind, .int .i64 x.n, .string x.text, .slice B' x.args.length d', .int .i64 x.pos], .int .i64 ty] W fun e w' => EndT (wantT us env x ty) (fun _ => .tuple #[]) e ∧ Below W.heap.size W w') :=
    Lib.hid (fun W hb x hx B' d' hka ty => iw x ty B' d' F W base cb K A c env many us (hargs x hx) (hZ.args.2.2 x hx) hFZ hUL hEL hE hO (h.below hb).reb (h.args (hb.mono h.bs) hka))
  have HA0 := Lib.hid hA
  have hxl : xs.length ≤ 281474976710656 := hZ.args.2.1
  obtain ⟨Au, cu, hU⟩ := h.fns.form'
  have HFU := Lib.hid hU
  clear hok hargs hex
  have hb := (Below.refl w.heap.size w).alloc (Nat.le_refl _) (.cells #[.int .i64 7, .int .i64 n, .string t, .slice B xs.length d, .int .i64 p] 186)
  have HX := Lib.hid (heap_alloc_new w (.cells #[.int .i64 7, .int .i64 n, .string t, .slice B xs.length d, .int .i64 p] 186))
  have HB := Lib.hid hb
  have HF := Lib.hid (h.reb.below hb)
  have HA := Lib.hid (h.args (hb.mono h.bs) hA)
  have HZ := Lib.hid hZ; have HFZ := Lib.hid hFZ; have HUL := Lib.hid hUL; have HE := Lib.hid hE; have HO := Lib.hid hO
  have hs0 := lt_of_some HX.out
  have hmf : ∀ (fn : Go.Fn) (first cap : Array Value) (w : World), (Instr.makeFunc fn first cap).run Tryz.prog w = .ok (.func fn first cap) w := fun _ _ _ _ => rfl
  clear hb h hA hZ hFZ hUL hE hO
  go_enter Tryz.func165, Tryz.ntmps165
  go_upto_region 1 with (fail)
  obtain ⟨⟨z0, z1, z2, z3, z4⟩, -⟩ := facts5 HX.out
  generalize w.alloc _ = w1 at HX HB HF HA hs0 z0 z1 z2 z3 z4 ⊢
  generalize w.heap.size = b1 at HX hs0 z0 z1 z2 z3 z4 ⊢
  have hFns := HF.out.fns
  rw [HFU.out] at hFns
  have HI := Lib.hid (idx_fun ⟨b1, 0, none⟩ t Au cu F us w1 hFns (clo_call b1 t w1 hs0 z2) HUL.out)
  obtain ⟨⟨c0, -⟩, -⟩ := facts9 HF.out.chk.blk
  rw [HFU.out] at c0
  have hcb := HF.out.chk.lt
  clear hFns
  go_wp2_with fail
  refine HI.out.mono ?_
  rintro e w2 ⟨z, rfl, hz, hb2⟩
  have HB2 := Lib.hid (HB.out.trans (hb2.mono HB.out.size))
  have HF2 := Lib.hid (HF.out.below hb2)
  have HX2 := Lib.hid ((hb2.block _ hs0).trans HX.out)
  have hs2 := lt_of_some HX2.out
  clear z0 z1 z2 z3 z4 c0 HI hb2 HB HF HX HA
  obtain ⟨⟨z0, z1, z2, z3, z4⟩, -⟩ := facts5 HX2.out
  obtain ⟨⟨c0, -⟩, -⟩ := facts9 HF2.out.chk.blk
  rw [HFU.out] at c0
  rcases hz with ⟨i, f, h1, h2, rfl⟩ | ⟨h1, rfl⟩
  · have hFns := HF2.out.fns
    rw [HFU.out] at hFns
    obtain ⟨g0, off0, An, cn, At, ct, Ab, cbb, rfl, hg0, -, hkt, -, hcf⟩ := hFns.at i f h1
    have f0 : w2.cell? ⟨g0, off0 + i * 6, none⟩ = some (.string f.name) := hcf 0 _ rfl
    have f1 := hcf 1 _ rfl; have f2 := hcf 2 _ rfl; have f3 := hcf 3 _ rfl; have f4 := hcf 4 _ rfl; have f5 := hcf 5 _ rfl
    have k0 : (0 : Int) ≤ (i : Int) := by omega
    have k1 : (i : Int) < (us.length : Int) := by have := (List.getElem?_eq_some_iff.1 h1).1; omega
    have HFF := Lib.hid h2
    have hfz := HFZ.out f (List.mem_of_getElem? h1)
    have htl := hfz.tlen
    have HKT := Lib.hid hkt
    clear h1 h2 hFns hcf hfz hkt
    have HBf := Lib.hid (HB2.out.alloc HB2.out.size (.cells #[.string f.name, .slice An f.names.length cn, .slice At f.types.length ct, .int .i64 f.out, .slice Ab f.body.length cbb, .int .i64 f.pos] 32))
    have HNf := Lib.hid (heap_alloc_new w2 (.cells #[.string f.name, .slice An f.names.length cn, .slice At f.types.length ct, .int .i64 f.out, .slice Ab f.body.length cbb, .int .i64 f.pos] 32))
    have HXf := Lib.hid ((heap_alloc_old w2 (.cells #[.string f.name, .slice An f.names.length cn, .slice At f.types.length ct, .int .i64 f.out, .slice Ab f.body.length cbb, .int .i64 f.pos] 32) hs2).trans HX2.out)
    have HKf := Lib.hid (HKT.out.keep (F' := F) (w' := w2.alloc (.cells #[.string f.name, .slice An f.names.length cn, .slice At f.types.length ct, .int .i64 f.out, .slice Ab f.body.length cbb, .int .i64 f.pos] 32)) (fun q h1 h2 => ⟨h1, by simp; omega, heap_alloc_old w2 _ h2⟩))
    go_upto_region 24 with (fail)
    clear z0 z1 z2 z3 z4 c0 f0 f1 f2 f3 f4 f5 HX2 HB2 HKT hs2
    generalize w2.alloc _ = w4 at HBf HNf HXf HKf ⊢
    generalize w2.heap.size = bf at HNf ⊢
    obtain ⟨⟨z0, z1, z2, z3, z4⟩, -⟩ := facts5 HXf.out
    obtain ⟨⟨f0, f1, f2, f3, f4, f5⟩, -⟩ := facts6 HNf.out
    by_cases hlen : f.types.length = xs.length
    · have e0 : ((xs.length : Int) != (f.types.length : Int)) = false := by simp; omega
      have e0' : ((f.types.length : Int) != (xs.length : Int)) = false := by simp; omega
      have HL := Lib.hid hlen
      clear hlen
      go_wp2_with fail
      clear z0 z1 z2 z3 z4 f0 f1 f2 f3 f4 f5 e0 e0'
      go_loopw [98] (fun i wr => ∃ j : Nat, j ≤ xs.length ∧ i = .int .i64 j ∧ Hid (wantsT us env (xs.take j) f.types = .ok ()) ∧ Hid (Below w4.heap.size w4 wr)) (fun i _ => xs.length - (intOf i).toNat)
      case atStart => exact ⟨0, Nat.zero_le _, rfl, Lib.hid (by rw [List.take_zero, wantsT]), Lib.hid (Below.refl _ _)⟩
      case round =>
        obtain ⟨j, hj, rfl, HW, HBw⟩ := hrel
        have HBj := Lib.hid (HBf.out.trans (HBw.out.mono HBf.out.size))
        have HNj := Lib.hid ((HBw.out.block _ (lt_of_some HNf.out)).trans HNf.out)
        by_cases hlt : j < xs.length
        · obtain ⟨x, hx⟩ : ∃ x, xs[j]? = some x := ⟨_, List.getElem?_eq_getElem hlt⟩
          obtain ⟨ty, hty⟩ : ∃ ty, f.types[j]? = some ty := ⟨_, List.getElem?_eq_getElem (by have := HL.out; omega)⟩
          obtain ⟨g, off, B', d', rfl, -, hg, hka, a0, a1, a2, a3, a4⟩ := HA0.out.at j x hx
          obtain ⟨g3, off3, rfl, hg3, hct⟩ := HKf.out.at j ty hty
          have b0 := (HBj.out.cell (p := ⟨g, off + j * 5, none⟩) hg).trans a0
          have b1 := (HBj.out.cell (p := ⟨g, off + j * 5 + 1, none⟩) hg).trans a1
          have b2 := (HBj.out.cell (p := ⟨g, off + j * 5 + 2, none⟩) hg).trans a2
          have b3 := (HBj.out.cell (p := ⟨g, off + j * 5 + 3, none⟩) hg).trans a3
          have b4 := (HBj.out.cell (p := ⟨g, off + j * 5 + 4, none⟩) hg).trans a4
          have HBn := Lib.hid (HBw.out.alloc HBw.out.size (.cells #[.int .i64 x.kind, .int .i64 x.n, .string x.text, .slice B' x.args.length d', .int .i64 x.pos] 186))
          have HBnj := Lib.hid (HBj.out.alloc HBj.out.size (.cells #[.int .i64 x.kind, .int .i64 x.n, .string x.text, .slice B' x.args.length d', .int .i64 x.pos] 186))
          have HC := Lib.hid (CA.out ((wr.alloc (.cells #[.int .i64 x.kind, .int .i64 x.n, .string x.text, .slice B' x.args.length d', .int .i64 x.pos] 186)).drew) (HBnj.out.trans ((bel_drew _).mono HBnj.out.size)) x (List.mem_of_getElem? hx) B' d' hka ty)
          have HN := Lib.hid (heap_alloc_new wr (.cells #[.int .i64 x.kind, .int .i64 x.n, .string x.text, .slice B' x.args.length d', .int .i64 x.pos] 186))
          have HNn := Lib.hid ((heap_alloc_old wr (.cells #[.int .i64 x.kind, .int .i64 x.n, .string x.text, .slice B' x.args.length d', .int .i64 x.pos] 186) (lt_of_some HNj.out)).trans HNj.out)
          have hctn := (HBn.out.cell (p := ⟨g3, off3 + j, none⟩) hg3).trans hct
          have HXJ := Lib.hid hx; have HTY := Lib.hid (headD_at' hty)
          clear a0 a1 a2 a3 a4 hx hka hg hty hct
          have k0 : (0 : Int) ≤ (j : Int) := by omega
          have k1 : (j : Int) < (xs.length : Int) := by omega
          have k2 : (j : Int) < (f.types.length : Int) := by have := HL.out; omega
          go_upto_region 29 with (fail)
          clear b0 b1 b2 b3 b4
          obtain ⟨⟨y0, y1, y2, y3, y4⟩, -⟩ := facts5 HN.out
          obtain ⟨⟨-, -, f2, -⟩, -⟩ := facts6 HNn.out
          generalize wr.alloc _ = wn at HC HN HBn HBnj HNn y0 y1 y2 y3 y4 f2 hctn ⊢
          generalize wr.heap.size = bn' at HN y0 y1 y2 y3 y4 ⊢
          obtain ⟨r, hr⟩ : ∃ r, wantT us env x ty = r := ⟨_, rfl⟩
          have HR := Lib.hid hr
          have HD : Hid (Calls Tryz.prog 167 #[.pointer (some ⟨cb, 0, none⟩), .agg #[.int .i64 x.kind, .int .i64 x.n, .string x.text, .slice B' x.args.length d', .int .i64 x.pos], .int .i64 ty] wn.drew fun e w' => EndT r (fun _ => .tuple #[]) e ∧ Below wn.drew.heap.size wn.drew w') := Lib.hid (by rw [← hr]; exact HC.out)
          clear hr HC
          cases r with
          | bad q er =>
            go_region_dies
            all_goals
              go_at_call 167
              refine HD.out.mono ?_
              rintro e w3 ⟨he, hb3⟩
              have HB3 := Lib.hid (HBnj.out.trans (((bel_drew wn).trans (hb3.mono (drew_le0 wn))).mono HBnj.out.size))
              have he' : e = faultE q er := he
              subst he'
              clear he hb3
              unfold faultE
              go_wp2_with fail
              refine ⟨rfl, ?_, HB3.out⟩
              rw [exT_call' HFF.out HL.out, wants_hit HXJ.out HW.out (by rw [HTY.out]; exact HR.out)]
              rfl
          | ok u =>
            go_region_law (first | (go_simp; go_at_call 167; refine HD.out.mono ?_; rintro e w3 ⟨he, hb3⟩; have he' : e = .returned (.tuple #[]) := he; subst he'; clear he))
            all_goals
              have HB3 := Lib.hid (HBn.out.trans (((bel_drew wn).trans (hb3.mono (drew_le0 wn))).mono HBn.out.size))
              clear hb3 y0 y1 y2 y3 y4 f2 hctn
              go_wp2_with fail
              go_roundw
              case rel => exact ⟨j + 1, by omega, by go_num, Lib.hid (wants_next HXJ.out HW.out (by rw [HTY.out]; exact HR.out)), HB3⟩
              case measure => simp [intOf]; omega
        · obtain rfl : j = xs.length := by omega
          obtain ⟨⟨-, -, -, f3, -⟩, -⟩ := facts6 HNj.out
          go_wp2_with fail
          go_ret
          refine ⟨?_, HBj.out⟩
          have := HW.out
          rw [List.take_length] at this
          rw [exT_call' HFF.out HL.out, this]
          rfl
    · have e0 : ((xs.length : Int) != (f.types.length : Int)) = true := by simp; omega
      have HL := Lib.hid hlen
      clear hlen
      go_wp2_with fail
      refine ⟨rfl, ?_, HBf.out⟩
      rw [exT_calll HFF.out HL.out]
      rfl
  · have HN := Lib.hid h1
    clear h1
    go_wp2_with fail
    refine ⟨rfl, ?_, HB2.out⟩
    rw [exT_call0 HN.out]
    rfl
end Go.Proofs.YtmngofgminlloaaGreatDoor

namespace Go.Proofs.YtmngofgminlloaaGreatDoor
open Go.RowKit Tw

theorem alloc2_1 (w : World) (o p : Obj) : ((w.alloc o).alloc p).drew.heap[w.heap.size]? = some o := (heap_alloc_old _ _ (by simp)).trans (heap_alloc_new w o)
theorem alloc2_2 (w : World) (o p : Obj) : ((w.alloc o).alloc p).drew.heap[w.heap.size + 1]? = some p := by
  have h : (w.alloc o).heap.size = w.heap.size + 1 := by simp
  rw [← h]
  exact heap_alloc_new (w.alloc o) p
theorem bs_mk' (s : ByteArray) : (⟨s.data.toList.toArray⟩ : ByteArray) = s := by cases s; simp
set_option maxRecDepth 100000 in
set_option maxHeartbeats 16000000 in
theorem two_c (left : Nat) (h1 : 1 ≤ left) (ix : ExC (left - 1)) (iw : WantC (left - 1)) (n : Int) (t : ByteArray) (a b : Ex) (p : Int) (B : Option Addr) (d : Nat) (F : Nat → Prop) (w : World) (base cb : Nat) (K : Hd) (A : Option Addr) (c : Nat) (env : Env) (many : Nat) (us : List Fn) (hex : exF (.mk 6 n t [a, b] p) left = 0) (hZ : ExZ (.mk 6 n t [a, b] p)) (hFZ : ∀ f ∈ us, FnZ f) (hUL : us.length ≤ 281474976710656) (hEL : env.length ≤ 1000) (hE : EnvOK env) (hO : OutsOK us)
    (h : FrC w w base cb K A c env many us F) (hA : ArgsIn w F (.slice B 2 d) [a, b]) :
    Calls Tryz.prog 205 #[.pointer (some ⟨cb, 0, none⟩), .agg #[.int .i64 6, .int .i64 n, .string t, .slice B 2 d, .int .i64 p]] w fun e w' => EndT (exT us env (.mk 6 n t [a, b] p)) (.int .i64 ·) e ∧ Below w.heap.size w w' := by
  obtain ⟨-, hok, hargs⟩ := exF_args' hex
  have hma : a ∈ [a, b] := List.mem_cons_self ..
  have hmb : b ∈ [a, b] := List.mem_cons_of_mem _ (List.mem_cons_self ..)
  have hxa := hargs a hma; have hxb := hargs b hmb
  have hza : ExZ a := hZ.args.2.2 a hma; have hzb : ExZ b := hZ.args.2.2 b hmb
  have hlv : lv t.data.toList ≠ 0 := by rw [ok6] at hok; simp at hok; exact hok
  obtain ⟨g, off, Ba, da, rfl, -, hg, hka, a0, a1, a2, a3, a4⟩ := ArgsIn.at (l := [a, b]) hA 0 a rfl
  obtain ⟨g', off', Bb, db, e1, -, hg', hkb, b0, b1, b2, b3, b4⟩ := ArgsIn.at (l := [a, b]) hA 1 b rfl
  obtain ⟨rfl, rfl⟩ : g = g' ∧ off = off' := by injection e1 with e1; injection e1 with e1 e2; exact ⟨e1, e2⟩
  simp only [Nat.zero_mul, Nat.one_mul, Nat.add_zero] at a0 a1 a2 a3 a4 b0 b1 b2 b3 b4
  have CA : Hid (∀ W, Below w.heap.size w W → ∀ ty : Int, Calls Tryz.prog 167 #[.pointer (some ⟨cb, 0, none⟩), .agg #[.int .i64 a.kind, .int .i64 a.n, .string a.text, .slice Ba a.args.length da, .int .i64 a.pos], .int .i64 ty] W fun e w' => EndT (wantT us env a ty) (fun _ => .tuple #[]) e ∧ Below W.heap.size W w') :=
    Lib.hid (fun W hb ty => iw a ty Ba da F W base cb K A c env many us hxa hza hFZ hUL hEL hE hO (h.below hb).reb (h.args (hb.mono h.bs) hka))
  have CX : Hid (∀ W, Below w.heap.size w W → Calls Tryz.prog 165 #[.pointer (some ⟨cb, 0, none⟩), .agg #[.int .i64 a.kind, .int .i64 a.n, .string a.text, .slice Ba a.args.length da, .int .i64 a.pos]] W fun e w' => EndT (exT us env a) (.int .i64 ·) e ∧ Below W.heap.size W w') :=
    Lib.hid (fun W hb => ix a Ba da F W base cb K A c env many us hxa hza hFZ hUL hEL hE hO (h.below hb).reb (h.args (hb.mono h.bs) hka))
  have CB : Hid (∀ W, Below w.heap.size w W → ∀ ty : Int, Calls Tryz.prog 167 #[.pointer (some ⟨cb, 0, none⟩), .agg #[.int .i64 b.kind, .int .i64 b.n, .string b.text, .slice Bb b.args.length db, .int .i64 b.pos], .int .i64 ty] W fun e w' => EndT (wantT us env b ty) (fun _ => .tuple #[]) e ∧ Below W.heap.size W w') :=
    Lib.hid (fun W hb ty => iw b ty Bb db F W base cb K A c env many us hxb hzb hFZ hUL hEL hE hO (h.below hb).reb (h.args (hb.mono h.bs) hkb))
  have hb := (Below.refl w.heap.size w).alloc (Nat.le_refl _) (.cells #[.int .i64 6, .int .i64 n, .string t, .slice (some ⟨g, off, none⟩) 2 d, .int .i64 p] 186)
  have HX := Lib.hid (heap_alloc_new w (.cells #[.int .i64 6, .int .i64 n, .string t, .slice (some ⟨g, off, none⟩) 2 d, .int .i64 p] 186))
  have HB := Lib.hid hb
  replace a0 := (hb.cell (p := ⟨g, off, none⟩) hg).trans a0
  replace a1 := (hb.cell (p := ⟨g, off + 1, none⟩) hg).trans a1
  replace a2 := (hb.cell (p := ⟨g, off + 2, none⟩) hg).trans a2
  replace a3 := (hb.cell (p := ⟨g, off + 3, none⟩) hg).trans a3
  replace a4 := (hb.cell (p := ⟨g, off + 4, none⟩) hg).trans a4
  replace b0 := (hb.cell (p := ⟨g, off + 5, none⟩) hg).trans b0
  replace b1 := (hb.cell (p := ⟨g, off + 5 + 1, none⟩) hg).trans b1
  replace b2 := (hb.cell (p := ⟨g, off + 5 + 2, none⟩) hg).trans b2
  replace b3 := (hb.cell (p := ⟨g, off + 5 + 3, none⟩) hg).trans b3
  replace b4 := (hb.cell (p := ⟨g, off + 5 + 4, none⟩) hg).trans b4
  have hs0 := lt_of_some HX.out
  have hgz : g < (w.alloc (.cells #[.int .i64 6, .int .i64 n, .string t, .slice (some ⟨g, off, none⟩) 2 d, .int .i64 p] 186)).heap.size := Nat.lt_of_lt_of_le hg hb.size
  clear hma hmb h hb ix iw hA hex hZ hFZ hUL hE hO hok hargs hxa hxb hza hzb e1 hg hg' hka hkb
  go_enter Tryz.func205, Tryz.ntmps205
  go_upto_region 1 with (fail)
  obtain ⟨⟨z0, z1, z2, z3, z4⟩, -⟩ := facts5 HX.out
  generalize w.heap.size = n1 at HX hs0 z0 z1 z2 z3 z4 ⊢
  generalize w.alloc _ = w1 at HX HB hs0 z0 z1 z2 z3 z4 a0 a1 a2 a3 a4 b0 b1 b2 b3 b4 hgz ⊢
  go_cut [5, 6] (fun u5 u6 W => ∃ q5 q6 : Nat, u5 = .pointer (some ⟨q5, 0, none⟩) ∧ u6 = .pointer (some ⟨q6, 0, none⟩) ∧ Hid (Below w1.heap.size w1 W) ∧ Hid (W.heap[q5]? = some (.cells #[.int .i64 a.kind, .int .i64 a.n, .string a.text, .slice Ba a.args.length da, .int .i64 a.pos] 186 (0, 0))) ∧ Hid (W.heap[q6]? = some (.cells #[.int .i64 b.kind, .int .i64 b.n, .string b.text, .slice Bb b.args.length db, .int .i64 b.pos] 186 (0, 0))))
  case first =>
    go_region
    all_goals
      go_wp2_with fail
      go_meet
      case rel =>
        first
          | exact ⟨w1.heap.size, w1.heap.size + 1, rfl, rfl, Lib.hid ((((Below.refl w1.heap.size w1).alloc (Nat.le_refl _) _).alloc (by simp) _).trans ((bel_drew _).mono (by simp; omega))), Lib.hid (alloc2_1 w1 _ _), Lib.hid (alloc2_2 w1 _ _)⟩
          | exact ⟨w1.heap.size + 1, w1.heap.size, rfl, rfl, Lib.hid ((((Below.refl w1.heap.size w1).alloc (Nat.le_refl _) _).alloc (by simp) _).trans ((bel_drew _).mono (by simp; omega))), Lib.hid (alloc2_2 w1 _ _), Lib.hid (alloc2_1 w1 _ _)⟩
  case rest =>
    obtain ⟨q5, q6, rfl, rfl, HBc, H5, H6⟩ := hcut
    obtain ⟨wa, rfl⟩ : ∃ wo : World, wo = wc := ⟨_, rfl⟩
    have HBw := Lib.hid (HB.out.trans (HBc.out.mono HB.out.size))
    have HXa := Lib.hid ((HBc.out.block _ hs0).trans HX.out)
    have hq5 := lt_of_some H5.out
    have hq6 := lt_of_some H6.out
    clear a0 a1 a2 a3 a4 b0 b1 b2 b3 b4 z0 z1 z2 z3 z4 HX HB HBc hs0 hgz
    obtain ⟨⟨a0, a1, a2, a3, a4⟩, -⟩ := facts5 H5.out
    obtain ⟨⟨b0, b1, b2, b3, b4⟩, -⟩ := facts5 H6.out
    obtain ⟨⟨z0, z1, z2, z3, z4⟩, -⟩ := facts5 HXa.out
    by_cases h12 : lv t.data.toList ≤ 2
    · have HL := Lib.hid h12
      have ht := lv12 (by omega) h12
      clear h12 hlv
      have hf : ((t.toList == [38, 38]) = true) ∨ ((t.toList == [38, 38]) = false ∧ (t.toList == [124, 124]) = true) := by
        rw [tl_is, tl_is]
        rcases ht with h | h <;> rw [h] <;> decide
      clear ht
      rcases hf with f1 | ⟨f1, f2⟩
      all_goals
        go_wp2_with fail
        refine (CA.out wa HBw.out 2).mono ?_
        rintro e w3 ⟨he, hba⟩
        have HBa := Lib.hid (HBw.out.trans (hba.mono HBw.out.size))
        obtain ⟨ra, hr⟩ : ∃ r, wantT us env a 2 = r := ⟨_, rfl⟩
        rw [hr] at he
        have HRa := Lib.hid hr
        clear hr
        cases ra with
        | bad q er =>
          have he' : e = faultE q er := he
          subst he'
          clear he hba
          unfold faultE
          go_wp2_with fail
          exact ⟨rfl, by rw [exT_log' HL.out, HRa.out]; rfl, HBa.out⟩
        | ok u =>
          have he' : e = .returned (.tuple #[]) := he
          subst he'
          clear he
          have H6w := Lib.hid ((hba.block _ hq6).trans H6.out)
          have HXw := Lib.hid ((hba.block _ (lt_of_some HXa.out)).trans HXa.out)
          clear hba a0 a1 a2 a3 a4 b0 b1 b2 b3 b4 z0 z1 z2 z3 z4
          obtain ⟨⟨b0, b1, b2, b3, b4⟩, -⟩ := facts5 H6w.out
          obtain ⟨⟨z0, z1, z2, z3, z4⟩, -⟩ := facts5 HXw.out
          go_wp2_with fail
          refine (CB.out w3 HBa.out 2).mono ?_
          rintro e w4 ⟨he, hbb⟩
          have HBb := Lib.hid (HBa.out.trans (hbb.mono HBa.out.size))
          obtain ⟨rb, hr⟩ : ∃ r, wantT us env b 2 = r := ⟨_, rfl⟩
          rw [hr] at he
          have HRb := Lib.hid hr
          clear hr
          cases rb with
          | bad q er =>
            have he' : e = faultE q er := he
            subst he'
            clear he hbb
            unfold faultE
            go_wp2_with fail
            exact ⟨rfl, by rw [exT_log' HL.out, HRa.out]; simp only [TyR.bind]; rw [HRb.out]; rfl, HBb.out⟩
          | ok u =>
            have he' : e = .returned (.tuple #[]) := he
            subst he'
            clear he
            go_wp2_with fail
            go_ret
            exact ⟨by rw [exT_log' HL.out, HRa.out]; simp only [TyR.bind]; rw [HRb.out]; rfl, HBb.out⟩
    · by_cases he2 : t = ⟨#[61, 61]⟩ ∨ t = ⟨#[33, 61]⟩
      · have HL := Lib.hid h12; have HE2 := Lib.hid he2
        have hf : (t.toList == [38, 38]) = false ∧ (t.toList == [124, 124]) = false ∧ ((t.toList == [61, 61]) = true ∨ ((t.toList == [61, 61]) = false ∧ (t.toList == [33, 61]) = true)) := by
          rw [tl_is, tl_is, tl_is, tl_is]
          rcases he2 with h | h <;> subst h <;> decide
        clear h12 hlv he2
        obtain ⟨f0, f00, hf⟩ := hf
        rcases hf with f1 | ⟨f1, f2⟩
        all_goals
          obtain ⟨rx, hrx⟩ : ∃ r, exT us env a = r := ⟨_, rfl⟩
          have HRx := Lib.hid hrx
          have HBd := Lib.hid (HBw.out.trans ((bel_drew wa).mono HBw.out.size))
          have HDX : Hid (Calls Tryz.prog 165 #[.pointer (some ⟨cb, 0, none⟩), .agg #[.int .i64 a.kind, .int .i64 a.n, .string a.text, .slice Ba a.args.length da, .int .i64 a.pos]] wa.drew fun e w' => EndT rx (.int .i64 ·) e ∧ Below wa.drew.heap.size wa.drew w') := Lib.hid (by rw [← hrx]; exact CX.out wa.drew HBd.out)
          clear hrx
          cases rx with
          | bad q er =>
            go_upto_region 10 with (fail)
            go_region_dies
            all_goals
              go_at_call 165
              refine HDX.out.mono ?_
              rintro e w3 ⟨he, hb3⟩
              have HB3 := Lib.hid (HBd.out.trans (hb3.mono HBd.out.size))
              have he' : e = faultE q er := he
              subst he'
              clear he hb3
              unfold faultE
              go_wp2_with fail
              exact ⟨rfl, by rw [exT_eq' HL.out HE2.out, HRx.out]; rfl, HB3.out⟩
          | ok ta =>
            obtain ⟨rb, hrb⟩ : ∃ r, wantT us env b ta = r := ⟨_, rfl⟩
            have HRb := Lib.hid hrb
            have HDB : Hid (∀ W, Below w.heap.size w W → Calls Tryz.prog 167 #[.pointer (some ⟨cb, 0, none⟩), .agg #[.int .i64 b.kind, .int .i64 b.n, .string b.text, .slice Bb b.args.length db, .int .i64 b.pos], .int .i64 ta] W fun e w' => EndT rb (fun _ => .tuple #[]) e ∧ Below W.heap.size W w') := Lib.hid (fun W hW => by rw [← hrb]; exact CB.out W hW ta)
            clear hrb
            go_upto_region 10 with (fail)
            cases rb with
            | bad q er =>
              go_region_dies
              · rename_i K1 hK1
                go_at_call 165
                refine HDX.out.mono ?_
                rintro e w3 ⟨he, hb3⟩
                have HB3 := Lib.hid (HBd.out.trans (hb3.mono HBd.out.size))
                have H6w := Lib.hid ((hb3.block _ hq6).trans H6.out)
                have he' : e = .returned (.int .i64 ta) := he
                subst he'
                clear he hb3
                obtain ⟨⟨y0, y1, y2, y3, y4⟩, -⟩ := facts5 H6w.out
                refine hK1 _ _ ?_
                clear hK1 K1
                refine wpAny_ready (rs := [5]) (by kernel_rfl) (by simp) ?_
                refine AllReady.cons rfl (fun K3 hK3 => ?_) AllReady.nil
                go_simp
                clear hK3
                go_at_call 167
                refine (HDB.out w3 HB3.out).mono ?_
                rintro e w4 ⟨he, hb4⟩
                have HB4 := Lib.hid (HB3.out.trans (hb4.mono HB3.out.size))
                have he' : e = faultE q er := he
                subst he'
                clear he hb4
                unfold faultE
                exact ⟨rfl, by rw [exT_eq' HL.out HE2.out, HRx.out]; simp only [TyR.bind]; rw [HRb.out]; rfl, HB4.out⟩
              · rename_i K1 hK1
                go_at_call 165
                refine HDX.out.mono ?_
                rintro e w3 ⟨he, hb3⟩
                have HB3 := Lib.hid (HBd.out.trans (hb3.mono HBd.out.size))
                have H6w := Lib.hid ((hb3.block _ hq6).trans H6.out)
                have he' : e = .returned (.int .i64 ta) := he
                subst he'
                clear he hb3
                obtain ⟨⟨y0, y1, y2, y3, y4⟩, -⟩ := facts5 H6w.out
                refine hK1 _ _ ?_
                clear hK1 K1
                refine wpAny_ready (rs := [5]) (by kernel_rfl) (by simp) ?_
                refine AllReady.cons rfl (fun K3 hK3 => ?_) AllReady.nil
                go_simp
                clear hK3
                go_at_call 167
                refine (HDB.out w3 HB3.out).mono ?_
                rintro e w4 ⟨he, hb4⟩
                have HB4 := Lib.hid (HB3.out.trans (hb4.mono HB3.out.size))
                have he' : e = faultE q er := he
                subst he'
                clear he hb4
                unfold faultE
                exact ⟨rfl, by rw [exT_eq' HL.out HE2.out, HRx.out]; simp only [TyR.bind]; rw [HRb.out]; rfl, HB4.out⟩
              · rename_i K1 hK1
                go_at_call 165
                refine HDX.out.mono ?_
                rintro e w3 ⟨he, hb3⟩
                have HB3 := Lib.hid (HBd.out.trans (hb3.mono HBd.out.size))
                have H6w := Lib.hid ((hb3.block _ hq6).trans H6.out)
                have he' : e = .returned (.int .i64 ta) := he
                subst he'
                clear he hb3
                obtain ⟨⟨y0, y1, y2, y3, y4⟩, -⟩ := facts5 H6w.out
                refine hK1 _ _ ?_
                clear hK1 K1
                refine wpAny_ready (rs := [1]) (by kernel_rfl) (by simp) ?_
                refine AllReady.cons rfl (fun K2 hK2 => ?_) AllReady.nil
                go_simp
                refine hK2 _ _ ?_
                clear hK2 K2
                refine wpAny_ready (rs := [5]) (by kernel_rfl) (by simp) ?_
                refine AllReady.cons rfl (fun K3 hK3 => ?_) AllReady.nil
                go_simp
                clear hK3
                go_at_call 167
                refine (HDB.out w3 HB3.out).mono ?_
                rintro e w4 ⟨he, hb4⟩
                have HB4 := Lib.hid (HB3.out.trans (hb4.mono HB3.out.size))
                have he' : e = faultE q er := he
                subst he'
                clear he hb4
                unfold faultE
                exact ⟨rfl, by rw [exT_eq' HL.out HE2.out, HRx.out]; simp only [TyR.bind]; rw [HRb.out]; rfl, HB4.out⟩
            | ok u =>
              go_region_law (first | (go_simp; go_at_call 165; refine HDX.out.mono ?_; rintro e w3 ⟨he, hb3⟩; have HB3 := Lib.hid (HBd.out.trans (hb3.mono HBd.out.size)); have H6w := Lib.hid ((hb3.block _ hq6).trans H6.out); have he' : e = .returned (.int .i64 ta) := he; subst he'; clear he hb3; obtain ⟨⟨y0, y1, y2, y3, y4⟩, -⟩ := facts5 H6w.out) | (go_simp; go_at_call 167; refine (HDB.out w3 HB3.out).mono ?_; rintro e w4 ⟨he, hb4⟩; have he' : e = .returned (.tuple #[]) := he; subst he'; clear he))
              all_goals
                have HB4 := Lib.hid (HB3.out.trans (hb4.mono HB3.out.size))
                clear hb4
                go_wp2_with fail
                go_ret
                exact ⟨by rw [exT_eq' HL.out HE2.out, HRx.out]; simp only [TyR.bind]; rw [HRb.out]; rfl, HB4.out⟩
      · have HL := Lib.hid h12; have HE2 := Lib.hid he2
        have hf : (t.toList == [38, 38]) = false ∧ (t.toList == [124, 124]) = false ∧ (t.toList == [61, 61]) = false ∧ (t.toList == [33, 61]) = false := by
          have h2 : ∀ l : List UInt8, lv l ≤ 2 ∨ l = [61, 61] ∨ l = [33, 61] → (t.toList == l) = false := by
            intro l hl
            rw [tl_is]
            refine decide_eq_false fun e => ?_
            rcases hl with hl | hl | hl
            · exact h12 (by rw [e]; exact hl)
            · exact he2 (.inl (by rw [← bs_mk' t, e, hl]))
            · exact he2 (.inr (by rw [← bs_mk' t, e, hl]))
          exact ⟨h2 _ (.inl (by decide)), h2 _ (.inl (by decide)), h2 _ (.inr (.inl rfl)), h2 _ (.inr (.inr rfl))⟩
        have hbyte : ∃ c0 r, t.data.toList = c0 :: r ∧ ((lv t.data.toList = 3 ∧ (c0 = 60 ∨ c0 = 62)) ∨ (lv t.data.toList ≠ 3 ∧ c0 ≠ 60 ∧ c0 ≠ 62)) := by
          by_cases h3 : lv t.data.toList = 3
          · rcases lv3 h3 he2 with h | h | h | h
            · exact ⟨_, _, h, .inl ⟨h3, .inl rfl⟩⟩
            · exact ⟨_, _, h, .inl ⟨h3, .inl rfl⟩⟩
            · exact ⟨_, _, h, .inl ⟨h3, .inr rfl⟩⟩
            · exact ⟨_, _, h, .inl ⟨h3, .inr rfl⟩⟩
          · obtain ⟨c0, h, hc⟩ := lv45 (t := t) (by omega)
            exact ⟨c0, [], h, .inr ⟨h3, by rcases hc with rfl | rfl | rfl | rfl | rfl <;> decide, by rcases hc with rfl | rfl | rfl | rfl | rfl <;> decide⟩⟩
        clear h12 hlv he2
        obtain ⟨f0, f00, f1, f2⟩ := hf
        go_wp2_with fail
        refine (CA.out wa HBw.out 1).mono ?_
        rintro e w3 ⟨he, hba⟩
        have HBa := Lib.hid (HBw.out.trans (hba.mono HBw.out.size))
        obtain ⟨ra, hr⟩ : ∃ r, wantT us env a 1 = r := ⟨_, rfl⟩
        rw [hr] at he
        have HRa := Lib.hid hr
        clear hr
        cases ra with
        | bad q er =>
          have he' : e = faultE q er := he
          subst he'
          clear he hba
          unfold faultE
          go_wp2_with fail
          exact ⟨rfl, by rw [exT_num' HL.out HE2.out, HRa.out]; rfl, HBa.out⟩
        | ok u =>
          have he' : e = .returned (.tuple #[]) := he
          subst he'
          clear he
          have H6w := Lib.hid ((hba.block _ hq6).trans H6.out)
          have HXw := Lib.hid ((hba.block _ (lt_of_some HXa.out)).trans HXa.out)
          clear hba a0 a1 a2 a3 a4 b0 b1 b2 b3 b4 z0 z1 z2 z3 z4
          obtain ⟨⟨b0, b1, b2, b3, b4⟩, -⟩ := facts5 H6w.out
          obtain ⟨⟨z0, z1, z2, z3, z4⟩, -⟩ := facts5 HXw.out
          go_wp2_with fail
          refine (CB.out w3 HBa.out 1).mono ?_
          rintro e w4 ⟨he, hbb⟩
          have HBb := Lib.hid (HBa.out.trans (hbb.mono HBa.out.size))
          obtain ⟨rb, hr⟩ : ∃ r, wantT us env b 1 = r := ⟨_, rfl⟩
          rw [hr] at he
          have HRb := Lib.hid hr
          clear hr
          cases rb with
          | bad q er =>
            have he' : e = faultE q er := he
            subst he'
            clear he hbb
            unfold faultE
            go_wp2_with fail
            exact ⟨rfl, by rw [exT_num' HL.out HE2.out, HRa.out]; simp only [TyR.bind]; rw [HRb.out]; rfl, HBb.out⟩
          | ok u =>
            have he' : e = .returned (.tuple #[]) := he
            subst he'
            clear he
            have HXv := Lib.hid ((hbb.block _ (lt_of_some HXw.out)).trans HXw.out)
            clear hbb b0 b1 b2 b3 b4 z0 z1 z2 z3 z4
            obtain ⟨⟨z0, z1, z2, z3, z4⟩, -⟩ := facts5 HXv.out
            obtain ⟨c0, r0, hc0, hc1⟩ := hbyte
            have et : t = ⟨(c0 :: r0).toArray⟩ := by rw [← bs_mk' t, hc0]
            have hsz : (0 : Int) < (t.size : Int) := by rw [et]; show (0 : Int) < (((c0 :: r0).toArray.size : Nat) : Int); simp
            have ht0 : ∀ h : 0 < t.size, (((t[0]'h).toNat : Nat) : Int) = (c0.toNat : Int) := by subst et; intro h; rfl
            clear et hc0
            rcases hc1 with ⟨h3, hc⟩ | ⟨h3, hc, hc'⟩
            · have H3 := Lib.hid h3
              clear h3
              have g1 : ((c0.toNat : Int) == 60) = true ∨ (((c0.toNat : Int) == 60) = false ∧ ((c0.toNat : Int) == 62) = true) := by rcases hc with rfl | rfl <;> decide
              clear hc
              rcases g1 with g1 | ⟨g1, g2⟩
              all_goals
                go_wp2_with fail
                go_ret
                exact ⟨by rw [exT_num' HL.out HE2.out, HRa.out]; simp only [TyR.bind]; rw [HRb.out, if_pos H3.out]; rfl, HBb.out⟩
            · have H3 := Lib.hid h3
              have g1 : ((c0.toNat : Int) == 60) = false := beq_eq_false_iff_ne.2 (fun e => hc (UInt8.toNat_inj.1 (by simpa using Int.ofNat_inj.1 e)))
              have g2 : ((c0.toNat : Int) == 62) = false := beq_eq_false_iff_ne.2 (fun e => hc' (UInt8.toNat_inj.1 (by simpa using Int.ofNat_inj.1 e)))
              clear h3 hc hc'
              go_wp2_with fail
              go_ret
              exact ⟨by rw [exT_num' HL.out HE2.out, HRa.out]; simp only [TyR.bind]; rw [HRb.out, if_neg H3.out]; rfl, HBb.out⟩
set_option maxRecDepth 100000 in
set_option maxHeartbeats 16000000 in
theorem ex_k6 (left : Nat) (h1 : 1 ≤ left) (ix : ExC (left - 1)) (iw : WantC (left - 1)) (n : Int) (t : ByteArray) (xs : List Ex) (p : Int) (B : Option Addr) (d : Nat) (F : Nat → Prop) (w : World) (base cb : Nat) (K : Hd) (A : Option Addr) (c : Nat) (env : Env) (many : Nat) (us : List Fn) (hex : exF (.mk 6 n t xs p) left = 0) (hZ : ExZ (.mk 6 n t xs p)) (hFZ : ∀ f ∈ us, FnZ f) (hUL : us.length ≤ 281474976710656) (hEL : env.length ≤ 1000) (hE : EnvOK env) (hO : OutsOK us)
    (h : FrC w w base cb K A c env many us F) (hA : ArgsIn w F (.slice B xs.length d) xs) :
    Calls Tryz.prog 165 #[.pointer (some ⟨cb, 0, none⟩), .agg #[.int .i64 6, .int .i64 n, .string t, .slice B xs.length d, .int .i64 p]] w fun e w' => EndT (exT us env (.mk 6 n t xs p)) (.int .i64 ·) e ∧ Below w.heap.size w w' := by
  obtain ⟨-, hok, -⟩ := exF_args' hex
  obtain ⟨a, b, rfl⟩ : ∃ a b, xs = [a, b] := by
    have : xs.length = 2 := by rw [ok6] at hok; simp at hok; exact hok.1
    match xs, this with
    | [a, b], _ => exact ⟨a, b, rfl⟩
  have hb := (Below.refl w.heap.size w).alloc (Nat.le_refl _) (.cells #[.int .i64 6, .int .i64 n, .string t, .slice B 2 d, .int .i64 p] 186)
  have HX := Lib.hid (heap_alloc_new w (.cells #[.int .i64 6, .int .i64 n, .string t, .slice B 2 d, .int .i64 p] 186))
  have HC := Lib.hid (two_c left h1 ix iw n t a b p B d F _ base cb K A c env many us hex hZ hFZ hUL hEL hE hO (h.reb.below hb).reb (h.args (hb.mono h.bs) hA))
  have HB := Lib.hid hb
  clear hb h ix iw hA hex hZ hFZ hUL hE hO hok
  obtain ⟨r, hr⟩ : ∃ r, exT us env (.mk 6 n t [a, b] p) = r := ⟨_, rfl⟩
  have HR := Lib.hid hr
  have HC2 : Hid (Calls Tryz.prog 205 #[.pointer (some ⟨cb, 0, none⟩), .agg #[.int .i64 6, .int .i64 n, .string t, .slice B 2 d, .int .i64 p]] (w.alloc (.cells #[.int .i64 6, .int .i64 n, .string t, .slice B 2 d, .int .i64 p] 186)) fun e w' => EndT r (.int .i64 ·) e ∧ Below (w.alloc (.cells #[.int .i64 6, .int .i64 n, .string t, .slice B 2 d, .int .i64 p] 186)).heap.size (w.alloc (.cells #[.int .i64 6, .int .i64 n, .string t, .slice B 2 d, .int .i64 p] 186)) w') := Lib.hid (by rw [← hr]; exact HC.out)
  clear HC hr
  go_enter Tryz.func165, Tryz.ntmps165
  go_upto_region 1 with (fail)
  obtain ⟨⟨z0, z1, z2, z3, z4⟩, -⟩ := facts5 HX.out
  generalize w.alloc _ = w1 at HX HB HC2 z0 z1 z2 z3 z4 ⊢
  generalize w.heap.size = n1 at HX z0 z1 z2 z3 z4 ⊢
  go_wp2_with fail
  refine HC2.out.mono ?_
  rintro e w2 ⟨he, hb2⟩
  have HB2 := Lib.hid (HB.out.trans (hb2.mono HB.out.size))
  clear z0 z1 z2 z3 z4 hb2
  cases r with
  | bad q er =>
    have he' : e = faultE q er := he
    subst he'
    clear he
    unfold faultE
    go_wp2_with fail
    exact ⟨rfl, by rw [HR.out]; rfl, HB2.out⟩
  | ok u =>
    have he' : e = .returned (.int .i64 u) := he
    subst he'
    clear he
    go_wp2_with fail
    go_ret
    exact ⟨by rw [HR.out]; rfl, HB2.out⟩
end Go.Proofs.YtmngofgminlloaaGreatDoor
