/-
  The contract of strconv.FormatUint(u, 10): the decimal numeral of u. Conditions: u is less than 2^64, and the table of powers of ten of the library is as its initialiser lays it.
-/
import Derived.Test.YtmngofgminlloaaDoorParseU
import Derived.Shelf.Strconv.Itoa3
import Derived.Lib.AppendIntMem
namespace Go.Proofs.YtmngofgminlloaaDoor
open Go.RowKit Tw Go.Shelf Go.Sort

theorem below_grow (w : World) (k : Nat) (os : Array Obj) : Below w.heap.size w (grow (w.drewN k) os) := by
  refine ⟨rfl, rfl, rfl, by simp [grow, World.drewN], fun i hi => ?_⟩
  simp only [grow]
  rw [Array.getElem?_append_left (by simpa using hi)]
  simp [World.drewN]

set_option maxHeartbeats 6400000 in
set_option maxRecDepth 100000 in
theorem ifmtU (u : Nat) (hu64 : u < 18446744073709551616) (w : World) (htab : Lib.TabIs Tryd.prog w "internal/strconv.uint64pow10" .u64 Lib.pow10Tab) :
    Calls Tryd.prog 37 #[.int .u64 u, .int .i64 10] w fun e w' => e = .returned (.string ⟨(Lib.decDigits u).toArray⟩) ∧ Below w.heap.size w w' := by
  by_cases hs : u < 100
  · go_enter Tryd.func37, Tryd.ntmps37
    go_wp2_with (go_at_call 58; refine (Tryd.internal_strconv_small u hs _).mono ?_; rintro e w' ⟨rfl, rfl⟩)
    go_ret
    exact ⟨rfl, Below.refl _ _⟩
  · have hu1 : 1 ≤ u := by omega
    have hnd20 : Lib.nDigits u ≤ 20 := by have := Lib.numDigits_eq u hu1 hu64; split at this <;> omega
    have hal : Tryd.prog.arrayLen 79 = 24 := by kernel_rfl
    have hsl1 : ∀ W, (Instr.sliceAt 79 (.pointer (some ⟨w.heap.size, 0, none⟩)) none (some (.int .i64 (Lib.nDigits u : Int))) none).run Tryd.prog W = .ok (.slice (some ⟨w.heap.size, 0, none⟩) (Lib.nDigits u) 24) W := fun W => by
      rw [run_sliceAt_array_h W 79 ⟨w.heap.size, 0, none⟩ (by simp [Program.arrayLen, Program.elem, Tryd.underlying79]) .i64 (Lib.nDigits u : Int) (by omega) (by rw [hal]; omega)]
      go_simp
    have hH0 := Lib.holds_zero0 w 79 (Lib.nDigits u) (by omega)
    have hfmt := Tryd.internal_strconv_formatBase10 w.heap.size 0 24 u (Array.replicate (Lib.nDigits u) 0) (w.alloc (.cells Lib.zeros24 79)) hH0 (by rw [Array.size_replicate]; exact Lib.lt_pow_nDigits u) hu64 (by rw [Array.size_replicate]; omega)
    rw [Array.size_replicate] at hfmt
    have HH0 := Lib.hid hH0
    clear hH0 hal
    go_enter Tryd.func37, Tryd.ntmps37
    go_wp2_with (go_at_call 59; refine (Tryd.internal_strconv_numDigits u hu1 hu64 _ (Lib.tabIs_alloc htab _)).mono ?_; rintro e w' ⟨rfl, rfl⟩)
    go_at_call 60
    refine hfmt.mono ?_
    rintro e w' ⟨rfl, k, v', dk, rfl, hF⟩
    have hcv : (convert 46 9 (.slice (some ⟨w.heap.size, 0, none⟩) (Lib.nDigits u) 24)).run Tryd.prog ((putRow (fun (b : UInt8) => Value.int .u8 (b.toNat : Int)) (w.alloc (.cells Lib.zeros24 79)) w.heap.size 0 dk).drewN k) = .ok (.string ⟨(Lib.decDigits u).toArray⟩) ((putRow (fun (b : UInt8) => Value.int .u8 (b.toNat : Int)) (w.alloc (.cells Lib.zeros24 79)) w.heap.size 0 dk).drewN k) := by
      have h := run_convert_bytes_back (P := Tryd.prog) ((putRow (fun (b : UInt8) => Value.int .u8 (b.toNat : Int)) (w.alloc (.cells Lib.zeros24 79)) w.heap.size 0 dk).drewN k) 46 9 5 ⟨w.heap.size, 0, none⟩ 24 (Lib.decDigits u) Tryd.underlying46 Tryd.underlying5 Tryd.underlying9 (fun j hj => by
        rw [Lib.row_is_numeral hF j hj, Lib.add_plain, World.cell?_drewN]
        exact cell?_putRow (fun (b : UInt8) => Value.int .u8 (b.toNat : Int)) _ w.heap.size 0 _ dk HH0.out (by rw [hF.size, Array.size_replicate]) j (by rw [hF.size]; rw [Lib.decDigits_length] at hj; exact hj))
      rw [Lib.decDigits_length] at h
      exact h
    go_wp2
    go_ret
    refine ⟨rfl, ?_⟩
    rw [alloc_eq_grow]
    obtain ⟨os', _, e⟩ := putRow_grow_new (fun (b : UInt8) => Value.int .u8 (b.toNat : Int)) w #[.cells Lib.zeros24 79] w.heap.size 0 dk (Nat.le_refl _)
    rw [e]
    exact below_grow w k os'

set_option maxHeartbeats 400000 in
theorem fmtU (u : Nat) (hu64 : u < 18446744073709551616) (w : World) (htab : Lib.TabIs Tryd.prog w "internal/strconv.uint64pow10" .u64 Lib.pow10Tab) :
    Calls Tryd.prog 20 #[.int .u64 u, .int .i64 10] w fun e w' => e = .returned (.string ⟨(Lib.decDigits u).toArray⟩) ∧ Below w.heap.size w w' := by
  have H := Lib.hid (ifmtU u hu64 w htab)
  go_enter Tryd.func20, Tryd.ntmps20
  go_wp2_with fail
  refine H.out.mono ?_
  rintro e w' ⟨rfl, hb⟩
  go_wp2_with fail
  go_ret
  exact ⟨rfl, hb⟩

theorem parseM_le (M : Nat) (l : Bs) : ∀ (a u : Nat), Lib.parseUintM M a l = .ok u → a ≤ M → u ≤ M := by
  induction l with
  | nil => intro a u h ha; simp only [Lib.parseUintM] at h; cases h; exact ha
  | cons c l ih =>
    intro a u h ha
    simp only [Lib.parseUintM] at h
    repeat' (split at h)
    all_goals first | (cases h; done) | exact ih _ _ h (by omega)

/-- Nil, or some error. -/
def ErrVal (v : Value) : Prop := v = .nilIface ∨ ∃ te pe, v = .iface te pe
/-- What is known of the two error variables. -/
def ErrVars (w : World) : Prop := (∃ v, w.cell? ⟨3, 0, none⟩ = some v ∧ ErrVal v) ∧ (∃ v, w.cell? ⟨4, 0, none⟩ = some v ∧ ErrVal v)

set_option maxHeartbeats 4000000 in
set_option maxRecDepth 100000 in
/-- strconv.ParseUint(s, 10, 62): the number and nil; or some number and an error. -/
theorem parse62 (s : ByteArray) (hne : s.size ≠ 0) (hmax : s.size ≤ 4000) (w : World) (hv : ErrVars w) (h5 : 5 < w.heap.size) :
    Calls Tryd.prog 19 #[.string s, .int .i64 10, .int .i64 62] w fun e w' => (∃ (u : Nat) (ev : Value), e = .returned (.tuple #[.int .u64 u, ev]) ∧ u < 18446744073709551616 ∧
      ((Lib.parseUintM 4611686018427387903 0 s.data.toList = .ok u ∧ ev = .nilIface) ∨ ((∀ n, Lib.parseUintM 4611686018427387903 0 s.data.toList ≠ .ok n) ∧ ∃ te pe, ev = .iface te (.pointer pe)))) ∧ Below w.heap.size w w' := by
  obtain ⟨⟨ev1, hv1, he1⟩, ⟨ev2, hv2, he2⟩⟩ := hv
  have hI := iparse62 s hne hmax w
  have hbw := Lib.bytesWorld_below w 5 s
  cases hp : Lib.parseUintM 4611686018427387903 0 s.data.toList with
  | ok u =>
    have hu : u < 18446744073709551616 := by
      have := parseM_le _ _ _ _ hp (Nat.zero_le _); omega
    rw [hp] at hI
    have hI : Calls Tryd.prog 35 #[.string s, .int .i64 10, .int .i64 62] w fun e w' => e = .returned (.tuple #[.int .u64 u, .nilIface]) ∧ w' = Lib.bytesWorld w 5 s := hI
    have HI := Lib.hid hI; have HU := Lib.hid hu; have HB := Lib.hid hbw
    clear hI hp hu hbw hv1 hv2 he1 he2
    go_enter Tryd.func19, Tryd.ntmps19
    go_wp2_with fail
    refine HI.out.mono ?_
    rintro e W1 ⟨rfl, hW⟩
    have HW := Lib.hid hW; clear hW
    go_wp2
    go_ret2
    exact ⟨⟨u, _, rfl, HU.out, .inl ⟨rfl, rfl⟩⟩, by rw [HW.out]; exact HB.out⟩
  | range =>
    rw [hp] at hI
    have hI : Calls Tryd.prog 35 #[.string s, .int .i64 10, .int .i64 62] w fun e w' => e = .returned (.tuple #[.int .u64 4611686018427387903, .iface 72 (.int .i64 1)]) ∧ w' = Lib.bytesWorld w 5 s := hI
    have HI := Lib.hid hI; have HB := Lib.hid hbw
    have HV : ∀ W, Below w.heap.size w W → W.cell? ⟨4, 0, none⟩ = some ev2 := fun W h => (h.cell (p := ⟨4, 0, none⟩) (by show 4 < _; omega)).trans hv2
    have HV := Lib.hid HV
    clear hI hp hbw hv1 hv2
    go_enter Tryd.func19, Tryd.ntmps19
    go_wp2_with fail
    refine HI.out.mono ?_
    rintro e W1 ⟨rfl, hW⟩
    have HB1 : Hid (Below w.heap.size w W1) := Lib.hid (by rw [hW]; exact HB.out)
    clear hW
    go_wp2_with fail
    refine (Tryd.strconv_toError_range ⟨#[80, 97, 114, 115, 101, 85, 105, 110, 116]⟩ s 10 62 ev2 _ (by omega) (HV.out _ HB1.out) he2).mono ?_
    rintro e W2 ⟨N, rfl, h1, h2, h3⟩
    have HB2 : Hid (Below w.heap.size w W2) := Lib.hid (HB1.out.trans (h3.mono HB1.out.size))
    clear h1 h2 h3
    go_wp2
    go_ret2
    exact ⟨⟨4611686018427387903, _, rfl, by omega, .inr ⟨(fun n h => by cases h), _, _, rfl⟩⟩, HB2.out⟩
  | _ =>
    rw [hp] at hI
    have hI : Calls Tryd.prog 35 #[.string s, .int .i64 10, .int .i64 62] w fun e w' => e = .returned (.tuple #[.int .u64 0, .iface 72 (.int .i64 2)]) ∧ w' = Lib.bytesWorld w 5 s := hI
    have HI := Lib.hid hI; have HB := Lib.hid hbw
    have HV : ∀ W, Below w.heap.size w W → W.cell? ⟨3, 0, none⟩ = some ev1 := fun W h => (h.cell (p := ⟨3, 0, none⟩) (by show 3 < _; omega)).trans hv1
    have HV := Lib.hid HV
    clear hI hp hbw hv1 hv2
    go_enter Tryd.func19, Tryd.ntmps19
    go_wp2_with fail
    refine HI.out.mono ?_
    rintro e W1 ⟨rfl, hW⟩
    have HB1 : Hid (Below w.heap.size w W1) := Lib.hid (by rw [hW]; exact HB.out)
    clear hW
    go_wp2_with fail
    refine (Tryd.strconv_toError_syntax ⟨#[80, 97, 114, 115, 101, 85, 105, 110, 116]⟩ s 10 62 ev1 _ (by omega) (HV.out _ HB1.out) he1).mono ?_
    rintro e W2 ⟨N, rfl, h1, h2, h3⟩
    have HB2 : Hid (Below w.heap.size w W2) := Lib.hid (HB1.out.trans (h3.mono HB1.out.size))
    clear h1 h2 h3
    go_wp2
    go_ret2
    exact ⟨⟨0, _, rfl, by omega, .inr ⟨(fun n h => by cases h), _, _, rfl⟩⟩, HB2.out⟩
end Go.Proofs.YtmngofgminlloaaDoor
