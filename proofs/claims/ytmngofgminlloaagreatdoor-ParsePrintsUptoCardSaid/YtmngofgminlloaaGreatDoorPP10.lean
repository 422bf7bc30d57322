/-
  The law ParsePrints holds, where what it reads is of bulk at most 1048576: its row, and the tied card. For all such inputs the law returns true; the condition is the row's own: the listed variables of the library are as the program's text lays them.
-/
import Derived.Test.YtmngofgminlloaaGreatDoorTT15
import Derived.Test.YtmngofgminlloaaGreatDoorPP09
import Derived.Deep.DeepHandedRow
import Derived.JoinedCond
import Derived.Test.YtmngofgminlloaaGreatDoorPP01
import Derived.Test.YtmngofgminlloaaGreatDoorPP03
set_option linter.all false
namespace Go.Proofs.YtmngofgminlloaaGreatDoor.parsePrints
open Go Go.ChangeShapes Go.WideShapes Go.ChangeAt Go.RowKit
open Go.ChangeMaps (open_string shut_string)

theorem witness_row_shaped {H : Type} {enc : TypeId × Value → H} {C : Checked} {os : Os} {f : FuncId} {fn : Func} {s : OpenSpec} {conds : List PathCond} {apart : Bool} {laid : List (String × DataW Unit)} (modest : Bool) (w0 : World) (args : Array Value) (hos : w0.os = os)
    (hsh : (w0.forCall (fun _ _ => 0) ⟨#[], args, []⟩).Shaped C.prog)
    (hok : Input.okWideB C.prog (w0.forCall (fun _ _ => 0) ⟨#[], args, []⟩) f ⟨#[], args, []⟩ = true)
    (hrow : s.preRow enc C.prog fn conds apart laid (w0.forCall (fun _ _ => 0) ⟨#[], args, []⟩).memory args) :
    ∃ (w : World) (tape : Tape) (i : Input), w.os = os ∧ (w.forCall tape i).Shaped C.prog ∧ i.vars = [] ∧ Input.okWide C.prog (w.forCall tape i) .any w.heap.size f i ∧
      s.preRow enc C.prog fn conds apart laid (w.forCall tape i).memory i.args ∧ ({ modest := modest } : Assume).holds C.prog (lone (Frame.enter C.prog f i.args .normal) [] (w.forCall tape i)) :=
  ⟨w0, fun _ _ => 0, ⟨#[], args, []⟩, hos, hsh, (Input.okWide_of_okWideB (base := 0) hok).1, (Input.okWide_of_okWideB hok).2, hrow, by
    simp only [Assume.holds]
    exact ⟨by simp, by simp, fun _ => Modest.zero, by simp, by simp⟩⟩
theorem reads (os : Os) {H : Type} (enc : TypeId × Value → H) : ∃ places, DataW.whole enc Tryz.prog ((World.laidAll Tryz.prog os Rows.parsePrintsUptoRow.laid).forCall (fun _ _ => 0) ⟨#[], #[.agg #[.slice none 0 0]], []⟩).memory Tryz.f3.params.toList Rows.parsePrintsSpec.vars false (#[Value.agg #[.slice none 0 0]] : Array Value).toList 8 = some ([.agg [.nil]], [], places) :=
  ⟨[], by kernel_rfl⟩

set_option maxRecDepth 100000 in
theorem lifted (os : Os) (started : os.Started) (H : Type) (enc : TypeId × Value → H) (F : Stop.Interp) :
    ReturnsInHanded {} Tryz.checked os 3 .any ((Rows.OpenSpec.upto Rows.parsePrintsSpec).preRow enc Tryz.prog Tryz.f3 Rows.parsePrintsUptoRow.domain false Rows.parsePrintsUptoRow.laid) (((Rows.OpenSpec.upto Rows.parsePrintsSpec).at F).post enc Tryz.prog Tryz.f3 false true false false) := by
  obtain ⟨places, hx⟩ := reads os enc
  refine returnsInHanded_of_row (C := Tryz.checked) (s := Rows.OpenSpec.upto Rows.parsePrintsSpec) K.own started (by kernel_rfl) Tryz.func3
    (witness_row_shaped (enc := enc) (C := Tryz.checked) false (World.laidAll Tryz.prog os Rows.parsePrintsUptoRow.laid) #[.agg #[.slice none 0 0]] (World.laidAll_os _ _ _) (World.shaped_of_ZipB (by kernel_rfl) (by kernel_rfl)) (by kernel_rfl)
      (OpenSpec.preRow_of_cond 8 hx (by kernel_rfl) (fun k hk => by cases hk; kernel_rfl) (by kernel_rfl) (by rw [MakeChecks.laidMetH_plain _ _ _ (by kernel_rfl)]; exact laidMet_laidAll _ (by kernel_rfl) (by kernel_rfl)))) ?_
  intro W base args ds gs before hval0 hW _ hcond hwt hL hsh _
  have hval : ∀ (j : Nat) t v, Tryz.f3.params[j]? = some t → args[j]? = some v → Value.okWide Tryz.prog W .any base t v := hval0
  have hW' := hW
  obtain ⟨p, q, hA0, hV, rfl, _, _⟩ := hW
  have hA : DataW.TrodAll enc Tryz.prog W 0 (fun _ => true) true Tryz.f3.params.toList args.toList ds p := hA0
  rw [Tryz.params3] at hA hval hwt
  obtain ⟨v0, vs0, d0, ds0, p0, q0, hargs, rfl, rfl, h0, r0⟩ := trodAll_cons hA
  obtain ⟨rfl, rfl, rfl⟩ := trodAll_nil r0
  obtain rfl : args = #[v0] := by cases args; simp_all
  obtain ⟨rfl, rfl⟩ := trodVars_none hV
  have hlig : Lig (d0.weights Tryz.prog 24) := fun y hy => by
    have := List.all_eq_true.1 hwt y (List.mem_append_left _ hy)
    simpa using this
  obtain ⟨a, us, c, rfl, hcap, hlen, hU, hZ⟩ := open_unit (hval 0 24 v0 rfl rfl) h0 hlig
  have hbk : Rows.uptoBulkAll ([d0] ++ []) ≤ 1048576 := of_decide_eq_true (hcond _ rfl)
  have hbk2 : Rows.uptoBulk d0 ≤ 1048576 := by
    simp only [List.append_nil, Rows.uptoBulkAll] at hbk
    omega
  have hbn := bulk_unit h0 hU
  have hbulk : unitF us = 0 → (pcsT (unPc us)).length ≤ 140737488355328 := fun h => by
    have := un_len us (unitF_each h).2
    omega
  have h0k := h0
  clear hA0 hval0
  try simp only [List.append_nil] at hW'
  have hlt : ∀ x ∈ p0, x.block < W.heap.size := fun x hx => by simpa using hW'.lt x hx
  rw [MakeChecks.laidMetH_plain _ _ _ (by kernel_rfl)] at hL
  refine (parsePrints_any us a c (fun _ => True) W hU hZ hlen (K.glob_of hL hsh) hbulk).mono fun e W' ⟨he, hb⟩ => ?_
  subst he
  have hT := Below.trod K.laidOut (by kernel_rfl) (of_decide_eq_true (by kernel_rfl)) h0k hb hlt
  have hTT : DataW.TrodAll enc Tryz.prog W' 0 (fun b => decide (b < W.heap.size)) true _ _ _ _ := trodAll_mk1 hT
  try simp only [List.append_nil] at hTT
  exact ⟨_, rfl, _, _, _, [], p0, [], hW', trodAll_mk1 (shut_bool Tryz.underlying4 _), hTT, rfl, hb.frame _, fun h => by cases h⟩

theorem named : Tryz.prog.funcNamed "tourney/tourlaw5.ParsePrints" = some 3 := by kernel_rfl
theorem closed : joinedFacts Tryz.prog 3 Tryz.f3 (Rows.OpenSpec.upto Rows.parsePrintsSpec).bare Rows.parsePrintsUptoRow = true := by kernel_rfl
theorem inst : Tryz.f3.isInstance Tryz.prog Rows.parsePrintsUptoRow.origin Rows.parsePrintsUptoRow.targs := of_decide_eq_true (by kernel_rfl)
theorem wrap : Tryz.f3.isWrapper Tryz.prog Rows.parsePrintsUptoRow.wrapper Rows.parsePrintsUptoRow.mainSum := by unfold Func.isWrapper; first | (rw [if_pos (by decide +kernel)]; kernel_rfl) | (rw [if_neg (by decide +kernel)]; exact ⟨rfl, rfl⟩)
theorem lifted2 (os : Os) (started : os.Started) (H : Type) (enc : TypeId × Value → H) (F : Stop.Interp) :
    ReturnsInHanded Rows.parsePrintsUptoRow.assume Tryz.checked os 3 .any (Rows.parsePrintsUptoRow.pre enc Tryz.prog Tryz.f3 (Rows.OpenSpec.upto Rows.parsePrintsSpec)) (((Rows.OpenSpec.upto Rows.parsePrintsSpec).at F).post enc Tryz.prog Tryz.f3 Rows.parsePrintsUptoRow.apart Rows.parsePrintsUptoRow.fresh Rows.parsePrintsUptoRow.handsOn Rows.parsePrintsUptoRow.again) := by
  rw [OpenClaim.pre_eq_preRow]; exact lifted os started H enc F
set_option maxRecDepth 100000 in
theorem holds : Rows.parsePrintsUptoRow.holds Tryz.pinned (Rows.OpenSpec.upto Rows.parsePrintsSpec) :=
  OpenClaim.holds_of_cond (p := Tryz.pinned) (s := Rows.OpenSpec.upto Rows.parsePrintsSpec) (c := Rows.parsePrintsUptoRow) 3 Tryz.f3 rfl rfl rfl rfl rfl rfl rfl ⟨rfl, rfl, rfl, rfl, rfl⟩ rfl rfl rfl rfl rfl named Tryz.func3 closed inst wrap
    (fun os started H enc _ F => lifted2 os started H enc F)

theorem proved : Rows.ParsePrintsUptoCardSaid :=
  Claim7.holds_tied_plain_at .later [] [.data, .data, .data, .data, .sentinel, .sentinel, .listed, .data, .pinned] true (true, "927d6b63b338232549856b2600b207b8f35beedab55975acef0c13d03cee21d6") true holds (fun _ h => by cases h) (by kernel_rfl) (fun _ h => by cases h) parsePrintsUpto_row_tie rfl ⟨rfl, rfl⟩ (by kernel_rfl) rfl
    (fun f fn hf hfn => by
      obtain rfl : f = 3 := Option.some.inj ((show Tryz.prog.funcNamed "tourney/tourlaw5.ParsePrints" = some 3 by kernel_rfl).symm.trans hf) |>.symm
      obtain rfl : fn = Tryz.f3 := (Option.some.inj (Tryz.func3.symm.trans hfn)).symm
      exact ⟨by kernel_rfl, fun j t ht => by
        rw [Tryz.params3] at ht
        have hm : t ∈ [24] := by simpa using Array.mem_of_getElem? ht
        have hall : ([24].all fun u => !Tryz.prog.wantsStandIn u) = true := by kernel_rfl
        exact (show Tryz.prog.wantsStandIn t = false by simpa using List.all_eq_true.1 hall t hm)⟩)
    (by kernel_rfl)
#print axioms proved
end Go.Proofs.YtmngofgminlloaaGreatDoor.parsePrints
