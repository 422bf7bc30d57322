/-
  The contract of slices.Equal at words, for two slices that hold the same words.
-/
import Derived.Test.YtmngofgminlloaaDoorWords1
import Derived.Laws.StructEq
import Derived.Deep.QuietTactic
import Derived.BigQuiet
namespace Go.Proofs.YtmngofgminlloaaDoor
open Go.RowKit Tw

set_option maxRecDepth 100000 in
set_option maxHeartbeats 2000000 in
theorem wequal_some (g cap g' cap' : Nat) (ws : List Wd) (w : World) (hn : ws.length ≤ 4000) (hc : ∀ j u, (wcells ws)[j]? = some u → w.cell? ⟨g, j, none⟩ = some u) (hc' : ∀ j u, (wcells ws)[j]? = some u → w.cell? ⟨g', j, none⟩ = some u) :
    Calls Tryd.prog 6 #[.slice (some ⟨g, 0, none⟩) ws.length cap, .slice (some ⟨g', 0, none⟩) ws.length cap'] w fun e w' => e = .returned (.bool true) ∧ Below w.heap.size w w' := by
  have HC := Lib.hid hc; clear hc
  have HC' := Lib.hid hc'; clear hc'
  obtain ⟨n, hnn⟩ : ∃ n, n = ws.length := ⟨_, rfl⟩
  rw [← hnn] at hn ⊢
  have HN := Lib.hid hnn; clear hnn
  go_enter Tryd.func6, Tryd.ntmps6
  go_wp2_with fail
  go_loopw [13] (fun i wr => ∃ k q : Nat, k ≤ n ∧ i = .int .i64 k ∧ wr = w.drewN q) (fun i _ => n - (intOf i).toNat)
  case atStart => exact ⟨0, 0, Nat.zero_le _, rfl, rfl⟩
  case round =>
    obtain ⟨k, q, hk, rfl, rfl⟩ := hrel
    by_cases hlt : k < n
    · obtain ⟨x, hx⟩ : ∃ x, ws[k]? = some x := ⟨_, List.getElem?_eq_getElem (by have := HN.out; omega)⟩
      have hca := wcells_at ws k x hx
      have c0 : w.cell? ⟨g, k * 3, none⟩ = some (.int .i64 x.kind) := HC.out _ _ hca.1
      have c1 : w.cell? ⟨g, k * 3 + 1, none⟩ = some (.string x.text) := HC.out _ _ hca.2.1
      have c2 : w.cell? ⟨g, k * 3 + 2, none⟩ = some (.int .i64 x.pos) := HC.out _ _ hca.2.2
      have d0 : w.cell? ⟨g', k * 3, none⟩ = some (.int .i64 x.kind) := HC'.out _ _ hca.1
      have d1 : w.cell? ⟨g', k * 3 + 1, none⟩ = some (.string x.text) := HC'.out _ _ hca.2.1
      have d2 : w.cell? ⟨g', k * 3 + 2, none⟩ = some (.int .i64 x.pos) := HC'.out _ _ hca.2.2
      clear hca hx
      have k0 : (0 : Int) ≤ (k : Int) := by omega
      have k1 : (k : Int) < (n : Int) := by omega
      go_wp2_with fail
      go_quiet (fail)
      go_wp2_with fail
      go_roundw
      case rel => exact ⟨k + 1, q + nq, by omega, by go_num, rfl⟩
      case measure => simp [intOf]; omega
    · go_wp2_with fail
      go_ret
      exact ⟨rfl, below_drewN (Below.refl _ _) q⟩

set_option maxHeartbeats 2000000 in
theorem wequal_0 (A A' : Option Addr) (c c' : Nat) (w : World) :
    Calls Tryd.prog 6 #[.slice A 0 c, .slice A' 0 c'] w fun e w' => e = .returned (.bool true) ∧ Below w.heap.size w w' := by
  go_enter Tryd.func6, Tryd.ntmps6
  go_wp2_with fail
  go_loop [13] (fun i => i = .int .i64 0) (fun i => 0)
  case atStart => rfl
  case round =>
    obtain rfl := hrel
    go_wp2_with fail
    go_ret
    exact ⟨rfl, Below.refl _ _⟩
theorem wequal_any (v v' : Value) (ws : List Wd) (w : World) (hn : ws.length ≤ 4000) {B B' : Nat} (h : WRow w B v ws) (h' : WRow w B' v' ws) :
    Calls Tryd.prog 6 #[v, v'] w fun e w' => e = .returned (.bool true) ∧ Below w.heap.size w w' := by
  rcases h with ⟨rfl, rfl⟩ | ⟨g, cap, rfl, hg, hc⟩
  · rcases h' with ⟨rfl, _⟩ | ⟨g', cap', rfl, hg', hc'⟩
    · exact wequal_0 none none 0 0 w
    · exact wequal_0 none (some ⟨g', 0, none⟩) 0 cap' w
  · rcases h' with ⟨rfl, rfl⟩ | ⟨g', cap', rfl, hg', hc'⟩
    · exact wequal_0 (some ⟨g, 0, none⟩) none cap 0 w
    · exact wequal_some g cap g' cap' ws w hn hc hc'
end Go.Proofs.YtmngofgminlloaaDoor
