/-
  The contract of word.Split: its words, or the position of an error. Condition: the variable MaxLen of the library holds some int.
-/
import Derived.Test.YtmngofgminlloaaGreatDoorTT03
set_option linter.all false
namespace Go.Proofs.YtmngofgminlloaaGreatDoor
open Go.RowKit Tw

theorem elemWord : ElemOk Tryz.prog 42 46 3 := ⟨Tryz.underlying42, by kernel_rfl, by decide⟩
theorem MaxLenAt.below {w w' : World} (h : MaxLenAt w) {B : Nat} (hb : Below B w w') (hB : 2 < B) : MaxLenAt w' := by
  obtain ⟨m, hm⟩ := h
  exact ⟨m, (hb.cell (p := ⟨2, 0, none⟩) hB).trans hm⟩

theorem wcells_snoc (l : List Wd) (x : Wd) : wcells (l ++ [x]) = wcells l ++ x.cells := by simp [wcells]

def codeOf (r : Option Nat × List Wd) : Int := if r.1.isSome then 15 else 0
def posOf (r : Option Nat × List Wd) : Int := (r.1.getD 0 : Nat)

end Go.Proofs.YtmngofgminlloaaGreatDoor
