/- Of the program: one step of a head that is being reckoned, in one law. -/
import Derived.Test.YtheaeffhhbjpmaaGreatDoorXIm
import Derived.Test.YtheaeffhhbjpmaaGreatDoorXMk
namespace Go.Proofs.YtheaeffhhbjpmaaGreatDoor
open Go.RowKit Go.Proofs.YtheaeffhhbjpmaaGreatDoorW.PrintWords Go.Proofs.YtheaeffhhbjpmaaGreatDoorW.PrintLast
set_option linter.unusedVariables false
set_option linter.unusedSimpArgs false
/-- The head and whether a number was out of range. -/
noncomputable def stS (p : Int × Bool) (x : Int) : Int × Bool := if bP (inR x) then (linkF p.1 x, p.2) else (p.1, true)
theorem stS_in {p : Int × Bool} {x : Int} (h : inR x) : stS p x = (linkF p.1 x, p.2) := by unfold stS; rw [bP_t h]; rfl
theorem stS_out {p : Int × Bool} {x : Int} (h : ¬ inR x) : stS p x = (p.1, true) := by unfold stS; rw [bP_f h]; rfl
def InH (p : Int × Bool) : Prop := 0 ≤ p.1 ∧ p.1 < 1099511627791
theorem InH.step {p : Int × Bool} (h : InH p) (x : Int) : InH (stS p x) := by
 by_cases hx : inR x
 ·rw [stS_in hx]; exact linkF_range h.1 hx
 ·rw [stS_out hx]; exact h
end Go.Proofs.YtheaeffhhbjpmaaGreatDoor
