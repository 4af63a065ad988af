/- wheels: the reference's mod, Distance, Vector. -/
import Derived.Test.YtnhflahgbkmloaaWhJ
import Derived.Test.YtnhflahgbkmloaaWhOth
namespace Go.Proofs.Ytnhflahgbkmloaa
open Go.RowKit Go.Sx Go.Wh Go.Dft
set_option linter.unusedVariables false
set_option linter.unusedSimpArgs false
set_option maxRecDepth 100000
set_option maxHeartbeats 4000000



def dI (n x y : Nat) : Int := if (n : Int) - ((x : Int) - (y : Int)) < (x : Int) - (y : Int) then (n : Int) - ((x : Int) - (y : Int)) else (x : Int) - (y : Int)
theorem dI_range {n x y : Nat} (h : y < x) (h2 : x < n) : 1 ≤ dI n x y ∧ dI n x y ≤ ((n / 2 : Nat) : Int) := by unfold dI; split <;> omega
def gV (n : Nat) (c : Int) (x y e : Nat) : Int := if dI n x y - 1 = (e : Int) then bitI c x * bitI c y else 0
def vecL (n : Nat) (c : Int) : List Int := (List.range (n / 2)).map fun e => Sm (fun x => Sm (fun y => gV n c x y e) x) n
theorem bit_or (c : Int) (x : Nat) : bitI c x = 0 ∨ bitI c x = 1 := by have := bitI_range c x; omega

end Go.Proofs.Ytnhflahgbkmloaa
