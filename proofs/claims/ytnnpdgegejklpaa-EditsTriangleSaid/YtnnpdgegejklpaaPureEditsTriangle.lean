import Derived.Test.YtnnpdgegejklpaaPEditsTrianglex1
import Derived.Test.YtnnpdgegejklpaaEdLaw
namespace Go.Proofs.Ytnnpdgegejklpaa.Pure
open Go.RowKit Go.Proofs.Ytnnpdgegejklpaa.PEditsTriangle Go.Proofs.YtnnpdgegejklpaaW.PrintWords Go.Proofs.YtnnpdgegejklpaaW.PrintLast

/-- By way of a third line it never costs less: for every input. -/
theorem EditsTriangle : sackbutlaw09_EditsTriangle.Pure := by
  intro a0 a1 a2 p q r h0 h1 h2 hp hq hr
  refine ⟨1, ?_⟩
  have haw : sackbutlaw09_awake.f = some true := by
    unfold sackbutlaw09_awake.f edits_Cost.f
    rw [costR_awake]; rfl
  have hv : sackbutref09_Valid.f p q r = some (decide (okP p q r)) := by
    unfold sackbutref09_Valid.f okP
    repeat' split
    all_goals (congr 1; symm; first | (apply decide_eq_decide.2; omega) | (apply decide_eq_false; omega))
  have hf : sackbutlaw09_fine.f a0 a1 p q r = some (decide (a0.size ≤ 12 ∧ a1.size ≤ 12 ∧ okP p q r)) := by
    unfold sackbutlaw09_fine.f sackbutref09_Line.f
    rw [hv]
    have e : ∀ n : Nat, ((n : Int) ≤ 12) = (n ≤ 12) := fun n => propext (by omega)
    by_cases c0 : a0.size ≤ 12 <;> by_cases c1 : a1.size ≤ 12 <;> simp [e, c0, c1]
  unfold sackbutlaw09_EditsTriangle.f
  rw [hf]
  unfold sackbutlaw09_EditsTriangle.j0 sackbutref09_Line.f sackbutlaw09_Of.f edits_Cost.f
  by_cases c : a0.size ≤ 12 ∧ a1.size ≤ 12 ∧ okP p q r
  · rw [decide_eq_true c]
    by_cases c2 : a2.size ≤ 12
    · have k2 : ((a2.size : Int) ≤ 12) := by omega
      simp only [k2, decide_true, Option.bind_some, if_true, Bool.not_true, Bool.false_eq_true, if_false, costR_ok c.1 c.2.1 c.2.2, costR_ok c.1 c2 c.2.2, costR_ok c2 c.2.1 c.2.2, haw]
      have d1 := D_small (a := a0) (b := a2) c.2.2 c.1 c2
      have d2 := D_small (a := a2) (b := a1) c.2.2 c2 c.2.1
      have d3 := D_triangle a0 a1 a2 c.2.2 a0.size a1.size a2.size
      rw [if_pos (by unfold wrap64; omega)]
    · have k2 : ¬ ((a2.size : Int) ≤ 12) := by omega
      simp only [k2, decide_false, Option.bind_some, if_true, Bool.not_false, haw]
  · simp [c, haw]
end Go.Proofs.Ytnnpdgegejklpaa.Pure
