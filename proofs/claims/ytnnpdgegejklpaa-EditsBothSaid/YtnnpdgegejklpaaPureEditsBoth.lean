import Derived.Test.YtnnpdgegejklpaaPEditsBothx1
import Derived.Test.YtnnpdgegejklpaaEdLaw
import Derived.Test.YtnnpdgegejklpaaEdH
namespace Go.Proofs.Ytnnpdgegejklpaa.Pure
open Go.RowKit Go.Proofs.Ytnnpdgegejklpaa.PEditsBoth Go.Proofs.YtnnpdgegejklpaaW.PrintWords Go.Proofs.YtnnpdgegejklpaaW.PrintLast

/-- There is at least one script with the least cost, and as many both ways round with the prices of in and out exchanged; of a line to itself there is just one: for every input. -/
theorem EditsBoth : sackbutlaw09_EditsBoth.Pure := by
  intro a0 a1 p q r h0 h1 hp hq hr
  refine ⟨1, ?_⟩
  have haw : sackbutlaw09_awake.f = some true := by
    unfold sackbutlaw09_awake.f edits_Cost.f
    rw [costR_awake]; rfl
  have hv : ∀ p q r, sackbutref09_Valid.f p q r = some (decide (okP p q r)) := by
    intro p q r
    unfold sackbutref09_Valid.f okP
    repeat' split
    all_goals (congr 1; symm; first | (apply decide_eq_decide.2; omega) | (apply decide_eq_false; omega))
  have hf : sackbutlaw09_fine.f a0 a1 p q r = some (decide (a0.size ≤ 12 ∧ a1.size ≤ 12 ∧ okP p q r)) := by
    unfold sackbutlaw09_fine.f sackbutref09_Line.f
    rw [hv]
    have e : ∀ n : Nat, ((n : Int) ≤ 12) = (n ≤ 12) := fun n => propext (by omega)
    by_cases c0 : a0.size ≤ 12 <;> by_cases c1 : a1.size ≤ 12 <;> simp [e, c0, c1]
  have ht : ∀ a : ByteArray, ∃ t : ByteArray, sackbutlaw09_text.f a = some t ∧ (t.size ≤ 12 ↔ a.size ≤ 12) ∧ (a.size ≤ 12 → t = a) := by
    intro a
    have hm : (mn (a.size : Int) 16) = min (a.size : Int) 16 := by unfold mn; split <;> omega
    refine ⟨a.extract 0 ((mn (a.size : Int) 16) : Int).toNat, ?_, ?_⟩
    · unfold sackbutlaw09_text.f
      rw [if_pos (by omega), if_pos (by omega)]
    · rw [hm]
      have hs : (a.extract 0 (min (a.size : Int) 16).toNat).size = min (min (a.size : Int) 16).toNat a.size := by simp
      refine ⟨by rw [hs]; omega, fun ha => ?_⟩
      have : (min (a.size : Int) 16).toNat = a.size := by omega
      rw [this]
      exact ByteArray.extract_zero_size
  obtain ⟨t0, e0, k0, l0⟩ := ht a0
  obtain ⟨t1, e1, k1, l1⟩ := ht a1
  unfold sackbutlaw09_EditsBoth.f
  rw [e0, e1, hf]
  unfold sackbutlaw09_EditsBoth.j0 sackbutlaw09_Of.f edits_Ways.f
  simp only [Option.bind_some]
  by_cases c : a0.size ≤ 12 ∧ a1.size ≤ 12 ∧ okP p q r
  · obtain rfl := l0 c.1
    obtain rfl := l1 c.2.1
    have c' : okP q p r := by have := c.2.2; unfold okP at *; omega
    have e : waysR t0 t1 p q r = (U t0 t1 p q r t0.size t1.size, 0) := if_pos c
    have e2 : waysR t1 t0 q p r = (U t0 t1 p q r t0.size t1.size, 0) := (if_pos ⟨c.2.1, c.1, c'⟩).trans (by unfold U; rw [EM.W_swap _ _ _ _ _ _ t0.size t1.size (Nat.le_refl _)])
    have e3 : waysR t0 t0 p q r = (1, 0) := (if_pos ⟨c.1, c.1, c.2.2⟩).trans (by
      have := c.2.2; unfold okP at this
      unfold U; rw [EM.W_self _ _ _ _ (by omega) (by omega) (by omega)])
    have hpos : 1 ≤ U t0 t1 p q r t0.size t1.size := EM.W_pos _ _ _ _ _ _ t0.size t1.size (Nat.le_refl _)
    rw [e, e2, e3, decide_eq_true c]
    simp [haw, hpos]
  · have e : waysR t0 t1 p q r = (0, 2) := if_neg (by rw [k0, k1]; exact c)
    rw [e]
    simp [haw]
end Go.Proofs.Ytnnpdgegejklpaa.Pure
