import Derived.Test.YtnnpdgegejklpaaPEditsWaysx2
import Derived.Test.YtnnpdgegejklpaaEdLaw
import Derived.Test.YtnnpdgegejklpaaEdH
namespace Go.Proofs.Ytnnpdgegejklpaa.Pure
open Go.RowKit Go.Proofs.Ytnnpdgegejklpaa.PEditsWays Go.Proofs.YtnnpdgegejklpaaW.PrintWords Go.Proofs.YtnnpdgegejklpaaW.PrintLast

/-- Ways returns how many scripts have the least cost, or the documented error: for every input. -/
theorem EditsWays : sackbutlaw09_EditsWays.Pure := by
  intro a0 a1 p q r h0 h1 hp hq hr
  have haw : sackbutlaw09_awake.f = some true := by
    unfold sackbutlaw09_awake.f edits_Cost.f
    rw [costR_awake]; rfl
  have hv : ∀ p q r, sackbutref09_Valid.f p q r = some (decide (okP p q r)) := by
    intro p q r
    unfold sackbutref09_Valid.f okP
    repeat' split
    all_goals (congr 1; symm; first | (apply decide_eq_decide.2; omega) | (apply decide_eq_false; omega))
  have hf : sackbutlaw09_fine.f a0 a1 p q r = some (decide (a0.size ≤ 12 ∧ a1.size ≤ 12 ∧ okP p q r)) := by
    unfold sackbutlaw09_fine.f sackbutref09_Line.f
    rw [hv]
    have e : ∀ n : Nat, ((n : Int) ≤ 12) = (n ≤ 12) := fun n => propext (by omega)
    by_cases c0 : a0.size ≤ 12 <;> by_cases c1 : a1.size ≤ 12 <;> simp [e, c0, c1]
  have ht : ∀ a : ByteArray, ∃ t : ByteArray, sackbutlaw09_text.f a = some t ∧ (t.size ≤ 12 ↔ a.size ≤ 12) ∧ (a.size ≤ 12 → t = a) := by
    intro a
    have hm : (mn (a.size : Int) 16) = min (a.size : Int) 16 := by unfold mn; split <;> omega
    refine ⟨a.extract 0 ((mn (a.size : Int) 16) : Int).toNat, ?_, ?_⟩
    · unfold sackbutlaw09_text.f
      rw [if_pos (by omega), if_pos (by omega)]
    · rw [hm]
      have hs : (a.extract 0 (min (a.size : Int) 16).toNat).size = min (min (a.size : Int) 16).toNat a.size := by simp
      refine ⟨by rw [hs]; omega, fun ha => ?_⟩
      have : (min (a.size : Int) 16).toNat = a.size := by omega
      rw [this]
      exact ByteArray.extract_zero_size
  obtain ⟨t0, e0, k0, l0⟩ := ht a0
  obtain ⟨t1, e1, k1, l1⟩ := ht a1
  unfold sackbutlaw09_EditsWays.f
  rw [e0, e1, hf]
  unfold sackbutlaw09_Of.f edits_Ways.f sackbutref09_Ways.f
  simp only [Option.bind_some]
  by_cases c : a0.size ≤ 12 ∧ a1.size ≤ 12 ∧ okP p q r
  · obtain rfl := l0 c.1
    obtain rfl := l1 c.2.1
    have e : waysR t0 t1 p q r = (U t0 t1 p q r t0.size t1.size, 0) := if_pos c
    rw [e, decide_eq_true c, if_pos rfl, if_pos c]
    simp [haw]
  · have e : waysR t0 t1 p q r = (0, 2) := if_neg (by rw [k0, k1]; exact c)
    rw [e, decide_eq_false c]
    simp [haw]
end Go.Proofs.Ytnnpdgegejklpaa.Pure
