import Derived.Test.YtnnpdgegejklpaaPEditsPricesx1
import Derived.Test.YtnnpdgegejklpaaEdLaw
namespace Go.Proofs.Ytnnpdgegejklpaa.Pure
open Go.RowKit Go.Proofs.Ytnnpdgegejklpaa.PEditsPrices Go.Proofs.YtnnpdgegejklpaaW.PrintWords Go.Proofs.YtnnpdgegejklpaaW.PrintLast

/-- The other way round a cost is that with the prices of in and out exchanged; it is 0 just where both lines are the same; with all prices multiplied it is multiplied: for every input. -/
theorem EditsPrices : sackbutlaw09_EditsPrices.Pure := by
  intro a0 a1 p q r z h0 h1 hp hq hr hz
  refine ⟨2, ?_⟩
  have haw : sackbutlaw09_awake.f = some true := by
    unfold sackbutlaw09_awake.f edits_Cost.f
    rw [costR_awake]; rfl
  have hv : ∀ p q r, sackbutref09_Valid.f p q r = some (decide (okP p q r)) := by
    intro p q r
    unfold sackbutref09_Valid.f okP
    repeat' split
    all_goals (congr 1; symm; first | (apply decide_eq_decide.2; omega) | (apply decide_eq_false; omega))
  have hf : sackbutlaw09_fine.f a0 a1 p q r = some (decide (a0.size ≤ 12 ∧ a1.size ≤ 12 ∧ okP p q r)) := by
    unfold sackbutlaw09_fine.f sackbutref09_Line.f
    rw [hv]
    have e : ∀ n : Nat, ((n : Int) ≤ 12) = (n ≤ 12) := fun n => propext (by omega)
    by_cases c0 : a0.size ≤ 12 <;> by_cases c1 : a1.size ≤ 12 <;> simp [e, c0, c1]
  have ht : ∀ a : ByteArray, ∃ t : ByteArray, sackbutlaw09_text.f a = some t ∧ (t.size ≤ 12 → a.size ≤ 12 ∧ t = a) := by
    intro a
    have hm : (mn (a.size : Int) 16) = min (a.size : Int) 16 := by unfold mn; split <;> omega
    refine ⟨a.extract 0 ((mn (a.size : Int) 16) : Int).toNat, ?_, ?_⟩
    · unfold sackbutlaw09_text.f
      rw [if_pos (by omega), if_pos (by omega)]
    · rw [hm]
      intro h
      have hs : (a.extract 0 (min (a.size : Int) 16).toNat).size = min (min (a.size : Int) 16).toNat a.size := by simp
      rw [hs] at h
      have ha : a.size ≤ 12 := by omega
      refine ⟨ha, ?_⟩
      have : (min (a.size : Int) 16).toNat = a.size := by omega
      rw [this]
      exact ByteArray.extract_zero_size
  obtain ⟨t0, e0, k0⟩ := ht a0
  obtain ⟨t1, e1, k1⟩ := ht a1
  unfold sackbutlaw09_EditsPrices.f
  rw [e0, e1, hf]
  unfold sackbutlaw09_EditsPrices.j0 sackbutlaw09_Of.f edits_Cost.f
  simp only [Option.bind_some]
  by_cases c : t0.size ≤ 12 ∧ t1.size ≤ 12 ∧ okP p q r
  · obtain ⟨s0, rfl⟩ := k0 c.1
    obtain ⟨s1, rfl⟩ := k1 c.2.1
    have c' : okP q p r := by have := c.2.2; unfold okP at *; omega
    have dd := D_small (a := t0) (b := t1) c.2.2 c.1 c.2.1
    have dz := D_zero (a := t0) (b := t1) c.2.2
    rw [if_pos (costR_err.2 c), costR_ok c.1 c.2.1 c.2.2, costR_ok c.2.1 c.1 c', D_swap t1 t0 q p r]
    have hne : ¬ (((D t0 t1 p q r t0.size t1.size == 0) != (t0.toList == t1.toList)) = true) := by
      rw [toList_eq]
      by_cases hq : t0 = t1
      · simp [hq]
        have := dz.2 hq
        simpa [hq] using this
      · have : ¬ D t0 t1 p q r t0.size t1.size = 0 := fun h => hq (dz.1 h)
        simp [hq, this]
    have hlt : decide (D t0 t1 p q r t0.size t1.size < 0) = false := decide_eq_false (by omega)
    have hcc : decide (t0.size ≤ 12 ∧ t1.size ≤ 12 ∧ okP p q r) = true := decide_eq_true c
    rw [hcc]
    simp only [Bool.not_true, Bool.false_eq_true, if_false, if_true]
    rw [if_neg hne, hlt]
    unfold sackbutlaw09_EditsPrices.j1
    simp only [Bool.false_eq_true, if_false, hv, Option.bind_some, sackbutlaw09_Of.f, edits_Cost.f, haw]
    -- the factor
    obtain ⟨m, hm, hm1, hm4⟩ : ∃ m : Int, wrap64 (1 + wrap64 (Int.tmod (IntKind.u64.wrap z) 4)) = m ∧ 1 ≤ m ∧ m ≤ 4 := by
      refine ⟨_, rfl, ?_⟩
      have hu : 0 ≤ IntKind.u64.wrap z := by
        unfold IntKind.wrap
        simp only [IntKind.signed, Bool.false_and, Bool.false_eq_true, if_false]
        exact Int.emod_nonneg _ (by decide)
      have h1 : 0 ≤ Int.tmod (IntKind.u64.wrap z) 4 := Int.tmod_nonneg _ hu
      have h2 : Int.tmod (IntKind.u64.wrap z) 4 < 4 := Int.tmod_lt_of_pos _ (by decide)
      unfold wrap64
      omega
    rw [hm]
    have hok := c.2.2
    unfold okP at hok
    have w : ∀ x : Int, 1 ≤ x → x ≤ 216 → wrap64 (x * m) = x * m := by
      intro x hx hx9
      have h1 : 0 ≤ x * m := Int.mul_nonneg (by omega) (by omega)
      have h2 : x * m ≤ 216 * 4 := Int.mul_le_mul hx9 hm4 (by omega) (by omega)
      unfold wrap64; omega
    rw [w p (by omega) (by omega), w q (by omega) (by omega), w r (by omega) (by omega)]
    by_cases cm : okP (p * m) (q * m) (r * m)
    · rw [decide_eq_true cm]
      simp only [if_true, costR_ok c.1 c.2.1 cm]
      rw [D_scale _ _ _ _ _ _ (by omega)]
      have hw : wrap64 (D t0 t1 p q r t0.size t1.size * m) = D t0 t1 p q r t0.size t1.size * m := by
        have h1 : 0 ≤ D t0 t1 p q r t0.size t1.size * m := Int.mul_nonneg (by omega) (by omega)
        have h2 : D t0 t1 p q r t0.size t1.size * m ≤ 216 * 4 := Int.mul_le_mul dd.2 hm4 (by omega) (by omega)
        unfold wrap64; omega
      rw [hw]; simp
    · rw [decide_eq_false cm]
      simp
  · rw [costR_no c]
    simp [haw]
end Go.Proofs.Ytnnpdgegejklpaa.Pure
