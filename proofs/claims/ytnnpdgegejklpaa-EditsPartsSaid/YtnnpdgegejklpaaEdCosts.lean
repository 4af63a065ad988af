/- The reference's two tables, in plain Lean. -/
import Derived.Test.YtnnpdgegejklpaaEdGrid
import Derived.Test.YtnnpdgegejklpaaEdC
import Derived.Test.YtnnpdgegejklpaaEditsWays
import Derived.Test.YtnnpdgegejklpaaSxG
namespace Go.Proofs.Ytnnpdgegejklpaa
open Go.RowKit Go.Sx
set_option linter.unusedVariables false
set_option linter.unusedSimpArgs false

def U (a b : ByteArray) (pi po ps : Int) (i j : Nat) : Int := EM.Wn (fun k => bt a k) (fun k => bt b k) pi po ps i j
theorem U_range (a b : ByteArray) (pi po ps : Int) {i j : Nat} (h : i + j ≤ 24) : 0 ≤ U a b pi po ps i j ∧ U a b pi po ps i j ≤ 282429536481 := by
  have h1 := EM.W_bounds (fun k => bt a k) (fun k => bt b k) pi po ps (i + j) i j (Nat.le_refl _)
  have h2 : (3 : Int) ^ (i + j) ≤ 3 ^ 24 := by
    have := Nat.pow_le_pow_right (n := 3) (by decide) h
    have e : ∀ k : Nat, ((3 ^ k : Nat) : Int) = (3 : Int) ^ k := fun k => by simp
    rw [← e, ← e]; exact Int.ofNat_le.2 this
  have h3 : (3 : Int) ^ 24 = 282429536481 := by decide
  unfold U
  omega
def candC (a b : ByteArray) (pi po ps : Int) (i j k : Nat) : Option (Int × Int) :=
  if k = 0 then (if 1 ≤ i then some (D a b pi po ps (i - 1) j + po, U a b pi po ps (i - 1) j) else none)
  else if k = 1 then (if 1 ≤ j then some (D a b pi po ps i (j - 1) + pi, U a b pi po ps i (j - 1)) else none)
  else (if 1 ≤ i ∧ 1 ≤ j then some (D a b pi po ps (i - 1) (j - 1) + (if bt a (i - 1 : Nat) = bt b (j - 1 : Nat) then 0 else ps), U a b pi po ps (i - 1) (j - 1)) else none)
def stp (c s : Int × Int) : Int × Int := if s.1 < 0 ∨ c.1 < s.1 then (c.1, 0 + c.2) else if c.1 = s.1 then (s.1, s.2 + c.2) else s
def costSt (a b : ByteArray) (pi po ps : Int) (i j : Nat) : Nat → Int × Int
  | 0 => (-1, 0)
  | k + 1 => match candC a b pi po ps i j k with
    | none => costSt a b pi po ps i j k
    | some c => stp c (costSt a b pi po ps i j k)
section
variable {a b : ByteArray} {pi po ps : Int} {i j k : Nat} {c w : Int}
theorem costSt_none (h : candC a b pi po ps i j k = none) : costSt a b pi po ps i j (k + 1) = costSt a b pi po ps i j k := by rw [costSt, h]
theorem costSt_lt (h : candC a b pi po ps i j k = some (c, w)) (hl : (costSt a b pi po ps i j k).1 < 0 ∨ c < (costSt a b pi po ps i j k).1) : costSt a b pi po ps i j (k + 1) = (c, 0 + w) := by
  rw [costSt, h]; exact if_pos hl
theorem costSt_eq (h : candC a b pi po ps i j k = some (c, w)) (hl : ¬ ((costSt a b pi po ps i j k).1 < 0 ∨ c < (costSt a b pi po ps i j k).1)) (he : c = (costSt a b pi po ps i j k).1) :
    costSt a b pi po ps i j (k + 1) = ((costSt a b pi po ps i j k).1, (costSt a b pi po ps i j k).2 + w) := by
  rw [costSt, h]; exact (if_neg hl).trans (if_pos he)
theorem costSt_gt (h : candC a b pi po ps i j k = some (c, w)) (hl : ¬ ((costSt a b pi po ps i j k).1 < 0 ∨ c < (costSt a b pi po ps i j k).1)) (he : ¬ c = (costSt a b pi po ps i j k).1) :
    costSt a b pi po ps i j (k + 1) = costSt a b pi po ps i j k := by
  rw [costSt, h]; exact (if_neg hl).trans (if_neg he)
theorem cand_range (hp : okP pi po ps) (hi : i ≤ 12) (hj : j ≤ 12) (h : candC a b pi po ps i j k = some (c, w)) : 0 ≤ c ∧ c ≤ 300 ∧ 0 ≤ w ∧ w ≤ 282429536481 := by
  obtain ⟨h1, h2, h3⟩ := hp
  have hD := fun i j => D_range (a := a) (b := b) h1 h2 h3 i j
  unfold candC at h
  split at h
  · split at h
    · simp only [Option.some.injEq, Prod.mk.injEq] at h
      have := hD (i - 1) j
      have := U_range a b pi po ps (i := i - 1) (j := j) (by omega)
      omega
    · cases h
  · split at h
    · split at h
      · simp only [Option.some.injEq, Prod.mk.injEq] at h
        have := hD i (j - 1)
        have := U_range a b pi po ps (i := i) (j := j - 1) (by omega)
        omega
      · cases h
    · split at h
      · simp only [Option.some.injEq, Prod.mk.injEq] at h
        have := hD (i - 1) (j - 1)
        have := U_range a b pi po ps (i := i - 1) (j := j - 1) (by omega)
        have q : (0 : Int) ≤ (if bt a (i - 1 : Nat) = bt b (j - 1 : Nat) then 0 else ps) ∧ (if bt a (i - 1 : Nat) = bt b (j - 1 : Nat) then 0 else ps) ≤ 9 := by split <;> omega
        omega
      · cases h
theorem costSt_range (hp : okP pi po ps) (hi : i ≤ 12) (hj : j ≤ 12) : ∀ k, -1 ≤ (costSt a b pi po ps i j k).1 ∧ (costSt a b pi po ps i j k).1 ≤ 300 ∧ 0 ≤ (costSt a b pi po ps i j k).2 ∧ (costSt a b pi po ps i j k).2 ≤ k * 282429536481
  | 0 => by simp [costSt]
  | k + 1 => by
    have ih := costSt_range hp hi hj k
    cases h : candC a b pi po ps i j k with
    | none => rw [costSt_none h]; omega
    | some x =>
      have hx := cand_range hp hi hj h
      by_cases hl : (costSt a b pi po ps i j k).1 < 0 ∨ x.1 < (costSt a b pi po ps i j k).1
      · rw [costSt_lt h hl]; dsimp only; omega
      · by_cases he : x.1 = (costSt a b pi po ps i j k).1
        · rw [costSt_eq h hl he]; dsimp only; omega
        · rw [costSt_gt h hl he]; omega
theorem costSt_end (hp : okP pi po ps) (h : i + j ≠ 0) : costSt a b pi po ps i j 3 = (D a b pi po ps i j, U a b pi po ps i j) := by
  obtain ⟨h1, h2, h3⟩ := hp
  have hD := fun i j => D_range (a := a) (b := b) h1 h2 h3 i j
  rcases i with _ | i <;> rcases j with _ | j
  · omega
  · have e := EM.C_0s (fun k => bt a k) (fun k => bt b k) pi po ps j
    have e2 := EM.W_0s (fun k => bt a k) (fun k => bt b k) pi po ps j
    have := hD 0 j
    unfold D at this
    simp [costSt, candC, stp, D, U, e, e2]
  · have e := EM.C_s0 (fun k => bt a k) (fun k => bt b k) pi po ps i
    have e2 := EM.W_s0 (fun k => bt a k) (fun k => bt b k) pi po ps i
    have := hD i 0
    unfold D at this
    simp [costSt, candC, stp, D, U, e, e2]
  · have q1 := hD i j
    have q2 := hD i (j + 1)
    have q3 := hD (i + 1) j
    have e : D a b pi po ps (i + 1) (j + 1) = min (min (D a b pi po ps i j + if bt a i = bt b j then 0 else ps) (D a b pi po ps i (j + 1) + po)) (D a b pi po ps (i + 1) j + pi) := by unfold D; rw [EM.C_ss]
    have e2 : U a b pi po ps (i + 1) (j + 1) = ((if D a b pi po ps (i + 1) (j + 1) = D a b pi po ps i j + (if bt a i = bt b j then 0 else ps) then U a b pi po ps i j else 0) +
      (if D a b pi po ps (i + 1) (j + 1) = D a b pi po ps i (j + 1) + po then U a b pi po ps i (j + 1) else 0)) +
      (if D a b pi po ps (i + 1) (j + 1) = D a b pi po ps (i + 1) j + pi then U a b pi po ps (i + 1) j else 0) := by unfold D U; rw [EM.W_ss]
    have c0 : candC a b pi po ps (i + 1) (j + 1) 0 = some (D a b pi po ps i (j + 1) + po, U a b pi po ps i (j + 1)) := by simp [candC]
    have c1 : candC a b pi po ps (i + 1) (j + 1) 1 = some (D a b pi po ps (i + 1) j + pi, U a b pi po ps (i + 1) j) := by simp [candC]
    have c2 : candC a b pi po ps (i + 1) (j + 1) 2 = some (D a b pi po ps i j + (if bt a i = bt b j then 0 else ps), U a b pi po ps i j) := by simp [candC]
    rw [costSt, costSt, costSt, costSt]
    simp only [c0, c1, c2]
    have qs : (0 : Int) ≤ (if bt a i = bt b j then 0 else ps) := by split <;> omega
    generalize (if bt a i = bt b j then (0 : Int) else ps) = s at *
    generalize D a b pi po ps (i + 1) (j + 1) = d at *
    generalize D a b pi po ps i j = d0 at *
    generalize D a b pi po ps i (j + 1) = d1 at *
    generalize D a b pi po ps (i + 1) j = d2 at *
    generalize U a b pi po ps (i + 1) (j + 1) = u at *
    generalize U a b pi po ps i j = u0 at *
    generalize U a b pi po ps i (j + 1) = u1 at *
    generalize U a b pi po ps (i + 1) j = u2 at *
    unfold stp
    (repeat' split) <;> (simp only [Prod.mk.injEq] at *; (try (repeat' split at e2)) <;> omega)
end
end Go.Proofs.Ytnnpdgegejklpaa
