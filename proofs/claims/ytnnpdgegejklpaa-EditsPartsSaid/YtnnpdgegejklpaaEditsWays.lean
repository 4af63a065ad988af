/- Plain mathematics of the number of least scripts: nothing of the program. -/
import Derived.Test.YtnnpdgegejklpaaEditsMath
namespace Go.Proofs.EM

/-- How many scripts have the least cost. -/
def Wn (x y : Nat → Int) (pin pout psw : Int) : Nat → Nat → Int
  | 0, 0 => 1
  | i + 1, 0 => Wn x y pin pout psw i 0
  | 0, j + 1 => Wn x y pin pout psw 0 j
  | i + 1, j + 1 =>
    ((if C x y pin pout psw (i + 1) (j + 1) = C x y pin pout psw i j + (if x i = y j then 0 else psw) then Wn x y pin pout psw i j else 0) +
      (if C x y pin pout psw (i + 1) (j + 1) = C x y pin pout psw i (j + 1) + pout then Wn x y pin pout psw i (j + 1) else 0)) +
      (if C x y pin pout psw (i + 1) (j + 1) = C x y pin pout psw (i + 1) j + pin then Wn x y pin pout psw (i + 1) j else 0)
termination_by i j => i + j

theorem W_00 (x y : Nat → Int) (a b c : Int) : Wn x y a b c 0 0 = 1 := by rw [Wn]
theorem W_s0 (x y : Nat → Int) (a b c : Int) (i : Nat) : Wn x y a b c (i + 1) 0 = Wn x y a b c i 0 := by rw [Wn]
theorem W_0s (x y : Nat → Int) (a b c : Int) (j : Nat) : Wn x y a b c 0 (j + 1) = Wn x y a b c 0 j := by rw [Wn]
theorem W_ss (x y : Nat → Int) (a b c : Int) (i j : Nat) : Wn x y a b c (i + 1) (j + 1) =
    ((if C x y a b c (i + 1) (j + 1) = C x y a b c i j + (if x i = y j then 0 else c) then Wn x y a b c i j else 0) +
      (if C x y a b c (i + 1) (j + 1) = C x y a b c i (j + 1) + b then Wn x y a b c i (j + 1) else 0)) +
      (if C x y a b c (i + 1) (j + 1) = C x y a b c (i + 1) j + a then Wn x y a b c (i + 1) j else 0) := by rw [Wn]

theorem W_bounds (x y : Nat → Int) (a b c : Int) : ∀ (n i j : Nat), i + j ≤ n → 0 ≤ Wn x y a b c i j ∧ Wn x y a b c i j ≤ 3 ^ (i + j) := by
  intro n
  induction n with
  | zero =>
    intro i j h
    obtain ⟨rfl, rfl⟩ : i = 0 ∧ j = 0 := by omega
    rw [W_00]; decide
  | succ n ih =>
    intro i j h
    have hp : ∀ k : Nat, (0 : Int) ≤ 3 ^ k := fun k => Int.pow_nonneg (by decide)
    rcases i with _ | i <;> rcases j with _ | j
    · rw [W_00]; decide
    · rw [W_0s]; have := ih 0 j (by omega); have h3 := hp j; simp only [Nat.zero_add] at this ⊢; rw [Int.pow_succ]; omega
    · rw [W_s0]; have := ih i 0 (by omega); have h3 := hp i; simp only [Nat.add_zero] at this ⊢; rw [Int.pow_succ]; omega
    · rw [W_ss]
      have h1 := ih i j (by omega)
      have h2 := ih i (j + 1) (by omega)
      have h3 := ih (i + 1) j (by omega)
      have hq := hp (i + j)
      rw [show i + (j + 1) = (i + j) + 1 from rfl, Int.pow_succ] at h2
      rw [show i + 1 + j = (i + j) + 1 from by omega, Int.pow_succ] at h3
      rw [show i + 1 + (j + 1) = ((i + j) + 1) + 1 from by omega, Int.pow_succ, Int.pow_succ]
      generalize (3 : Int) ^ (i + j) = q at *
      (repeat' split) <;> omega

theorem W_pos (x y : Nat → Int) (a b c : Int) : ∀ (n i j : Nat), i + j ≤ n → 1 ≤ Wn x y a b c i j := by
  intro n
  induction n with
  | zero =>
    intro i j h
    obtain ⟨rfl, rfl⟩ : i = 0 ∧ j = 0 := by omega
    rw [W_00]; decide
  | succ n ih =>
    intro i j h
    rcases i with _ | i <;> rcases j with _ | j
    · rw [W_00]; decide
    · rw [W_0s]; exact ih 0 j (by omega)
    · rw [W_s0]; exact ih i 0 (by omega)
    · have h1 := ih i j (by omega)
      have h2 := ih i (j + 1) (by omega)
      have h3 := ih (i + 1) j (by omega)
      rw [W_ss, C_ss]
      (repeat' split) <;> omega

theorem W_swap (x y : Nat → Int) (a b c : Int) : ∀ (n i j : Nat), i + j ≤ n → Wn x y a b c i j = Wn y x b a c j i := by
  intro n
  induction n with
  | zero =>
    intro i j h
    obtain ⟨rfl, rfl⟩ : i = 0 ∧ j = 0 := by omega
    rw [W_00, W_00]
  | succ n ih =>
    intro i j h
    rcases i with _ | i <;> rcases j with _ | j
    · rw [W_00, W_00]
    · rw [W_0s, W_s0, ih 0 j (by omega)]
    · rw [W_s0, W_0s, ih i 0 (by omega)]
    · rw [W_ss, W_ss, ih i j (by omega), ih i (j + 1) (by omega), ih (i + 1) j (by omega), C_swap x y a b c _ (i + 1) (j + 1) (Nat.le_refl _), C_swap x y a b c _ i j (Nat.le_refl _),
        C_swap x y a b c _ i (j + 1) (Nat.le_refl _), C_swap x y a b c _ (i + 1) j (Nat.le_refl _)]
      have e : (if x i = y j then (0 : Int) else c) = if y j = x i then 0 else c := by
        by_cases e : x i = y j
        · rw [if_pos e, if_pos e.symm]
        · rw [if_neg e, if_neg (fun h => e h.symm)]
      rw [e]
      (repeat' split) <;> omega

theorem W_self (x : Nat → Int) (a b c : Int) (ha : 1 ≤ a) (hb : 1 ≤ b) (hc : 1 ≤ c) : ∀ i : Nat, Wn x x a b c i i = 1 := by
  intro i
  induction i with
  | zero => rw [W_00]
  | succ i ih =>
    have h0 := (C_zero x x a b c ha hb hc _ (i + 1) (i + 1) (Nat.le_refl _)).2 ⟨rfl, fun _ _ => rfl⟩
    have h1 := (C_zero x x a b c ha hb hc _ i i (Nat.le_refl _)).2 ⟨rfl, fun _ _ => rfl⟩
    have h2 := C_nonneg x x a b c (by omega) (by omega) (by omega) _ i (i + 1) (Nat.le_refl _)
    have h3 := C_nonneg x x a b c (by omega) (by omega) (by omega) _ (i + 1) i (Nat.le_refl _)
    rw [W_ss, ih, h0, h1, if_pos rfl, if_pos (by omega), if_neg (by omega), if_neg (by omega)]
    rfl
end Go.Proofs.EM
