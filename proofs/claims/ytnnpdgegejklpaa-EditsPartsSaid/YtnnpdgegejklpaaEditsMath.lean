/- Plain mathematics of the cost of edits: nothing of the program. -/
namespace Go.Proofs.EM

/-- The least cost from the first i of one line to the first j of another. -/
def C (x y : Nat → Int) (pin pout psw : Int) : Nat → Nat → Int
  | 0, 0 => 0
  | i + 1, 0 => C x y pin pout psw i 0 + pout
  | 0, j + 1 => C x y pin pout psw 0 j + pin
  | i + 1, j + 1 => min (min (C x y pin pout psw i j + if x i = y j then 0 else psw) (C x y pin pout psw i (j + 1) + pout)) (C x y pin pout psw (i + 1) j + pin)
termination_by i j => i + j

theorem C_00 (x y : Nat → Int) (a b c : Int) : C x y a b c 0 0 = 0 := by rw [C]
theorem C_s0 (x y : Nat → Int) (a b c : Int) (i : Nat) : C x y a b c (i + 1) 0 = C x y a b c i 0 + b := by rw [C]
theorem C_0s (x y : Nat → Int) (a b c : Int) (j : Nat) : C x y a b c 0 (j + 1) = C x y a b c 0 j + a := by rw [C]
theorem C_ss (x y : Nat → Int) (a b c : Int) (i j : Nat) : C x y a b c (i + 1) (j + 1) =
    min (min (C x y a b c i j + if x i = y j then 0 else c) (C x y a b c i (j + 1) + b)) (C x y a b c (i + 1) j + a) := by rw [C]

theorem C_bounds (x y : Nat → Int) (a b c : Int) (ha : 0 ≤ a) (hb : 0 ≤ b) (hc : 0 ≤ c) (ha9 : a ≤ 9) (hb9 : b ≤ 9) (hc9 : c ≤ 9) :
    ∀ (n i j : Nat), i + j ≤ n → 0 ≤ C x y a b c i j ∧ C x y a b c i j ≤ 9 * ((i : Int) + j) := by
  intro n
  induction n with
  | zero =>
    intro i j h
    obtain ⟨rfl, rfl⟩ : i = 0 ∧ j = 0 := by omega
    rw [C_00]; omega
  | succ n ih =>
    intro i j h
    rcases i with _ | i <;> rcases j with _ | j
    · rw [C_00]; omega
    · rw [C_0s]; have := ih 0 j (by omega); omega
    · rw [C_s0]; have := ih i 0 (by omega); omega
    · rw [C_ss]
      have h1 := ih i j (by omega)
      have h2 := ih i (j + 1) (by omega)
      have h3 := ih (i + 1) j (by omega)
      split <;> omega

theorem C_nonneg (x y : Nat → Int) (a b c : Int) (ha : 0 ≤ a) (hb : 0 ≤ b) (hc : 0 ≤ c) :
    ∀ (n i j : Nat), i + j ≤ n → 0 ≤ C x y a b c i j := by
  intro n
  induction n with
  | zero =>
    intro i j h
    obtain ⟨rfl, rfl⟩ : i = 0 ∧ j = 0 := by omega
    rw [C_00]; omega
  | succ n ih =>
    intro i j h
    rcases i with _ | i <;> rcases j with _ | j
    · rw [C_00]; omega
    · rw [C_0s]; have := ih 0 j (by omega); omega
    · rw [C_s0]; have := ih i 0 (by omega); omega
    · rw [C_ss]
      have h1 := ih i j (by omega)
      have h2 := ih i (j + 1) (by omega)
      have h3 := ih (i + 1) j (by omega)
      split <;> omega

/-- The other way round, in and out exchanged. -/
theorem C_swap (x y : Nat → Int) (a b c : Int) : ∀ (n i j : Nat), i + j ≤ n → C x y a b c i j = C y x b a c j i := by
  intro n
  induction n with
  | zero =>
    intro i j h
    obtain ⟨rfl, rfl⟩ : i = 0 ∧ j = 0 := by omega
    rw [C_00, C_00]
  | succ n ih =>
    intro i j h
    rcases i with _ | i <;> rcases j with _ | j
    · rw [C_00, C_00]
    · rw [C_0s, C_s0, ih 0 j (by omega)]
    · rw [C_s0, C_0s, ih i 0 (by omega)]
    · rw [C_ss, C_ss, ih i j (by omega), ih i (j + 1) (by omega), ih (i + 1) j (by omega)]
      by_cases e : x i = y j
      · rw [if_pos e, if_pos e.symm]; omega
      · rw [if_neg e, if_neg (fun h => e h.symm)]; omega

/-- All prices multiplied. -/
theorem C_scale (x y : Nat → Int) (a b c k : Int) (hk : 0 ≤ k) : ∀ (n i j : Nat), i + j ≤ n → C x y (a * k) (b * k) (c * k) i j = C x y a b c i j * k := by
  intro n
  have hmin : ∀ u v : Int, min (u * k) (v * k) = min u v * k := by
    intro u v
    by_cases h : u ≤ v
    · rw [Int.min_eq_left h, Int.min_eq_left (Int.mul_le_mul_of_nonneg_right h hk)]
    · have h' : v ≤ u := by omega
      rw [Int.min_eq_right h', Int.min_eq_right (Int.mul_le_mul_of_nonneg_right h' hk)]
  induction n with
  | zero =>
    intro i j h
    obtain ⟨rfl, rfl⟩ : i = 0 ∧ j = 0 := by omega
    rw [C_00, C_00, Int.zero_mul]
  | succ n ih =>
    intro i j h
    rcases i with _ | i <;> rcases j with _ | j
    · rw [C_00, C_00, Int.zero_mul]
    · rw [C_0s, C_0s, ih 0 j (by omega), Int.add_mul]
    · rw [C_s0, C_s0, ih i 0 (by omega), Int.add_mul]
    · rw [C_ss, C_ss, ih i j (by omega), ih i (j + 1) (by omega), ih (i + 1) j (by omega)]
      have e : (C x y a b c i j * k + if x i = y j then 0 else c * k) = (C x y a b c i j + if x i = y j then 0 else c) * k := by
        split
        · simp
        · rw [Int.add_mul]
      rw [e, ← Int.add_mul, ← Int.add_mul, hmin, hmin]

/-- It is 0 just where the beginnings are the same. -/
theorem C_zero (x y : Nat → Int) (a b c : Int) (ha : 1 ≤ a) (hb : 1 ≤ b) (hc : 1 ≤ c) :
    ∀ (n i j : Nat), i + j ≤ n → (C x y a b c i j = 0 ↔ i = j ∧ ∀ k, k < i → x k = y k) := by
  intro n
  induction n with
  | zero =>
    intro i j h
    obtain ⟨rfl, rfl⟩ : i = 0 ∧ j = 0 := by omega
    rw [C_00]; simp
  | succ n ih =>
    intro i j h
    have nn := C_nonneg x y a b c (by omega) (by omega) (by omega)
    rcases i with _ | i <;> rcases j with _ | j
    · rw [C_00]; simp
    · rw [C_0s]; have := nn _ 0 j (Nat.le_refl _); constructor
      · intro; omega
      · intro h; omega
    · rw [C_s0]; have := nn _ i 0 (Nat.le_refl _); constructor
      · intro; omega
      · intro h; omega
    · rw [C_ss]
      have h1 := nn _ i j (Nat.le_refl _)
      have h2 := nn _ i (j + 1) (Nat.le_refl _)
      have h3 := nn _ (i + 1) j (Nat.le_refl _)
      have hi := ih i j (by omega)
      constructor
      · intro h
        by_cases e : x i = y j
        · rw [if_pos e] at h
          have h0 : C x y a b c i j = 0 := by omega
          obtain ⟨rfl, hk⟩ := hi.1 h0
          refine ⟨rfl, fun k hk' => ?_⟩
          by_cases ek : k = i
          · rw [ek]; exact e
          · exact hk k (by omega)
        · rw [if_neg e] at h; omega
      · rintro ⟨e, hk⟩
        obtain rfl : i = j := by omega
        have h0 := hi.2 ⟨rfl, fun k hk' => hk k (by omega)⟩
        rw [if_pos (hk i (by omega))]; omega

/-- One more byte costs no more than to put it in, or to take it out. -/
theorem C_in (x y : Nat → Int) (a b c : Int) (i j : Nat) : C x y a b c i (j + 1) ≤ C x y a b c i j + a := by
  rcases i with _ | i
  · rw [C_0s]; omega
  · rw [C_ss]; omega
theorem C_out (x y : Nat → Int) (a b c : Int) (i j : Nat) : C x y a b c (i + 1) j ≤ C x y a b c i j + b := by
  rcases j with _ | j
  · rw [C_s0]; omega
  · rw [C_ss]; omega
theorem C_both (x y : Nat → Int) (a b c : Int) (i j : Nat) : C x y a b c (i + 1) (j + 1) ≤ C x y a b c i j + if x i = y j then 0 else c := by
  rw [C_ss]; omega
/-- The last edit. -/
theorem C_last (x y : Nat → Int) (a b c : Int) (i j : Nat) (h : i + j ≠ 0) :
    (∃ i', i = i' + 1 ∧ C x y a b c i j = C x y a b c i' j + b) ∨ (∃ j', j = j' + 1 ∧ C x y a b c i j = C x y a b c i j' + a) ∨
    (∃ i' j', i = i' + 1 ∧ j = j' + 1 ∧ C x y a b c i j = C x y a b c i' j' + if x i' = y j' then 0 else c) := by
  rcases i with _ | i <;> rcases j with _ | j
  · omega
  · exact .inr (.inl ⟨j, rfl, C_0s ..⟩)
  · exact .inl ⟨i, rfl, C_s0 ..⟩
  · have e := C_ss x y a b c i j
    by_cases h1 : C x y a b c (i + 1) (j + 1) = C x y a b c i (j + 1) + b
    · exact .inl ⟨i, rfl, h1⟩
    · by_cases h2 : C x y a b c (i + 1) (j + 1) = C x y a b c (i + 1) j + a
      · exact .inr (.inl ⟨j, rfl, h2⟩)
      · exact .inr (.inr ⟨i, j, rfl, rfl, by omega⟩)

/-- By way of a third line it never costs less. -/
theorem C_triangle (x y z : Nat → Int) (a b c : Int) (ha : 0 ≤ a) (hb : 0 ≤ b) (hc : 0 ≤ c) :
    ∀ (n i j k : Nat), i + j + k ≤ n → C x y a b c i j ≤ C x z a b c i k + C z y a b c k j := by
  intro n
  induction n with
  | zero =>
    intro i j k h
    obtain ⟨rfl, rfl, rfl⟩ : i = 0 ∧ j = 0 ∧ k = 0 := by omega
    simp only [C_00]; omega
  | succ n ih =>
    intro i j k h
    by_cases hk : k = 0
    · subst hk
      -- nothing between: all out, all in
      by_cases hi : i = 0
      · subst hi; rw [C_00]; 
        by_cases hj : j = 0
        · subst hj; simp only [C_00]; omega
        · obtain ⟨j, rfl⟩ : ∃ m, j = m + 1 := ⟨j - 1, by omega⟩
          have := ih 0 j 0 (by omega)
          rw [C_0s, C_0s]; rw [C_00] at this; omega
      · obtain ⟨i, rfl⟩ : ∃ m, i = m + 1 := ⟨i - 1, by omega⟩
        have := ih i j 0 (by omega)
        have h2 := C_out x y a b c i j
        rw [C_s0]; omega
    · rcases C_last x z a b c i k (by omega) with ⟨i', rfl, e1⟩ | ⟨k1, rfl, e1⟩ | ⟨i', k1, rfl, rfl, e1⟩
      · have := ih i' j k (by omega)
        have h2 := C_out x y a b c i' j
        omega
      · -- z's last byte has been put in
        rcases C_last z y a b c (k1 + 1) j (by omega) with ⟨k2, ek, e2⟩ | ⟨j', rfl, e2⟩ | ⟨k2, j', ek, rfl, e2⟩
        · obtain rfl : k1 = k2 := by omega
          have := ih i j k1 (by omega)
          omega
        · have := ih i j' (k1 + 1) (by omega)
          have h2 := C_in x y a b c i j'
          omega
        · obtain rfl : k1 = k2 := by omega
          have := ih i j' k1 (by omega)
          have h2 := C_in x y a b c i j'
          split at e2 <;> omega
      · rcases C_last z y a b c (k1 + 1) j (by omega) with ⟨k2, ek, e2⟩ | ⟨j', rfl, e2⟩ | ⟨k2, j', ek, rfl, e2⟩
        · obtain rfl : k1 = k2 := by omega
          have := ih i' j k1 (by omega)
          have h2 := C_out x y a b c i' j
          split at e1 <;> omega
        · have := ih (i' + 1) j' (k1 + 1) (by omega)
          have h2 := C_in x y a b c (i' + 1) j'
          omega
        · obtain rfl : k1 = k2 := by omega
          have := ih i' j' k1 (by omega)
          have h2 := C_both x y a b c i' j'
          by_cases u : x i' = z k1 <;> by_cases v : z k1 = y j'
          · rw [if_pos (u.trans v)] at h2; rw [if_pos u] at e1; rw [if_pos v] at e2; omega
          · rw [if_pos u] at e1; rw [if_neg v] at e2; split at h2 <;> omega
          · rw [if_neg u] at e1; rw [if_pos v] at e2; split at h2 <;> omega
          · rw [if_neg u] at e1; rw [if_neg v] at e2; split at h2 <;> omega
end Go.Proofs.EM
