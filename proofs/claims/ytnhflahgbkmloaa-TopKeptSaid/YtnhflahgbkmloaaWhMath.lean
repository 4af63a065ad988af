/- Plain arithmetic of the circles' primes and roots: nothing of the program. -/
import Derived.Test.YtnhflahgbkmloaaSxJ
namespace Go.Wh
open Go.Sx
set_option linter.unusedVariables false
set_option linter.unusedSimpArgs false

/-- The k-th power of x, taken modulo q at each step. -/
def pw (q x : Int) : Nat → Int
  | 0 => 1
  | k + 1 => pw q x k * x % q
/-- The numbers that 'order' goes through. -/
def yv (q x : Int) : Nat → Int
  | 0 => x
  | k + 1 => yv q x k * x % q
def isP (q : Int) : Bool := decide (1 < q) && (List.range 40).all fun (d : Nat) => decide (d < 2) || decide (q < (d : Int) * d) || decide (q % (d : Int) ≠ 0)
def ordOf (q x : Int) : Nat := match (List.range 100).find? (fun i => yv q x i == 1) with
  | some i => i + 1
  | none => 0
def qOf (n : Nat) : Int := [0, 0, 5, 7, 13, 11, 13, 29, 17, 19, 31, 23, 37, 53, 29, 31, 97].getD n 0
def wOf (n : Nat) : Int := [0, 0, 4, 2, 5, 3, 4, 7, 2, 4, 15, 2, 8, 10, 4, 7, 8].getD n 0

theorem pw_range {q x : Int} (hq : 2 ≤ q) (k : Nat) : 0 ≤ pw q x k ∧ pw q x k < q := by
  cases k with
  | zero => exact ⟨by show (0 : Int) ≤ 1; decide, by show (1 : Int) < q; omega⟩
  | succ k => exact ⟨Int.emod_nonneg _ (by omega), Int.emod_lt_of_pos _ (by omega)⟩
theorem yv_range {q x : Int} (hq : 2 ≤ q) (h0 : 0 ≤ x) (h1 : x < q) (k : Nat) : 0 ≤ yv q x k ∧ yv q x k < q := by
  cases k with
  | zero => exact ⟨h0, h1⟩
  | succ k => exact ⟨Int.emod_nonneg _ (by omega), Int.emod_lt_of_pos _ (by omega)⟩
theorem mul_small {a b : Int} (h0 : 0 ≤ a) (h1 : a ≤ 1000000000) (h2 : 0 ≤ b) (h3 : b ≤ 1000000) : 0 ≤ a * b ∧ a * b ≤ 1000000000000000 := by
  refine ⟨Int.mul_nonneg h0 h2, ?_⟩
  calc a * b ≤ 1000000000 * b := Int.mul_le_mul_of_nonneg_right h1 h2
    _ ≤ 1000000000 * 1000000 := Int.mul_le_mul_of_nonneg_left h3 (by decide)
    _ = 1000000000000000 := by decide
theorem isP_true {q : Int} (h1 : 1 < q) (h2 : q < 1600) (h : ∀ d : Nat, 2 ≤ d → (d : Int) * d ≤ q → q % (d : Int) ≠ 0) : isP q = true := by
  unfold isP
  simp only [Bool.and_eq_true, decide_eq_true_eq, List.all_eq_true, List.mem_range, Bool.or_eq_true]
  refine ⟨h1, fun d _ => ?_⟩
  by_cases c : d < 2
  · exact .inl (.inl c)
  · by_cases c2 : q < (d : Int) * d
    · exact .inl (.inr c2)
    · exact .inr (h d (by omega) (by omega))
theorem isP_false {q : Int} {d : Nat} (h2 : q < 1600) (hd : 2 ≤ d) (hdd : (d : Int) * d ≤ q) (h : q % (d : Int) = 0) : isP q = false := by
  have hd40 : d < 40 := by
    rcases Nat.lt_or_ge d 40 with h | h
    · exact h
    · have : (40 : Int) * 40 ≤ (d : Int) * d := Int.mul_le_mul (by omega) (by omega) (by decide) (by omega)
      omega
  cases c : isP q with
  | false => rfl
  | true =>
    unfold isP at c
    simp only [Bool.and_eq_true, decide_eq_true_eq, List.all_eq_true, List.mem_range, Bool.or_eq_true] at c
    rcases c.2 d hd40 with (h3 | h3) | h3
    · omega
    · omega
    · exact absurd h h3
theorem isP_one {q : Int} (h : ¬ 1 < q) : isP q = false := by
  unfold isP; simp [h]
theorem ordOf_eq {q x : Int} {i : Nat} (hi : i < 100) (h : yv q x i = 1) (hm : ∀ j, j < i → yv q x j ≠ 1) : ordOf q x = i + 1 := by
  unfold ordOf
  have : (List.range 100).find? (fun i => yv q x i == 1) = some i := by
    rw [List.find?_eq_some_iff_append]
    refine ⟨by simp [h], List.range i, (List.range (100 - (i + 1))).map (· + (i + 1)), ?_, fun j hj => by simpa using hm j (List.mem_range.1 hj)⟩
    have e : 100 = i + ((100 - (i + 1)) + 1) := by omega
    conv => lhs; rw [e, List.range_add, List.range_succ_eq_map]
    simp [Function.comp_def, Nat.add_comm, Nat.add_left_comm]
  rw [this]
/-- A wheel's numbers, each times a power of r: the sum of the first ones. -/
def tsm (q r : Int) (n : Nat) (xs : List Int) (k : Nat) : Nat → Int
  | 0 => 0
  | j + 1 => tsm q r n xs k j + rdI xs (j : Int) * pw q r (k * j % n) % q
theorem tsm_range {q : Int} (r : Int) (n : Nat) (xs : List Int) (k : Nat) (hq : 2 ≤ q) (hq2 : q ≤ 1000) (hx : ∀ x ∈ xs, 0 ≤ x ∧ x < q) : ∀ j : Nat, j ≤ 1000 → 0 ≤ tsm q r n xs k j ∧ tsm q r n xs k j ≤ j * 1000
  | 0, _ => ⟨Int.le_refl _, by simp [tsm]⟩
  | j + 1, h => by
    have h1 := tsm_range r n xs k hq hq2 hx j (by omega)
    have h2 := Int.emod_nonneg (rdI xs (j : Int) * pw q r (k * j % n)) (show q ≠ 0 by omega)
    have h3 := Int.emod_lt_of_pos (rdI xs (j : Int) * pw q r (k * j % n)) (show 0 < q by omega)
    simp only [tsm]
    omega
def turnL (q r : Int) (n : Nat) (xs : List Int) : List Int := (List.range n).map fun k => tsm q r n xs k n % q
theorem turnL_len {q r : Int} {n : Nat} {xs : List Int} : (turnL q r n xs).length = n := by simp [turnL]
theorem turnL_range {q : Int} (r : Int) (n : Nat) (xs : List Int) (hq : 0 < q) : ∀ x ∈ turnL q r n xs, 0 ≤ x ∧ x < q := by
  intro x hx
  obtain ⟨k, _, rfl⟩ := List.mem_map.1 hx
  exact ⟨Int.emod_nonneg _ (by omega), Int.emod_lt_of_pos _ hq⟩
theorem turnL_at {q r : Int} {n : Nat} {xs : List Int} {k : Nat} (h : k < n) : rdI (turnL q r n xs) (k : Int) = tsm q r n xs k n % q := by
  simp [rdI, turnL, List.getD_eq_getElem?_getD, h]
def backL (q wr : Int) (n : Nat) (xs : List Int) : List Int := (List.range n).map fun k => (fun k : Nat => rdI (turnL q (pw q wr (q - 2).toNat) n xs) (k : Int) * pw q ((n : Int) % q) (q - 2).toNat) k % q
def powL (q wr : Int) (n : Nat) (xs : List Int) : List Int := (List.range n).map fun k => (fun k : Nat => rdI (turnL q wr n xs) (k : Int) * rdI (turnL q wr n xs) (((n : Int) - (k : Int)) % (n : Int))) k % q
def mnI (xs : List Int) : Nat → Int
  | 0 => rdI xs 0
  | i + 1 => if rdI xs ((i : Int) + 1) < mnI xs i then rdI xs ((i : Int) + 1) else mnI xs i
def mxI (xs : List Int) : Nat → Int
  | 0 => rdI xs 0
  | i + 1 => if rdI xs ((i : Int) + 1) > mxI xs i then rdI xs ((i : Int) + 1) else mxI xs i
theorem mnI_le (xs : List Int) (c : Int) : ∀ i : Nat, c ≤ mnI xs i ↔ ∀ j : Nat, j ≤ i → c ≤ rdI xs (j : Int)
  | 0 => by
    constructor
    · intro h j hj
      have : j = 0 := by omega
      subst this; exact h
    · intro h; exact h 0 (Nat.le_refl _)
  | i + 1 => by
    have ih := mnI_le xs c i
    have e : ((i + 1 : Nat) : Int) = (i : Int) + 1 := rfl
    simp only [mnI]
    constructor
    · intro h j hj
      rcases Nat.lt_or_ge j (i + 1) with h1 | h1
      · refine ih.1 ?_ j (by omega)
        split at h <;> omega
      · have : j = i + 1 := by omega
        subst this; rw [e]
        split at h <;> omega
    · intro h
      have h1 := ih.2 fun j hj => h j (by omega)
      have h2 := h (i + 1) (Nat.le_refl _)
      rw [e] at h2
      split <;> omega
theorem mxI_lt (xs : List Int) (c : Int) : ∀ i : Nat, mxI xs i < c ↔ ∀ j : Nat, j ≤ i → rdI xs (j : Int) < c
  | 0 => by
    constructor
    · intro h j hj
      have : j = 0 := by omega
      subst this; exact h
    · intro h; exact h 0 (Nat.le_refl _)
  | i + 1 => by
    have ih := mxI_lt xs c i
    have e : ((i + 1 : Nat) : Int) = (i : Int) + 1 := rfl
    simp only [mxI]
    constructor
    · intro h j hj
      rcases Nat.lt_or_ge j (i + 1) with h1 | h1
      · refine ih.1 ?_ j (by omega)
        split at h <;> omega
      · have : j = i + 1 := by omega
        subst this; rw [e]
        split at h <;> omega
    · intro h
      have h1 := ih.2 fun j hj => h j (by omega)
      have h2 := h (i + 1) (Nat.le_refl _)
      rw [e] at h2
      split <;> omega
/-- Is a row a wheel? -/
def okW (n : Nat) (q : Int) (xs : List Int) : Bool := decide (xs.length = n) && xs.all fun x => decide (0 ≤ x) && decide (x < q)
theorem okW_len {n : Nat} {q : Int} {xs : List Int} (h : xs.length ≠ n) : okW n q xs = false := by simp [okW, h]
theorem okW_eq {n : Nat} {q : Int} {xs : List Int} (h : xs.length = n) (hn : 1 ≤ n) : okW n q xs = (decide (0 ≤ mnI xs (n - 1)) && decide (mxI xs (n - 1) < q)) := by
  have h1 := mnI_le xs 0 (n - 1)
  have h2 := mxI_lt xs q (n - 1)
  have h3 : ∀ (p : Int → Prop), (∀ j : Nat, j ≤ n - 1 → p (rdI xs (j : Int))) ↔ ∀ x ∈ xs, p x := by
    intro p
    constructor
    · intro hp x hx
      obtain ⟨j, hj, rfl⟩ := List.getElem_of_mem hx
      have := hp j (by omega)
      rw [rdI_nat, List.getD_eq_getElem?_getD, List.getElem?_eq_getElem hj] at this
      exact this
    · intro hp j hj
      exact hp _ (rdI_mem (by omega) (by omega))
  have h1 := h1.trans (h3 (fun x => 0 ≤ x))
  have h2 := h2.trans (h3 (fun x => x < q))
  simp only [okW, h, decide_true, Bool.true_and]
  rw [Bool.eq_iff_iff]
  simp only [List.all_eq_true, Bool.and_eq_true, decide_eq_true_eq, h1, h2]
  exact ⟨fun h => ⟨fun x hx => (h x hx).1, fun x hx => (h x hx).2⟩, fun h x hx => ⟨h.1 x hx, h.2 x hx⟩⟩
theorem okW_true {n : Nat} {q : Int} {xs : List Int} : okW n q xs = true ↔ xs.length = n ∧ ∀ x ∈ xs, 0 ≤ x ∧ x < q := by
  simp [okW]
def ixF (p : Value → Bool) (vs : List Value) : Int := match vs.findIdx? p with
  | some i => i
  | none => -1
theorem ixF_some {p : Value → Bool} {vs : List Value} {i : Nat} (hi : i < vs.length) (h : p (rdVal vs (i : Int)) = true) (hno : ∀ j : Nat, j < i → p (rdVal vs (j : Int)) = false) : ixF p vs = i := by
  have e : ∀ j : Nat, (hj : j < vs.length) → vs[j] = rdVal vs (j : Int) := fun j hj => by simp [rdVal, List.getD_eq_getElem?_getD, hj]
  have : vs.findIdx? p = some i := by
    rw [List.findIdx?_eq_some_iff_getElem]
    refine ⟨hi, by rw [e i hi]; exact h, fun j hj => ?_⟩
    rw [e j (by omega), hno j hj]; decide
  simp [ixF, this]
theorem ixF_none {p : Value → Bool} {vs : List Value} (hno : ∀ j : Nat, j < vs.length → p (rdVal vs (j : Int)) = false) : ixF p vs = -1 := by
  have : vs.findIdx? p = none := by
    rw [List.findIdx?_eq_none_iff]
    intro x hx
    obtain ⟨j, hj, rfl⟩ := List.getElem_of_mem hx
    have := hno j hj
    simpa [rdVal, List.getD_eq_getElem?_getD, hj] using this
  simp [ixF, this]
theorem ixF_any {p : Value → Bool} {vs : List Value} : decide (ixF p vs ≥ 0) = vs.any p := by
  unfold ixF
  cases h : vs.findIdx? p with
  | some i =>
    obtain ⟨hi, hp, _⟩ := List.findIdx?_eq_some_iff_getElem.1 h
    have : vs.any p = true := List.any_eq_true.2 ⟨vs[i], List.getElem_mem hi, hp⟩
    rw [this]; simp
  | none =>
    have := List.findIdx?_eq_none_iff.1 h
    have : vs.any p = false := List.any_eq_false.2 fun x hx => by rw [this x hx]; decide
    rw [this]; decide
def okN (n : Nat) : Bool := decide (2 ≤ n) && decide (n ≤ 16)
theorem tabs : ∀ n ∈ List.range 17, 2 ≤ n → 2 * (n : Int) + 1 ≤ qOf n ∧ qOf n ≤ 97 ∧ isP (qOf n) = true ∧ qOf n % (n : Int) = 1 ∧ 2 ≤ wOf n ∧ wOf n < qOf n ∧ ordOf (qOf n) (wOf n) = n := by decide +kernel
theorem tabq : ∀ n ∈ List.range 17, 2 ≤ n → ∀ i ∈ List.range 100, 2 * (n : Int) + 1 + (i : Int) < qOf n → (isP (2 * (n : Int) + 1 + i) && decide ((2 * (n : Int) + 1 + i) % (n : Int) = 1)) = false := by decide +kernel
theorem tabw : ∀ n ∈ List.range 17, 2 ≤ n → ∀ i ∈ List.range 100, 2 + (i : Int) ≤ wOf n → (List.range 100).any (fun K => yv (qOf n) (2 + i) K == 1) = true ∧ (2 + (i : Int) < wOf n → ordOf (qOf n) (2 + i) ≠ n) := by decide +kernel
theorem q_facts {n : Nat} (h : 2 ≤ n) (h' : n ≤ 16) : 2 * (n : Int) + 1 ≤ qOf n ∧ qOf n ≤ 97 ∧ isP (qOf n) = true ∧ qOf n % (n : Int) = 1 ∧ 2 ≤ wOf n ∧ wOf n < qOf n ∧ ordOf (qOf n) (wOf n) = n := tabs n (List.mem_range.2 (by omega)) h
theorem q_before {n : Nat} (h : 2 ≤ n) (h' : n ≤ 16) {q : Int} (h1 : 2 * (n : Int) + 1 ≤ q) (h2 : q < qOf n) : ¬ (isP q = true ∧ q % (n : Int) = 1) := by
  obtain ⟨i, hi⟩ : ∃ i : Nat, q = 2 * (n : Int) + 1 + i := ⟨(q - (2 * (n : Int) + 1)).toNat, by omega⟩
  subst hi
  have hq := (q_facts h h').2.1
  have := tabq n (List.mem_range.2 (by omega)) h i (List.mem_range.2 (by omega)) h2
  intro ⟨c1, c2⟩
  rw [c1, decide_eq_true c2] at this
  cases this
theorem w_facts {n : Nat} (h : 2 ≤ n) (h' : n ≤ 16) {x : Int} (h1 : 2 ≤ x) (h2 : x ≤ wOf n) : (∃ K, K < 100 ∧ yv (qOf n) x K = 1) ∧ (x < wOf n → ordOf (qOf n) x ≠ n) := by
  obtain ⟨i, hi⟩ : ∃ i : Nat, x = 2 + (i : Int) := ⟨(x - 2).toNat, by omega⟩
  subst hi
  have hq := q_facts h h'
  have := tabw n (List.mem_range.2 (by omega)) h i (List.mem_range.2 (by omega)) h2
  refine ⟨?_, this.2⟩
  obtain ⟨K, hK, hy⟩ := List.any_eq_true.1 this.1
  exact ⟨K, List.mem_range.1 hK, by simpa using hy⟩
/-- As the reference looks for the prime. -/
def rP (n : Nat) (q : Int) (j : Nat) : Bool := decide ((q - 1) % (n : Int) = 0) && (List.range j).all fun d => decide (q % ((d : Int) + 2) ≠ 0)
theorem rP_succ (n : Nat) (q : Int) (j : Nat) : rP n q (j + 1) = (rP n q j && !decide (q % ((j : Int) + 2) = 0)) := by
  simp [rP, List.range_succ, List.all_append, Bool.and_assoc]
theorem rptab : ∀ n ∈ List.range 17, 2 ≤ n → ∀ i ∈ List.range 100, (2 * (n : Int) + 1 + (i : Int) < qOf n → rP n (2 * (n : Int) + 1 + i) (2 * n + i - 1) = false) ∧ (2 * (n : Int) + 1 + (i : Int) = qOf n → rP n (2 * (n : Int) + 1 + i) (2 * n + i - 1) = true) := by decide +kernel
theorem rp_before {n : Nat} (h : 2 ≤ n) (h' : n ≤ 16) (i : Nat) (hi : 2 * (n : Int) + 1 + (i : Int) < qOf n) {j : Nat} (hj : j + 2 = 2 * n + 1 + i) : rP n (2 * (n : Int) + 1 + i) j = false := by
  have hq := (q_facts h h').2.1
  have := (rptab n (List.mem_range.2 (by omega)) h i (List.mem_range.2 (by omega))).1 hi
  rwa [show 2 * n + i - 1 = j by omega] at this
theorem rp_at {n : Nat} (h : 2 ≤ n) (h' : n ≤ 16) (i : Nat) (hi : 2 * (n : Int) + 1 + (i : Int) = qOf n) {j : Nat} (hj : j + 2 = 2 * n + 1 + i) : rP n (2 * (n : Int) + 1 + i) j = true := by
  have hq := (q_facts h h').2.1
  have := (rptab n (List.mem_range.2 (by omega)) h i (List.mem_range.2 (by omega))).2 hi
  rwa [show 2 * n + i - 1 = j by omega] at this
theorem pw_yv {q x : Int} (h0 : 0 ≤ x) (h1 : x < q) : ∀ k : Nat, pw q x (k + 1) = yv q x k
  | 0 => by simp [pw, yv]; exact Int.emod_eq_of_lt h0 h1
  | k + 1 => by
    have := pw_yv h0 h1 k
    simp only [pw, yv] at this ⊢
    rw [this]
/-! ### as the reference sums -/
def racc (q r : Int) (n : Nat) (xs : List Int) (idx : Nat → Nat) : Nat → Int
  | 0 => 0
  | j + 1 => (racc q r n xs idx j + rdI xs (j : Int) * pw q r (idx j)) % q
theorem racc_range {q : Int} (r : Int) (n : Nat) (xs : List Int) (idx : Nat → Nat) (hq : 2 ≤ q) (j : Nat) : 0 ≤ racc q r n xs idx j ∧ racc q r n xs idx j < q := by
  cases j with
  | zero => exact ⟨Int.le_refl _, by show (0 : Int) < q; omega⟩
  | succ j => exact ⟨Int.emod_nonneg _ (by omega), Int.emod_lt_of_pos _ (by omega)⟩
theorem racc_tsm {q r r' : Int} {n : Nat} {xs : List Int} {k : Nat} {idx : Nat → Nat} (h : ∀ j, pw q r' (idx j) = pw q r (k * j % n)) : ∀ j : Nat, racc q r' n xs idx j = tsm q r n xs k j % q
  | 0 => by simp [racc, tsm]
  | j + 1 => by
    simp only [racc, tsm]
    rw [racc_tsm h j, h j, Int.emod_add_emod, Int.add_emod_emod]
theorem invtab : ∀ n ∈ List.range 17, 2 ≤ n → ∀ m ∈ List.range 16, m < n → pw (qOf n) (pw (qOf n) (wOf n) (qOf n - 2).toNat) m = pw (qOf n) (wOf n) ((n - m) % n) := by decide +kernel
theorem pw_inv {n : Nat} (h : 2 ≤ n) (h' : n ≤ 16) {m : Nat} (hm : m < n) : pw (qOf n) (pw (qOf n) (wOf n) (qOf n - 2).toNat) m = pw (qOf n) (wOf n) ((n - m) % n) :=
  invtab n (List.mem_range.2 (by omega)) h m (List.mem_range.2 (by omega)) hm
/-- The index as the reference takes it: sign 1, sign -1. -/
theorem idx_pos {n k j : Nat} (hn : 0 < n) : Int.tmod (1 * (k : Int) * (j : Int)) (n : Int) = ((k * j % n : Nat) : Int) := by
  rw [Int.one_mul, ← Int.natCast_mul, Int.tmod_eq_emod_of_nonneg (by omega), Int.natCast_emod]
theorem idx_neg {n k j : Nat} (hn : 0 < n) : Int.tmod (-1 * (k : Int) * (j : Int)) (n : Int) = -((k * j % n : Nat) : Int) := by
  rw [Int.mul_assoc, Int.neg_one_mul, Int.neg_tmod, ← Int.natCast_mul, Int.tmod_eq_emod_of_nonneg (by omega), Int.natCast_emod]
def sidx (s : Int) (n k : Nat) (j : Nat) : Nat := if s = 1 then k * j % n else (n - k * j % n) % n
theorem sidx_eq {s : Int} {n k j : Nat} (hs : s = 1 ∨ s = -1) (hn : 0 < n) : (Int.tmod (s * (k : Int) * (j : Int)) (n : Int) + (n : Int)) % (n : Int) = (sidx s n k j : Nat) := by
  have hlt := Nat.mod_lt (k * j) hn
  rcases hs with rfl | rfl
  · rw [idx_pos hn, sidx, if_pos rfl, Int.add_emod_right, ← Int.natCast_emod, Nat.mod_mod]
  · rw [idx_neg hn, sidx, if_neg (by decide)]
    rw [show -((k * j % n : Nat) : Int) + (n : Int) = ((n - k * j % n : Nat) : Int) by omega, ← Int.natCast_emod]
theorem sidx_lt (s : Int) {n k j : Nat} (hn : 0 < n) : sidx s n k j < n := by
  unfold sidx; split <;> exact Nat.mod_lt _ hn
def sumsL (s : Int) (n : Nat) (xs : List Int) : List Int := (List.range n).map fun k => racc (qOf n) (wOf n) n xs (sidx s n k) n
theorem sumsL_len {s : Int} {n : Nat} {xs : List Int} : (sumsL s n xs).length = n := by simp [sumsL]
theorem sums_pos {n : Nat} {xs : List Int} : sumsL 1 n xs = turnL (qOf n) (wOf n) n xs := by
  unfold sumsL turnL
  apply List.map_congr_left
  intro k _
  exact racc_tsm (fun j => by rw [sidx, if_pos rfl]) n
theorem sums_neg {n : Nat} (h : 2 ≤ n) (h' : n ≤ 16) {xs : List Int} : sumsL (-1) n xs = turnL (qOf n) (pw (qOf n) (wOf n) (qOf n - 2).toNat) n xs := by
  unfold sumsL turnL
  apply List.map_congr_left
  intro k _
  exact racc_tsm (fun j => by rw [sidx, if_neg (by decide), pw_inv h h' (Nat.mod_lt _ (by omega))]) n
theorem turnL_range' {n : Nat} (h : 2 ≤ n) (h' : n ≤ 16) (r : Int) (xs : List Int) : ∀ x ∈ turnL (qOf n) r n xs, 0 ≤ x ∧ x < qOf n := turnL_range r n xs (by have := q_facts h h'; omega)
/-! ### products -/
def tms (n : Nat) (xs ys : List Int) (x : Nat) : Nat → Int
  | 0 => 0
  | j + 1 => tms n xs ys x j + rdI xs (j : Int) * rdI ys (((x : Int) - (j : Int) + (n : Int)) % (n : Int))
def timL (q : Int) (n : Nat) (xs ys : List Int) : List Int := (List.range n).map fun x => tms n xs ys x n % q
theorem timL_len {q : Int} {n : Nat} {xs ys : List Int} : (timL q n xs ys).length = n := by simp [timL]
theorem at_range {q : Int} {xs : List Int} {n : Nat} (hxl : xs.length = n) (hx : ∀ x ∈ xs, 0 ≤ x ∧ x < q) {i : Int} (h0 : 0 ≤ i) (h1 : i < (n : Int)) : 0 ≤ rdI xs i ∧ rdI xs i < q := hx _ (rdI_mem h0 (by omega))
theorem mod_range {n : Nat} (hn : 0 < n) (a : Int) : 0 ≤ a % (n : Int) ∧ a % (n : Int) < (n : Int) := ⟨Int.emod_nonneg _ (by omega), Int.emod_lt_of_pos _ (by omega)⟩
theorem tms_range {q : Int} {n : Nat} {xs ys : List Int} (hn : 0 < n) (hq : q ≤ 1000) (hxl : xs.length = n) (hyl : ys.length = n) (hx : ∀ x ∈ xs, 0 ≤ x ∧ x < q) (hy : ∀ x ∈ ys, 0 ≤ x ∧ x < q) (x : Nat) : ∀ j : Nat, j ≤ n → 0 ≤ tms n xs ys x j ∧ tms n xs ys x j ≤ j * 1000000
  | 0, _ => ⟨Int.le_refl _, by simp [tms]⟩
  | j + 1, h => by
    have h1 := tms_range hn hq hxl hyl hx hy x j (by omega)
    have h2 := at_range hxl hx (i := (j : Int)) (by omega) (by omega)
    have h3 := mod_range hn ((x : Int) - (j : Int) + (n : Int))
    have h4 := at_range hyl hy h3.1 h3.2
    have h5 := Int.mul_nonneg h2.1 h4.1
    have h6 : rdI xs (j : Int) * rdI ys (((x : Int) - (j : Int) + (n : Int)) % (n : Int)) ≤ 1000 * 1000 := Int.mul_le_mul (by omega) (by omega) h4.1 (by decide)
    simp only [tms]
    omega
def ract (q : Int) (n : Nat) (xs ys : List Int) (x : Nat) : Nat → Int
  | 0 => 0
  | j + 1 => (ract q n xs ys x j + rdI xs (j : Int) * rdI ys (((x : Int) - (j : Int) + (n : Int)) % (n : Int))) % q
theorem ract_tms {q : Int} {n : Nat} {xs ys : List Int} {x : Nat} : ∀ j : Nat, ract q n xs ys x j = tms n xs ys x j % q
  | 0 => by simp [ract, tms]
  | j + 1 => by simp only [ract, tms]; rw [ract_tms j, Int.emod_add_emod]
theorem ract_range {q : Int} {n : Nat} {xs ys : List Int} {x : Nat} (hq : 2 ≤ q) (j : Nat) : 0 ≤ ract q n xs ys x j ∧ ract q n xs ys x j < q := by
  rw [ract_tms]; exact ⟨Int.emod_nonneg _ (by omega), Int.emod_lt_of_pos _ (by omega)⟩
/-! ### moved, turned -/
def movL (n : Nat) (k : Int) (xs : List Int) : List Int := (List.range n).map fun x : Nat => rdI xs (((x : Int) - k + (n : Int)) % (n : Int))
def trnL (n : Nat) (xs : List Int) : List Int := (List.range n).map fun x : Nat => rdI xs (((n : Int) - (x : Int)) % (n : Int))
theorem movL_len {n : Nat} {k : Int} {xs : List Int} : (movL n k xs).length = n := by simp [movL]
theorem trnL_len {n : Nat} {xs : List Int} : (trnL n xs).length = n := by simp [trnL]
/-- k reduced. -/
def kOf (n : Nat) (k : Int) : Int := (Int.tmod k (n : Int) + (n : Int)) % (n : Int)
theorem tmod_range {n : Nat} (hn : 0 < n) (k : Int) : -(n : Int) < Int.tmod k (n : Int) ∧ Int.tmod k (n : Int) < (n : Int) :=
  ⟨by have := Int.lt_tmod_of_pos k (show (0 : Int) < n by omega); omega, Int.tmod_lt_of_pos k (by omega)⟩
theorem kOf_range {n : Nat} (hn : 0 < n) (k : Int) : 0 ≤ kOf n k ∧ kOf n k < (n : Int) := mod_range hn _
theorem kOf_idx {n : Nat} (hn : 0 < n) (k : Int) (x : Nat) (hx : x < n) : (Int.tmod ((x : Int) + Int.tmod k (n : Int)) (n : Int) + (n : Int)) % (n : Int) = ((x : Int) + kOf n k) % (n : Int) := by
  have h := tmod_range hn k
  unfold kOf
  rw [Int.add_emod_emod]
  have e : ∀ a : Int, -(n : Int) < a → (Int.tmod a (n : Int) + (n : Int)) % (n : Int) = (a + (n : Int)) % (n : Int) := by
    intro a ha
    rcases Int.lt_or_le a 0 with h1 | h1
    · have h2 : Int.tmod a (n : Int) = a := by
        rw [show a = -(-a) by omega, Int.neg_tmod, Int.tmod_eq_of_lt (by omega) (by omega)]
      rw [h2]
    · rw [Int.tmod_eq_emod_of_nonneg h1, Int.emod_add_emod]
  rw [e _ (by omega), Int.add_assoc]
theorem movL_of {n : Nat} {k : Int} {xs out : List Int} (hn : 0 < n) (hk : 0 ≤ k ∧ k < (n : Int)) (hl : out.length = n) (h : ∀ y : Nat, y < n → rdI out (((y : Int) + k) % (n : Int)) = rdI xs (y : Int)) : out = movL n k xs :=
  eq_map hl fun x hx => by
    have h1 := mod_range hn ((x : Int) - k + (n : Int))
    obtain ⟨y, hy⟩ := Int.eq_ofNat_of_zero_le h1.1
    have h2 := h y (by omega)
    rw [← hy, Int.emod_add_emod, show (x : Int) - k + (n : Int) + k = (x : Int) + (n : Int) by omega, Int.add_emod_right, Int.emod_eq_of_lt (by omega) (by omega)] at h2
    exact h2
theorem trnL_of {n : Nat} {xs out : List Int} (hn : 0 < n) (hl : out.length = n) (h : ∀ y : Nat, y < n → rdI out (((n : Int) - (y : Int)) % (n : Int)) = rdI xs (y : Int)) : out = trnL n xs :=
  eq_map hl fun x hx => by
    have h1 := mod_range hn ((n : Int) - (x : Int))
    obtain ⟨y, hy⟩ := Int.eq_ofNat_of_zero_le h1.1
    have h2 := h y (by omega)
    rw [← hy, Int.sub_emod, Int.emod_emod_of_dvd _ (Int.dvd_refl _), ← Int.sub_emod, show (n : Int) - ((n : Int) - (x : Int)) = (x : Int) by omega, Int.emod_eq_of_lt (by omega) (by omega)] at h2
    exact h2
theorem mod_inj {n : Nat} (hn : 0 < n) {x y : Nat} {k : Int} (hx : x < n) (hy : y < n) (h : ((x : Int) + k) % (n : Int) = ((y : Int) + k) % (n : Int)) : x = y := by
  have := Int.emod_emod_of_dvd ((x : Int) + k) (Int.dvd_refl (n : Int))
  have h2 : ((x : Int) - (y : Int)) % (n : Int) = 0 := by
    have : (((x : Int) + k) - ((y : Int) + k)) % (n : Int) = 0 := by rw [Int.sub_emod, h, Int.sub_self, Int.zero_emod]
    rwa [show ((x : Int) + k) - ((y : Int) + k) = (x : Int) - (y : Int) by omega] at this
  have h3 := Int.dvd_of_emod_eq_zero h2
  obtain ⟨c, hc⟩ := h3
  rcases Int.lt_trichotomy c 0 with h4 | h4 | h4
  · have : (n : Int) * c ≤ (n : Int) * (-1) := Int.mul_le_mul_of_nonneg_left (by omega) (by omega)
    omega
  · subst h4; omega
  · have : (n : Int) * 1 ≤ (n : Int) * c := Int.mul_le_mul_of_nonneg_left (by omega) (by omega)
    omega
theorem mod_injn {n : Nat} (hn : 0 < n) {x y : Nat} (hx : x < n) (hy : y < n) (h : ((n : Int) - (x : Int)) % (n : Int) = ((n : Int) - (y : Int)) % (n : Int)) : x = y := by
  have h2 : (((n : Int) - (x : Int)) - ((n : Int) - (y : Int))) % (n : Int) = 0 := by rw [Int.sub_emod, h, Int.sub_self, Int.zero_emod]
  rw [show ((n : Int) - (x : Int)) - ((n : Int) - (y : Int)) = (y : Int) - (x : Int) by omega] at h2
  obtain ⟨c, hc⟩ := Int.dvd_of_emod_eq_zero h2
  rcases Int.lt_trichotomy c 0 with h4 | h4 | h4
  · have : (n : Int) * c ≤ (n : Int) * (-1) := Int.mul_le_mul_of_nonneg_left (by omega) (by omega)
    omega
  · subst h4; omega
  · have : (n : Int) * 1 ≤ (n : Int) * c := Int.mul_le_mul_of_nonneg_left (by omega) (by omega)
    omega
theorem movL_q {n : Nat} {q k : Int} {xs : List Int} (hn : 0 < n) (hxl : xs.length = n) (hx : ∀ x ∈ xs, 0 ≤ x ∧ x < q) : movL n k xs = (List.range n).map fun x : Nat => (fun x : Nat => rdI xs (((x : Int) - k + (n : Int)) % (n : Int))) x % q :=
  List.map_congr_left fun x _ => by
    have h := mod_range hn ((x : Int) - k + (n : Int))
    have h2 := at_range hxl hx h.1 h.2
    exact (Int.emod_eq_of_lt h2.1 h2.2).symm
theorem trnL_q {n : Nat} {q : Int} {xs : List Int} (hn : 0 < n) (hxl : xs.length = n) (hx : ∀ x ∈ xs, 0 ≤ x ∧ x < q) : trnL n xs = (List.range n).map fun x : Nat => (fun x : Nat => rdI xs (((n : Int) - (x : Int)) % (n : Int))) x % q :=
  List.map_congr_left fun x _ => by
    have h := mod_range hn ((n : Int) - (x : Int))
    have h2 := at_range hxl hx h.1 h.2
    exact (Int.emod_eq_of_lt h2.1 h2.2).symm
def quoL (q wr : Int) (n : Nat) (xs ys : List Int) : List Int := (List.range n).map fun k : Nat => (fun k : Nat => rdI (turnL q wr n xs) (k : Int) * pw q (rdI (turnL q wr n ys) (k : Int)) (q - 2).toNat) k % q
theorem quoL_len {q wr : Int} {n : Nat} {xs ys : List Int} : (quoL q wr n xs ys).length = n := by simp [quoL]
theorem map_mod_range {n : Nat} {q : Int} (hq : 0 < q) (F : Nat → Int) : ∀ x ∈ (List.range n).map (fun k => F k % q), 0 ≤ x ∧ x < q := by
  intro x hx
  obtain ⟨k, _, rfl⟩ := List.mem_map.1 hx
  exact ⟨Int.emod_nonneg _ (by omega), Int.emod_lt_of_pos _ hq⟩
theorem quoL_ok {n : Nat} (h : 2 ≤ n) (h' : n ≤ 16) {xs ys : List Int} : okW n (qOf n) (quoL (qOf n) (wOf n) n xs ys) = true :=
  okW_true.2 ⟨quoL_len, map_mod_range (by have := q_facts h h'; omega) _⟩
theorem turnL_ok {n : Nat} (h : 2 ≤ n) (h' : n ≤ 16) {r : Int} {xs : List Int} : okW n (qOf n) (turnL (qOf n) r n xs) = true := okW_true.2 ⟨turnL_len, turnL_range' h h' r xs⟩
theorem backL_ok {n : Nat} (h : 2 ≤ n) (h' : n ≤ 16) {xs : List Int} : okW n (qOf n) (backL (qOf n) (wOf n) n xs) = true := okW_true.2 ⟨by simp [backL], map_mod_range (by have := q_facts h h'; omega) _⟩
theorem powL_ok {n : Nat} (h : 2 ≤ n) (h' : n ≤ 16) {xs : List Int} : okW n (qOf n) (powL (qOf n) (wOf n) n xs) = true := okW_true.2 ⟨by simp [powL], map_mod_range (by have := q_facts h h'; omega) _⟩
theorem timL_ok {n : Nat} (h : 2 ≤ n) (h' : n ≤ 16) {xs ys : List Int} : okW n (qOf n) (timL (qOf n) n xs ys) = true := okW_true.2 ⟨timL_len, map_mod_range (by have := q_facts h h'; omega) _⟩
theorem movL_ok {n : Nat} (h : 2 ≤ n) (h' : n ≤ 16) {k : Int} {xs : List Int} (hok : okW n (qOf n) xs = true) : okW n (qOf n) (movL n k xs) = true := by
  obtain ⟨h1, h2⟩ := okW_true.1 hok
  rw [movL_q (by omega) h1 h2]
  exact okW_true.2 ⟨by simp, map_mod_range (by have := q_facts h h'; omega) _⟩
theorem trnL_ok {n : Nat} (h : 2 ≤ n) (h' : n ≤ 16) {xs : List Int} (hok : okW n (qOf n) xs = true) : okW n (qOf n) (trnL n xs) = true := by
  obtain ⟨h1, h2⟩ := okW_true.1 hok
  rw [trnL_q (by omega) h1 h2]
  exact okW_true.2 ⟨by simp, map_mod_range (by have := q_facts h h'; omega) _⟩
def ixI (xs : List Int) (x : Int) : Int := match xs.findIdx? (fun y => decide (x = y)) with
  | some i => i
  | none => -1
theorem rdI_getElem {xs : List Int} {j : Nat} (h : j < xs.length) : rdI xs (j : Int) = xs[j] := by simp [rdI_nat, List.getD_eq_getElem?_getD, h]
theorem ixI_some {xs : List Int} {x : Int} {i : Nat} (hi : i < xs.length) (h : x = rdI xs (i : Int)) (hno : ∀ j : Nat, j < i → x ≠ rdI xs (j : Int)) : ixI xs x = i := by
  have : xs.findIdx? (fun y => decide (x = y)) = some i := by
    rw [List.findIdx?_eq_some_iff_getElem]
    refine ⟨hi, by rw [← rdI_getElem hi]; simpa using h, fun j hj => ?_⟩
    rw [← rdI_getElem (by omega)]; simpa using hno j hj
  simp [ixI, this]
theorem ixI_none {xs : List Int} {x : Int} (hno : ∀ j : Nat, j < xs.length → x ≠ rdI xs (j : Int)) : ixI xs x = -1 := by
  have : xs.findIdx? (fun y => decide (x = y)) = none := by
    rw [List.findIdx?_eq_none_iff]
    intro y hy
    obtain ⟨j, hj, rfl⟩ := List.getElem_of_mem hy
    have := hno j hj
    rw [rdI_getElem hj] at this; simpa using this
  simp [ixI, this]
theorem ixI_mem {xs : List Int} {x : Int} : decide (ixI xs x ≥ 0) = decide (x ∈ xs) := by
  unfold ixI
  cases h : xs.findIdx? (fun y => decide (x = y)) with
  | some i =>
    obtain ⟨hi, hp, _⟩ := List.findIdx?_eq_some_iff_getElem.1 h
    have : x ∈ xs := by have := of_decide_eq_true hp; rw [this]; exact List.getElem_mem hi
    simp [this]
  | none =>
    have := List.findIdx?_eq_none_iff.1 h
    have : x ∉ xs := fun hx => by have := this x hx; simp at this
    simp [this]
/-! ### chords -/
def bitI (s : Int) (x : Nat) : Int := (((s / 2 ^ (x : Int).toNat : Int).toNat &&& (1 : Int).toNat : Nat) : Int)
theorem bitI_range (s : Int) (x : Nat) : 0 ≤ bitI s x ∧ bitI s x ≤ 1 := by
  unfold bitI
  have : (s / 2 ^ (x : Int).toNat : Int).toNat &&& 1 ≤ 1 := Nat.and_le_right
  exact ⟨by omega, by show (((s / 2 ^ (x : Int).toNat : Int).toNat &&& 1 : Nat) : Int) ≤ 1; omega⟩
def chL (n : Nat) (s : Int) : List Int := (List.range n).map fun x => bitI s x
theorem chL_len {n : Nat} {s : Int} : (chL n s).length = n := by simp [chL]
theorem chL_ok {n : Nat} (h : 2 ≤ n) (h' : n ≤ 16) {s : Int} : okW n (qOf n) (chL n s) = true := by
  have hq := q_facts h h'
  refine okW_true.2 ⟨chL_len, fun x hx => ?_⟩
  obtain ⟨k, _, rfl⟩ := List.mem_map.1 hx
  have := bitI_range s k
  omega
theorem chL_q {n : Nat} (h : 2 ≤ n) (h' : n ≤ 16) {s : Int} : chL n s = (List.range n).map fun k => (fun x => bitI s x) k % qOf n :=
  List.map_congr_left fun k _ => by
    have hq := q_facts h h'
    have := bitI_range s k
    exact (Int.emod_eq_of_lt this.1 (by omega)).symm
abbrev RIn' (n : Int) : Prop := 2 ≤ n ∧ n ≤ 16
abbrev okC (n c : Int) : Prop := RIn' n ∧ 0 ≤ c ∧ c < 2 ^ n.toNat
def silI (xs : List Int) : Nat → Int
  | 0 => 0
  | k + 1 => if rdI xs (k : Int) = 0 then (((silI xs k).toNat ||| (2 ^ (k : Int).toNat : Int).toNat : Nat) : Int) else silI xs k
theorem silI_range (xs : List Int) : ∀ k : Nat, 0 ≤ silI xs k ∧ silI xs k < 2 ^ k
  | 0 => ⟨Int.le_refl _, by show (0 : Int) < 2 ^ 0; decide⟩
  | k + 1 => by
    have ih := silI_range xs k
    have e : (2 : Int) ^ (k + 1) = 2 ^ k * 2 := Int.pow_succ ..
    simp only [silI]
    split
    · refine ⟨by omega, ?_⟩
      have h1 : (silI xs k).toNat < 2 ^ (k + 1) := by
        have : ((2 ^ (k + 1) : Nat) : Int) = (2 : Int) ^ (k + 1) := by simp
        omega
      have h2 : (2 ^ (k : Int).toNat : Int).toNat < 2 ^ (k + 1) := by
        rw [Int.toNat_natCast]
        have e1 : ((2 : Int) ^ k) = ((2 ^ k : Nat) : Int) := by simp
        rw [e1, Int.toNat_natCast]
        exact Nat.pow_lt_pow_right (by decide) (by omega)
      have h3 := Nat.or_lt_two_pow h1 h2
      have : ((2 ^ (k + 1) : Nat) : Int) = (2 : Int) ^ (k + 1) := by simp
      omega
    · omega
theorem pow_le {k m : Nat} (h : k ≤ m) : (2 : Int) ^ k ≤ 2 ^ m := by
  have : (2 : Nat) ^ k ≤ 2 ^ m := Nat.pow_le_pow_right (by decide) h
  exact_mod_cast this
theorem pow_pos2 (k : Nat) : (1 : Int) ≤ 2 ^ k := by
  have : 1 ≤ (2 : Nat) ^ k := Nat.one_le_two_pow
  exact_mod_cast this
end Go.Wh
