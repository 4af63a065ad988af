/- Chords and the others' tones: what the law WheelsOthers says, in plain Lean. -/
import Derived.Test.YtnhflahgbkmloaaWhDft
namespace Go.Wh
open Go.Sx Go.Dft
set_option linter.unusedVariables false
set_option linter.unusedSimpArgs false

theorem bitI_nat (m x : Nat) : bitI (m : Int) x = ((m.testBit x).toNat : Int) := by
  unfold bitI
  have e : ((m : Int) / 2 ^ (x : Int).toNat) = ((m / 2 ^ x : Nat) : Int) := by rw [Int.toNat_natCast, Int.natCast_ediv]; simp
  rw [e, Int.toNat_natCast, show (1 : Int).toNat = 1 from rfl, Nat.and_one_is_mod, ← Nat.toNat_testBit]
def bs : Nat → Nat → Nat
  | 0, _ => 0
  | n + 1, m => m % 2 + bs n (m / 2)
theorem bs_step : ∀ (n m : Nat), 0 < m → m < 2 ^ n → bs n m = bs n (m &&& (m - 1)) + 1
  | 0, m, h, h2 => by simp at h2; omega
  | n + 1, m, h, h2 => by
    have h3 : m / 2 < 2 ^ n := by rw [Nat.pow_succ] at h2; omega
    have e1 : (m &&& (m - 1)) % 2 = 0 := by
      have := @Nat.and_mod_two_eq_one m (m - 1)
      omega
    simp only [bs]
    rw [e1, Nat.and_div_two]
    rcases Nat.mod_two_eq_zero_or_one m with h4 | h4
    · have h5 : (m - 1) / 2 = m / 2 - 1 := by omega
      rw [h5, h4, bs_step n (m / 2) (by omega) h3]; omega
    · have h5 : (m - 1) / 2 = m / 2 := by omega
      rw [h5, Nat.and_self, h4]; omega
theorem bs_zero : ∀ n : Nat, bs n 0 = 0
  | 0 => rfl
  | n + 1 => by simp [bs, bs_zero n]
theorem bs_pos {n m : Nat} (h : m < 2 ^ n) : bs n m = 0 ↔ m = 0 := by
  refine ⟨fun h2 => ?_, fun h2 => by rw [h2, bs_zero]⟩
  rcases Nat.eq_zero_or_pos m with h3 | h3
  · exact h3
  · have := bs_step n m h3 h; omega
theorem Sm_first (f : Nat → Int) : ∀ n : Nat, Sm f (n + 1) = f 0 + Sm (fun x => f (x + 1)) n
  | 0 => by simp [Sm]
  | n + 1 => by
    have := Sm_first f n
    simp only [Sm] at this ⊢; omega
theorem bs_Sm : ∀ (n m : Nat), Sm (fun x => bitI (m : Int) x) n = bs n m
  | 0, _ => rfl
  | n + 1, m => by
    rw [Sm_first]
    have ih := bs_Sm n (m / 2)
    have e : (fun x => bitI (m : Int) (x + 1)) = fun x => bitI ((m / 2 : Nat) : Int) x := by
      funext x; rw [bitI_nat, bitI_nat, Nat.testBit_succ]
    rw [e, ih, bitI_nat, Nat.testBit_zero]
    simp only [bs]
    rcases Nat.mod_two_eq_zero_or_one m with h | h <;> simp [h]
theorem bs_le : ∀ (n m : Nat), bs n m ≤ n
  | 0, _ => Nat.le_refl _
  | n + 1, m => by have := bs_le n (m / 2); simp only [bs]; omega
theorem fn_ch {n x : Nat} (c : Int) (h : x < n) : fn (chL n c) x = bitI c x := rdI_map h
theorem ch_zero {n : Nat} (h : 2 ≤ n) (h' : n ≤ 16) (m : Nat) : rdI (turnL (qOf n) (wOf n) n (chL n (m : Int))) ((0 : Nat) : Int) = bs n m := by
  have hq := q_facts h h'
  rw [turnL_at (by omega), tsm_Sm, ← bs_Sm]
  have e : Sm (fun x => fn (chL n (m : Int)) x * pw (qOf n) (wOf n) (0 * x % n) % qOf n) n = Sm (fun x => bitI (m : Int) x) n := Sm_congr fun x hx => by
    have hb := bitI_range (m : Int) x
    rw [fn_ch _ hx, Nat.zero_mul, Nat.zero_mod, show pw (qOf n) (wOf n) 0 = 1 from rfl, Int.mul_one, Int.emod_eq_of_lt (by omega) (by omega)]
  rw [e, bs_Sm]
  have := bs_le n m
  exact Int.emod_eq_of_lt (by omega) (by omega)
/-- The other tones. -/
theorem bit_other {n m x : Nat} (hm : m < 2 ^ n) (hx : x < n) : bitI (((2 ^ n - (m + 1) : Nat)) : Int) x = 1 - bitI (m : Int) x := by
  rw [bitI_nat, bitI_nat, Nat.testBit_two_pow_sub_succ hm, decide_eq_true hx]
  cases m.testBit x <;> rfl
theorem bs_other {n m : Nat} (hm : m < 2 ^ n) : (bs n m : Int) + bs n (2 ^ n - (m + 1)) = n := by
  rw [← bs_Sm, ← bs_Sm, ← Sm_add]
  have : Sm (fun k => bitI (m : Int) k + bitI ((2 ^ n - (m + 1) : Nat) : Int) k) n = Sm (fun _ => 1) n := Sm_congr fun x hx => by rw [bit_other hm hx]; omega
  rw [this]
  have h1 : ∀ n : Nat, Sm (fun _ => 1) n = n := fun n => by induction n with | zero => rfl | succ n ih => simp only [Sm, ih]; omega
  exact h1 n
theorem other_sum {n : Nat} (h : 2 ≤ n) (h' : n ≤ 16) {m : Nat} (hm : m < 2 ^ n) {k : Nat} (hk : k < n) (hk0 : k ≠ 0) :
    (rdI (turnL (qOf n) (wOf n) n (chL n (m : Int))) (k : Int) + rdI (turnL (qOf n) (wOf n) n (chL n ((2 ^ n - (m + 1) : Nat) : Int))) (k : Int)) % qOf n = 0 := by
  have hq := q_facts h h'
  have h1 : ∀ x, x < n → fn (List.replicate n 1) x = 1 := fun x hx => by show rdI _ _ = _; rw [rdI_nat, List.getD_eq_getElem?_getD, List.getElem?_replicate, if_pos hx]; rfl
  have := spec_add (chL n (m : Int)) (chL n ((2 ^ n - (m + 1) : Nat) : Int)) (List.replicate n 1) (fun x hx => by
    rw [h1 x hx, fn_ch _ hx, fn_ch _ hx, bit_other hm hx, show bitI (m : Int) x + (1 - bitI (m : Int) x) = 1 by omega]
    exact (Int.emod_eq_of_lt (by omega) (by omega)).symm) hk
  simp only [fn] at this
  rw [← this]
  have h2 := spec_Fo (List.replicate n 1) hk
  simp only [fn] at h2
  rw [h2]
  have h3 : Fo n (Wn n) (fun x => rdI (List.replicate n 1) (x : Int)) k = Sm (fun x => Wn n (x * k)) n := Sm_congr fun x hx => by
    have := h1 x hx
    simp only [fn] at this
    show rdI (List.replicate n 1) (x : Int) * _ = _
    rw [this, Int.one_mul, Nat.mul_comm]
  rw [h3, (root h h').orth k, Nat.mod_eq_of_lt hk, if_neg hk0]; rfl
theorem other_zero {n : Nat} (h : 2 ≤ n) (h' : n ≤ 16) {m : Nat} (hm : m < 2 ^ n) {k : Nat} (hk : k < n) (hk0 : k ≠ 0) :
    rdI (turnL (qOf n) (wOf n) n (chL n (m : Int))) (k : Int) = 0 ↔ rdI (turnL (qOf n) (wOf n) n (chL n ((2 ^ n - (m + 1) : Nat) : Int))) (k : Int) = 0 := by
  have hq := q_facts h h'
  have h1 := other_sum h h' hm hk hk0
  have h2 := at_range turnL_len (turnL_range' h h' (wOf n) (chL n (m : Int))) (i := (k : Int)) (by omega) (by omega)
  have h3 := at_range turnL_len (turnL_range' h h' (wOf n) (chL n ((2 ^ n - (m + 1) : Nat) : Int))) (i := (k : Int)) (by omega) (by omega)
  constructor
  · intro h4; rw [h4, Int.zero_add, Int.emod_eq_of_lt h3.1 h3.2] at h1; exact h1
  · intro h4; rw [h4, Int.add_zero, Int.emod_eq_of_lt h2.1 h2.2] at h1; exact h1
/-- The bits of what is silent. -/
theorem sil_bit (xs : List Int) (k : Nat) : ∀ n : Nat, (silI xs n).toNat.testBit k = (decide (k < n) && decide (rdI xs (k : Int) = 0))
  | 0 => by simp [silI]
  | n + 1 => by
    have ih := sil_bit xs k n
    simp only [silI]
    split
    · rename_i h
      have e2 : ((2 : Int) ^ (n : Int).toNat).toNat = 2 ^ n := by rw [Int.toNat_natCast, show ((2 : Int) ^ n) = ((2 ^ n : Nat) : Int) by simp, Int.toNat_natCast]
      rw [Int.toNat_natCast, Nat.testBit_or, ih, e2, Nat.testBit_two_pow]
      rcases Nat.lt_trichotomy k n with h1 | h1 | h1
      · simp [h1, show k < n + 1 by omega, show ¬ n = k by omega]
      · subst h1; simp [h]
      · simp [show ¬ k < n by omega, show ¬ k < n + 1 by omega, show ¬ n = k by omega]
    · rename_i h
      rw [ih]
      rcases Nat.lt_trichotomy k n with h1 | h1 | h1
      · simp [h1, show k < n + 1 by omega]
      · subst h1; simp [h]
      · simp [show ¬ k < n by omega, show ¬ k < n + 1 by omega]
theorem sil_bitI (xs : List Int) {k n : Nat} (hk : k < n) : bitI (silI xs n) k = if rdI xs (k : Int) = 0 then 1 else 0 := by
  obtain ⟨s, hs⟩ := Int.eq_ofNat_of_zero_le (silI_range xs n).1
  have := sil_bit xs k n
  rw [hs] at this ⊢
  rw [bitI_nat]
  rw [Int.toNat_natCast] at this
  rw [this, decide_eq_true hk]
  split <;> simp [*]
theorem sil_high {xs ys : List Int} {n : Nat} (h : ∀ k, k < n → k ≠ 0 → (rdI xs (k : Int) = 0 ↔ rdI ys (k : Int) = 0)) : (silI xs n).toNat / 2 = (silI ys n).toNat / 2 := by
  apply Nat.eq_of_testBit_eq
  intro i
  rw [← Nat.testBit_succ, ← Nat.testBit_succ, sil_bit, sil_bit]
  by_cases hi : i + 1 < n
  · rw [decide_eq_true hi, decide_eq_decide.2 (h (i + 1) hi (by omega))]
  · rw [decide_eq_false hi]; rfl
theorem andnot1 (a : Nat) : a - (a &&& 1) = 2 * (a / 2) := by rw [Nat.and_one_is_mod]; omega
theorem sil_one {xs : List Int} {k n : Nat} (hk : k < n) : decide (bitI (silI xs n) k = 1) = decide (rdI xs (k : Int) = 0) := by
  rw [sil_bitI xs hk]; split <;> simp [*]
theorem sil_zero {n : Nat} (h : 2 ≤ n) (h' : n ≤ 16) {m : Nat} (hm : m < 2 ^ n) : (((silI (turnL (qOf n) (wOf n) n (chL n (m : Int))) n).toNat &&& (1 : Int).toNat : Nat) : Int) = 1 ↔ (m : Int) = 0 := by
  have h1 := sil_bit (turnL (qOf n) (wOf n) n (chL n (m : Int))) 0 n
  rw [ch_zero h h' m, Nat.testBit_zero, decide_eq_true (show 0 < n by omega), Bool.true_and, decide_eq_decide] at h1
  rw [show (1 : Int).toNat = 1 from rfl, Nat.and_one_is_mod]
  have h2 := bs_pos hm
  constructor
  · intro h3
    have := h1.1 (by omega)
    have := h2.1 (by omega)
    omega
  · intro h3
    have := h2.2 (by omega)
    have := h1.2 (by omega)
    omega
theorem and_pred {z : Nat} : (((z : Int)).toNat &&& ((z : Int) - 1).toNat) = z &&& (z - 1) := by
  rw [Int.toNat_natCast, show ((z : Int) - 1).toNat = z - 1 by omega]
end Go.Wh
