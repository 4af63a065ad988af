/- Two rhythms fill the circle just where the product of their wheels is 1 everywhere: plain Lean. -/
import Derived.Test.YtnhflahgbkmloaaTpOnes
namespace Go.Wh
open Go.Sx Go.Dft
set_option linter.unusedVariables false
set_option linter.unusedSimpArgs false
/-- A set moved by k on a circle of n. -/
def movN (n a k : Nat) : Nat := ((a <<< k) ||| (a >>> (n - k))) &&& (2 ^ n - 1)
theorem movN_lt (n a k : Nat) : movN n a k < 2 ^ n := Nat.lt_of_le_of_lt Nat.and_le_right (by have := Nat.two_pow_pos n; omega)
theorem movN_bit {n a k x : Nat} (ha : a < 2 ^ n) (hk : k < n) (hx : x < n) : (movN n a k).testBit x = a.testBit ((x + (n - k)) % n) := by
  unfold movN
  rw [Nat.testBit_and, Nat.testBit_or, Nat.testBit_shiftLeft, Nat.testBit_shiftRight, Nat.testBit_two_pow_sub_one, decide_eq_true hx, Bool.and_true]
  by_cases h : k ≤ x
  · have e : (x + (n - k)) % n = x - k := by rw [show x + (n - k) = (x - k) + n by omega, Nat.add_mod_right, Nat.mod_eq_of_lt (by omega)]
    have h2 : a.testBit (n - k + x) = false := Nat.testBit_lt_two_pow (Nat.lt_of_lt_of_le ha (Nat.pow_le_pow_right (by decide) (by omega)))
    rw [e, h2, Bool.or_false, decide_eq_true h, Bool.true_and]
  · have e : (x + (n - k)) % n = n - k + x := by rw [Nat.mod_eq_of_lt (by omega)]; omega
    rw [e, decide_eq_false (by omega), Bool.false_and, Bool.false_or]
/-- The beats that are filled by the entries before k. -/
def filN (n a b : Nat) : Nat → Nat
  | 0 => 0
  | k + 1 => if bitI (b : Int) k = 1 then filN n a b k ||| movN n a k else filN n a b k
theorem filN_lt (n a b : Nat) : ∀ k, filN n a b k < 2 ^ n
  | 0 => Nat.two_pow_pos n
  | k + 1 => by
    unfold filN
    split
    · exact Nat.or_lt_two_pow (filN_lt n a b k) (movN_lt n a k)
    · exact filN_lt n a b k
theorem filN_bit {n a b x : Nat} (ha : a < 2 ^ n) (hx : x < n) : ∀ k, k ≤ n → ((filN n a b k).testBit x = true ↔ ∃ j, j < k ∧ b.testBit j = true ∧ a.testBit ((x + (n - j)) % n) = true)
  | 0, _ => by simp [filN]
  | k + 1, h => by
    have ih := filN_bit (b := b) ha hx k (by omega)
    have hb : bitI (b : Int) k = 1 ↔ b.testBit k = true := by rw [bitI_nat]; cases b.testBit k <;> simp
    unfold filN
    split
    · rename_i hc
      rw [Nat.testBit_or, movN_bit ha (by omega) hx, Bool.or_eq_true, ih]
      constructor
      · rintro (⟨j, h1, h2⟩ | h1)
        · exact ⟨j, by omega, h2⟩
        · exact ⟨k, by omega, hb.1 hc, h1⟩
      · rintro ⟨j, h1, h2, h3⟩
        rcases Nat.lt_or_ge j k with h4 | h4
        · exact .inl ⟨j, h4, h2, h3⟩
        · obtain rfl : j = k := by omega
          exact .inr h3
    · rename_i hc
      rw [ih]
      constructor
      · rintro ⟨j, h1, h2⟩; exact ⟨j, by omega, h2⟩
      · rintro ⟨j, h1, h2, h3⟩
        rcases Nat.lt_or_ge j k with h4 | h4
        · exact ⟨j, h4, h2, h3⟩
        · obtain rfl : j = k := by omega
          exact absurd (hb.2 h2) hc
theorem full_bits {n z : Nat} (hz : z < 2 ^ n) : z = 2 ^ n - 1 ↔ ∀ x, x < n → z.testBit x = true := by
  constructor
  · rintro rfl x hx; rw [Nat.testBit_two_pow_sub_one]; exact decide_eq_true hx
  · intro h
    apply Nat.eq_of_testBit_eq
    intro x
    rw [Nat.testBit_two_pow_sub_one]
    by_cases hx : x < n
    · rw [h x hx, decide_eq_true hx]
    · rw [decide_eq_false hx]; exact Nat.testBit_lt_two_pow (Nat.lt_of_lt_of_le hz (Nat.pow_le_pow_right (by decide) (by omega)))
/-- Whether they fill the circle, as it is tested. -/
def tileB (n a b : Nat) : Bool := decide (bs 16 a * bs 16 b = n) && decide (filN n a b n = 2 ^ n - 1)
theorem Sm_ge {f : Nat → Int} : ∀ {n : Nat}, (∀ k, k < n → 1 ≤ f k) → (n : Int) ≤ Sm f n
  | 0, _ => Int.le_refl _
  | n + 1, h => by
    have h1 := Sm_ge (n := n) (fun k hk => h k (by omega))
    have h2 := h n (by omega)
    show ((n + 1 : Nat) : Int) ≤ Sm f n + f n
    omega
theorem Sm_all1 {f : Nat → Int} : ∀ {n : Nat}, (∀ k, k < n → 1 ≤ f k) → Sm f n = n → ∀ k, k < n → f k = 1
  | 0, _, _ => fun k hk => absurd hk (by omega)
  | n + 1, h, hs => by
    have h1 := Sm_ge (n := n) (fun k hk => h k (by omega))
    have h2 := h n (by omega)
    have hs' : Sm f n + f n = ((n + 1 : Nat) : Int) := hs
    have ih := Sm_all1 (n := n) (fun k hk => h k (by omega)) (by omega)
    intro k hk
    rcases Nat.lt_or_ge k n with h4 | h4
    · exact ih k h4
    · obtain rfl : k = n := by omega
      omega
theorem Sm_pos {f : Nat → Int} : ∀ {n : Nat}, (∀ k, k < n → 0 ≤ f k) → (1 ≤ Sm f n ↔ ∃ k, k < n ∧ 1 ≤ f k)
  | 0, _ => ⟨fun h => absurd h (by simp [Sm]), fun ⟨k, h, _⟩ => absurd h (by omega)⟩
  | n + 1, h => by
    have ih := Sm_pos (n := n) (fun k hk => h k (by omega))
    have h2 := h n (by omega)
    have h3 : 0 ≤ Sm f n := by
      have : ∀ m, m ≤ n → 0 ≤ Sm f m := fun m => by
        induction m with
        | zero => intro _; exact Int.le_refl _
        | succ m ihm => intro hm; have := ihm (by omega); have := h m (by omega); show 0 ≤ Sm f m + f m; omega
      exact this n (Nat.le_refl _)
    show 1 ≤ Sm f n + f n ↔ _
    constructor
    · intro h4
      by_cases h5 : 1 ≤ Sm f n
      · obtain ⟨k, h6, h7⟩ := ih.1 h5; exact ⟨k, by omega, h7⟩
      · exact ⟨n, by omega, by omega⟩
    · rintro ⟨k, h6, h7⟩
      rcases Nat.lt_or_ge k n with h8 | h8
      · have := ih.2 ⟨k, h8, h7⟩; omega
      · obtain rfl : k = n := by omega
        omega
theorem bit01 (m x : Nat) : bitI (m : Int) x = 0 ∨ bitI (m : Int) x = 1 := by rw [bitI_nat]; cases m.testBit x <;> simp
/-- How often a beat is filled. -/
def hitN (n a b x : Nat) : Int := Sm (fun k => bitI (b : Int) k * bitI (a : Int) ((x + (n - k)) % n)) n
theorem hit_conv {n a b x : Nat} (hn : 0 < n) (hx : x < n) : conv n (fn (chL n (a : Int))) (fn (chL n (b : Int))) x = hitN n a b x := by
  rw [conv_comm hn _ _ hx]
  exact Sm_congr fun k hk => by rw [fn_ch _ hk, fn_ch _ (Nat.mod_lt _ hn)]
theorem hit_sum {n a b : Nat} (hn : 0 < n) : Sm (fun x => hitN n a b x) n = (bs n b : Int) * (bs n a : Int) := by
  unfold hitN
  rw [Sm_swap, ← bs_Sm, ← bs_Sm, ← Sm_mulr]
  refine Sm_congr fun k hk => ?_
  rw [Sm_mul]
  congr 1
  exact Sm_reindex (fun x => (x + (n - k)) % n) (fun p => (p + k) % n) (fun p => bitI (a : Int) p) (fun _ _ => Nat.mod_lt _ hn) (fun _ _ => Nat.mod_lt _ hn) (fun x p hx hp => shift_iff hx hp hk)
theorem hit_range {n a b x : Nat} : 0 ≤ hitN n a b x ∧ hitN n a b x ≤ n := by
  have := Sm_range (f := fun k => bitI (b : Int) k * bitI (a : Int) ((x + (n - k)) % n)) (c := 1) (n := n) (fun k hk => by
    rcases bit01 b k with h | h <;> rcases bit01 a ((x + (n - k)) % n) with h' | h' <;> simp [h, h'])
  unfold hitN; omega
theorem hit_pos {n a b x : Nat} (ha : a < 2 ^ n) (hx : x < n) : 1 ≤ hitN n a b x ↔ (filN n a b n).testBit x = true := by
  unfold hitN
  rw [Sm_pos (fun k hk => by rcases bit01 b k with h | h <;> rcases bit01 a ((x + (n - k)) % n) with h' | h' <;> simp [h, h']), filN_bit ha hx n (Nat.le_refl _)]
  refine exists_congr fun k => and_congr_right fun hk => ?_
  rw [bitI_nat, bitI_nat]
  cases b.testBit k <;> cases a.testBit ((x + (n - k)) % n) <;> simp
theorem tile_iff {n a b : Nat} (h : 2 ≤ n) (h' : n ≤ 16) (ha : a < 2 ^ n) (hb : b < 2 ^ n) : tileB n a b = true ↔ ∀ x, x < n → hitN n a b x = 1 := by
  unfold tileB
  rw [Bool.and_eq_true, decide_eq_true_iff, decide_eq_true_iff, bs_ext ha 16 h', bs_ext hb 16 h', full_bits (filN_lt n a b n)]
  have hs := hit_sum (a := a) (b := b) (show 0 < n by omega)
  constructor
  · rintro ⟨h1, h2⟩
    refine Sm_all1 (fun k hk => (hit_pos ha hk).2 (h2 k hk)) ?_
    rw [hs, Int.mul_comm]; exact_mod_cast h1
  · intro h1
    refine ⟨?_, fun x hx => (hit_pos ha hx).1 (by rw [h1 x hx]; decide)⟩
    have h2 : Sm (fun x => hitN n a b x) n = Sm (fun _ => 1) n := Sm_congr h1
    have h3 : ∀ m : Nat, Sm (fun _ => 1) m = m := fun m => by induction m with
      | zero => rfl
      | succ m ih => show Sm _ m + 1 = _; rw [ih]; omega
    rw [hs, h3, Int.mul_comm] at h2
    exact_mod_cast h2
/-- Whether the first numbers of a row are 1. -/
def oneF (xs : List Int) : Nat → Bool
  | 0 => true
  | k + 1 => oneF xs k && decide (rdI xs (k : Int) = 1)
theorem oneF_iff (xs : List Int) : ∀ n, oneF xs n = true ↔ ∀ k : Nat, k < n → rdI xs (k : Int) = 1
  | 0 => ⟨fun _ k hk => absurd hk (by omega), fun _ => rfl⟩
  | n + 1 => by
    simp only [oneF, Bool.and_eq_true, oneF_iff xs n, decide_eq_true_iff]
    constructor
    · rintro ⟨h1, h2⟩ k hk
      rcases Nat.lt_or_ge k n with h3 | h3
      · exact h1 k h3
      · obtain rfl : k = n := by omega
        exact h2
    · intro h; exact ⟨fun k hk => h k (by omega), h n (by omega)⟩
theorem prod_tile {n a b : Nat} (h : 2 ≤ n) (h' : n ≤ 16) (ha : a < 2 ^ n) (hb : b < 2 ^ n) : oneF (timL (qOf n) n (chL n (a : Int)) (chL n (b : Int))) n = tileB n a b := by
  rw [Bool.eq_iff_iff, oneF_iff, tile_iff h h' ha hb]
  have hq := q_facts h h'
  refine forall_congr' fun x => ⟨fun h1 hx => ?_, fun h1 hx => ?_⟩
  · have h2 := h1 hx
    rw [show rdI _ (x : Int) = fn (timL (qOf n) n (chL n (a : Int)) (chL n (b : Int))) x from rfl, tim_at _ _ hx, hit_conv (by omega) hx] at h2
    have h3 := hit_range (n := n) (a := a) (b := b) (x := x)
    rwa [Int.emod_eq_of_lt h3.1 (by omega)] at h2
  · rw [show rdI _ (x : Int) = fn (timL (qOf n) n (chL n (a : Int)) (chL n (b : Int))) x from rfl, tim_at _ _ hx, hit_conv (by omega) hx, h1 hx]
    exact Int.emod_eq_of_lt (by decide) (by omega)
end Go.Wh
