/- The sum of a scale and its vector: plain Lean. -/
import Derived.Test.YtnhflahgbkmloaaTpProd
import Derived.Test.YtnhflahgbkmloaaWhHrd
namespace Go.Proofs.Ytnhflahgbkmloaa
open Go.RowKit Go.Sx Go.Dft Go.Wh
set_option linter.unusedVariables false
set_option linter.unusedSimpArgs false
/-- The tones below k, rising. -/
def tonesL (c : Nat) : Nat → List Int
  | 0 => []
  | k + 1 => if bitI (c : Int) k = 1 then tonesL c k ++ [(k : Int)] else tonesL c k
theorem tonesL_range (c : Nat) : ∀ k, ∀ x ∈ tonesL c k, 0 ≤ x ∧ x < k
  | 0 => by simp [tonesL]
  | k + 1 => by
    have ih := tonesL_range c k
    intro x hx
    unfold tonesL at hx
    split at hx
    · rcases List.mem_append.1 hx with h | h
      · have := ih x h; omega
      · simp at h; omega
    · have := ih x hx; omega
theorem tonesL_len (c : Nat) : ∀ k, (tonesL c k).length ≤ k
  | 0 => Nat.le_refl _
  | k + 1 => by
    have ih := tonesL_len c k
    unfold tonesL
    split
    · simp; omega
    · omega
def spT (n x y : Int) : Int := (x - y) * (n - x + y)
def inL (n x : Int) (ys : List Int) : Int := (ys.map (spT n x)).sum
theorem inL_snoc (n x y : Int) (ys : List Int) : inL n x (ys ++ [y]) = inL n x ys + spT n x y := by simp [inL, List.sum_append]
/-- The sum over all pairs whose upper one is among the first k. -/
def outP (n : Int) (xs : List Int) : Nat → Int
  | 0 => 0
  | k + 1 => outP n xs k + inL n (rdI xs (k : Int)) (xs.take k)
theorem rdI_app {xs ys : List Int} {k : Nat} (h : k < xs.length) : rdI (xs ++ ys) (k : Int) = rdI xs (k : Int) := by
  rw [rdI_nat, rdI_nat, List.getD_eq_getElem?_getD, List.getD_eq_getElem?_getD, List.getElem?_append_left h]
theorem outP_app (n : Int) (xs ys : List Int) : ∀ k, k ≤ xs.length → outP n (xs ++ ys) k = outP n xs k
  | 0, _ => rfl
  | k + 1, h => by
    unfold outP
    rw [outP_app n xs ys k (by omega), rdI_app (by omega), List.take_append_of_le_length (by omega)]
theorem outP_snoc (n : Int) (xs : List Int) (x : Int) : outP n (xs ++ [x]) (xs ++ [x]).length = outP n xs xs.length + inL n x xs := by
  rw [List.length_append, List.length_singleton]
  show outP n (xs ++ [x]) xs.length + inL n (rdI (xs ++ [x]) (xs.length : Int)) ((xs ++ [x]).take xs.length) = _
  rw [outP_app n xs [x] _ (Nat.le_refl _), List.take_left]
  congr 2
  rw [rdI_nat, List.getD_eq_getElem?_getD, List.getElem?_append_right (Nat.le_refl _)]; simp
theorem inL_tones (n x : Int) (c : Nat) : ∀ k, inL n x (tonesL c k) = Sm (fun y => bitI (c : Int) y * spT n x y) k
  | 0 => rfl
  | k + 1 => by
    have ih := inL_tones n x c k
    show _ = Sm _ k + bitI (c : Int) k * spT n x k
    unfold tonesL
    split
    · rename_i h; rw [inL_snoc, ih, h]; omega
    · rename_i h
      rw [ih, show bitI (c : Int) k = 0 by have := bit01 c k; omega]; omega
theorem outP_tones (n : Int) (c : Nat) : ∀ k, outP n (tonesL c k) (tonesL c k).length = Sm (fun x => Sm (fun y => bitI (c : Int) x * (bitI (c : Int) y * spT n x y)) x) k
  | 0 => rfl
  | k + 1 => by
    have ih := outP_tones n c k
    show _ = Sm _ k + Sm (fun y => bitI (c : Int) k * (bitI (c : Int) y * spT n k y)) k
    rw [Sm_mul]
    conv => lhs; unfold tonesL
    split
    · rename_i h; rw [outP_snoc, ih, inL_tones, h]; omega
    · rename_i h
      rw [ih, show bitI (c : Int) k = 0 by have := bit01 c k; omega]; omega
theorem Sm_rev (f : Nat → Int) : ∀ n : Nat, Sm (fun k => f (n - k)) (n + 1) = Sm f (n + 1)
  | 0 => rfl
  | n + 1 => by
    rw [Sm_first, show Sm f (n + 1 + 1) = Sm f (n + 1) + f (n + 1) from rfl, ← Sm_rev f n]
    rw [show (fun x => f (n + 1 - (x + 1))) = fun k => f (n - k) from by funext x; congr 1; omega]
    show f (n + 1) + _ = _
    omega
theorem Sm_upto (f : Nat → Int) {x n : Nat} (h : x < n) : Sm (fun e => if e ≤ x then f e else 0) n = Sm f (x + 1) := by
  obtain ⟨b, rfl⟩ : ∃ b, n = (x + 1) + b := ⟨n - (x + 1), by omega⟩
  rw [Sm_split, Sm_none (f := fun k => if x + 1 + k ≤ x then f (x + 1 + k) else 0) (fun k hk => if_neg (by omega)), Int.add_zero]
  exact Sm_congr fun e he => by rw [if_pos (by omega)]
/-- .. as a sum over the distances. -/
theorem out_SS {n c : Nat} (h0 : 0 < n) : outP n (tonesL c n) (tonesL c n).length = Sm (fun e => SS n (c : Int) e * ((e : Int) * ((n : Int) - e))) n := by
  rw [outP_tones]
  unfold SS
  rw [show (fun e : Nat => Sm (fun y => if e ≤ y then fn (chL n (c : Int)) y * fn (chL n (c : Int)) (y - e) else 0) n * ((e : Int) * ((n : Int) - e))) = fun e : Nat => Sm (fun y => (if e ≤ y then fn (chL n (c : Int)) y * fn (chL n (c : Int)) (y - e) else 0) * ((e : Int) * ((n : Int) - e))) n from by funext e; rw [Sm_mulr]]
  rw [Sm_swap]
  refine Sm_congr fun x hx => ?_
  have e1 : Sm (fun e => (if e ≤ x then fn (chL n (c : Int)) x * fn (chL n (c : Int)) (x - e) else 0) * ((e : Int) * ((n : Int) - e))) n = Sm (fun e => if e ≤ x then (fun e => fn (chL n (c : Int)) x * fn (chL n (c : Int)) (x - e) * ((e : Int) * ((n : Int) - e))) e else 0) n := Sm_congr fun e he => by
    by_cases q : e ≤ x
    · rw [if_pos q, if_pos q]
    · rw [if_neg q, if_neg q, Int.zero_mul]
  rw [e1, Sm_upto _ hx, ← Sm_rev]
  show Sm _ x = Sm _ x + fn (chL n (c : Int)) x * fn (chL n (c : Int)) (x - (x - x)) * (((x - x : Nat) : Int) * ((n : Int) - ((x - x : Nat) : Int)))
  have e2 : fn (chL n (c : Int)) x * fn (chL n (c : Int)) (x - (x - x)) * (((x - x : Nat) : Int) * ((n : Int) - ((x - x : Nat) : Int))) = 0 := by rw [Nat.sub_self]; simp
  rw [e2, Int.add_zero]
  refine Sm_congr fun y hy => ?_
  rw [fn_ch _ hx, fn_ch _ (by omega), show x - (x - y) = y by omega, Int.mul_assoc]
  congr 2
  unfold spT
  rw [show ((x - y : Nat) : Int) = (x : Int) - y by omega, show (n : Int) - x + y = (n : Int) - ((x : Int) - y) by omega]
/-- How often a distance occurs, as it is counted. -/
def vcN (n c d : Nat) : Nat := if 2 * d = n then bs 16 (c &&& movN n c d) / 2 else bs 16 (c &&& movN n c d)
theorem com_Rm {n c d : Nat} (h' : n ≤ 16) (hc : c < 2 ^ n) (hd : d < n) : (bs 16 (c &&& movN n c d) : Int) = Rm n (c : Int) d := by
  rw [bs_ext (n := n) (Nat.lt_of_le_of_lt Nat.and_le_left hc) 16 h', ← bs_Sm, Rm_at _ hd]
  refine Sm_congr fun x hx => ?_
  rw [fn_ch _ hx, fn_ch _ (Nat.mod_lt _ (by omega)), bitI_nat, bitI_nat, bitI_nat, Nat.testBit_and, movN_bit hc hd hx]
  cases c.testBit x <;> cases c.testBit ((x + (n - d)) % n) <;> rfl
theorem vcN_SS {n c d : Nat} (h' : n ≤ 16) (hc : c < 2 ^ n) (hd1 : 1 ≤ d) (hd : d < n) : (vcN n c d : Int) = SS n (c : Int) d + if 2 * d = n then 0 else SS n (c : Int) (n - d) := by
  have h1 := com_Rm h' hc hd
  have h2 := Rm_SS (c : Int) hd1 hd
  unfold vcN
  by_cases q : 2 * d = n
  · rw [if_pos q, if_pos q]
    rw [show n - d = d by omega] at h2
    omega
  · rw [if_neg q, if_neg q, h1, h2]
theorem fold_half (F : Nat → Int) : ∀ n : Nat, 2 ≤ n → n ≤ 16 → Sm (fun k => (F (k + 1) + if 2 * (k + 1) = n then 0 else F (n - (k + 1))) * ((k : Int) + 1) * ((n : Int) - k - 1)) (n / 2) = Sm (fun e => F e * ((e : Int) * ((n : Int) - e))) n := by
  intro n h h'
  have : n = 2 ∨ n = 3 ∨ n = 4 ∨ n = 5 ∨ n = 6 ∨ n = 7 ∨ n = 8 ∨ n = 9 ∨ n = 10 ∨ n = 11 ∨ n = 12 ∨ n = 13 ∨ n = 14 ∨ n = 15 ∨ n = 16 := by omega
  rcases this with rfl | rfl | rfl | rfl | rfl | rfl | rfl | rfl | rfl | rfl | rfl | rfl | rfl | rfl | rfl <;> simp [Sm] <;> omega
def vecC (n c : Nat) : List Int := (List.range (n / 2)).map fun e => ((vcN n c (e + 1) : Nat) : Int)
theorem vecC_len (n c : Nat) : (vecC n c).length = n / 2 := by simp [vecC]
theorem vecC_at {n c e : Nat} (h : e < n / 2) : rdI (vecC n c) (e : Int) = vcN n c (e + 1) := rdI_map h
theorem vcN_le (n c d : Nat) : vcN n c d ≤ 16 := by have := bs_le 16 (c &&& movN n c d); unfold vcN; split <;> omega
theorem vecC_range {n c e : Nat} (h : e < n / 2) : 0 ≤ rdI (vecC n c) (e : Int) ∧ rdI (vecC n c) (e : Int) ≤ 16 := by
  rw [vecC_at h]; have := vcN_le n c (e + 1); omega
theorem sum_law {n c : Nat} (h : 2 ≤ n) (h' : n ≤ 16) (hc : c < 2 ^ n) : Sm (fun e : Nat => rdI (vecC n c) (e : Int) * ((e : Int) + 1) * ((n : Int) - e - 1)) (n / 2) = outP n (tonesL c n) (tonesL c n).length := by
  rw [out_SS (by omega), ← fold_half _ n h h']
  refine Sm_congr fun e he => ?_
  rw [vecC_at he, vcN_SS h' hc (by omega) (by omega)]
theorem mulb {a b : Int} (h1 : -16 ≤ a ∧ a ≤ 16) (h2 : -32 ≤ b ∧ b ≤ 32) : -512 ≤ a * b ∧ a * b ≤ 512 := by
  have e1 := Int.mul_nonneg (show 0 ≤ 16 - a by omega) (show 0 ≤ 32 + b by omega)
  have e2 := Int.mul_nonneg (show 0 ≤ 16 + a by omega) (show 0 ≤ 32 - b by omega)
  have e3 := Int.mul_nonneg (show 0 ≤ 16 - a by omega) (show 0 ≤ 32 - b by omega)
  have e4 := Int.mul_nonneg (show 0 ≤ 16 + a by omega) (show 0 ≤ 32 + b by omega)
  simp only [Int.sub_mul, Int.add_mul, Int.mul_sub, Int.mul_add] at e1 e2 e3 e4
  omega
end Go.Proofs.Ytnhflahgbkmloaa
