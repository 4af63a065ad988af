/- Scales made by a step: their vector, by a table. Plain Lean. -/
import Derived.Test.YtnhflahgbkmloaaTpSum
namespace Go.Proofs.Ytnhflahgbkmloaa
open Go.RowKit Go.Sx Go.Dft Go.Wh
set_option linter.unusedVariables false
set_option linter.unusedSimpArgs false
def mkN (n c g : Nat) : Nat → Nat
  | 0 => 0
  | i + 1 => mkN n c g i ||| 2 ^ ((c + i * g) % n)
theorem mkN_lt {n c g : Nat} (h : 0 < n) : ∀ i, mkN n c g i < 2 ^ n
  | 0 => Nat.two_pow_pos n
  | i + 1 => Nat.or_lt_two_pow (mkN_lt h i) (Nat.pow_lt_pow_right (by decide) (Nat.mod_lt _ h))
theorem mk_cast (n c g i : Nat) : ((c : Int) + (i : Int) * (g : Int)) % (n : Int) = (((c + i * g) % n : Nat) : Int) := by simp
def cnt (n s d : Nat) : Nat := bif Nat.beq (2 * d) n then p16 (s &&& movN n s d) / 2 else p16 (s &&& movN n s d)
theorem vcN_cnt (n s d : Nat) : vcN n s d = cnt n s d := by
  unfold vcN cnt
  rw [p16_bs]
  by_cases h : 2 * d = n
  · rw [if_pos h, show Nat.beq (2 * d) n = true from by rw [h]; exact Nat.beq_refl n, cond_true]
  · rw [if_neg h, Bool.eq_false_iff.2 (fun h2 => h (Nat.eq_of_beq_eq_true h2)), cond_false]
/-- The distance of j steps. -/
def djN (n g j : Nat) : Nat := bif Nat.ble ((j * g) % n) (n / 2) then (j * g) % n else n - (j * g) % n
def tabA (n g k c : Nat) : Bool := Nat.beq (p16 (mkN n c g k)) k && (Nat.testBit (mkN n c g k) c && (List.range (n / 2)).all fun j => Nat.beq (cnt n (mkN n c g k) (djN n g (j + 1))) (k - (j + 1)))
def tabB (n g : Nat) : Bool := (List.range (n / 2)).all fun d => (List.range (n / 2)).any fun j => Nat.beq (djN n g (j + 1)) (d + 1)
def tabN (n : Nat) : Bool := (List.range n).all fun g => !(Nat.beq (Nat.gcd g n) 1) || (tabB n g && (List.range (n / 2 + 1)).all fun k => (List.range n).all fun c => tabA n g (k + 1) c)
theorem tab2 : (List.range 9).all (fun n => Nat.ble n 1 || tabN n) = true := by decide +kernel
theorem tab9 : tabN 9 = true := by decide +kernel
theorem tab10 : tabN 10 = true := by decide +kernel
theorem tab11 : tabN 11 = true := by decide +kernel
theorem tab12 : tabN 12 = true := by decide +kernel
theorem tab13 : tabN 13 = true := by decide +kernel
theorem tab14 : tabN 14 = true := by decide +kernel
theorem tab15 : tabN 15 = true := by decide +kernel
theorem tab16 : tabN 16 = true := by decide +kernel
theorem tab_all {n : Nat} (h : 2 ≤ n) (h' : n ≤ 16) : tabN n = true := by
  rcases Nat.lt_or_ge n 9 with h2 | h2
  · have h3 := List.all_eq_true.1 tab2 n (List.mem_range.2 h2)
    rw [Bool.or_eq_true] at h3
    rcases h3 with h3 | h3
    · have := Nat.le_of_ble_eq_true h3; omega
    · exact h3
  · have : n = 9 ∨ n = 10 ∨ n = 11 ∨ n = 12 ∨ n = 13 ∨ n = 14 ∨ n = 15 ∨ n = 16 := by omega
    rcases this with rfl | rfl | rfl | rfl | rfl | rfl | rfl | rfl
    · exact tab9
    · exact tab10
    · exact tab11
    · exact tab12
    · exact tab13
    · exact tab14
    · exact tab15
    · exact tab16
section
variable {n g k c : Nat} (h : 2 ≤ n) (h' : n ≤ 16) (hg : Nat.gcd g n = 1) (hgn : g ≤ n) (hk : 1 ≤ k) (hk2 : k ≤ n / 2 + 1) (hc : c < n)
include h h' hg hgn
theorem g_lt : g < n := by
  rcases Nat.lt_or_ge g n with h2 | h2
  · exact h2
  · obtain rfl : g = n := by omega
    rw [Nat.gcd_self] at hg; omega
theorem tb : tabB n g = true ∧ ∀ k c, k ≤ n / 2 → c < n → tabA n g (k + 1) c = true := by
  have h1 := List.all_eq_true.1 (tab_all h h') g (List.mem_range.2 (g_lt h h' hg hgn))
  rw [Bool.or_eq_true] at h1
  rcases h1 with h1 | h1
  · rw [hg] at h1; exact absurd h1 (by decide)
  · rw [Bool.and_eq_true] at h1
    exact ⟨h1.1, fun k c hk hc => List.all_eq_true.1 (List.all_eq_true.1 h1.2 k (List.mem_range.2 (by omega))) c (List.mem_range.2 hc)⟩
theorem dj_all {d : Nat} (hd1 : 1 ≤ d) (hd : d ≤ n / 2) : ∃ j, 1 ≤ j ∧ j ≤ n / 2 ∧ djN n g j = d := by
  have h1 := List.all_eq_true.1 (tb h h' hg hgn).1 (d - 1) (List.mem_range.2 (by omega))
  obtain ⟨j, h2, h3⟩ := List.any_eq_true.1 h1
  have := Nat.eq_of_beq_eq_true h3
  exact ⟨j + 1, by omega, by have := List.mem_range.1 h2; omega, by omega⟩
include hk hk2 hc
theorem ta : tabA n g k c = true := by
  have := (tb h h' hg hgn).2 (k - 1) c (by omega) hc
  rwa [show k - 1 + 1 = k by omega] at this
theorem made_size : bs 16 (mkN n c g k) = k := by
  have h1 := ta h h' hg hgn hk hk2 hc
  unfold tabA at h1
  rw [Bool.and_eq_true] at h1
  rw [p16_bs]; exact Nat.eq_of_beq_eq_true h1.1
theorem made_bit : (mkN n c g k).testBit c = true := by
  have h1 := ta h h' hg hgn hk hk2 hc
  unfold tabA at h1
  rw [Bool.and_eq_true, Bool.and_eq_true] at h1
  exact h1.2.1
theorem made_cnt {j : Nat} (hj : 1 ≤ j) (hj2 : j ≤ n / 2) : vcN n (mkN n c g k) (djN n g j) = k - j := by
  have h1 := ta h h' hg hgn hk hk2 hc
  unfold tabA at h1
  rw [Bool.and_eq_true, Bool.and_eq_true] at h1
  have h2 := List.all_eq_true.1 h1.2.2 (j - 1) (List.mem_range.2 (by omega))
  have h3 := Nat.eq_of_beq_eq_true h2
  rw [show j - 1 + 1 = j by omega] at h3
  rw [vcN_cnt]; exact h3
theorem made_deep {e1 e2 : Nat} (he : e1 < e2) (he2 : e2 < n / 2) (hp : 0 < rdI (vecC n (mkN n c g k)) (e2 : Int)) : rdI (vecC n (mkN n c g k)) (e1 : Int) ≠ rdI (vecC n (mkN n c g k)) (e2 : Int) := by
  rw [vecC_at (by omega), vecC_at he2]
  rw [vecC_at he2] at hp
  obtain ⟨j1, a1, a2, a3⟩ := dj_all h h' hg hgn (d := e1 + 1) (by omega) (by omega)
  obtain ⟨j2, b1, b2, b3⟩ := dj_all h h' hg hgn (d := e2 + 1) (by omega) (by omega)
  have q1 := made_cnt h h' hg hgn hk hk2 hc a1 a2
  have q2 := made_cnt h h' hg hgn hk hk2 hc b1 b2
  rw [a3] at q1
  rw [b3] at q2
  rw [q1, q2]
  rw [q2] at hp
  intro h5
  have h6 : j1 = j2 := by omega
  rw [h6, b3] at a3
  omega
theorem made_deepz {z : Nat} (hz : z = mkN n c g k) (e2 : Nat) (he2 : e2 < n / 2) (hp : 0 < rdI (vecC n z) (e2 : Int)) : rdI (vecC n z) (e2 : Int) ∉ (vecC n z).take e2 := by
  subst hz
  intro hm
  obtain ⟨e1, q1, q2⟩ := List.mem_iff_getElem.1 hm
  have q3 : e1 < e2 := by rw [List.length_take, vecC_len] at q1; omega
  refine made_deep h h' hg hgn hk hk2 hc q3 he2 hp ?_
  rw [← q2, List.getElem_take, rdI_nat, List.getD_eq_getElem?_getD, List.getElem?_eq_getElem (by rw [vecC_len]; omega)]
  rfl
end
theorem tonesL_bit {c x : Nat} (h : bitI (c : Int) x = 1) : ∀ k, x < k → (x : Int) ∈ tonesL c k
  | 0, hk => absurd hk (by omega)
  | k + 1, hk => by
    unfold tonesL
    rcases Nat.lt_or_ge x k with h2 | h2
    · have := tonesL_bit h k h2
      split
      · exact List.mem_append_left _ this
      · exact this
    · obtain rfl : x = k := by omega
      rw [if_pos h]; simp
theorem tonesL_bs (c : Nat) : ∀ k, ((tonesL c k).length : Int) = Sm (fun x => bitI (c : Int) x) k
  | 0 => rfl
  | k + 1 => by
    have ih := tonesL_bs c k
    show _ = Sm (fun x => bitI (c : Int) x) k + bitI (c : Int) k
    unfold tonesL
    split
    · rename_i h; rw [h, ← ih]; simp
    · rename_i h; rw [show bitI (c : Int) k = 0 by have := bit01 c k; omega, ← ih]; omega
theorem tonesL_size (c k : Nat) : (tonesL c k).length = bs k c := by
  have h1 := tonesL_bs c k
  rw [bs_Sm] at h1; exact_mod_cast h1
end Go.Proofs.Ytnhflahgbkmloaa
