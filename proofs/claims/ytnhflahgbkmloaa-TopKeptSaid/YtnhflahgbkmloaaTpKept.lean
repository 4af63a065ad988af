/- What a leading costs at the least. Plain Lean. -/
import Derived.Test.YtnhflahgbkmloaaTpSum
import Derived.Test.YtnhflahgbkmloaaTpProd
namespace Go.Proofs.Ytnhflahgbkmloaa
open Go.RowKit Go.Sx Go.Dft Go.Wh
set_option linter.unusedVariables false
set_option linter.unusedSimpArgs false
def mdP (n d : Int) : Int := if d < 0 then d + n else d
def mvP (n p q : Int) : Int := if 2 * mdP n (q - p) > n then mdP n (q - p) - n else mdP n (q - p)
def dsP (n p q : Int) : Int := if 0 - mvP n p q > mvP n p q then 0 - mvP n p q else mvP n p q
theorem ds_range {n p q : Int} (hn : 2 ≤ n) (hp : 0 ≤ p ∧ p < n) (hq : 0 ≤ q ∧ q < n) : 0 ≤ dsP n p q ∧ dsP n p q ≤ n ∧ (p ≠ q → 1 ≤ dsP n p q) := by
  unfold dsP mvP mdP; (repeat' split) <;> omega
def prP (n : Int) (a x l : List Int) : Nat → Int
  | 0 => 0
  | k + 1 => prP n a x l k + dsP n (rdI a (k : Int)) (rdI x (rdI l (k : Int)))
def GoodC (n : Int) (a x : List Int) (c : Int) : Prop := ∃ l : List Int, l.length = a.length ∧ (∀ y ∈ l, 0 ≤ y ∧ y < a.length) ∧ c = prP n a x l a.length
def offN (x : List Int) : List Int → Int
  | [] => 0
  | t :: ts => (if t ∈ x then 0 else 1) + offN x ts
theorem offN_snoc (x : List Int) (t : Int) : ∀ ts : List Int, offN x (ts ++ [t]) = offN x ts + if t ∈ x then 0 else 1
  | [] => by simp [offN]
  | u :: ts => by
    have ih := offN_snoc x t ts
    simp only [List.cons_append, offN]
    omega
theorem rdI_take2 {xs : List Int} {k : Nat} (h : k < xs.length) : xs.take (k + 1) = xs.take k ++ [rdI xs (k : Int)] := by
  rw [List.take_succ_eq_append_getElem h, rdI_nat, List.getD_eq_getElem?_getD, List.getElem?_eq_getElem h]; rfl
theorem rdI_mem2 {xs : List Int} {i : Int} (h0 : 0 ≤ i) (h1 : i < xs.length) : rdI xs i ∈ xs := rdI_mem h0 h1
section
variable {n : Int} {a x l : List Int} (hn : 2 ≤ n) (ha : ∀ y ∈ a, 0 ≤ y ∧ y < n) (hx : ∀ y ∈ x, 0 ≤ y ∧ y < n) (hxl : x.length = a.length) (hl : l.length = a.length) (hle : ∀ y ∈ l, 0 ≤ y ∧ y < a.length)
include hn ha hx hxl hl hle
theorem ds_at {k : Nat} (hk : k < a.length) : 0 ≤ dsP n (rdI a (k : Int)) (rdI x (rdI l (k : Int))) ∧ dsP n (rdI a (k : Int)) (rdI x (rdI l (k : Int))) ≤ n ∧ (rdI a (k : Int) ∉ x → 1 ≤ dsP n (rdI a (k : Int)) (rdI x (rdI l (k : Int)))) := by
  have h1 := hle _ (rdI_mem2 (xs := l) (i := (k : Int)) (by omega) (by omega))
  have h2 : rdI x (rdI l (k : Int)) ∈ x := rdI_mem2 h1.1 (by omega)
  have h3 := ds_range hn (ha _ (rdI_mem2 (xs := a) (i := (k : Int)) (by omega) (by omega))) (hx _ h2)
  exact ⟨h3.1, h3.2.1, fun h => h3.2.2 fun e => h (e ▸ h2)⟩
theorem pr_range : ∀ k, k ≤ a.length → 0 ≤ prP n a x l k ∧ prP n a x l k ≤ n * k
  | 0, _ => by simp [prP]
  | k + 1, hk => by
    have ih := pr_range k (by omega)
    have h := ds_at hn ha hx hxl hl hle (k := k) (by omega)
    have e : n * ((k + 1 : Nat) : Int) = n * (k : Int) + n := by rw [show ((k + 1 : Nat) : Int) = (k : Int) + 1 by omega, Int.mul_add, Int.mul_one]
    rw [e]; simp only [prP]; omega
theorem pr_ge : ∀ k, k ≤ a.length → offN x (a.take k) ≤ prP n a x l k
  | 0, _ => by simp [prP, offN]
  | k + 1, hk => by
    have ih := pr_ge k (by omega)
    have h := ds_at hn ha hx hxl hl hle (k := k) (by omega)
    rw [rdI_take2 (by omega), offN_snoc]
    simp only [prP]
    by_cases c : rdI a (k : Int) ∈ x
    · rw [if_pos c]; omega
    · rw [if_neg c]; have := h.2.2 c; omega
end
theorem good_ge {n : Int} {a x : List Int} {c : Int} (hn : 2 ≤ n) (ha : ∀ y ∈ a, 0 ≤ y ∧ y < n) (hx : ∀ y ∈ x, 0 ≤ y ∧ y < n) (hxl : x.length = a.length) (h : GoodC n a x c) : offN x a ≤ c := by
  obtain ⟨l, h1, h2, h3⟩ := h
  have h4 := pr_ge hn ha hx hxl h1 h2 a.length (Nat.le_refl _)
  rw [List.take_length] at h4
  omega
theorem tonesL_in {c x : Nat} : ∀ k, (x : Int) ∈ tonesL c k → x < k ∧ bitI (c : Int) x = 1
  | 0, h => by simp [tonesL] at h
  | k + 1, h => by
    unfold tonesL at h
    split at h
    · rename_i hb
      rcases List.mem_append.1 h with h | h
      · have := tonesL_in k h; exact ⟨by omega, this.2⟩
      · rw [List.mem_singleton] at h
        obtain rfl : x = k := by omega
        exact ⟨by omega, hb⟩
    · have := tonesL_in k h; exact ⟨by omega, this.2⟩
theorem tonesL_has {c x : Nat} (h : bitI (c : Int) x = 1) : ∀ k, x < k → (x : Int) ∈ tonesL c k
  | 0, hk => absurd hk (by omega)
  | k + 1, hk => by
    unfold tonesL
    rcases Nat.lt_or_ge x k with h2 | h2
    · have := tonesL_has h k h2
      split
      · exact List.mem_append_left _ this
      · exact this
    · obtain rfl : x = k := by omega
      rw [if_pos h]; simp
theorem tonesL_cnt (c : Nat) : ∀ k, (tonesL c k).length = bs k c := by
  have h : ∀ k, ((tonesL c k).length : Int) = Sm (fun x => bitI (c : Int) x) k := by
    intro k
    induction k with
    | zero => rfl
    | succ k ih =>
      show _ = Sm (fun x => bitI (c : Int) x) k + bitI (c : Int) k
      unfold tonesL
      split
      · rename_i h; rw [h, ← ih]; simp
      · rename_i h; rw [show bitI (c : Int) k = 0 by have := bit01 c k; omega, ← ih]; omega
  intro k
  have h1 := h k
  rw [bs_Sm] at h1; exact_mod_cast h1
theorem off_tones (a z : Nat) {n : Nat} : ∀ k, k ≤ n → offN (tonesL z n) (tonesL a k) = Sm (fun x => bitI (a : Int) x) k - Sm (fun x => bitI ((a &&& z : Nat) : Int) x) k
  | 0, _ => rfl
  | k + 1, hk => by
    have ih := off_tones a z (n := n) k (by omega)
    show _ = Sm (fun x => bitI (a : Int) x) k + bitI (a : Int) k - (Sm (fun x => bitI ((a &&& z : Nat) : Int) x) k + bitI ((a &&& z : Nat) : Int) k)
    have e : bitI ((a &&& z : Nat) : Int) k = if bitI (a : Int) k = 1 then bitI (z : Int) k else 0 := by
      rw [bitI_nat, bitI_nat, bitI_nat, Nat.testBit_and]
      cases a.testBit k <;> simp
    rw [show tonesL a (k + 1) = if bitI (a : Int) k = 1 then tonesL a k ++ [(k : Int)] else tonesL a k from rfl]
    by_cases c : bitI (a : Int) k = 1
    · rw [if_pos c] at e
      rw [if_pos c, offN_snoc, ih, e, c]
      by_cases c2 : bitI (z : Int) k = 1
      · rw [if_pos (tonesL_has c2 n (by omega)), c2]; omega
      · rw [if_neg (fun h => c2 (tonesL_in n h).2), show bitI (z : Int) k = 0 by have := bit01 z k; omega]; omega
    · rw [if_neg c] at e
      rw [if_neg c, ih, e, show bitI (a : Int) k = 0 by have := bit01 a k; omega]; omega
/-- The law: a leading costs as much at the least as tones have to move. -/
theorem kept_law {n a z : Nat} {c : Int} (h : 2 ≤ n) (h' : n ≤ 16) (ha : a < 2 ^ n) (hz : bs n z = bs n a) (hg : GoodC (n : Int) (tonesL a n) (tonesL z n) c) : (bs 16 a : Int) - (bs 16 (a &&& z) : Int) ≤ c := by
  have h1 := good_ge (by omega) (tonesL_range a n) (tonesL_range z n) (by rw [tonesL_cnt, tonesL_cnt, hz]) hg
  rw [off_tones a z n (Nat.le_refl _), bs_Sm, bs_Sm] at h1
  rw [bs_ext ha 16 h', bs_ext (Nat.lt_of_le_of_lt Nat.and_le_left ha) 16 h']
  exact h1
theorem mod2 {a n : Nat} (h : a < 2 * n) : a % n = if a < n then a else a - n := by
  split
  · exact Nat.mod_eq_of_lt (by assumption)
  · rw [Nat.mod_eq_sub_mod (by omega), Nat.mod_eq_of_lt (by omega)]
theorem mov_size {n b k : Nat} (hb : b < 2 ^ n) (hk : k < n) : bs n (movN n b k) = bs n b := by
  have h1 : Sm (fun x => bitI ((movN n b k : Nat) : Int) x) n = Sm (fun x => bitI (b : Int) ((x + (n - k)) % n)) n := Sm_congr fun x hx => by
    rw [bitI_nat, bitI_nat, movN_bit hb hk hx]
  have h2 := Sm_reindex (n := n) (fun x => (x + (n - k)) % n) (fun p => (p + k) % n) (fun x => bitI (b : Int) x) (fun x _ => Nat.mod_lt _ (by omega)) (fun x _ => Nat.mod_lt _ (by omega)) (fun x p hx hp => by
    rw [mod2 (show x + (n - k) < 2 * n by omega), mod2 (show p + k < 2 * n by omega)]
    split <;> split <;> omega)
  rw [h2, bs_Sm, bs_Sm] at h1
  exact_mod_cast h1
/-- A place that isn't used. -/
theorem bs_bit {n u i : Nat} (hi : i < n) (h0 : bitI (u : Int) i = 0) : bs n (u ||| 2 ^ i) = bs n u + 1 := by
  have e : ∀ x, bitI ((u ||| 2 ^ i : Nat) : Int) x = bitI (u : Int) x + if x = i then 1 else 0 := by
    intro x
    rw [bitI_nat, bitI_nat, Nat.testBit_or, Nat.testBit_two_pow]
    rw [bitI_nat] at h0
    by_cases c : x = i
    · subst c
      cases hh : u.testBit x
      · simp
      · rw [hh] at h0; simp at h0
    · rw [decide_eq_false (fun h => c h.symm), if_neg c]; simp
  have h1 : Sm (fun x => bitI ((u ||| 2 ^ i : Nat) : Int) x) n = Sm (fun x => bitI (u : Int) x) n + Sm (fun x => if x = i then (fun _ : Nat => (1 : Int)) x else 0) n := by
    rw [← Sm_add]; exact Sm_congr fun x _ => e x
  rw [Sm_single (fun _ : Nat => (1 : Int)) hi, bs_Sm, bs_Sm] at h1
  exact_mod_cast h1
theorem bs_full {n u : Nat} (h : ∀ i, i < n → bitI (u : Int) i = 1) : bs n u = n := by
  have h1 : Sm (fun x => bitI (u : Int) x) n = n := by
    have h2 : ∀ k, k ≤ n → Sm (fun x => bitI (u : Int) x) k = k := by
      intro k
      induction k with
      | zero => intro _; rfl
      | succ k ih =>
        intro hk
        show Sm (fun x => bitI (u : Int) x) k + bitI (u : Int) k = _
        rw [ih (by omega), h k (by omega)]; omega
    exact h2 n (Nat.le_refl _)
  rw [bs_Sm] at h1; exact_mod_cast h1
theorem bs_zero (n : Nat) : bs n 0 = 0 := by
  induction n with
  | zero => rfl
  | succ n ih => simp [bs, ih]
theorem good_lead {c : Int} (h : GoodC 12 [0] [11] c) : c = 1 := by
  obtain ⟨l, h1, h2, h3⟩ := h
  obtain ⟨y, rfl⟩ : ∃ y, l = [y] := by
    cases l with
    | nil => simp at h1
    | cons y t => cases t with
      | nil => exact ⟨y, rfl⟩
      | cons _ _ => simp at h1
  have hy := h2 y (by simp)
  obtain rfl : y = 0 := by simp at hy; omega
  rw [h3]; decide
end Go.Proofs.Ytnhflahgbkmloaa
