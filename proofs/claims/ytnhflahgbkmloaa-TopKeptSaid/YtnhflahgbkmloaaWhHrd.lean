/- What is heard of a chord: the power tells the differences. Plain Lean. -/
import Derived.Test.YtnhflahgbkmloaaWhN
namespace Go.Proofs.Ytnhflahgbkmloaa
open Go.RowKit Go.Sx Go.Dft Go.Wh
set_option linter.unusedVariables false
set_option linter.unusedSimpArgs false

theorem mod_lt2 {a n : Nat} (h : a < 2 * n) : a % n = if a < n then a else a - n := by
  split
  · exact Nat.mod_eq_of_lt ‹_›
  · rw [Nat.mod_eq_sub_mod (by omega), Nat.mod_eq_of_lt (by omega)]
/-- How often each difference occurs. -/
def Rm (n : Nat) (c : Int) (x : Nat) : Int := conv n (fn (chL n c)) (fun x => fn (chL n c) ((n - x) % n)) x
theorem Rm_at {n x : Nat} (c : Int) (hx : x < n) : Rm n c x = Sm (fun y => fn (chL n c) y * fn (chL n c) ((y + (n - x)) % n)) n := Sm_congr fun y hy => by
  show _ * fn (chL n c) ((n - (x + (n - y)) % n) % n) = _
  congr 2
  rw [mod_lt2 (a := x + (n - y)) (by omega), mod_lt2 (a := y + (n - x)) (by omega)]
  split
  · rw [Nat.mod_eq_of_lt (by omega), if_neg (by omega)]; omega
  · rw [mod_lt2 (by omega)]; split <;> split <;> omega
theorem bit_fn {n x : Nat} (c : Int) : fn (chL n c) x = 0 ∨ fn (chL n c) x = 1 := by
  rcases Nat.lt_or_ge x n with h | h
  · rw [fn_ch c h]; exact bit_or c x
  · left
    show rdI _ _ = 0
    rw [rdI_nat, List.getD_eq_getElem?_getD, List.getElem?_eq_none (by rw [chL_len]; omega)]; rfl
theorem Rm_range {n x : Nat} (c : Int) (hx : x < n) : 0 ≤ Rm n c x ∧ Rm n c x ≤ n := by
  rw [Rm_at c hx]
  have := Sm_range (f := fun y => fn (chL n c) y * fn (chL n c) ((y + (n - x)) % n)) (c := 1) (n := n) fun y hy => by
    rcases bit_fn (n := n) (x := y) c with h | h <;> rcases bit_fn (n := n) (x := (y + (n - x)) % n) c with h' | h' <;> simp only [h, h'] <;> decide
  omega
theorem Fo_Rm {n : Nat} (h : 2 ≤ n) (h' : n ≤ 16) (c : Int) {k : Nat} (hk : k < n) : Fo n (Wn n) (Rm n c) k % qOf n = fn (powL (qOf n) (wOf n) n (chL n c)) k := by
  rw [pow_at _ hk]
  have := product (root h h') (fn (chL n c)) (fun x => fn (chL n c) ((n - x) % n)) k
  rw [turned (root h h') _ hk] at this
  exact this
theorem n_can {n : Nat} (h : 2 ≤ n) (h' : n ≤ 16) {x y : Int} (e : (n : Int) * x % qOf n = (n : Int) * y % qOf n) (hx : 0 ≤ x ∧ x ≤ n) (hy : 0 ≤ y ∧ y ≤ n) : x = y := by
  have hq := q_facts h h'
  have hi := (inv_mul h h' (show (0 : Int) < n by omega) (by omega)).trans (Int.emod_eq_of_lt (show (0 : Int) ≤ 1 by decide) (show (1 : Int) < qOf n by omega)).symm
  have h1 : ∀ z : Int, 0 ≤ z ∧ z ≤ n → (n : Int) * z * pw (qOf n) (n : Int) (qOf n - 2).toNat % qOf n = z := fun z hz => by
    rw [Int.mul_comm (n : Int), Int.mul_assoc, cg_mul (a := z) (b := z) rfl hi, Int.mul_one]
    exact Int.emod_eq_of_lt hz.1 (by omega)
  rw [← h1 x hx, ← h1 y hy, cg_mul e rfl]
theorem Rm_pow {n : Nat} (h : 2 ≤ n) (h' : n ≤ 16) (a b : Int) : powL (qOf n) (wOf n) n (chL n a) = powL (qOf n) (wOf n) n (chL n b) ↔ ∀ d, d < n → Rm n a d = Rm n b d := by
  have hq := q_facts h h'
  constructor
  · intro he d hd
    have h1 := invert (root h h') (Rm n a) hd
    have h2 := invert (root h h') (Rm n b) hd
    have h3 : Sm (fun k => Fo n (Wn n) (Rm n a) k * Wn n (k * (n - d))) n % qOf n = Sm (fun k => Fo n (Wn n) (Rm n b) k * Wn n (k * (n - d))) n % qOf n := Sm_cg fun k hk => cg_mul (by rw [Fo_Rm h h' a hk, Fo_Rm h h' b hk, he]) rfl
    rw [h1, h2] at h3
    exact n_can h h' h3 (Rm_range a hd) (Rm_range b hd)
  · intro he
    refine rdI_ext (by rw [powL_len, powL_len]) fun k hk => ?_
    rw [powL_len] at hk
    show fn _ k = fn _ k
    rw [← Fo_Rm h h' a hk, ← Fo_Rm h h' b hk, Fo_congr he]
/-- A function that is even but at 0. -/
theorem even_sum {n : Nat} (h : 2 ≤ n) (h' : n ≤ 16) {f : Nat → Int} {r : Int} (hf : ∀ x, x < n → x ≠ 0 → f x % qOf n = r % qOf n) {m : Nat} (hm : m % n ≠ 0) : Sm (fun x => f x * Wn n (x * m)) n % qOf n = (f 0 - r) % qOf n := by
  have R := root h h'
  have h1 : Sm (fun x => f x * Wn n (x * m)) n % qOf n = Sm (fun x => (if x = 0 then (fun _ => f 0 - r) x else 0) + r * Wn n (x * m)) n % qOf n := Sm_cg fun x hx => by
    by_cases c : x = 0
    · subst c
      rw [if_pos rfl, Nat.zero_mul, R.one, Int.mul_one, Int.mul_one]
      show f 0 % _ = ((f 0 - r) + r) % _
      rw [Int.sub_add_cancel]
    · rw [if_neg c, Int.zero_add]; exact cg_mul (hf x hx c) rfl
  rw [h1, Sm_add, Sm_single _ (show 0 < n by omega), Sm_mul, cg_add (c := r * Sm (fun k => Wn n (k * m)) n) (d := r * 0) rfl (cg_mul rfl ((R.orth m).trans (by rw [if_neg hm]))), Int.mul_zero, Int.add_zero]
theorem Sm_split (f : Nat → Int) (a : Nat) : ∀ b : Nat, Sm f (a + b) = Sm f a + Sm (fun k => f (a + k)) b
  | 0 => by simp [Sm]
  | b + 1 => by
    have ih := Sm_split f a b
    rw [← Nat.add_assoc]; simp only [Sm]; rw [ih]; omega
theorem Sm_none {f : Nat → Int} {n : Nat} (h : ∀ k, k < n → f k = 0) : Sm f n = 0 := (Sm_congr h).trans (Sm_zero n)
theorem Sm_shift (g : Nat → Int) (d e : Nat) : Sm (fun y => if y < d then g (y + e) else 0) (d + e) = Sm (fun z => if e ≤ z then g z else 0) (e + d) := by
  rw [Sm_split, Sm_split, Sm_none (n := e) fun k _ => if_neg (by omega), Sm_none (n := e) fun k hk => if_neg (by omega)]
  have : Sm (fun y => if y < d then g (y + e) else 0) d = Sm (fun k => if e ≤ e + k then g (e + k) else 0) d := Sm_congr fun k hk => by rw [if_pos hk, if_pos (by omega), Nat.add_comm]
  omega
def SS (n : Nat) (c : Int) (e : Nat) : Int := Sm (fun y => if e ≤ y then fn (chL n c) y * fn (chL n c) (y - e) else 0) n
theorem Rm_SS {n d : Nat} (c : Int) (hd1 : 1 ≤ d) (hd : d < n) : Rm n c d = SS n c d + SS n c (n - d) := by
  have h1 : SS n c (n - d) = Sm (fun y => if y < d then (fun z => fn (chL n c) z * fn (chL n c) (z - (n - d))) (y + (n - d)) else 0) n := by
    have := Sm_shift (fun z => fn (chL n c) z * fn (chL n c) (z - (n - d))) d (n - d)
    rw [show d + (n - d) = n by omega, show n - d + d = n by omega] at this
    exact this.symm
  rw [Rm_at c hd, h1, SS, ← Sm_add]
  refine Sm_congr fun y hy => ?_
  rw [mod_lt2 (by omega)]
  by_cases h : y < d
  · rw [if_pos (by omega), if_neg (by omega), if_pos h, Int.zero_add]
    show _ = fn (chL n c) (y + (n - d)) * fn (chL n c) (y + (n - d) - (n - d))
    rw [Nat.add_sub_cancel, Int.mul_comm]
  · rw [if_neg (by omega), if_pos (by omega), if_neg h, Int.add_zero, show y + (n - d) - n = y - d by omega]
theorem Rm_sym {n d : Nat} (c : Int) (hd1 : 1 ≤ d) (hd : d < n) : Rm n c (n - d) = Rm n c d := by
  rw [Rm_SS c hd1 hd, Rm_SS c (by omega) (by omega), show n - (n - d) = d by omega, Int.add_comm]
theorem Rm_zero {n : Nat} (h : 2 ≤ n) (m : Nat) : Rm n (m : Int) 0 = bs n m := by
  rw [Rm_at _ (by omega), ← bs_Sm]
  refine Sm_congr fun y hy => ?_
  rw [Nat.sub_zero, Nat.add_mod_right, Nat.mod_eq_of_lt hy, fn_ch _ hy]
  rcases bit_or (m : Int) y with h | h <;> rw [h] <;> rfl
theorem vec_inner (g : Nat → Int) {d : Nat} (hd : 1 ≤ d) (x : Nat) : Sm (fun y => if y + d = x then g y else 0) x = if d ≤ x then g (x - d) else 0 := by
  by_cases h : d ≤ x
  · rw [if_pos h, ← Sm_single g (show x - d < x by omega)]
    exact Sm_congr fun y hy => by by_cases c : y + d = x; rw [if_pos c, if_pos (by omega)]; rw [if_neg c, if_neg (by omega)]
  · rw [if_neg h]; exact Sm_none fun y hy => if_neg (by omega)
theorem vec_at {n e : Nat} (c : Int) (he : e < n / 2) : rdI (vecL n c) (e : Int) = SS n c (e + 1) + if 2 * (e + 1) = n then 0 else SS n c (n - (e + 1)) := by
  unfold vecL
  rw [rdI_map he]
  have inner : ∀ x, x < n → Sm (fun y => gV n c x y e) x = (if e + 1 ≤ x then fn (chL n c) x * fn (chL n c) (x - (e + 1)) else 0) + (if 2 * (e + 1) = n then 0 else if n - (e + 1) ≤ x then fn (chL n c) x * fn (chL n c) (x - (n - (e + 1))) else 0) := fun x hx => by
    have h1 : Sm (fun y => gV n c x y e) x = Sm (fun y => (if y + (e + 1) = x then fn (chL n c) x * fn (chL n c) y else 0) + (if 2 * (e + 1) = n then 0 else if y + (n - (e + 1)) = x then fn (chL n c) x * fn (chL n c) y else 0)) x := Sm_congr fun y hy => by
      rw [fn_ch c hx, fn_ch c (show y < n by omega)]
      unfold gV dI
      by_cases c1 : y + (e + 1) = x
      · rw [if_pos c1]
        by_cases c2 : 2 * (e + 1) = n
        · rw [if_pos c2, if_pos (by split <;> omega), Int.add_zero]
        · rw [if_neg c2, if_neg (show ¬ y + (n - (e + 1)) = x by omega), if_pos (by split <;> omega), Int.add_zero]
      · rw [if_neg c1]
        by_cases c2 : 2 * (e + 1) = n
        · rw [if_pos c2, if_neg (by split <;> omega)]; rfl
        · rw [if_neg c2]
          by_cases c3 : y + (n - (e + 1)) = x
          · rw [if_pos c3, if_pos (by split <;> omega), Int.zero_add]
          · rw [if_neg c3, if_neg (by split <;> omega)]; rfl
    rw [h1, Sm_add, vec_inner (fun y => fn (chL n c) x * fn (chL n c) y) (by omega) x]
    by_cases c2 : 2 * (e + 1) = n
    · simp only [if_pos c2]; rw [Sm_zero]
    · simp only [if_neg c2]; rw [vec_inner (fun y => fn (chL n c) x * fn (chL n c) y) (by omega) x]
  show Sm (fun x => Sm (fun y => gV n c x y e) x) n = _
  rw [Sm_congr inner, Sm_add]
  by_cases c2 : 2 * (e + 1) = n
  · simp only [if_pos c2]; rw [Sm_zero]; rfl
  · simp only [if_neg c2]; rfl
theorem vec_Rm {n e : Nat} (c : Int) (he : e < n / 2) : (2 * (e + 1) = n → 2 * rdI (vecL n c) (e : Int) = Rm n c (e + 1)) ∧ (2 * (e + 1) ≠ n → rdI (vecL n c) (e : Int) = Rm n c (e + 1)) := by
  rw [vec_at c he, Rm_SS c (by omega) (by omega)]
  refine ⟨fun h => ?_, fun h => by rw [if_neg h]⟩
  rw [if_pos h, show n - (e + 1) = e + 1 by omega]; omega
theorem vecL_len {n : Nat} {c : Int} : (vecL n c).length = n / 2 := by simp [vecL]
theorem heard {n : Nat} (h : 2 ≤ n) (h' : n ≤ 16) (a b : Nat) : powL (qOf n) (wOf n) n (chL n (a : Int)) = powL (qOf n) (wOf n) n (chL n (b : Int)) ↔ bs n a = bs n b ∧ vecL n a = vecL n b := by
  rw [Rm_pow h h']
  constructor
  · intro he
    refine ⟨by have := he 0 (by omega); rw [Rm_zero h, Rm_zero h] at this; omega, rdI_ext (by rw [vecL_len, vecL_len]) fun e hel => ?_⟩
    rw [vecL_len] at hel
    have h1 := vec_Rm (a : Int) hel
    have h2 := vec_Rm (b : Int) hel
    have h3 := he (e + 1) (by omega)
    by_cases c : 2 * (e + 1) = n
    · have := h1.1 c; have := h2.1 c; omega
    · have := h1.2 c; have := h2.2 c; omega
  · rintro ⟨h0, hv⟩ d hd
    have small : ∀ d, 1 ≤ d → d ≤ n / 2 → Rm n a d = Rm n b d := fun d h1 h2 => by
      obtain ⟨e, rfl⟩ : ∃ e, d = e + 1 := ⟨d - 1, by omega⟩
      have h3 := vec_Rm (a : Int) (show e < n / 2 by omega)
      have h4 := vec_Rm (b : Int) (show e < n / 2 by omega)
      rw [hv] at h3
      by_cases c : 2 * (e + 1) = n
      · have := h3.1 c; have := h4.1 c; omega
      · have := h3.2 c; have := h4.2 c; omega
    rcases Nat.eq_zero_or_pos d with h1 | h1
    · subst h1; rw [Rm_zero h, Rm_zero h, h0]
    · rcases Nat.lt_or_ge (n / 2) d with h2 | h2
      · have := small (n - d) (by omega) (by omega)
        rwa [Rm_sym _ h1 hd, Rm_sym _ h1 hd] at this
      · exact small d h1 h2
/-- The law's own count. -/
def gT (n : Nat) (c : Int) (e x y : Nat) : Int := if x ≠ y ∧ ((x : Int) - (y : Int) + (n : Int)) % (n : Int) = (e : Int) then bitI c x * bitI c y else 0
theorem times_at {n e : Nat} (c : Int) (he1 : 1 ≤ e) (he : e < n) : Sm (fun x => Sm (fun y => gT n c e x y) n) n = Rm n c e := by
  rw [Rm_at c he]
  refine Sm_congr fun x hx => ?_
  have hp : (x + (n - e)) % n < n := Nat.mod_lt _ (by omega)
  rw [← Sm_single (fun y => fn (chL n c) x * fn (chL n c) y) hp]
  refine Sm_congr fun y hy => ?_
  rw [fn_ch c hx, fn_ch c hy]
  unfold gT
  have e1 : ((x : Int) - (y : Int) + (n : Int)) % (n : Int) = (((x + (n - y)) % n : Nat) : Int) := by rw [Int.natCast_emod]; congr 1; omega
  rw [e1, mod_lt2 (a := x + (n - y)) (by omega), mod_lt2 (a := x + (n - e)) (by omega)]
  by_cases c1 : y = if x + (n - e) < n then x + (n - e) else x + (n - e) - n
  · rw [if_pos c1, if_pos]; constructor <;> (revert c1; split <;> intro c1 <;> (try split) <;> omega)
  · rw [if_neg c1, if_neg]; rintro ⟨h1, h2⟩; apply c1; revert h2; split <;> split <;> intro h2 <;> omega
end Go.Proofs.Ytnhflahgbkmloaa
