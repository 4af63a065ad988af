/- The search for chords that make up one: plain Lean. -/
import Derived.Test.YtncenmgkdodioaaWhOth
namespace Go.Wh
open Go.Sx Go.Dft
set_option linter.unusedVariables false
set_option linter.unusedSimpArgs false
/-- a without the tones of b. -/
def wo (a b : Nat) : Nat := a - (a &&& b)
theorem wo_half (a b : Nat) : wo a b / 2 = wo (a / 2) (b / 2) ∧ (wo a b % 2 = 1 ↔ a % 2 = 1 ∧ b % 2 = 0) := by
  have h1 : (a &&& b) / 2 = a / 2 &&& b / 2 := Nat.and_div_two ..
  have h2 := @Nat.and_mod_two_eq_one a b
  have h3 : a &&& b ≤ a := Nat.and_le_left
  unfold wo
  rw [← h1]
  omega
theorem wo_bit : ∀ (i a b : Nat), (wo a b).testBit i = (a.testBit i && !b.testBit i)
  | 0, a, b => by
    have h := (wo_half a b).2
    rw [Nat.testBit_zero, Nat.testBit_zero, Nat.testBit_zero]
    rcases Nat.mod_two_eq_zero_or_one a with h1 | h1 <;> rcases Nat.mod_two_eq_zero_or_one b with h2 | h2 <;> rcases Nat.mod_two_eq_zero_or_one (wo a b) with h3 | h3 <;> simp [h1, h2, h3] <;> omega
  | i + 1, a, b => by rw [Nat.testBit_succ, Nat.testBit_succ, Nat.testBit_succ, (wo_half a b).1, wo_bit i]
theorem wo_zero {c left : Nat} : wo c left = 0 ↔ ∀ i, c.testBit i = true → left.testBit i = true := by
  constructor
  · intro h i hi
    have := wo_bit i c left
    rw [h, hi] at this
    simp at this; exact this
  · intro h
    apply Nat.eq_of_testBit_eq
    intro i
    rw [wo_bit, Nat.zero_testBit]
    cases hc : c.testBit i with
    | false => rfl
    | true => rw [h i hc]; rfl
/-- The first chords of those from i on (k of them) that make up what is left. -/
def sch (ls : List Int) : Nat → Nat → Nat → Option (List Int)
  | 0, _, left => if left = 0 then some [] else none
  | k + 1, i, left => if left = 0 then some [] else
      if wo (rdI ls (i : Int)).toNat left = 0 then
        match sch ls k (i + 1) (wo left (rdI ls (i : Int)).toNat) with
        | some r => some ((i : Int) :: r)
        | none => sch ls k (i + 1) left
      else sch ls k (i + 1) left
theorem sch_left (ls : List Int) : ∀ k i, sch ls k i 0 = some []
  | 0, _ => rfl
  | _ + 1, _ => rfl
theorem sch_fit {ls : List Int} {k i left : Nat} (h0 : left ≠ 0) (hf : wo (rdI ls (i : Int)).toNat left = 0) {r} (h : sch ls k (i + 1) (wo left (rdI ls (i : Int)).toNat) = some r) : sch ls (k + 1) i left = some ((i : Int) :: r) := by
  simp only [sch, if_neg h0, if_pos hf, h]
theorem sch_fitno {ls : List Int} {k i left : Nat} (h0 : left ≠ 0) (hf : wo (rdI ls (i : Int)).toNat left = 0) (h : sch ls k (i + 1) (wo left (rdI ls (i : Int)).toNat) = none) : sch ls (k + 1) i left = sch ls k (i + 1) left := by
  simp only [sch, if_neg h0, if_pos hf, h]
theorem sch_skip {ls : List Int} {k i left : Nat} (h0 : left ≠ 0) (hf : wo (rdI ls (i : Int)).toNat left ≠ 0) : sch ls (k + 1) i left = sch ls k (i + 1) left := by
  simp only [sch, if_neg h0, if_neg hf]
/-- What is found lies in the list's rest, rising, and makes up what is left. -/
def total (ls : List Int) (x : Nat) : List Int → Int
  | [] => 0
  | j :: r => bitI ((rdI ls j).toNat : Int) x + total ls x r
theorem sch_ok (ls : List Int) : ∀ (k i left : Nat) (r : List Int), sch ls k i left = some r → (∀ j ∈ r, (i : Int) ≤ j ∧ j < (i + k : Nat)) ∧ r.Pairwise (· < ·) ∧ ∀ x, total ls x r = bitI (left : Int) x
  | 0, i, left, r, h => by
    simp only [sch] at h
    split at h
    · rename_i h0; cases h; subst h0
      exact ⟨by simp, List.Pairwise.nil, fun x => by rw [bitI_nat]; simp [total]⟩
    · cases h
  | k + 1, i, left, r, h => by
    by_cases h0 : left = 0
    · subst h0; rw [sch_left] at h; cases h
      exact ⟨by simp, List.Pairwise.nil, fun x => by rw [bitI_nat]; simp [total]⟩
    · by_cases hf : wo (rdI ls (i : Int)).toNat left = 0
      · cases hs : sch ls k (i + 1) (wo left (rdI ls (i : Int)).toNat) with
        | some r' =>
          rw [sch_fit h0 hf hs] at h; cases h
          obtain ⟨h1, h2, h3⟩ := sch_ok ls k (i + 1) _ r' hs
          refine ⟨fun j hj => ?_, List.pairwise_cons.2 ⟨fun j hj => by have := h1 j hj; omega, h2⟩, fun x => ?_⟩
          · rcases List.mem_cons.1 hj with h4 | h4
            · omega
            · have := h1 j h4; omega
          · simp only [total]
            rw [h3 x, bitI_nat, bitI_nat, bitI_nat, wo_bit]
            have := wo_zero.1 hf x
            cases hb : (rdI ls (i : Int)).toNat.testBit x with
            | false => simp
            | true => rw [this hb]; rfl
        | none =>
          rw [sch_fitno h0 hf hs] at h
          obtain ⟨h1, h2, h3⟩ := sch_ok ls k (i + 1) left r h
          exact ⟨fun j hj => by have := h1 j hj; omega, h2, h3⟩
      · rw [sch_skip h0 hf] at h
        obtain ⟨h1, h2, h3⟩ := sch_ok ls k (i + 1) left r h
        exact ⟨fun j hj => by have := h1 j hj; omega, h2, h3⟩
theorem wo_self (a : Nat) : wo a a = 0 := by unfold wo; rw [Nat.and_self]; omega
/-- The chord itself in the list: something is found, and begins no later. -/
theorem sch_first (ls : List Int) : ∀ (k i left j : Nat), left ≠ 0 → i ≤ j → j < i + k → (rdI ls (j : Int)).toNat = left → ∃ a r, sch ls k i left = some (a :: r) ∧ a ≤ (j : Int)
  | 0, i, left, j, h0, h1, h2, h3 => by omega
  | k + 1, i, left, j, h0, h1, h2, h3 => by
    by_cases hij : i = j
    · subst hij
      refine ⟨(i : Int), [], sch_fit h0 (by rw [h3]; exact wo_self left) (by rw [h3, wo_self]; exact sch_left ls k (i + 1)), Int.le_refl _⟩
    · have ih := sch_first ls k (i + 1) left j h0 (by omega) (by omega) h3
      obtain ⟨a, r, h4, h5⟩ := ih
      by_cases hf : wo (rdI ls (i : Int)).toNat left = 0
      · cases hs : sch ls k (i + 1) (wo left (rdI ls (i : Int)).toNat) with
        | some r' => exact ⟨(i : Int), r', sch_fit h0 hf hs, by omega⟩
        | none => exact ⟨a, r, by rw [sch_fitno h0 hf hs, h4], h5⟩
      · exact ⟨a, r, by rw [sch_skip h0 hf, h4], h5⟩
/-- The reference's way: what is there, and what a chord may add. -/
theorem ref_fit {c target there : Nat} : (c &&& there = 0 ∧ wo c target = 0) ↔ wo c (wo target there) = 0 := by
  rw [wo_zero, wo_zero]
  constructor
  · rintro ⟨h1, h2⟩ i hi
    rw [wo_bit, h2 i hi]
    have := congrArg (·.testBit i) h1
    simp only [Nat.testBit_and, hi, Bool.true_and, Nat.zero_testBit] at this
    rw [this]; rfl
  · intro h
    refine ⟨Nat.eq_of_testBit_eq fun i => ?_, fun i hi => ?_⟩
    · rw [Nat.testBit_and, Nat.zero_testBit]
      cases hc : c.testBit i with
      | false => rfl
      | true =>
        have := h i hc
        rw [wo_bit] at this
        cases ht : there.testBit i with
        | false => rfl
        | true => rw [ht] at this; simp at this
    · have := h i hi
      rw [wo_bit] at this
      cases ht : target.testBit i with
      | true => rfl
      | false => rw [ht] at this; simp at this
theorem ref_left {c target there : Nat} : wo target (there ||| c) = wo (wo target there) c := by
  apply Nat.eq_of_testBit_eq
  intro i
  rw [wo_bit, wo_bit, wo_bit, Nat.testBit_or]
  cases target.testBit i <;> cases there.testBit i <;> cases c.testBit i <;> rfl
theorem ref_done {target there : Nat} (h : wo there target = 0) : there = target ↔ wo target there = 0 := by
  constructor
  · rintro rfl; exact wo_self _
  · intro h2
    apply Nat.eq_of_testBit_eq
    intro i
    have h3 := wo_zero.1 h i
    have h4 := wo_zero.1 h2 i
    cases h5 : there.testBit i <;> cases h6 : target.testBit i <;> simp_all
theorem ref_sub {c target there : Nat} (h : wo there target = 0) (hc : wo c target = 0) : wo (there ||| c) target = 0 := by
  rw [wo_zero] at *
  intro i hi
  rw [Nat.testBit_or, Bool.or_eq_true] at hi
  rcases hi with h1 | h1
  · exact h i h1
  · exact hc i h1
theorem sch_way {ls : List Int} {k i left : Nat} {r : List Int} (h0 : left ≠ 0) (hf : wo (rdI ls (i : Int)).toNat left = 0) (h : sch ls (k + 1) i left = some r) :
    (wo left (rdI ls (i : Int)).toNat = 0 ∧ r = [(i : Int)]) ∨ (∃ r', wo left (rdI ls (i : Int)).toNat ≠ 0 ∧ sch ls k (i + 1) (wo left (rdI ls (i : Int)).toNat) = some r' ∧ r = (i : Int) :: r') ∨ (sch ls k (i + 1) (wo left (rdI ls (i : Int)).toNat) = none ∧ sch ls k (i + 1) left = some r) := by
  by_cases hz : wo left (rdI ls (i : Int)).toNat = 0
  · left
    rw [sch_fit h0 hf (r := []) (by rw [hz]; exact sch_left ls k (i + 1))] at h
    cases h; exact ⟨hz, rfl⟩
  · right
    cases hs : sch ls k (i + 1) (wo left (rdI ls (i : Int)).toNat) with
    | some r' => rw [sch_fit h0 hf hs] at h; cases h; exact .inl ⟨r', hz, rfl, rfl⟩
    | none => rw [sch_fitno h0 hf hs] at h; exact .inr ⟨rfl, h⟩
theorem wo_le {a b : Nat} (h : wo a b = 0) : a ≤ b := by
  have h1 : a &&& b ≤ b := Nat.and_le_right
  unfold wo at h; omega
end Go.Wh
