/- Plain law of duets: the rules, and which of them is broken first. -/
import Derived.Test.YtnhflahgbkmloaaSxPair
namespace Go.Proofs.Ytnhflahgbkmloaa
open Go.RowKit Go.Sx
set_option linter.unusedVariables false
set_option linter.unusedSimpArgs false
/-- A part: 1 to 8 notes. -/
def notesB (xs : List Int) : Bool := decide (xs.length ≤ 8) && xs.all fun x => decide (0 ≤ x) && decide (x ≤ 20)
def partB (xs : List Int) : Bool := notesB xs && decide (1 ≤ xs.length)
theorem notesB_true {xs : List Int} : notesB xs = true ↔ xs.length ≤ 8 ∧ ∀ x ∈ xs, 0 ≤ x ∧ x ≤ 20 := by
  simp [notesB]
theorem partB_true {xs : List Int} : partB xs = true ↔ (1 ≤ xs.length ∧ xs.length ≤ 8) ∧ ∀ x ∈ xs, 0 ≤ x ∧ x ≤ 20 := by
  unfold partB; rw [Bool.and_eq_true, notesB_true, decide_eq_true_iff]
  exact ⟨fun h => ⟨⟨h.2, h.1.1⟩, h.1.2⟩, fun h => ⟨⟨h.1.2, h.2⟩, h.1.1⟩⟩
theorem notes_at {xs : List Int} (h : ∀ x ∈ xs, 0 ≤ x ∧ x ≤ 20) {i : Int} (h0 : 0 ≤ i) (h1 : i < xs.length) : 0 ≤ rdI xs i ∧ rdI xs i ≤ 20 := h _ (rdI_mem h0 h1)
theorem notes_of {xs : List Int} (h : ∀ k : Nat, k < xs.length → 0 ≤ rdI xs (k : Int) ∧ rdI xs (k : Int) ≤ 20) : ∀ x ∈ xs, 0 ≤ x ∧ x ≤ 20 := fun x hx => by
  obtain ⟨k, hk, rfl⟩ := List.mem_iff_getElem.1 hx
  have := h k hk
  rw [rdI_nat, List.getD_eq_getElem?_getD, List.getElem?_eq_getElem hk] at this
  exact this
theorem notes_not {xs : List Int} {i : Nat} (hi : i < xs.length) (h : ¬ (0 ≤ rdI xs (i : Int) ∧ rdI xs (i : Int) ≤ 20)) : notesB xs = false :=
  Bool.eq_false_iff.2 fun hc => h (notes_at (notesB_true.1 hc).2 (by omega) (by omega))
/-! ### the rules: v the interval, v' the one before it, m the move, b the one before it, q the given part's move -/
def R0 (v : Int) : Prop := 0 ≤ v ∧ v ≤ 14
def opn (v : Int) : Prop := v % 7 = 0 ∨ v % 7 = 4
def R1 (v : Int) : Prop := opn v ∨ v % 7 = 2 ∨ v % 7 = 5
def R2 (n i v : Int) : Prop := (i = n - 1 → v % 7 = 0) ∧ (i ≠ n - 1 → i = 0 → opn v)
def R3 (i m : Int) : Prop := i = 0 ∨ (-4 ≤ m ∧ m ≤ 4) ∨ m = 7 ∨ m = -7
def R4 (i v v' m : Int) : Prop := i = 0 ∨ ¬ opn v ∨ (v - v') % 7 ≠ 0 ∨ m = 0
def R5 (i v m q : Int) : Prop := i = 0 ∨ ¬ opn v ∨ ¬ ((m > 0 ∧ q > 0) ∨ (m < 0 ∧ q < 0)) ∨ m = 1 ∨ m = -1
def R6 (i b m : Int) : Prop := i < 2 ∨ (-2 ≤ b ∧ b ≤ 2) ∨ (b > 2 ∧ (m = -1 ∨ m = -2)) ∨ (b < -2 ∧ (m = 1 ∨ m = 2))
def R7 (i b m : Int) : Prop := i < 2 ∨ m ≠ 0 ∨ b ≠ 0
instance (v : Int) : Decidable (R0 v) := by unfold R0; infer_instance
instance (v : Int) : Decidable (opn v) := by unfold opn; infer_instance
instance (v : Int) : Decidable (R1 v) := by unfold R1; infer_instance
instance (n i v : Int) : Decidable (R2 n i v) := by unfold R2; infer_instance
instance (i m : Int) : Decidable (R3 i m) := by unfold R3; infer_instance
instance (i v v' m : Int) : Decidable (R4 i v v' m) := by unfold R4; infer_instance
instance (i v m q : Int) : Decidable (R5 i v m q) := by unfold R5; infer_instance
instance (i b m : Int) : Decidable (R6 i b m) := by unfold R6; infer_instance
instance (i b m : Int) : Decidable (R7 i b m) := by unfold R7; infer_instance
/-- Rule number k. -/
def RU (n i v v' m b q : Int) : Nat → Prop
  | 0 => R0 v
  | 1 => R1 v
  | 2 => R2 n i v
  | 3 => R3 i m
  | 4 => R4 i v v' m
  | 5 => R5 i v m q
  | 6 => R6 i b m
  | 7 => R7 i b m
  | _ => True
instance (n i v v' m b q : Int) : ∀ k : Nat, Decidable (RU n i v v' m b q k)
  | 0 => inferInstanceAs (Decidable (R0 v))
  | 1 => inferInstanceAs (Decidable (R1 v))
  | 2 => inferInstanceAs (Decidable (R2 n i v))
  | 3 => inferInstanceAs (Decidable (R3 i m))
  | 4 => inferInstanceAs (Decidable (R4 i v v' m))
  | 5 => inferInstanceAs (Decidable (R5 i v m q))
  | 6 => inferInstanceAs (Decidable (R6 i b m))
  | 7 => inferInstanceAs (Decidable (R7 i b m))
  | _ + 8 => inferInstanceAs (Decidable True)
/-- The least rule that is not kept. -/
def brkI (n i v v' m b q : Int) : Int :=
  if ¬ R0 v then 1 else if ¬ R1 v then 2 else if ¬ R2 n i v then 3 else if ¬ R3 i m then 4 else if ¬ R4 i v v' m then 5 else if ¬ R5 i v m q then 6 else if ¬ R6 i b m then 7 else if ¬ R7 i b m then 8 else 0
theorem brkI_range (n i v v' m b q : Int) : 0 ≤ brkI n i v v' m b q ∧ brkI n i v v' m b q ≤ 8 := by
  unfold brkI; (repeat' split) <;> omega
theorem brkI_at {n i v v' m b q : Int} {r : Nat} (hr : r < 8) (hall : ∀ k, k < r → RU n i v v' m b q k) (h : ¬ RU n i v v' m b q r) : brkI n i v v' m b q = (r : Int) + 1 := by
  unfold brkI
  rcases (show r = 0 ∨ r = 1 ∨ r = 2 ∨ r = 3 ∨ r = 4 ∨ r = 5 ∨ r = 6 ∨ r = 7 by omega) with rfl | rfl | rfl | rfl | rfl | rfl | rfl | rfl
  · rw [if_pos (show ¬ R0 v from h)]; rfl
  · rw [if_neg (not_not_intro (show R0 v from hall 0 (by decide))), if_pos (show ¬ R1 v from h)]; rfl
  · rw [if_neg (not_not_intro (show R0 v from hall 0 (by decide))), if_neg (not_not_intro (show R1 v from hall 1 (by decide))), if_pos (show ¬ R2 n i v from h)]; rfl
  · rw [if_neg (not_not_intro (show R0 v from hall 0 (by decide))), if_neg (not_not_intro (show R1 v from hall 1 (by decide))), if_neg (not_not_intro (show R2 n i v from hall 2 (by decide))), if_pos (show ¬ R3 i m from h)]; rfl
  · rw [if_neg (not_not_intro (show R0 v from hall 0 (by decide))), if_neg (not_not_intro (show R1 v from hall 1 (by decide))), if_neg (not_not_intro (show R2 n i v from hall 2 (by decide))), if_neg (not_not_intro (show R3 i m from hall 3 (by decide))), if_pos (show ¬ R4 i v v' m from h)]; rfl
  · rw [if_neg (not_not_intro (show R0 v from hall 0 (by decide))), if_neg (not_not_intro (show R1 v from hall 1 (by decide))), if_neg (not_not_intro (show R2 n i v from hall 2 (by decide))), if_neg (not_not_intro (show R3 i m from hall 3 (by decide))), if_neg (not_not_intro (show R4 i v v' m from hall 4 (by decide))), if_pos (show ¬ R5 i v m q from h)]; rfl
  · rw [if_neg (not_not_intro (show R0 v from hall 0 (by decide))), if_neg (not_not_intro (show R1 v from hall 1 (by decide))), if_neg (not_not_intro (show R2 n i v from hall 2 (by decide))), if_neg (not_not_intro (show R3 i m from hall 3 (by decide))), if_neg (not_not_intro (show R4 i v v' m from hall 4 (by decide))), if_neg (not_not_intro (show R5 i v m q from hall 5 (by decide))), if_pos (show ¬ R6 i b m from h)]; rfl
  · rw [if_neg (not_not_intro (show R0 v from hall 0 (by decide))), if_neg (not_not_intro (show R1 v from hall 1 (by decide))), if_neg (not_not_intro (show R2 n i v from hall 2 (by decide))), if_neg (not_not_intro (show R3 i m from hall 3 (by decide))), if_neg (not_not_intro (show R4 i v v' m from hall 4 (by decide))), if_neg (not_not_intro (show R5 i v m q from hall 5 (by decide))), if_neg (not_not_intro (show R6 i b m from hall 6 (by decide))), if_pos (show ¬ R7 i b m from h)]; rfl
theorem brkI_none {n i v v' m b q : Int} (hall : ∀ k, k < 8 → RU n i v v' m b q k) : brkI n i v v' m b q = 0 := by
  unfold brkI
  rw [if_neg (not_not_intro (show R0 v from hall 0 (by decide))), if_neg (not_not_intro (show R1 v from hall 1 (by decide))), if_neg (not_not_intro (show R2 n i v from hall 2 (by decide))), if_neg (not_not_intro (show R3 i m from hall 3 (by decide))), if_neg (not_not_intro (show R4 i v v' m from hall 4 (by decide))), if_neg (not_not_intro (show R5 i v m q from hall 5 (by decide))), if_neg (not_not_intro (show R6 i b m from hall 6 (by decide))), if_neg (not_not_intro (show R7 i b m from hall 7 (by decide)))]
/-- .. at an index of a second part. -/
def ivI (g s : List Int) (i : Int) : Int := rdI s i - rdI g i
def mvI (s : List Int) (i : Int) : Int := rdI s i - rdI s (i - 1)
def brk (g s : List Int) (i : Nat) : Int := brkI g.length i (ivI g s i) (ivI g s ((i : Int) - 1)) (mvI s i) (mvI s ((i : Int) - 1)) (mvI g i)
abbrev RUL (g s : List Int) (i k : Nat) : Prop := RU g.length i (ivI g s i) (ivI g s ((i : Int) - 1)) (mvI s i) (mvI s ((i : Int) - 1)) (mvI g i) k
/-! ### small arithmetic -/
theorem tmod7 {x : Int} : (Int.tmod x 7 + 7) % 7 = x % 7 := by
  have h := Int.tmod_add_mul_tdiv x 7
  omega
theorem tmod7_zero {x : Int} : Int.tmod x 7 = 0 ↔ x % 7 = 0 := by
  have h := Int.tmod_add_mul_tdiv x 7
  constructor
  · intro h1; omega
  · intro h1
    exact Int.tmod_eq_zero_of_dvd (Int.dvd_of_emod_eq_zero h1)
theorem mul_bounds {a b : Int} (ha : -20 ≤ a ∧ a ≤ 20) (hb : -20 ≤ b ∧ b ≤ 20) : -400 ≤ a * b ∧ a * b ≤ 400 := by
  have h1 : 0 ≤ (20 - a) * (20 + b) := Int.mul_nonneg (by omega) (by omega)
  have h2 : 0 ≤ (20 + a) * (20 - b) := Int.mul_nonneg (by omega) (by omega)
  have h3 : 0 ≤ (20 - a) * (20 - b) := Int.mul_nonneg (by omega) (by omega)
  have h4 : 0 ≤ (20 + a) * (20 + b) := Int.mul_nonneg (by omega) (by omega)
  simp only [Int.sub_mul, Int.add_mul, Int.mul_sub, Int.mul_add] at h1 h2 h3 h4
  omega
theorem mul_pos_iff {a b : Int} : a * b ≤ 0 ↔ ¬ ((a > 0 ∧ b > 0) ∨ (a < 0 ∧ b < 0)) := by
  constructor
  · rintro h (⟨h1, h2⟩ | ⟨h1, h2⟩)
    · have := Int.mul_pos h1 h2; omega
    · have := Int.mul_pos_of_neg_of_neg h1 h2; omega
  · intro h
    rcases Int.lt_trichotomy a 0 with h1 | h1 | h1
    · exact Int.mul_nonpos_of_nonpos_of_nonneg (by omega) (by omega)
    · rw [h1]; simp
    · exact Int.mul_nonpos_of_nonneg_of_nonpos (by omega) (by omega)
theorem mul_neg_iff' {a b : Int} : a * b < 0 ↔ (a > 0 ∧ b < 0) ∨ (a < 0 ∧ b > 0) := by
  constructor
  · intro h
    rcases Int.lt_trichotomy a 0 with h1 | h1 | h1
    · right; refine ⟨h1, Int.not_le.1 fun h2 => ?_⟩
      have := Int.mul_nonneg_of_nonpos_of_nonpos (show a ≤ 0 by omega) h2; omega
    · rw [h1] at h; simp at h
    · left; refine ⟨h1, Int.not_le.1 fun h2 => ?_⟩
      have := Int.mul_nonneg (show 0 ≤ a by omega) h2; omega
  · rintro (⟨h1, h2⟩ | ⟨h1, h2⟩)
    · exact Int.mul_neg_of_pos_of_neg h1 h2
    · exact Int.mul_neg_of_neg_of_pos h1 h2
/-! ### the first place at which a rule is broken -/
def frsR (g s : List Int) : Nat → Nat → Int × Int
  | 0, _ => (0, 0)
  | k + 1, i => if brk g s i > 0 then ((i : Int), brk g s i) else frsR g s k (i + 1)
def frs (g s : List Int) : Int × Int := frsR g s s.length 0
theorem frsR_hit {g s : List Int} {k i : Nat} (h : brk g s i > 0) : frsR g s (k + 1) i = ((i : Int), brk g s i) := if_pos h
theorem frsR_skip {g s : List Int} {k i : Nat} (h : ¬ brk g s i > 0) : frsR g s (k + 1) i = frsR g s k (i + 1) := if_neg h
theorem brk_nonneg (g s : List Int) (i : Nat) : 0 ≤ brk g s i ∧ brk g s i ≤ 8 := brkI_range ..
theorem frsR_range (g s : List Int) : ∀ k i : Nat, (frsR g s k i).2 = 0 ∧ (frsR g s k i).1 = 0 ∨ 1 ≤ (frsR g s k i).2 ∧ (frsR g s k i).2 ≤ 8 ∧ (i : Int) ≤ (frsR g s k i).1 ∧ (frsR g s k i).1 < (i : Int) + k
  | 0, i => .inl ⟨rfl, rfl⟩
  | k + 1, i => by
    unfold frsR
    split
    · right; have := brk_nonneg g s i; simp only; omega
    · rcases frsR_range g s k (i + 1) with h | h
      · exact .inl h
      · right; omega
/-- .. and what Check says. -/
def chkD (g s : List Int) : Int × Int × Int := if (frs g s).2 = 0 then (0, 0, 4) else ((frs g s).1, (frs g s).2, 0)
end Go.Proofs.Ytnhflahgbkmloaa
