/- Plain law of the notes with which a beginning goes on, and of how many right parts there are. -/
import Derived.Test.YtolalckejnijkaaDuB
namespace Go.Proofs.Ytolalckejnijkaa
open Go.RowKit Go.Sx
set_option linter.unusedVariables false
set_option linter.unusedSimpArgs false
/-- Whether a beginning goes on with a note. -/
def goes (g s : List Int) (x : Int) : Bool := decide (brk g (s ++ [x]) s.length = 0)
/-- Those of the first i notes. -/
def nxP (g s : List Int) (i : Nat) : List Int := ((List.range i).map fun k : Nat => (k : Int)).filter (goes g s)
def nxL (g s : List Int) : List Int := nxP g s 21
theorem nxP_succ (g s : List Int) (i : Nat) : nxP g s (i + 1) = nxP g s i ++ (if goes g s (i : Int) then [(i : Int)] else []) := by
  unfold nxP
  rw [List.range_succ, List.map_append, List.filter_append]
  simp only [List.map_cons, List.map_nil, List.filter_cons, List.filter_nil]
theorem nxP_yes {g s : List Int} {i : Nat} (h : brk g (s ++ [(i : Int)]) s.length = 0) : nxP g s (i + 1) = nxP g s i ++ [(i : Int)] := by
  rw [nxP_succ, if_pos (show goes g s (i : Int) = true from decide_eq_true h)]
theorem nxP_no {g s : List Int} {i : Nat} (h : ¬ brk g (s ++ [(i : Int)]) s.length = 0) : nxP g s (i + 1) = nxP g s i := by
  rw [nxP_succ, if_neg (by unfold goes; simp [h]), List.append_nil]
theorem nxP_pre (g s : List Int) (i : Nat) : ∀ k : Nat, ∃ t, nxP g s (i + k) = nxP g s i ++ t
  | 0 => ⟨[], by simp⟩
  | k + 1 => by
    obtain ⟨t, ht⟩ := nxP_pre g s i k
    refine ⟨t ++ (if goes g s ((i + k : Nat) : Int) then [((i + k : Nat) : Int)] else []), ?_⟩
    rw [show i + (k + 1) = (i + k) + 1 by omega, nxP_succ, ht, List.append_assoc]
theorem nxP_at {g s : List Int} {i : Nat} (hi : i < 21) (h : brk g (s ++ [(i : Int)]) s.length = 0) : (nxL g s)[(nxP g s i).length]? = some (i : Int) := by
  obtain ⟨t, ht⟩ := nxP_pre g s (i + 1) (20 - i)
  rw [show i + 1 + (20 - i) = 21 by omega] at ht
  unfold nxL
  rw [ht, nxP_yes h, List.append_assoc, List.getElem?_append_right (Nat.le_refl _), Nat.sub_self]
  rfl
theorem nxP_le {g s : List Int} {i : Nat} (hi : i ≤ 21) : (nxP g s i).length ≤ (nxL g s).length := by
  obtain ⟨t, ht⟩ := nxP_pre g s i (21 - i)
  rw [show i + (21 - i) = 21 by omega] at ht
  unfold nxL; rw [ht]; simp
theorem nxL_mem {g s : List Int} {x : Int} (h : x ∈ nxL g s) : 0 ≤ x ∧ x ≤ 20 ∧ brk g (s ++ [x]) s.length = 0 := by
  unfold nxL nxP at h
  rw [List.mem_filter] at h
  obtain ⟨k, hk, rfl⟩ := List.mem_map.1 h.1
  have := List.mem_range.1 hk
  exact ⟨by omega, by omega, of_decide_eq_true h.2⟩
theorem nxL_mem' {g s : List Int} {x : Int} (h0 : 0 ≤ x) (h1 : x ≤ 20) (h : brk g (s ++ [x]) s.length = 0) : x ∈ nxL g s := by
  unfold nxL nxP
  rw [List.mem_filter]
  exact ⟨List.mem_map.2 ⟨x.toNat, List.mem_range.2 (by omega), by omega⟩, decide_eq_true h⟩
theorem nxL_len (g s : List Int) : (nxL g s).length ≤ 21 := by
  unfold nxL nxP
  exact Nat.le_trans (List.length_filter_le _ _) (by simp)
theorem notes_snoc {s : List Int} (h : ∀ x ∈ s, 0 ≤ x ∧ x ≤ 20) {y : Int} (h0 : 0 ≤ y) (h1 : y ≤ 20) : ∀ x ∈ s ++ [y], 0 ≤ x ∧ x ≤ 20 := fun x hx => by
  rcases List.mem_append.1 hx with hx | hx
  · exact h x hx
  · rw [List.mem_singleton] at hx; subst hx; exact ⟨h0, h1⟩
/-- How many right parts begin so, with k notes to come. -/
def cntR (g : List Int) : Nat → List Int → Int
  | 0, _ => 1
  | k + 1, s => ((nxL g s).map fun x => cntR g k (s ++ [x])).sum
theorem sum_snoc (xs : List Int) (x : Int) : (xs ++ [x]).sum = xs.sum + x := by simp
theorem cntR_bounds (g : List Int) : ∀ (k : Nat) (s : List Int), 0 ≤ cntR g k s ∧ cntR g k s ≤ 21 ^ k
  | 0, s => by simp [cntR]
  | k + 1, s => by
    have ih := cntR_bounds g k
    have hp : (0 : Int) ≤ 21 ^ k := Int.pow_nonneg (by decide)
    have key : ∀ xs : List Int, 0 ≤ (xs.map fun x => cntR g k (s ++ [x])).sum ∧ (xs.map fun x => cntR g k (s ++ [x])).sum ≤ xs.length * 21 ^ k := by
      intro xs
      induction xs with
      | nil => simp
      | cons x xs ihx =>
        have h1 := ih (s ++ [x])
        simp only [List.map_cons, List.sum_cons, List.length_cons]
        constructor
        · omega
        · have : ((xs.length + 1 : Nat) : Int) * 21 ^ k = xs.length * 21 ^ k + 21 ^ k := by rw [Int.natCast_add, Int.add_mul]; simp
          omega
    have h1 := key (nxL g s)
    have h2 : ((nxL g s).length : Int) * 21 ^ k ≤ 21 * 21 ^ k := Int.mul_le_mul_of_nonneg_right (by have := nxL_len g s; omega) hp
    unfold cntR
    rw [Int.pow_succ, Int.mul_comm]
    omega
theorem pow21 {k : Nat} (h : k ≤ 8) : (21 : Int) ^ k ≤ 37822859361 := by
  rcases (show k = 0 ∨ k = 1 ∨ k = 2 ∨ k = 3 ∨ k = 4 ∨ k = 5 ∨ k = 6 ∨ k = 7 ∨ k = 8 by omega) with h | h | h | h | h | h | h | h | h <;> subst h <;> decide
theorem cntR_part {g : List Int} {k : Nat} {s : List Int} {j : Nat} (hk : k ≤ 8) (hj : j ≤ 21) : 0 ≤ (((nxL g s).take j).map fun x => cntR g k (s ++ [x])).sum ∧ (((nxL g s).take j).map fun x => cntR g k (s ++ [x])).sum ≤ j * 37822859361 := by
  have hp := pow21 hk
  have key : ∀ xs : List Int, 0 ≤ (xs.map fun x => cntR g k (s ++ [x])).sum ∧ (xs.map fun x => cntR g k (s ++ [x])).sum ≤ xs.length * 37822859361 := by
    intro xs
    induction xs with
    | nil => simp
    | cons x xs ihx =>
      have h1 := cntR_bounds g k (s ++ [x])
      simp only [List.map_cons, List.sum_cons, List.length_cons]
      omega
  have h1 := key ((nxL g s).take j)
  have : ((nxL g s).take j).length ≤ j := by simp; omega
  omega
/-! ### the last three notes -/
def tailK (s : List Int) : Int × Int × Int × Int := (rdI (s.drop (s.length - 3)) 0, rdI (s.drop (s.length - 3)) 1, rdI (s.drop (s.length - 3)) 2, (s.length : Int))
/-- The note that stands j before the end, if there is one. -/
def fromEnd (s : List Int) (j : Nat) : Int := rdI s ((s.length : Int) - 1 - j)
theorem tailK_eq {s s' : List Int} (h : tailK s = tailK s') : s.length = s'.length ∧ ∀ j : Nat, j < 3 → j < s.length → fromEnd s j = fromEnd s' j := by
  unfold tailK at h
  simp only [Prod.mk.injEq] at h
  obtain ⟨h1, h2, h3, h4⟩ := h
  have hl : s.length = s'.length := by omega
  refine ⟨hl, fun j hj hjs => ?_⟩
  have hd : ∀ (t : List Int) (k : Nat), rdI (t.drop (t.length - 3)) (k : Int) = rdI t ((t.length - 3 + k : Nat) : Int) := fun t k => by
    rw [rdI_nat, rdI_nat, List.getD_eq_getElem?_getD, List.getD_eq_getElem?_getD, List.getElem?_drop]
  have e0 := hd s 0
  have e1 := hd s 1
  have e2 := hd s 2
  have f0 := hd s' 0
  have f1 := hd s' 1
  have f2 := hd s' 2
  have g0 : rdI s ((s.length - 3 + 0 : Nat) : Int) = rdI s' ((s'.length - 3 + 0 : Nat) : Int) := e0.symm.trans (h1.trans f0)
  have g1 : rdI s ((s.length - 3 + 1 : Nat) : Int) = rdI s' ((s'.length - 3 + 1 : Nat) : Int) := e1.symm.trans (h2.trans f1)
  have g2 : rdI s ((s.length - 3 + 2 : Nat) : Int) = rdI s' ((s'.length - 3 + 2 : Nat) : Int) := e2.symm.trans (h3.trans f2)
  unfold fromEnd
  rw [show (s.length : Int) - 1 - j = ((s.length - 1 - j : Nat) : Int) by omega, show (s'.length : Int) - 1 - j = ((s'.length - 1 - j : Nat) : Int) by omega]
  rcases (show s.length - 1 - j = s.length - 3 + 0 ∨ s.length - 1 - j = s.length - 3 + 1 ∨ s.length - 1 - j = s.length - 3 + 2 by omega) with h | h | h
  · rw [h, show s'.length - 1 - j = s'.length - 3 + 0 by omega]; exact g0
  · rw [h, show s'.length - 1 - j = s'.length - 3 + 1 by omega]; exact g1
  · rw [h, show s'.length - 1 - j = s'.length - 3 + 2 by omega]; exact g2
theorem tailK_of {s s' : List Int} (hl : s.length = s'.length) (h : ∀ j : Nat, j < 3 → j < s.length → fromEnd s j = fromEnd s' j) : tailK s = tailK s' := by
  have hd : ∀ (t : List Int) (k : Nat), rdI (t.drop (t.length - 3)) (k : Int) = rdI t ((t.length - 3 + k : Nat) : Int) := fun t k => by
    rw [rdI_nat, rdI_nat, List.getD_eq_getElem?_getD, List.getD_eq_getElem?_getD, List.getElem?_drop]
  have one : ∀ k : Nat, k < 3 → rdI (s.drop (s.length - 3)) (k : Int) = rdI (s'.drop (s'.length - 3)) (k : Int) := fun k hk => by
    rw [hd, hd]
    by_cases hin : s.length - 3 + k < s.length
    · have := h (s.length - 1 - (s.length - 3 + k)) (by omega) (by omega)
      unfold fromEnd at this
      rw [show (s.length : Int) - 1 - ((s.length - 1 - (s.length - 3 + k) : Nat) : Int) = ((s.length - 3 + k : Nat) : Int) by omega, show (s'.length : Int) - 1 - ((s.length - 1 - (s.length - 3 + k) : Nat) : Int) = ((s'.length - 3 + k : Nat) : Int) by omega] at this
      exact this
    · rw [rdI_nat, rdI_nat, List.getD_eq_getElem?_getD, List.getD_eq_getElem?_getD, List.getElem?_eq_none (by omega), List.getElem?_eq_none (by omega)]
  unfold tailK
  have o0 := one 0 (by decide)
  have o1 := one 1 (by decide)
  have o2 := one 2 (by decide)
  simp only [Prod.mk.injEq]
  exact ⟨o0, o1, o2, by omega⟩
theorem fromEnd_snoc0 (s : List Int) (x : Int) : fromEnd (s ++ [x]) 0 = x := by
  unfold fromEnd
  rw [List.length_append, show (((s.length + [x].length : Nat) : Int) - 1 - (0 : Nat)) = ((s.length : Nat) : Int) by simp, rdI_snoc, if_pos rfl]
theorem fromEnd_snoc (s : List Int) (x : Int) {j : Nat} (h : j < s.length) : fromEnd (s ++ [x]) (j + 1) = fromEnd s j := by
  unfold fromEnd
  rw [List.length_append, show (((s.length + [x].length : Nat) : Int) - 1 - ((j + 1 : Nat) : Int)) = ((s.length - 1 - j : Nat) : Int) by simp; omega, rdI_snoc, if_neg (by omega)]
  congr 1; omega
theorem tailK_snoc {s s' : List Int} (h : tailK s = tailK s') (x : Int) : tailK (s ++ [x]) = tailK (s' ++ [x]) := by
  obtain ⟨hl, hf⟩ := tailK_eq h
  refine tailK_of (by simp [hl]) fun j hj hjs => ?_
  cases j with
  | zero => rw [fromEnd_snoc0, fromEnd_snoc0]
  | succ j =>
    simp only [List.length_append, List.length_cons, List.length_nil] at hjs
    rw [fromEnd_snoc s x (by omega), fromEnd_snoc s' x (by omega)]
    exact hf j (by omega) (by omega)
theorem brk_tail {g s s' : List Int} (h : tailK s = tailK s') (x : Int) : brk g (s ++ [x]) s.length = brk g (s' ++ [x]) s'.length := by
  obtain ⟨hl, hf⟩ := tailK_eq h
  have e0 : ∀ t : List Int, rdI (t ++ [x]) ((t.length : Nat) : Int) = x := fun t => by rw [rdI_snoc, if_pos rfl]
  have ek : ∀ (t : List Int) (j : Nat), j < t.length → rdI (t ++ [x]) ((t.length : Int) - 1 - j) = fromEnd t j := fun t j hj => by
    unfold fromEnd
    rw [show (t.length : Int) - 1 - j = ((t.length - 1 - j : Nat) : Int) by omega, rdI_snoc, if_neg (by omega)]
  unfold brk brkI ivI mvI
  rw [e0 s, e0 s', ← hl]
  rcases Nat.lt_or_ge 0 s.length with h1 | h1
  · have a1 := ek s 0 h1
    have b1 := ek s' 0 (by omega)
    rw [← hl] at b1
    have c1 := hf 0 (by decide) h1
    simp only [Int.natCast_zero, Int.sub_zero] at a1 b1
    rw [a1, b1, ← c1]
    rcases Nat.lt_or_ge 1 s.length with h2 | h2
    · have a2 := ek s 1 h2
      have b2 := ek s' 1 (by omega)
      rw [← hl] at b2
      have c2 := hf 1 (by decide) h2
      simp only [Int.natCast_one] at a2 b2
      rw [a2, b2, ← c2]
    · have hs1 : s.length = 1 := by omega
      have q6 : ∀ b m : Int, R6 ((s.length : Nat) : Int) b m := fun b m => .inl (by omega)
      have q7 : ∀ b m : Int, R7 ((s.length : Nat) : Int) b m := fun b m => .inl (by omega)
      simp only [q6, q7, not_true_eq_false, if_false]
  · have hs0 : s.length = 0 := by omega
    have q3 : ∀ m : Int, R3 ((s.length : Nat) : Int) m := fun m => .inl (by omega)
    have q4 : ∀ a b c : Int, R4 ((s.length : Nat) : Int) a b c := fun a b c => .inl (by omega)
    have q5 : ∀ a b c : Int, R5 ((s.length : Nat) : Int) a b c := fun a b c => .inl (by omega)
    have q6 : ∀ b m : Int, R6 ((s.length : Nat) : Int) b m := fun b m => .inl (by omega)
    have q7 : ∀ b m : Int, R7 ((s.length : Nat) : Int) b m := fun b m => .inl (by omega)
    simp only [q3, q4, q5, q6, q7, not_true_eq_false, if_false]
theorem nxL_tail {g s s' : List Int} (h : tailK s = tailK s') : nxL g s = nxL g s' := by
  unfold nxL nxP
  congr 1
  funext x
  unfold goes
  rw [brk_tail h x]
theorem cntR_tail {g : List Int} : ∀ (k : Nat) (s s' : List Int), tailK s = tailK s' → cntR g k s = cntR g k s'
  | 0, s, s', h => rfl
  | k + 1, s, s', h => by
    unfold cntR
    rw [nxL_tail h]
    congr 1
    exact List.map_congr_left fun x _ => cntR_tail k _ _ (tailK_snoc h x)
end Go.Proofs.Ytolalckejnijkaa
