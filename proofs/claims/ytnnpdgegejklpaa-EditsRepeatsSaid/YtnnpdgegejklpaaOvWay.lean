/- The first way with the least cost; the reference's rows. Plain Lean. -/
import Derived.Test.YtnnpdgegejklpaaOvMath
namespace Go.Proofs.Ytnnpdgegejklpaa
open Go.RowKit Go.Sx Go.WideMaps
set_option linter.unusedVariables false
set_option linter.unusedSimpArgs false
def enP (a b : List Int) : Int × Int := ((a.length : Int) - 1, (b.length : Int) - 1)
def InP (a b : List Int) (p : Int × Int) : Prop := 0 ≤ p.1 ∧ p.1 < a.length ∧ 0 ≤ p.2 ∧ p.2 < b.length
/-- Whether a pair may follow with the least cost. -/
def Cd (a b : List Int) (i j : Int) (p : Int × Int) : Prop := (p.1 < a.length ∧ p.2 < b.length) ∧ ovP a b p.1 p.2 + ovC a b i j = ovP a b i j
instance (a b : List Int) (i j : Int) (p : Int × Int) : Decidable (Cd a b i j p) := by unfold Cd; infer_instance
def nxt (a b : List Int) (p : Int × Int) : Int × Int := if Cd a b p.1 p.2 (p.1, p.2 + 1) then (p.1, p.2 + 1) else if Cd a b p.1 p.2 (p.1 + 1, p.2) then (p.1 + 1, p.2) else (p.1 + 1, p.2 + 1)
def posN (a b : List Int) : Nat → Int × Int
  | 0 => (0, 0)
  | k + 1 => nxt a b (posN a b k)
theorem ovP_val {a b : List Int} {i j : Int} (h0 : 0 ≤ i) (h1 : i < a.length) (h2 : 0 ≤ j) (h3 : j < b.length) (hne : (i, j) ≠ enP a b) : Cd a b i j (i, j + 1) ∨ Cd a b i j (i + 1, j) ∨ Cd a b i j (i + 1, j + 1) := by
  have hr := ovP_rec h0 h1 h2 h3
  rw [bK3] at hr
  have n1 := ovP_nonneg a b i (j + 1)
  have n2 := ovP_nonneg a b (i + 1) j
  have n3 := ovP_nonneg a b (i + 1) (j + 1)
  have e1 : Done a b i j (i, j + 1) ↔ j + 1 < b.length := ⟨fun h => h.1.2.2.2, fun h => ⟨⟨h0, h1, show 0 ≤ j + 1 by omega, h⟩, .inr ⟨rfl, show j + 1 > j by omega⟩⟩⟩
  have e2 : Done a b i j (i + 1, j) ↔ i + 1 < a.length := ⟨fun h => h.1.2.1, fun h => ⟨⟨show 0 ≤ i + 1 by omega, h, h2, h3⟩, .inl (show i + 1 > i by omega)⟩⟩
  have e3 : Done a b i j (i + 1, j + 1) ↔ i + 1 < a.length ∧ j + 1 < b.length := ⟨fun h => ⟨h.1.2.1, h.1.2.2.2⟩, fun h => ⟨⟨show 0 ≤ i + 1 by omega, h.1, show 0 ≤ j + 1 by omega, h.2⟩, .inl (show i + 1 > i by omega)⟩⟩
  unfold stp at hr
  simp only [e1, e2, e3] at hr
  unfold Cd
  simp only
  by_cases c1 : j + 1 < (b.length : Int)
  · by_cases c2 : i + 1 < (a.length : Int)
    · simp only [c1, c2, h1, h3, true_and, and_self] at hr ⊢
      revert hr
      (repeat' split) <;> intro hr <;> omega
    · left
      simp only [c1, c2, h1, h3, true_and, and_self, false_and, if_false] at hr ⊢
      revert hr
      (repeat' split) <;> intro hr <;> omega
  · by_cases c2 : i + 1 < (a.length : Int)
    · right; left
      simp only [c1, c2, h1, h3, true_and, and_self, false_and, and_false, if_false] at hr ⊢
      revert hr
      (repeat' split) <;> intro hr <;> omega
    · exfalso
      apply hne
      unfold enP
      rw [show i = (a.length : Int) - 1 by omega, show j = (b.length : Int) - 1 by omega]
theorem nxt_pick {a b : List Int} {i j : Int} {k : Nat} (hk : k < 3) (hc : Cd a b i j (rdP (stL i j) (k : Int))) (hno : ∀ k' : Nat, k' < k → ¬ Cd a b i j (rdP (stL i j) (k' : Int))) : nxt a b (i, j) = rdP (stL i j) (k : Int) := by
  unfold nxt
  rcases (show k = 0 ∨ k = 1 ∨ k = 2 by omega) with rfl | rfl | rfl
  · exact if_pos hc
  · have n0 : ¬ Cd a b i j (i, j + 1) := hno 0 (by omega)
    simp only
    rw [if_neg n0]; exact if_pos hc
  · have n0 : ¬ Cd a b i j (i, j + 1) := hno 0 (by omega)
    have n1 : ¬ Cd a b i j (i + 1, j) := hno 1 (by omega)
    simp only
    rw [if_neg n0, if_neg n1]; rfl
theorem nxt_none {a b : List Int} {i j : Int} (h : InP a b (i, j)) (hne : (i, j) ≠ enP a b) (hno : ∀ k' : Nat, k' < 3 → ¬ Cd a b i j (rdP (stL i j) (k' : Int))) : False := by
  obtain ⟨h0, h1, h2, h3⟩ := h
  rcases ovP_val h0 h1 h2 h3 hne with h | h | h
  · exact hno 0 (by omega) h
  · exact hno 1 (by omega) h
  · exact hno 2 (by omega) h
theorem nxt_cd {a b : List Int} {i j : Int} (h : InP a b (i, j)) (hne : (i, j) ≠ enP a b) : Cd a b i j (nxt a b (i, j)) ∧ InP a b (nxt a b (i, j)) ∧ (nxt a b (i, j) = (i, j + 1) ∨ nxt a b (i, j) = (i + 1, j) ∨ nxt a b (i, j) = (i + 1, j + 1)) := by
  obtain ⟨h0, h1, h2, h3⟩ := h
  have hv := ovP_val h0 h1 h2 h3 hne
  simp only at h0 h1 h2 h3
  unfold nxt
  simp only
  split
  · rename_i c; exact ⟨c, ⟨h0, c.1.1, by show 0 ≤ j + 1; omega, c.1.2⟩, .inl rfl⟩
  · split
    · rename_i c; exact ⟨c, ⟨by show 0 ≤ i + 1; omega, c.1.1, h2, c.1.2⟩, .inr (.inl rfl)⟩
    · rename_i c1 c2
      have c : Cd a b i j (i + 1, j + 1) := by
        rcases hv with h | h | h
        · exact absurd h c1
        · exact absurd h c2
        · exact h
      exact ⟨c, ⟨by show 0 ≤ i + 1; omega, c.1.1, by show 0 ≤ j + 1; omega, c.1.2⟩, .inr (.inr rfl)⟩
def kN (a b : List Int) : Nat := match (List.range 40).find? (fun k => decide (posN a b k = enP a b)) with
  | some k => k
  | none => 0
theorem kN_eq {a b : List Int} {i : Nat} (hi : i < 40) (h : posN a b i = enP a b) (hm : ∀ j, j < i → posN a b j ≠ enP a b) : kN a b = i := by
  have : (List.range 40).find? (fun k => decide (posN a b k = enP a b)) = some i := by
    rw [List.find?_eq_some_iff_append]
    refine ⟨by simp [h], List.range i, (List.range (40 - (i + 1))).map (· + (i + 1)), ?_, fun j hj => by simpa using hm j (List.mem_range.1 hj)⟩
    have e : 40 = i + ((40 - (i + 1)) + 1) := by omega
    conv => lhs; rw [e, List.range_add, List.range_succ_eq_map]
    simp [Function.comp_def, Nat.add_comm, Nat.add_left_comm]
  simp [kN, this]
/-- The way. -/
def wayL (a b : List Int) : List (Int × Int) := (List.range (kN a b + 1)).map (posN a b)
/-- The pairs that may follow, in order. -/
def nxL (a b : List Int) (i j : Int) : List (Int × Int) := (stL i j).filter fun p => decide (p.1 < a.length ∧ p.2 < b.length)
theorem nxL_mem {a b : List Int} {i j : Int} {p : Int × Int} (h : p ∈ nxL a b i j) : (p.1 < a.length ∧ p.2 < b.length) ∧ (p = (i, j + 1) ∨ p = (i + 1, j) ∨ p = (i + 1, j + 1)) := by
  unfold nxL at h
  rw [List.mem_filter] at h
  obtain ⟨h1, h2⟩ := h
  refine ⟨by simpa using h2, ?_⟩
  unfold stL at h1
  simpa using h1
theorem nxL_len (a b : List Int) (i j : Int) : (nxL a b i j).length ≤ 3 := List.length_filter_le ..
theorem nxL_eq {a b : List Int} {i j : Int} (h1 : i < a.length) (h3 : j < b.length) : nxL a b i j = (if j + 1 < b.length then [(i, j + 1)] else []) ++ (if i + 1 < a.length then [(i + 1, j)] else []) ++ (if i + 1 < a.length ∧ j + 1 < b.length then [(i + 1, j + 1)] else []) := by
  unfold nxL stL
  by_cases c1 : j + 1 < (b.length : Int) <;> by_cases c2 : i + 1 < (a.length : Int) <;> simp [List.filter_cons, c1, c2, h1, h3]
/-- The least cost of those before the k-th one. -/
def rK (a b : List Int) (zs : List (Int × Int)) : Nat → Int
  | 0 => -1
  | k + 1 => if rK a b zs k < 0 ∨ ovP a b (rdP zs (k : Int)).1 (rdP zs (k : Int)).2 < rK a b zs k then ovP a b (rdP zs (k : Int)).1 (rdP zs (k : Int)).2 else rK a b zs k
theorem rK_rec {a b : List Int} {i j : Int} (h0 : 0 ≤ i) (h1 : i < a.length) (h2 : 0 ≤ j) (h3 : j < b.length) : (if rK a b (nxL a b i j) (nxL a b i j).length > 0 then rK a b (nxL a b i j) (nxL a b i j).length else 0) + ovC a b i j = ovP a b i j := by
  have hr := ovP_rec h0 h1 h2 h3
  rw [bK3] at hr
  have n1 := ovP_nonneg a b i (j + 1)
  have n2 := ovP_nonneg a b (i + 1) j
  have n3 := ovP_nonneg a b (i + 1) (j + 1)
  have e1 : Done a b i j (i, j + 1) ↔ j + 1 < b.length := ⟨fun h => h.1.2.2.2, fun h => ⟨⟨h0, h1, show 0 ≤ j + 1 by omega, h⟩, .inr ⟨rfl, show j + 1 > j by omega⟩⟩⟩
  have e2 : Done a b i j (i + 1, j) ↔ i + 1 < a.length := ⟨fun h => h.1.2.1, fun h => ⟨⟨show 0 ≤ i + 1 by omega, h, h2, h3⟩, .inl (show i + 1 > i by omega)⟩⟩
  have e3 : Done a b i j (i + 1, j + 1) ↔ i + 1 < a.length ∧ j + 1 < b.length := ⟨fun h => ⟨h.1.2.1, h.1.2.2.2⟩, fun h => ⟨⟨show 0 ≤ i + 1 by omega, h.1, show 0 ≤ j + 1 by omega, h.2⟩, .inl (show i + 1 > i by omega)⟩⟩
  unfold stp at hr
  simp only [e1, e2, e3] at hr
  rw [nxL_eq h1 h3]
  by_cases c1 : j + 1 < (b.length : Int) <;> by_cases c2 : i + 1 < (a.length : Int)
  · simp only [c1, c2, true_and, and_self, if_true] at hr ⊢
    simp only [List.cons_append, List.nil_append, List.length_cons, List.length_nil, rK]
    show (if (if (if _ ∨ _ then ovP a b (i + 1) j else _) < 0 ∨ ovP a b (i + 1) (j + 1) < _ then ovP a b (i + 1) (j + 1) else _) > 0 then _ else _) + _ = _
    simp only [rdP, List.getD_eq_getElem?_getD, Int.toNat_natCast, List.getElem?_cons_zero, List.getElem?_cons_succ, Option.getD_some]
    revert hr
    (repeat' split) <;> intro hr <;> omega
  · simp only [c1, c2, true_and, false_and, and_false, if_true, if_false] at hr ⊢
    simp only [List.append_nil, List.length_cons, List.length_nil, rK, rdP, List.getD_eq_getElem?_getD, Int.toNat_natCast, List.getElem?_cons_zero, Option.getD_some]
    revert hr
    (repeat' split) <;> intro hr <;> omega
  · simp only [c1, c2, true_and, false_and, and_false, if_true, if_false] at hr ⊢
    simp only [List.append_nil, List.nil_append, List.length_cons, List.length_nil, rK, rdP, List.getD_eq_getElem?_getD, Int.toNat_natCast, List.getElem?_cons_zero, Option.getD_some]
    revert hr
    (repeat' split) <;> intro hr <;> omega
  · simp only [c1, c2, true_and, false_and, and_false, if_true, if_false] at hr ⊢
    simp only [List.append_nil, List.length_nil, rK]
    revert hr
    (repeat' split) <;> intro hr <;> omega
theorem rK_range {a b : List Int} (zs : List (Int × Int)) (h : ∀ q ∈ zs, ovP a b q.1 q.2 ≤ 100000) : ∀ k, k ≤ zs.length → -1 ≤ rK a b zs k ∧ rK a b zs k ≤ 100000
  | 0, _ => ⟨by unfold rK; decide, by unfold rK; decide⟩
  | k + 1, hk => by
    have ih := rK_range zs h k (by omega)
    unfold rK
    split
    · have := ovP_nonneg a b (rdP zs (k : Int)).1 (rdP zs (k : Int)).2
      have := h _ (rdP_mem (xs := zs) (i := (k : Int)) (by omega) (by omega))
      omega
    · exact ih
/-- In the reference's list: the first that has the least cost is the next one. -/
theorem nxL_pick {a b : List Int} {i j : Int} (h : InP a b (i, j)) (hne : (i, j) ≠ enP a b) {k : Nat} (hk : k < (nxL a b i j).length) (hc : ovP a b (rdP (nxL a b i j) (k : Int)).1 (rdP (nxL a b i j) (k : Int)).2 = ovP a b i j - ovC a b i j) (hno : ∀ k' : Nat, k' < k → ovP a b (rdP (nxL a b i j) (k' : Int)).1 (rdP (nxL a b i j) (k' : Int)).2 ≠ ovP a b i j - ovC a b i j) : rdP (nxL a b i j) (k : Int) = nxt a b (i, j) := by
  have g1 : (nxL a b i j).find? (fun p => decide (ovP a b p.1 p.2 = ovP a b i j - ovC a b i j)) = some (rdP (nxL a b i j) (k : Int)) := by
    rw [List.find?_eq_some_iff_getElem]
    exact ⟨by simpa using hc, k, hk, (rdP_getElem hk).symm, fun j' hj => by have h_ := hno j' hj; rw [rdP_getElem (by omega)] at h_; simpa using h_⟩
  obtain ⟨q1, q2, q3⟩ := nxt_cd h hne
  have g2 : (nxL a b i j).find? (fun p => decide (ovP a b p.1 p.2 = ovP a b i j - ovC a b i j)) = some (nxt a b (i, j)) := by
    have hcd : ∀ p : Int × Int, Cd a b i j p ↔ ((p.1 < a.length ∧ p.2 < b.length) ∧ ovP a b p.1 p.2 = ovP a b i j - ovC a b i j) := fun p => by unfold Cd; constructor <;> rintro ⟨r1, r2⟩ <;> exact ⟨r1, by omega⟩
    unfold nxL
    rw [List.find?_filter]
    have e : (fun p : Int × Int => decide (decide (p.1 < (a.length : Int) ∧ p.2 < (b.length : Int)) = true ∧ decide (ovP a b p.1 p.2 = ovP a b i j - ovC a b i j) = true)) = fun p => decide (Cd a b i j p) := by
      funext p; refine decide_eq_decide.2 ?_; rw [decide_eq_true_iff, decide_eq_true_iff]; exact (hcd p).symm
    rw [e]
    unfold stL
    rw [List.find?_cons, List.find?_cons, List.find?_cons]
    unfold nxt at q1 ⊢
    simp only at q1 ⊢
    by_cases c1 : Cd a b i j (i, j + 1)
    · simp only [decide_eq_true c1, if_pos c1]
    · simp only [decide_eq_false c1, if_neg c1] at q1 ⊢
      by_cases c2 : Cd a b i j (i + 1, j)
      · simp only [decide_eq_true c2, if_pos c2]
      · simp only [decide_eq_false c2, if_neg c2] at q1 ⊢
        simp only [decide_eq_true q1]
  rw [g1] at g2
  injection g2
theorem nxL_none {a b : List Int} {i j : Int} (h : InP a b (i, j)) (hne : (i, j) ≠ enP a b) (hno : ∀ k' : Nat, k' < (nxL a b i j).length → ovP a b (rdP (nxL a b i j) (k' : Int)).1 (rdP (nxL a b i j) (k' : Int)).2 ≠ ovP a b i j - ovC a b i j) : False := by
  obtain ⟨q1, q2, q3⟩ := nxt_cd h hne
  have hm : nxt a b (i, j) ∈ nxL a b i j := by
    unfold nxL
    rw [List.mem_filter]
    exact ⟨by unfold stL; simpa using q3, by simpa using q1.1⟩
  obtain ⟨k, r1, r2⟩ := List.mem_iff_getElem.1 hm
  have := hno k r1
  rw [rdP_getElem r1, r2] at this
  have := q1.2
  omega
def rowP (a b : List Int) (i : Int) : List Int := (List.range b.length).map fun y : Nat => ovP a b i (y : Int)
theorem rowP_len (a b : List Int) (i : Int) : (rowP a b i).length = b.length := by simp [rowP]
theorem rowP_at {a b : List Int} {i j : Int} (h0 : 0 ≤ j) (h1 : j < b.length) : rdI (rowP a b i) j = ovP a b i j := by
  obtain ⟨y, rfl⟩ := Int.eq_ofNat_of_zero_le h0
  exact Go.Sx.rdI_map (by omega)
end Go.Proofs.Ytnnpdgegejklpaa
