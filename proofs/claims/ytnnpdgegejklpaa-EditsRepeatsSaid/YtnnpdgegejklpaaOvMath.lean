/- Plain law of the ways over two melodies: their least cost. -/
import Derived.Test.YtnnpdgegejklpaaSxMapG
namespace Go.Proofs.Ytnnpdgegejklpaa
open Go.RowKit Go.Sx Go.WideMaps
set_option linter.unusedVariables false
set_option linter.unusedSimpArgs false
/-- What a pair of indices costs. -/
def ovC (a b : List Int) (i j : Int) : Int := if rdI b j - rdI a i > rdI a i - rdI b j then rdI b j - rdI a i else rdI a i - rdI b j
theorem ovC_nonneg (a b : List Int) (i j : Int) : 0 ≤ ovC a b i j := by unfold ovC; split <;> omega
def mn (x y : Int) : Int := if y < x then y else x
theorem mn_spec (x y : Int) : (mn x y = x ∨ mn x y = y) ∧ mn x y ≤ x ∧ mn x y ≤ y := by unfold mn; split <;> omega
/-- The least cost of a way to the end, from di and dj before it. -/
def ovD (a b : List Int) : Nat → Nat → Int
  | 0, 0 => ovC a b ((a.length : Int) - 1) ((b.length : Int) - 1)
  | 0, dj + 1 => ovD a b 0 dj + ovC a b ((a.length : Int) - 1) ((b.length : Int) - 1 - ((dj + 1 : Nat) : Int))
  | di + 1, 0 => ovD a b di 0 + ovC a b ((a.length : Int) - 1 - ((di + 1 : Nat) : Int)) ((b.length : Int) - 1)
  | di + 1, dj + 1 => mn (mn (ovD a b (di + 1) dj) (ovD a b di (dj + 1))) (ovD a b di dj) + ovC a b ((a.length : Int) - 1 - ((di + 1 : Nat) : Int)) ((b.length : Int) - 1 - ((dj + 1 : Nat) : Int))
termination_by di dj => di + dj
theorem ovD_00 (a b : List Int) : ovD a b 0 0 = ovC a b ((a.length : Int) - 1) ((b.length : Int) - 1) := by rw [ovD]
theorem ovD_0s (a b : List Int) (dj : Nat) : ovD a b 0 (dj + 1) = ovD a b 0 dj + ovC a b ((a.length : Int) - 1) ((b.length : Int) - 1 - ((dj + 1 : Nat) : Int)) := by rw [ovD]
theorem ovD_s0 (a b : List Int) (di : Nat) : ovD a b (di + 1) 0 = ovD a b di 0 + ovC a b ((a.length : Int) - 1 - ((di + 1 : Nat) : Int)) ((b.length : Int) - 1) := by rw [ovD]
theorem ovD_ss (a b : List Int) (di dj : Nat) : ovD a b (di + 1) (dj + 1) = mn (mn (ovD a b (di + 1) dj) (ovD a b di (dj + 1))) (ovD a b di dj) + ovC a b ((a.length : Int) - 1 - ((di + 1 : Nat) : Int)) ((b.length : Int) - 1 - ((dj + 1 : Nat) : Int)) := by rw [ovD]
theorem ovD_ind {P : Nat → Nat → Prop} (h00 : P 0 0) (h0s : ∀ dj, P 0 dj → P 0 (dj + 1)) (hs0 : ∀ di, P di 0 → P (di + 1) 0) (hss : ∀ di dj, P (di + 1) dj → P di (dj + 1) → P di dj → P (di + 1) (dj + 1)) : ∀ di dj, P di dj := by
  intro di
  induction di with
  | zero => intro dj; induction dj with
    | zero => exact h00
    | succ dj ih => exact h0s dj ih
  | succ di ih => intro dj; induction dj with
    | zero => exact hs0 di (ih 0)
    | succ dj ih2 => exact hss di dj ih2 (ih (dj + 1)) (ih dj)
theorem ovD_nonneg (a b : List Int) : ∀ di dj, 0 ≤ ovD a b di dj := by
  refine ovD_ind ?_ ?_ ?_ ?_
  · rw [ovD_00]; exact ovC_nonneg ..
  · intro dj h; rw [ovD_0s]; have := ovC_nonneg a b ((a.length : Int) - 1) ((b.length : Int) - 1 - ((dj + 1 : Nat) : Int)); omega
  · intro di h; rw [ovD_s0]; have := ovC_nonneg a b ((a.length : Int) - 1 - ((di + 1 : Nat) : Int)) ((b.length : Int) - 1); omega
  · intro di dj h1 h2 h3
    rw [ovD_ss]
    have h4 := mn_spec (ovD a b (di + 1) dj) (ovD a b di (dj + 1))
    have h5 := mn_spec (mn (ovD a b (di + 1) dj) (ovD a b di (dj + 1))) (ovD a b di dj)
    have := ovC_nonneg a b ((a.length : Int) - 1 - ((di + 1 : Nat) : Int)) ((b.length : Int) - 1 - ((dj + 1 : Nat) : Int))
    omega
/-- .. from a pair of indices. -/
def ovP (a b : List Int) (i j : Int) : Int := ovD a b ((a.length : Int) - 1 - i).toNat ((b.length : Int) - 1 - j).toNat
theorem ovP_nonneg (a b : List Int) (i j : Int) : 0 ≤ ovP a b i j := ovD_nonneg ..
/-- Those pairs whose cost is known when i and j are next. -/
def Done (a b : List Int) (i j : Int) (p : Int × Int) : Prop := (0 ≤ p.1 ∧ p.1 < a.length ∧ 0 ≤ p.2 ∧ p.2 < b.length) ∧ (p.1 > i ∨ (p.1 = i ∧ p.2 > j))
instance (a b : List Int) (i j : Int) (p : Int × Int) : Decidable (Done a b i j p) := by unfold Done; infer_instance
def Fd (a b : List Int) (i j : Int) : Int × Int → Option Value := fun p => if Done a b i j p then some (.int .i64 (ovP a b p.1 p.2)) else none
theorem Fd_start (a b : List Int) : Fd a b ((a.length : Int) - 1) ((b.length : Int) - 1) = fun _ => none := by
  funext p; unfold Fd; rw [if_neg]; rintro ⟨⟨h1, h2, h3, h4⟩, h5⟩; omega
theorem Fd_row {a b : List Int} {i j : Int} (hj : j = -1) : Fd a b i j = Fd a b (i - 1) ((b.length : Int) - 1) := by
  funext p; unfold Fd
  have : Done a b i j p ↔ Done a b (i - 1) ((b.length : Int) - 1) p := by unfold Done; omega
  by_cases h : Done a b i j p
  · rw [if_pos h, if_pos (this.1 h)]
  · rw [if_neg h, if_neg (fun h2 => h (this.2 h2))]
theorem Fd_put {a b : List Int} {i j z : Int} (h0 : 0 ≤ i) (h1 : i < a.length) (h2 : 0 ≤ j) (h3 : j < b.length) (hz : z = ovP a b i j) : putG (Fd a b i j) (i, j) (.int .i64 z) = Fd a b i (j - 1) := by
  funext p
  unfold putG
  by_cases e : p = (i, j)
  · subst e
    rw [if_pos rfl]
    unfold Fd
    rw [if_pos (show Done a b i (j - 1) (i, j) from ⟨⟨h0, h1, h2, h3⟩, .inr ⟨rfl, show j > j - 1 by omega⟩⟩), hz]
  · rw [if_neg e]
    unfold Fd
    have hne : ¬ (p.1 = i ∧ p.2 = j) := fun h => e (Prod.ext h.1 h.2)
    have : Done a b i j p ↔ Done a b i (j - 1) p := by unfold Done; omega
    by_cases h : Done a b i j p
    · rw [if_pos h, if_pos (this.1 h)]
    · rw [if_neg h, if_neg (fun h2 => h (this.2 h2))]
/-- The pairs that may follow. -/
def stL (i j : Int) : List (Int × Int) := [(i, j + 1), (i + 1, j), (i + 1, j + 1)]
def stp (a b : List Int) (i j : Int) (p : Int × Int) (best : Int) : Int := if Done a b i j p ∧ (best < 0 ∨ ovP a b p.1 p.2 < best) then ovP a b p.1 p.2 else best
def bK (a b : List Int) (i j : Int) : Nat → Int
  | 0 => -1
  | k + 1 => stp a b i j (rdP (stL i j) (k : Int)) (bK a b i j k)
theorem bK3 (a b : List Int) (i j : Int) : bK a b i j 3 = stp a b i j (i + 1, j + 1) (stp a b i j (i + 1, j) (stp a b i j (i, j + 1) (-1))) := rfl
theorem stL_at {i j : Int} {k : Nat} (h : k < 3) : rdP (stL i j) (k : Int) = (i, j + 1) ∨ rdP (stL i j) (k : Int) = (i + 1, j) ∨ rdP (stL i j) (k : Int) = (i + 1, j + 1) := by
  rcases (show k = 0 ∨ k = 1 ∨ k = 2 by omega) with rfl | rfl | rfl
  · exact .inl rfl
  · exact .inr (.inl rfl)
  · exact .inr (.inr rfl)
theorem ovP_rec {a b : List Int} {i j : Int} (h0 : 0 ≤ i) (h1 : i < a.length) (h2 : 0 ≤ j) (h3 : j < b.length) : ovP a b i j = (if 0 > bK a b i j 3 then 0 else bK a b i j 3) + ovC a b i j := by
  rw [bK3]
  have n1 := ovP_nonneg a b i (j + 1)
  have n2 := ovP_nonneg a b (i + 1) j
  have n3 := ovP_nonneg a b (i + 1) (j + 1)
  have e1 : Done a b i j (i, j + 1) ↔ j + 1 < b.length := ⟨fun h => h.1.2.2.2, fun h => ⟨⟨h0, h1, show 0 ≤ j + 1 by omega, h⟩, .inr ⟨rfl, show j + 1 > j by omega⟩⟩⟩
  have e2 : Done a b i j (i + 1, j) ↔ i + 1 < a.length := ⟨fun h => h.1.2.1, fun h => ⟨⟨show 0 ≤ i + 1 by omega, h, h2, h3⟩, .inl (show i + 1 > i by omega)⟩⟩
  have e3 : Done a b i j (i + 1, j + 1) ↔ i + 1 < a.length ∧ j + 1 < b.length := ⟨fun h => ⟨h.1.2.1, h.1.2.2.2⟩, fun h => ⟨⟨show 0 ≤ i + 1 by omega, h.1, show 0 ≤ j + 1 by omega, h.2⟩, .inl (show i + 1 > i by omega)⟩⟩
  unfold stp
  simp only [e1, e2, e3]
  obtain ⟨di, hdi⟩ : ∃ di : Nat, ((a.length : Int) - 1 - i).toNat = di := ⟨_, rfl⟩
  obtain ⟨dj, hdj⟩ : ∃ dj : Nat, ((b.length : Int) - 1 - j).toNat = dj := ⟨_, rfl⟩
  have p0 : ovP a b i j = ovD a b di dj := by unfold ovP; rw [hdi, hdj]
  cases di with
  | zero =>
    have hi : i = (a.length : Int) - 1 := by omega
    cases dj with
    | zero =>
      have hj : j = (b.length : Int) - 1 := by omega
      rw [p0, ovD_00, if_neg (show ¬ (j + 1 < (b.length : Int) ∧ _) by omega), if_neg (show ¬ (i + 1 < (a.length : Int) ∧ _) by omega), if_neg (show ¬ ((i + 1 < (a.length : Int) ∧ j + 1 < (b.length : Int)) ∧ _) by omega), if_pos (by decide), ← hi, ← hj]; omega
    | succ dj =>
      have q : ovP a b i (j + 1) = ovD a b 0 dj := by unfold ovP; rw [hdi]; congr 1; omega
      have hj : (b.length : Int) - 1 - ((dj + 1 : Nat) : Int) = j := by omega
      rw [p0, ovD_0s, hj, ← hi, ← q, if_pos (show j + 1 < (b.length : Int) ∧ _ by omega), if_neg (show ¬ (i + 1 < (a.length : Int) ∧ _) by omega), if_neg (show ¬ ((i + 1 < (a.length : Int) ∧ j + 1 < (b.length : Int)) ∧ _) by omega), if_neg (by omega)]
  | succ di =>
    have hi : (a.length : Int) - 1 - ((di + 1 : Nat) : Int) = i := by omega
    have q2 : ∀ y : Nat, ((b.length : Int) - 1 - j).toNat = y → ovP a b (i + 1) j = ovD a b di y := fun y hy => by unfold ovP; rw [hy]; congr 1; omega
    cases dj with
    | zero =>
      have hj : j = (b.length : Int) - 1 := by omega
      rw [p0, ovD_s0, hi, ← hj, ← q2 0 hdj, if_neg (show ¬ (j + 1 < (b.length : Int) ∧ _) by omega), if_pos (show i + 1 < (a.length : Int) ∧ _ by omega), if_neg (show ¬ ((i + 1 < (a.length : Int) ∧ j + 1 < (b.length : Int)) ∧ _) by omega), if_neg (by omega)]
    | succ dj =>
      have hj : (b.length : Int) - 1 - ((dj + 1 : Nat) : Int) = j := by omega
      have q1 : ovP a b i (j + 1) = ovD a b (di + 1) dj := by unfold ovP; rw [hdi]; congr 1; omega
      have q3 : ovP a b (i + 1) (j + 1) = ovD a b di dj := by unfold ovP; rw [show ((a.length : Int) - 1 - (i + 1)).toNat = di by omega, show ((b.length : Int) - 1 - (j + 1)).toNat = dj by omega]
      rw [p0, ovD_ss, hi, hj, ← q1, ← q2 (dj + 1) hdj, ← q3]
      have hij : i + 1 < (a.length : Int) ∧ j + 1 < (b.length : Int) := by omega
      simp only [hij, true_and, and_self]
      unfold mn
      (repeat' split) <;> omega
theorem ovC_le {a b : List Int} {i j : Int} (ha : -1000 ≤ rdI a i ∧ rdI a i ≤ 1000) (hb : -1000 ≤ rdI b j ∧ rdI b j ≤ 1000) : ovC a b i j ≤ 2000 := by unfold ovC; split <;> omega
theorem ovD_le {a b : List Int} (h : ∀ i j, ovC a b i j ≤ 2000) : ∀ di dj, ovD a b di dj ≤ 2000 * (di + dj + 1) := by
  refine ovD_ind ?_ ?_ ?_ ?_
  · rw [ovD_00]; have := h ((a.length : Int) - 1) ((b.length : Int) - 1); simpa using this
  · intro dj ih; rw [ovD_0s]; have := h ((a.length : Int) - 1) ((b.length : Int) - 1 - ((dj + 1 : Nat) : Int)); omega
  · intro di ih; rw [ovD_s0]; have := h ((a.length : Int) - 1 - ((di + 1 : Nat) : Int)) ((b.length : Int) - 1); omega
  · intro di dj h1 h2 h3
    rw [ovD_ss]
    have h4 := mn_spec (ovD a b (di + 1) dj) (ovD a b di (dj + 1))
    have h5 := mn_spec (mn (ovD a b (di + 1) dj) (ovD a b di (dj + 1))) (ovD a b di dj)
    have := h ((a.length : Int) - 1 - ((di + 1 : Nat) : Int)) ((b.length : Int) - 1 - ((dj + 1 : Nat) : Int))
    omega
/-! ### melodies -/
def melB (xs : List Int) : Bool := decide (1 ≤ xs.length) && decide (xs.length ≤ 12) && xs.all fun x => decide (-1000 ≤ x) && decide (x ≤ 1000)
theorem melB_true {xs : List Int} : melB xs = true ↔ (1 ≤ xs.length ∧ xs.length ≤ 12) ∧ ∀ x ∈ xs, -1000 ≤ x ∧ x ≤ 1000 := by
  unfold melB; simp [List.all_eq_true, and_assoc]
theorem mel_rd {xs : List Int} (h : ∀ x ∈ xs, -1000 ≤ x ∧ x ≤ 1000) (i : Int) : -1000 ≤ rdI xs i ∧ rdI xs i ≤ 1000 := by
  unfold rdI
  rw [List.getD_eq_getElem?_getD]
  cases hq : xs[i.toNat]? with
  | none => exact ⟨by decide, by decide⟩
  | some x => exact h x (List.mem_of_getElem? hq)
theorem mel_C {a b : List Int} (ha : ∀ x ∈ a, -1000 ≤ x ∧ x ≤ 1000) (hb : ∀ x ∈ b, -1000 ≤ x ∧ x ≤ 1000) (i j : Int) : ovC a b i j ≤ 2000 := ovC_le (mel_rd ha i) (mel_rd hb j)
theorem mel_P {a b : List Int} (ha : melB a = true) (hb : melB b = true) {i j : Int} (h0 : -1 ≤ i) (h2 : -1 ≤ j) : ovP a b i j ≤ 100000 := by
  obtain ⟨h5, h6⟩ := melB_true.1 ha
  obtain ⟨h7, h8⟩ := melB_true.1 hb
  have := ovD_le (mel_C h6 h8) ((a.length : Int) - 1 - i).toNat ((b.length : Int) - 1 - j).toNat
  unfold ovP; omega
end Go.Proofs.Ytnnpdgegejklpaa
namespace Go.Proofs.Ytnnpdgegejklpaa
open Go.RowKit Go.Sx Go.WideMaps
set_option linter.unusedVariables false
set_option linter.unusedSimpArgs false
/-! ### shifts -/
theorem rdI_map {xs : List Int} {c : Int} {i : Int} (h0 : 0 ≤ i) (h1 : i < xs.length) : rdI (xs.map (· + c)) i = rdI xs i + c := by
  unfold rdI
  rw [List.getD_eq_getElem?_getD, List.getD_eq_getElem?_getD, List.getElem?_map, List.getElem?_eq_getElem (by omega)]; rfl
theorem ovD_shift {a b : List Int} (c : Int) (ha : 1 ≤ a.length) (hb : 1 ≤ b.length) : ∀ di dj, di < a.length → dj < b.length → ovD (a.map (· + c)) (b.map (· + c)) di dj = ovD a b di dj := by
  have hC : ∀ i j : Int, 0 ≤ i → i < a.length → 0 ≤ j → j < b.length → ovC (a.map (· + c)) (b.map (· + c)) i j = ovC a b i j := fun i j h0 h1 h2 h3 => by
    unfold ovC; rw [rdI_map h0 h1, rdI_map h2 h3]; (repeat' split) <;> omega
  refine ovD_ind ?_ ?_ ?_ ?_
  · intro _ _; rw [ovD_00, ovD_00]; simp only [List.length_map]; exact hC _ _ (by omega) (by omega) (by omega) (by omega)
  · intro dj ih h1 h2; rw [ovD_0s, ovD_0s, ih h1 (by omega)]; simp only [List.length_map]; rw [hC _ _ (by omega) (by omega) (by omega) (by omega)]
  · intro di ih h1 h2; rw [ovD_s0, ovD_s0, ih (by omega) h2]; simp only [List.length_map]; rw [hC _ _ (by omega) (by omega) (by omega) (by omega)]
  · intro di dj i1 i2 i3 h1 h2
    rw [ovD_ss, ovD_ss, i1 h1 (by omega), i2 (by omega) h2, i3 (by omega) (by omega)]; simp only [List.length_map]; rw [hC _ _ (by omega) (by omega) (by omega) (by omega)]
theorem ovP_shift {a b : List Int} (c : Int) (ha : 1 ≤ a.length) (hb : 1 ≤ b.length) : ovP (a.map (· + c)) (b.map (· + c)) 0 0 = ovP a b 0 0 := by
  unfold ovP; simp only [List.length_map]; exact ovD_shift c ha hb _ _ (by omega) (by omega)
/-! ### all intervals -/
def dgS (a b : List Int) : Nat → Int
  | 0 => 0
  | k + 1 => dgS a b k + ovC a b (k : Int) (k : Int)
theorem ovD_diag {a b : List Int} (hl : a.length = b.length) : ∀ k, k < a.length → ovD a b k k + dgS a b (a.length - 1 - k) ≤ dgS a b a.length
  | 0, h => by
    rw [ovD_00]
    obtain ⟨n, hn⟩ : ∃ n, a.length = n + 1 := ⟨a.length - 1, by omega⟩
    have e : dgS a b (n + 1) = dgS a b n + ovC a b (n : Int) (n : Int) := rfl
    rw [← hl, hn, show n + 1 - 1 - 0 = n by omega, e, show ((n + 1 : Nat) : Int) - 1 = (n : Int) by omega]; omega
  | k + 1, h => by
    have ih := ovD_diag hl k (by omega)
    rw [ovD_ss]
    have h4 := mn_spec (ovD a b (k + 1) k) (ovD a b k (k + 1))
    have h5 := mn_spec (mn (ovD a b (k + 1) k) (ovD a b k (k + 1))) (ovD a b k k)
    obtain ⟨n, hn⟩ : ∃ n, a.length - 1 - k = n + 1 := ⟨a.length - 1 - k - 1, by omega⟩
    have e : dgS a b (n + 1) = dgS a b n + ovC a b (n : Int) (n : Int) := rfl
    rw [hn, e] at ih
    rw [← hl, show a.length - 1 - (k + 1) = n by omega, show (a.length : Int) - 1 - ((k + 1 : Nat) : Int) = (n : Int) by omega]
    omega
theorem ovP_diag {a b : List Int} (hl : a.length = b.length) (h1 : 1 ≤ a.length) : ovP a b 0 0 ≤ dgS a b a.length := by
  have h := ovD_diag hl (a.length - 1) (by omega)
  rw [show a.length - 1 - (a.length - 1) = 0 by omega] at h
  unfold ovP
  rw [show ((a.length : Int) - 1 - 0).toNat = a.length - 1 by omega, show ((b.length : Int) - 1 - 0).toNat = a.length - 1 by omega]
  have e : dgS a b 0 = 0 := rfl
  omega
end Go.Proofs.Ytnnpdgegejklpaa
