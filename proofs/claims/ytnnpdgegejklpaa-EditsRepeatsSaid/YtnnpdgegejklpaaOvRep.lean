/- Ways over melodies: both ways round, backward, where they cost nothing, what the way told costs. Plain Lean. -/
import Derived.Test.YtnnpdgegejklpaaOvWay
import Derived.Lib.SlicesCompact
namespace Go.Proofs.Ytnnpdgegejklpaa
open Go.RowKit Go.Sx Go.WideMaps
set_option linter.unusedVariables false
set_option linter.unusedSimpArgs false
/-! ### both ways round -/
theorem ovC_comm (a b : List Int) (i j : Int) : ovC b a j i = ovC a b i j := by unfold ovC; (repeat' split) <;> omega
theorem ovD_comm (a b : List Int) : ∀ di dj, ovD b a dj di = ovD a b di dj := by
  refine ovD_ind ?_ ?_ ?_ ?_
  · rw [ovD_00, ovD_00, ovC_comm]
  · intro dj ih; rw [ovD_s0, ovD_0s, ih, ovC_comm]
  · intro di ih; rw [ovD_0s, ovD_s0, ih, ovC_comm]
  · intro di dj h1 h2 h3
    rw [ovD_ss, ovD_ss, h1, h2, h3, ovC_comm]
    congr 2
    unfold mn; (repeat' split) <;> omega
theorem ovP_comm (a b : List Int) (i j : Int) : ovP b a j i = ovP a b i j := ovD_comm a b _ _
/-! ### one step -/
theorem ovP_step {a b : List Int} {i j : Int} (h0 : 0 ≤ i) (h1 : i < a.length) (h2 : 0 ≤ j) (h3 : j < b.length) :
    (j + 1 < b.length → ovP a b i j ≤ ovP a b i (j + 1) + ovC a b i j) ∧ (i + 1 < a.length → ovP a b i j ≤ ovP a b (i + 1) j + ovC a b i j) ∧ (i + 1 < a.length → j + 1 < b.length → ovP a b i j ≤ ovP a b (i + 1) (j + 1) + ovC a b i j) ∧ ovC a b i j ≤ ovP a b i j ∧ ((i, j) = enP a b → ovP a b i j = ovC a b i j) := by
  have hr := ovP_rec h0 h1 h2 h3
  rw [bK3] at hr
  have n1 := ovP_nonneg a b i (j + 1)
  have n2 := ovP_nonneg a b (i + 1) j
  have n3 := ovP_nonneg a b (i + 1) (j + 1)
  have e1 : Done a b i j (i, j + 1) ↔ j + 1 < b.length := ⟨fun h => h.1.2.2.2, fun h => ⟨⟨h0, h1, show 0 ≤ j + 1 by omega, h⟩, .inr ⟨rfl, show j + 1 > j by omega⟩⟩⟩
  have e2 : Done a b i j (i + 1, j) ↔ i + 1 < a.length := ⟨fun h => h.1.2.1, fun h => ⟨⟨show 0 ≤ i + 1 by omega, h, h2, h3⟩, .inl (show i + 1 > i by omega)⟩⟩
  have e3 : Done a b i j (i + 1, j + 1) ↔ i + 1 < a.length ∧ j + 1 < b.length := ⟨fun h => ⟨h.1.2.1, h.1.2.2.2⟩, fun h => ⟨⟨show 0 ≤ i + 1 by omega, h.1, show 0 ≤ j + 1 by omega, h.2⟩, .inl (show i + 1 > i by omega)⟩⟩
  unfold stp at hr
  simp only [e1, e2, e3] at hr
  have hen : (i, j) = enP a b → ¬ (j + 1 < (b.length : Int)) ∧ ¬ (i + 1 < (a.length : Int)) := fun h => by unfold enP at h; injection h with q1 q2; omega
  by_cases c1 : j + 1 < (b.length : Int) <;> by_cases c2 : i + 1 < (a.length : Int) <;> simp only [c1, c2, true_and, false_and, and_false, and_self, if_false] at hr <;> refine ⟨fun _ => ?_, fun _ => ?_, fun _ _ => ?_, ?_, fun h => ?_⟩ <;> (try have := hen h) <;> (revert hr; (repeat' split) <;> intro hr <;> omega)
/-! ### backward -/
theorem rdI_rev {xs : List Int} {i : Int} (h0 : 0 ≤ i) (h1 : i < xs.length) : rdI xs.reverse i = rdI xs ((xs.length : Int) - 1 - i) := by
  obtain ⟨k, rfl⟩ := Int.eq_ofNat_of_zero_le h0
  rw [show (xs.length : Int) - 1 - (k : Int) = ((xs.length - 1 - k : Nat) : Int) by omega, rdI_nat, rdI_nat, List.getD_eq_getElem?_getD, List.getD_eq_getElem?_getD, List.getElem?_reverse (by omega)]
theorem ovC_rev {a b : List Int} {i j : Int} (h0 : 0 ≤ i) (h1 : i < a.length) (h2 : 0 ≤ j) (h3 : j < b.length) : ovC a.reverse b.reverse i j = ovC a b ((a.length : Int) - 1 - i) ((b.length : Int) - 1 - j) := by
  unfold ovC; rw [rdI_rev h0 h1, rdI_rev h2 h3]
theorem rev_ge {a b : List Int} : ∀ (n : Nat) (i j : Int), 0 ≤ i → i < a.length → 0 ≤ j → j < b.length → i + j ≤ n → ovP a b 0 0 + ovC a b i j ≤ ovP a.reverse b.reverse ((a.length : Int) - 1 - i) ((b.length : Int) - 1 - j) + ovP a b i j
  | n, i, j, h0, h1, h2, h3, hn => by
    have la : (a.reverse.length : Int) = a.length := by simp
    have lb : (b.reverse.length : Int) = b.length := by simp
    have hc := ovC_rev (a := a) (b := b) (i := (a.length : Int) - 1 - i) (j := (b.length : Int) - 1 - j) (by omega) (by omega) (by omega) (by omega)
    rw [show (a.length : Int) - 1 - ((a.length : Int) - 1 - i) = i by omega, show (b.length : Int) - 1 - ((b.length : Int) - 1 - j) = j by omega] at hc
    by_cases he : ((a.length : Int) - 1 - i, (b.length : Int) - 1 - j) = enP a.reverse b.reverse
    · have h5 := (ovP_step (a := a.reverse) (b := b.reverse) (i := (a.length : Int) - 1 - i) (j := (b.length : Int) - 1 - j) (by omega) (by omega) (by omega) (by omega)).2.2.2.2 he
      unfold enP at he
      injection he with q1 q2
      rw [show i = 0 by omega, show j = 0 by omega] at h5 hc ⊢
      omega
    · obtain ⟨c1, c2, c3⟩ := nxt_cd (a := a.reverse) (b := b.reverse) (i := (a.length : Int) - 1 - i) (j := (b.length : Int) - 1 - j) ⟨by show 0 ≤ (a.length : Int) - 1 - i; omega, by show (a.length : Int) - 1 - i < _; omega, by show 0 ≤ (b.length : Int) - 1 - j; omega, by show (b.length : Int) - 1 - j < _; omega⟩ he
      have c4 := c1.2
      have c5 := c1.1
      cases n with
      | zero =>
        exfalso
        apply he
        unfold enP
        rw [la, lb, show i = 0 by omega, show j = 0 by omega]; simp
      | succ n =>
        rcases c3 with c3 | c3 | c3 <;> rw [c3] at c4 c5 <;> simp only at c4 c5
        · have ih := rev_ge (a := a) (b := b) n i (j - 1) h0 h1 (by omega) (by omega) (by omega)
          have st := (ovP_step (a := a) (b := b) (i := i) (j := j - 1) h0 h1 (by omega) (by omega)).1 (by omega)
          rw [show (b.length : Int) - 1 - (j - 1) = (b.length : Int) - 1 - j + 1 by omega] at ih
          rw [show j - 1 + 1 = j by omega] at st
          omega
        · have ih := rev_ge (a := a) (b := b) n (i - 1) j (by omega) (by omega) h2 h3 (by omega)
          have st := (ovP_step (a := a) (b := b) (i := i - 1) (j := j) (by omega) (by omega) h2 h3).2.1 (by omega)
          rw [show (a.length : Int) - 1 - (i - 1) = (a.length : Int) - 1 - i + 1 by omega] at ih
          rw [show i - 1 + 1 = i by omega] at st
          omega
        · have ih := rev_ge (a := a) (b := b) n (i - 1) (j - 1) (by omega) (by omega) (by omega) (by omega) (by omega)
          have st := (ovP_step (a := a) (b := b) (i := i - 1) (j := j - 1) (by omega) (by omega) (by omega) (by omega)).2.2.1 (by omega) (by omega)
          rw [show (a.length : Int) - 1 - (i - 1) = (a.length : Int) - 1 - i + 1 by omega, show (b.length : Int) - 1 - (j - 1) = (b.length : Int) - 1 - j + 1 by omega] at ih
          rw [show i - 1 + 1 = i by omega, show j - 1 + 1 = j by omega] at st
          omega
theorem rev_ge0 {a b : List Int} (ha : 1 ≤ a.length) (hb : 1 ≤ b.length) : ovP a b 0 0 ≤ ovP a.reverse b.reverse 0 0 := by
  have h := rev_ge (a := a) (b := b) (a.length + b.length) ((a.length : Int) - 1) ((b.length : Int) - 1) (by omega) (by omega) (by omega) (by omega) (by omega)
  have h2 := (ovP_step (a := a) (b := b) (i := (a.length : Int) - 1) (j := (b.length : Int) - 1) (by omega) (by omega) (by omega) (by omega)).2.2.2.2 rfl
  rw [show (a.length : Int) - 1 - ((a.length : Int) - 1) = 0 by omega, show (b.length : Int) - 1 - ((b.length : Int) - 1) = 0 by omega] at h
  omega
theorem ovP_rev {a b : List Int} (ha : 1 ≤ a.length) (hb : 1 ≤ b.length) : ovP a.reverse b.reverse 0 0 = ovP a b 0 0 := by
  have h1 := rev_ge0 ha hb
  have h2 := rev_ge0 (a := a.reverse) (b := b.reverse) (by simpa using ha) (by simpa using hb)
  rw [List.reverse_reverse, List.reverse_reverse] at h2
  omega
/-! ### repetitions -/
def tlC (x : Int) : List Int → List Int
  | [] => []
  | y :: t => if y = x then tlC y t else y :: tlC y t
def cpt : List Int → List Int
  | [] => []
  | x :: t => x :: tlC x t
theorem cpt_head {x y : Int} {t : List Int} (h : y = x) : tlC x (y :: t) = tlC x t := by subst h; simp [tlC]
theorem cpt_cons {x y : Int} {t : List Int} : cpt (x :: y :: t) = if y = x then cpt (y :: t) else x :: cpt (y :: t) := by
  show x :: (if y = x then tlC y t else y :: tlC y t) = if y = x then y :: tlC y t else x :: y :: tlC y t
  split
  · rename_i h; rw [h]
  · rfl
theorem drop_cons {xs : List Int} {i : Nat} (h : i < xs.length) : xs.drop i = rdI xs (i : Int) :: xs.drop (i + 1) := by
  rw [List.drop_eq_getElem_cons h, rdI_nat, List.getD_eq_getElem?_getD, List.getElem?_eq_getElem h]; rfl
theorem cpt_hd {x : Int} {t : List Int} : (cpt (x :: t)).head? = some x := rfl
theorem zero_iff {a b : List Int} : ∀ (n i j : Nat), i < a.length → j < b.length → (a.length - i) + (b.length - j) ≤ n → (ovP a b (i : Int) (j : Int) = 0 ↔ cpt (a.drop i) = cpt (b.drop j))
  | 0, i, j, hi, hj, hn => by omega
  | n + 1, i, j, hi, hj, hn => by
    have hst := ovP_step (a := a) (b := b) (i := (i : Int)) (j := (j : Int)) (by omega) (by omega) (by omega) (by omega)
    have hcn := ovC_nonneg a b (i : Int) (j : Int)
    have hc0 : ovC a b (i : Int) (j : Int) = 0 ↔ rdI a (i : Int) = rdI b (j : Int) := by unfold ovC; split <;> omega
    have pn := fun i j => ovP_nonneg a b i j
    constructor
    · intro hz
      have hx : rdI a (i : Int) = rdI b (j : Int) := hc0.1 (by omega)
      by_cases he : ((i : Int), (j : Int)) = enP a b
      · unfold enP at he; injection he with q1 q2
        rw [drop_cons hi, drop_cons hj, List.drop_eq_nil_of_le (by omega), List.drop_eq_nil_of_le (by omega), hx]
      · obtain ⟨c1, c2, c3⟩ := nxt_cd (a := a) (b := b) (i := (i : Int)) (j := (j : Int)) ⟨by show (0 : Int) ≤ (i : Int); omega, by show (i : Int) < _; omega, by show (0 : Int) ≤ (j : Int); omega, by show (j : Int) < _; omega⟩ he
        have c4 := c1.2
        have c5 := c1.1
        rcases c3 with c3 | c3 | c3 <;> rw [c3] at c4 c5 <;> simp only at c4 c5
        · have h1 := (zero_iff (a := a) (b := b) n i (j + 1) hi (by omega) (by omega)).1 (by have := pn (i : Int) ((j : Int) + 1); rw [show ((j + 1 : Nat) : Int) = (j : Int) + 1 by omega]; omega)
          rw [drop_cons (xs := b) (show j + 1 < b.length by omega), drop_cons hi] at h1
          rw [drop_cons hj, drop_cons (show j + 1 < b.length by omega), drop_cons hi, cpt_cons]
          have hh : rdI a (i : Int) = rdI b ((j + 1 : Nat) : Int) := by injection h1
          rw [if_pos (by omega)]; exact h1
        · have h1 := (zero_iff (a := a) (b := b) n (i + 1) j (by omega) hj (by omega)).1 (by have := pn ((i : Int) + 1) (j : Int); rw [show ((i + 1 : Nat) : Int) = (i : Int) + 1 by omega]; omega)
          rw [drop_cons (show i + 1 < a.length by omega), drop_cons hj] at h1
          rw [drop_cons hi, drop_cons (show i + 1 < a.length by omega), drop_cons hj, cpt_cons]
          have hh : rdI a ((i + 1 : Nat) : Int) = rdI b (j : Int) := by injection h1
          rw [if_pos (by omega)]; exact h1
        · have h1 := (zero_iff (a := a) (b := b) n (i + 1) (j + 1) (by omega) (by omega) (by omega)).1 (by have := pn ((i : Int) + 1) ((j : Int) + 1); rw [show ((i + 1 : Nat) : Int) = (i : Int) + 1 by omega, show ((j + 1 : Nat) : Int) = (j : Int) + 1 by omega]; omega)
          rw [drop_cons (show i + 1 < a.length by omega), drop_cons (show j + 1 < b.length by omega)] at h1
          rw [drop_cons hi, drop_cons (show i + 1 < a.length by omega), drop_cons hj, drop_cons (show j + 1 < b.length by omega), cpt_cons, cpt_cons, hx]
          have hh : rdI a ((i + 1 : Nat) : Int) = rdI b ((j + 1 : Nat) : Int) := by injection h1
          rw [h1, hh]
    · intro hz
      have hx : rdI a (i : Int) = rdI b (j : Int) := by rw [drop_cons hi, drop_cons hj] at hz; injection hz
      have hc := hc0.2 hx
      have fin : ∀ z : Int, z = 0 → ovP a b (i : Int) (j : Int) ≤ z + ovC a b (i : Int) (j : Int) → ovP a b (i : Int) (j : Int) = 0 := fun z h1 h2 => by have := pn (i : Int) (j : Int); omega
      by_cases ca : i + 1 < a.length ∧ rdI a ((i + 1 : Nat) : Int) = rdI a (i : Int)
      · refine fin _ ((zero_iff (a := a) (b := b) n (i + 1) j (by omega) hj (by omega)).2 ?_) (hst.2.1 (by omega))
        rw [drop_cons hi, drop_cons ca.1, cpt_cons, if_pos ca.2] at hz
        rw [drop_cons ca.1]; exact hz
      · by_cases cb : j + 1 < b.length ∧ rdI b ((j + 1 : Nat) : Int) = rdI b (j : Int)
        · refine fin _ ((zero_iff (a := a) (b := b) n i (j + 1) hi (by omega) (by omega)).2 ?_) (hst.1 (by omega))
          rw [drop_cons hj, drop_cons cb.1, cpt_cons, if_pos cb.2] at hz
          rw [drop_cons cb.1]; exact hz
        · by_cases da : i + 1 < a.length
          · by_cases db : j + 1 < b.length
            · refine fin _ ((zero_iff (a := a) (b := b) n (i + 1) (j + 1) (by omega) (by omega) (by omega)).2 ?_) (hst.2.2.1 (by omega) (by omega))
              rw [drop_cons hi, drop_cons da, drop_cons hj, drop_cons db, cpt_cons, cpt_cons, if_neg (fun h => ca ⟨da, h⟩), if_neg (fun h => cb ⟨db, h⟩)] at hz
              rw [drop_cons da, drop_cons db]; injection hz
            · exfalso
              rw [drop_cons hi, drop_cons da, drop_cons hj, List.drop_eq_nil_of_le (show b.length ≤ j + 1 by omega), cpt_cons, if_neg (fun h => ca ⟨da, h⟩)] at hz
              injection hz with q1 q2
              cases q2
          · by_cases db : j + 1 < b.length
            · exfalso
              rw [drop_cons hi, drop_cons hj, drop_cons db, List.drop_eq_nil_of_le (show a.length ≤ i + 1 by omega), cpt_cons, if_neg (fun h => cb ⟨db, h⟩)] at hz
              injection hz with q1 q2
              cases q2
            · rw [hst.2.2.2.2 (by unfold enP; rw [show (i : Int) = (a.length : Int) - 1 by omega, show (j : Int) = (b.length : Int) - 1 by omega]), hc]
theorem zero_cpt {a b : List Int} (ha : 1 ≤ a.length) (hb : 1 ≤ b.length) : ovP a b 0 0 = 0 ↔ cpt a = cpt b := by
  have := zero_iff (a := a) (b := b) (a.length + b.length) 0 0 (by omega) (by omega) (by omega)
  simpa using this
/-! ### what the way costs -/
def wsum (a b : List Int) : Nat → Int
  | 0 => 0
  | k + 1 => wsum a b k + ovC a b (posN a b k).1 (posN a b k).2
theorem pos_in {a b : List Int} (ha : 1 ≤ a.length) (hb : 1 ≤ b.length) : ∀ k, (∀ k', k' < k → posN a b k' ≠ enP a b) → InP a b (posN a b k) ∧ wsum a b k + ovP a b (posN a b k).1 (posN a b k).2 = ovP a b 0 0 ∧ (k : Int) ≤ (posN a b k).1 + (posN a b k).2
  | 0, _ => ⟨⟨Int.le_refl 0, by show (0 : Int) < _; omega, Int.le_refl 0, by show (0 : Int) < _; omega⟩, by show 0 + ovP a b 0 0 = _; omega, by show (0 : Int) ≤ 0 + 0; omega⟩
  | k + 1, h => by
    obtain ⟨h1, h2, h3⟩ := pos_in ha hb k fun k' hk => h k' (by omega)
    obtain ⟨c1, c2, c3⟩ := nxt_cd (i := (posN a b k).1) (j := (posN a b k).2) h1 (h k (by omega))
    have c4 := c1.2
    refine ⟨c2, ?_, ?_⟩
    · show wsum a b k + ovC a b (posN a b k).1 (posN a b k).2 + ovP a b (nxt a b (posN a b k)).1 (nxt a b (posN a b k)).2 = _
      rw [show nxt a b (posN a b k) = nxt a b ((posN a b k).1, (posN a b k).2) from rfl]
      omega
    · show ((k + 1 : Nat) : Int) ≤ (nxt a b ((posN a b k).1, (posN a b k).2)).1 + (nxt a b ((posN a b k).1, (posN a b k).2)).2
      rcases c3 with c3 | c3 | c3 <;> rw [c3] <;> simp only <;> omega
theorem kN_ok {a b : List Int} (ha : 1 ≤ a.length ∧ a.length ≤ 12) (hb : 1 ≤ b.length ∧ b.length ≤ 12) : posN a b (kN a b) = enP a b ∧ ∀ k', k' < kN a b → posN a b k' ≠ enP a b := by
  have hex : ∃ k, k < 40 ∧ posN a b k = enP a b ∧ ∀ k', k' < k → posN a b k' ≠ enP a b := by
    have key : ∀ n, (∃ k, k < n ∧ posN a b k = enP a b ∧ ∀ k', k' < k → posN a b k' ≠ enP a b) ∨ ∀ k', k' < n → posN a b k' ≠ enP a b := fun n => by
      induction n with
      | zero => exact .inr fun k' h => absurd h (by omega)
      | succ n ih =>
        rcases ih with ⟨k, h1, h2⟩ | h
        · exact .inl ⟨k, by omega, h2⟩
        · by_cases c : posN a b n = enP a b
          · exact .inl ⟨n, by omega, c, h⟩
          · exact .inr fun k' hk => by
              rcases Nat.lt_or_ge k' n with q | q
              · exact h k' q
              · rw [show k' = n by omega]; exact c
    rcases key 40 with h | h
    · exact h
    · exfalso
      obtain ⟨⟨h1, h2, h3, h4⟩, _, h5⟩ := pos_in (a := a) (b := b) ha.1 hb.1 39 fun k' hk => h k' (by omega)
      omega
  obtain ⟨k, h1, h2, h3⟩ := hex
  rw [kN_eq h1 h2 h3]
  exact ⟨h2, h3⟩
theorem wayL_length (a b : List Int) : (wayL a b).length = kN a b + 1 := by simp [wayL]
theorem way_rd {a b : List Int} {k : Nat} (h : k < (wayL a b).length) : rdP (wayL a b) (k : Int) = posN a b k := by
  rw [rdP_getElem h]; simp [wayL]
theorem way_at {a b : List Int} (ha : 1 ≤ a.length ∧ a.length ≤ 12) (hb : 1 ≤ b.length ∧ b.length ≤ 12) {k : Nat} (h : k < (wayL a b).length) : 0 ≤ (rdP (wayL a b) (k : Int)).1 ∧ (rdP (wayL a b) (k : Int)).1 < a.length ∧ 0 ≤ (rdP (wayL a b) (k : Int)).2 ∧ (rdP (wayL a b) (k : Int)).2 < b.length := by
  rw [way_rd h]
  rw [wayL_length] at h
  exact (pos_in ha.1 hb.1 k fun k' hk => (kN_ok ha hb).2 k' (by omega)).1
theorem way_step {a b : List Int} (ha : 1 ≤ a.length ∧ a.length ≤ 12) (hb : 1 ≤ b.length ∧ b.length ≤ 12) {k : Nat} (h : k < (wayL a b).length) (hk : 0 < k) :
    ((rdP (wayL a b) (k : Int)).1 = (rdP (wayL a b) ((k : Int) - 1)).1 ∧ (rdP (wayL a b) (k : Int)).2 = (rdP (wayL a b) ((k : Int) - 1)).2 + 1) ∨ ((rdP (wayL a b) (k : Int)).1 = (rdP (wayL a b) ((k : Int) - 1)).1 + 1 ∧ ((rdP (wayL a b) (k : Int)).2 = (rdP (wayL a b) ((k : Int) - 1)).2 ∨ (rdP (wayL a b) (k : Int)).2 = (rdP (wayL a b) ((k : Int) - 1)).2 + 1)) := by
  obtain ⟨m, rfl⟩ : ∃ m, k = m + 1 := ⟨k - 1, by omega⟩
  rw [show ((m + 1 : Nat) : Int) - 1 = (m : Int) by omega, way_rd h, way_rd (by omega)]
  rw [wayL_length] at h
  have hno : ∀ k', k' < kN a b → posN a b k' ≠ enP a b := (kN_ok ha hb).2
  have h1 := (pos_in ha.1 hb.1 m fun k' hk => hno k' (by omega)).1
  have c3 := (nxt_cd (i := (posN a b m).1) (j := (posN a b m).2) h1 (hno m (by omega))).2.2
  show (((nxt a b ((posN a b m).1, (posN a b m).2)).1 = _ ∧ _) ∨ _)
  rw [show posN a b (m + 1) = nxt a b ((posN a b m).1, (posN a b m).2) from rfl]
  rcases c3 with c3 | c3 | c3 <;> rw [c3] <;> simp
theorem way_sum {a b : List Int} (ha : 1 ≤ a.length ∧ a.length ≤ 12) (hb : 1 ≤ b.length ∧ b.length ≤ 12) : wsum a b (wayL a b).length = ovP a b 0 0 := by
  rw [wayL_length]
  obtain ⟨h1, h2⟩ := kN_ok ha hb
  obtain ⟨⟨i0, i1, i2, i3⟩, h3, _⟩ := pos_in ha.1 hb.1 (kN a b) h2
  show wsum a b (kN a b) + ovC a b (posN a b (kN a b)).1 (posN a b (kN a b)).2 = _
  have := (ovP_step i0 i1 i2 i3).2.2.2.2 h1
  omega
theorem way_bound {a b : List Int} (ha : 1 ≤ a.length ∧ a.length ≤ 12) (hb : 1 ≤ b.length ∧ b.length ≤ 12) (h : ∀ i j, ovC a b i j ≤ 2000) : ∀ k, 0 ≤ wsum a b k ∧ wsum a b k ≤ 2000 * k
  | 0 => ⟨Int.le_refl _, Int.le_refl _⟩
  | k + 1 => by
    have ih := way_bound ha hb h k
    have h1 := h (posN a b k).1 (posN a b k).2
    have h2 := ovC_nonneg a b (posN a b k).1 (posN a b k).2
    show 0 ≤ wsum a b k + ovC a b (posN a b k).1 (posN a b k).2 ∧ wsum a b k + ovC a b (posN a b k).1 (posN a b k).2 ≤ _
    omega
theorem way_wsum {a b : List Int} {k : Nat} (h : k < (wayL a b).length) : wsum a b (k + 1) = wsum a b k + ovC a b (rdP (wayL a b) (k : Int)).1 (rdP (wayL a b) (k : Int)).2 := by rw [way_rd h]; rfl
theorem way_last {a b : List Int} (ha : 1 ≤ a.length ∧ a.length ≤ 12) (hb : 1 ≤ b.length ∧ b.length ≤ 12) : rdP (wayL a b) (((wayL a b).length : Int) - 1) = enP a b := by
  have hl := wayL_length a b
  rw [show ((wayL a b).length : Int) - 1 = ((kN a b : Nat) : Int) by omega, way_rd (by omega)]
  exact (kN_ok ha hb).1
theorem way_first {a b : List Int} : rdP (wayL a b) 0 = (0, 0) := way_rd (k := 0) (by rw [wayL_length]; omega)
/-! ### the library's Compact -/
theorem keep_tl (x : Int) : ∀ l : List Int, ((List.range l.length).filter fun j => decide (l.getD j 0 ≠ (x :: l).getD j 0)).map (fun j => l.getD j 0) = tlC x l
  | [] => rfl
  | y :: t => by
    have ih := keep_tl y t
    rw [List.length_cons, List.range_succ_eq_map]
    have e : ((List.range t.length).map Nat.succ).filter (fun j => decide ((y :: t).getD j 0 ≠ (x :: y :: t).getD j 0)) = ((List.range t.length).filter fun j => decide (t.getD j 0 ≠ (y :: t).getD j 0)).map Nat.succ := by
      rw [List.filter_map]; rfl
    have e2 : (((List.range t.length).filter fun j => decide (t.getD j 0 ≠ (y :: t).getD j 0)).map Nat.succ).map (fun j => (y :: t).getD j 0) = tlC y t := by
      rw [List.map_map, ← ih]; rfl
    rw [tlC]
    by_cases c : y = x
    · rw [if_pos c, List.filter_cons_of_neg (by simpa using c), e, e2]
    · rw [if_neg c, List.filter_cons_of_pos (by simpa using c), List.map_cons, e, e2]; rfl
theorem compact_cpt : ∀ zs : List Int, Lib.compact zs = cpt zs
  | [] => rfl
  | x :: l => by
    show _ = x :: tlC x l
    unfold Lib.compact Lib.compactUpTo
    rw [List.length_cons, List.range_succ_eq_map, List.filter_cons_of_pos (by simp [Lib.keeps]), List.map_cons, List.filter_map, List.map_map, ← keep_tl x l]
    have g : ∀ j, j < l.length + 1 → (x :: l).toArray[j]! = (x :: l).getD j 0 := fun j hj => by simp [List.getD_eq_getElem?_getD, hj]
    congr 1
    have e : (List.range l.length).filter ((Lib.keeps (x :: l).toArray) ∘ Nat.succ) = (List.range l.length).filter fun j => decide (l.getD j 0 ≠ (x :: l).getD j 0) := List.filter_congr fun j hj => by
      have hj' := List.mem_range.1 hj
      simp only [Function.comp, Lib.keeps, Nat.succ_eq_add_one, Nat.add_sub_cancel]
      rw [g _ (by omega), g _ (by omega)]
      simp
    rw [e]
    refine List.map_congr_left fun j hj => ?_
    have hj' := List.mem_range.1 (List.mem_filter.1 hj).1
    show (x :: l).toArray[j + 1]! = _
    rw [g _ (by omega)]; rfl
end Go.Proofs.Ytnnpdgegejklpaa
