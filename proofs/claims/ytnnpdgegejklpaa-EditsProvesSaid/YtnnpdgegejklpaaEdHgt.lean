/- Plain law of heights: what proves the cost. -/
import Derived.Test.YtnnpdgegejklpaaEdScr
import Derived.Test.YtnnpdgegejklpaaSxRows
namespace Go.Proofs.Ytnnpdgegejklpaa
open Go.RowKit Go.Sx
set_option linter.unusedVariables false
set_option linter.unusedSimpArgs false
/-- A height, and the price of both bytes. -/
def ht (hs : List (List Int)) (i j : Nat) : Int := rdI (rdR hs (i : Int)) (j : Int)
def prB (a b : ByteArray) (ps : Int) (i j : Nat) : Int := if bt a (i : Int) = bt b (j : Int) then 0 else ps
/-- The rows are as long as they must be, and the heights within bounds. -/
def shapeH (a b : ByteArray) (hs : List (List Int)) : Prop := hs.length = a.size + 1 ∧ ∀ r ∈ hs, r.length = b.size + 1 ∧ ∀ x ∈ r, -1000 ≤ x ∧ x ≤ 1000
def stepH (a b : ByteArray) (pi po ps : Int) (hs : List (List Int)) (i j : Nat) : Prop :=
  (i < a.size → ht hs (i + 1) j ≤ ht hs i j + po) ∧ (j < b.size → ht hs i (j + 1) ≤ ht hs i j + pi) ∧ (i < a.size → j < b.size → ht hs (i + 1) (j + 1) ≤ ht hs i j + prB a b ps i j)
def HOK (a b : ByteArray) (pi po ps : Int) (hs : List (List Int)) : Prop :=
  shapeH a b hs ∧ (∀ i j : Nat, i ≤ a.size → j ≤ b.size → stepH a b pi po ps hs i j) ∧ ht hs 0 0 = 0
/-- The same, told of the edits that lead to a place. -/
def edgeH (a b : ByteArray) (pi po ps : Int) (hs : List (List Int)) (i j : Nat) (x : Int × Int × Int × Int) : Prop := ht hs i j ≤ rdI (rdR hs x.1) x.2.1 + priceOf pi po ps x.2.2.1
theorem steps_edges {a b : ByteArray} {pi po ps : Int} {hs : List (List Int)} : (∀ i j : Nat, i ≤ a.size → j ≤ b.size → stepH a b pi po ps hs i j) ↔ ∀ i j : Nat, i ≤ a.size → j ≤ b.size → ∀ x ∈ edges a b (i : Int) (j : Int), edgeH a b pi po ps hs i j x := by
  constructor
  · intro h i j hi hj x hx
    unfold edges at hx
    simp only [List.mem_append] at hx
    rcases hx with (hx | hx) | hx
    · split at hx
      · split at hx
        · obtain ⟨i', rfl⟩ : ∃ i', i = i' + 1 := ⟨i - 1, by omega⟩
          obtain ⟨j', rfl⟩ : ∃ j', j = j' + 1 := ⟨j - 1, by omega⟩
          have t1 : ((i' + 1 : Nat) : Int) - 1 = i' := by omega
          have t2 : ((j' + 1 : Nat) : Int) - 1 = j' := by omega
          rw [t1, t2] at hx
          have := (h i' j' (by omega) (by omega)).2.2 (by omega) (by omega)
          simp only [List.mem_singleton] at hx
          unfold prB at this
          split at hx
          · rename_i hc
            rw [if_pos hc] at this
            subst hx
            exact this
          · rename_i hc
            rw [if_neg hc] at this
            subst hx
            exact this
        · cases hx
      · cases hx
    · split at hx
      · obtain ⟨i', rfl⟩ : ∃ i', i = i' + 1 := ⟨i - 1, by omega⟩
        have t1 : ((i' + 1 : Nat) : Int) - 1 = i' := by omega
        rw [t1] at hx
        have := (h i' j (by omega) (by omega)).1 (by omega)
        simp only [List.mem_singleton] at hx
        subst hx
        exact this
      · cases hx
    · split at hx
      · obtain ⟨j', rfl⟩ : ∃ j', j = j' + 1 := ⟨j - 1, by omega⟩
        have t2 : ((j' + 1 : Nat) : Int) - 1 = j' := by omega
        rw [t2] at hx
        have := (h i j' (by omega) (by omega)).2.1 (by omega)
        simp only [List.mem_singleton] at hx
        subst hx
        exact this
      · cases hx
  · intro h i j hi hj
    refine ⟨fun h1 => ?_, fun h1 => ?_, fun h1 h2 => ?_⟩
    · have t1 : ((i + 1 : Nat) : Int) - 1 = i := by omega
      exact h (i + 1) j (by omega) hj ((i : Int), (j : Int), 2, 0) (by
        unfold edges; rw [t1]; refine List.mem_append_left _ (List.mem_append_right _ ?_); rw [if_pos (by omega)]; simp)
    · have t2 : ((j + 1 : Nat) : Int) - 1 = j := by omega
      exact h i (j + 1) hi (by omega) ((i : Int), (j : Int), 3, bt b (j : Int)) (by
        unfold edges; rw [t2]; refine List.mem_append_right _ ?_; rw [if_pos (by omega)]; simp)
    · have t1 : ((i + 1 : Nat) : Int) - 1 = i := by omega
      have t2 : ((j + 1 : Nat) : Int) - 1 = j := by omega
      by_cases hc : bt a (i : Int) = bt b (j : Int)
      · have := h (i + 1) (j + 1) (by omega) (by omega) ((i : Int), (j : Int), 0, 0) (by
          unfold edges; rw [t1, t2]; refine List.mem_append_left _ (List.mem_append_left _ ?_); rw [if_pos (by omega), if_pos (by omega), if_pos hc]; simp)
        unfold prB; rw [if_pos hc]; exact this
      · have := h (i + 1) (j + 1) (by omega) (by omega) ((i : Int), (j : Int), 1, bt b (j : Int)) (by
          unfold edges; rw [t1, t2]; refine List.mem_append_left _ (List.mem_append_left _ ?_); rw [if_pos (by omega), if_pos (by omega), if_neg hc]; simp)
        unfold prB; rw [if_neg hc]; exact this
theorem HOK.le {a b : ByteArray} {pi po ps : Int} {hs : List (List Int)} (h : HOK a b pi po ps hs) : ∀ (n i j : Nat), i + j ≤ n → i ≤ a.size → j ≤ b.size → ht hs i j ≤ D a b pi po ps i j := by
  obtain ⟨_, hst, h0⟩ := h
  intro n
  induction n with
  | zero =>
    intro i j hn _ _
    obtain ⟨rfl, rfl⟩ : i = 0 ∧ j = 0 := by omega
    unfold D; rw [EM.C_00, h0]; exact Int.le_refl _
  | succ n ih =>
    intro i j hn hi hj
    by_cases hz : i + j = 0
    · exact ih i j (by omega) hi hj
    rcases EM.C_last (fun k : Nat => bt a (k : Int)) (fun k : Nat => bt b (k : Int)) pi po ps i j hz with ⟨i', rfl, e⟩ | ⟨j', rfl, e⟩ | ⟨i', j', rfl, rfl, e⟩
    · have h1 := (hst i' j (by omega) hj).1 (by omega)
      have h2 := ih i' j (by omega) (by omega) hj
      unfold D at h2 ⊢; rw [e]; omega
    · have h1 := (hst i j' hi (by omega)).2.1 (by omega)
      have h2 := ih i j' (by omega) hi (by omega)
      unfold D at h2 ⊢; rw [e]; omega
    · have h1 := (hst i' j' (by omega) (by omega)).2.2 (by omega) (by omega)
      have h2 := ih i' j' (by omega) (by omega) (by omega)
      unfold prB at h1
      unfold D at h2 ⊢; rw [e]
      split at h1
      · rename_i hc; rw [if_pos hc]; omega
      · rename_i hc; rw [if_neg hc]; omega
/-- The table of least costs. -/
def tabD (a b : ByteArray) (pi po ps : Int) : List (List Int) := (List.range (a.size + 1)).map fun i : Nat => tabRow (D a b pi po ps) (b.size + 1) i
theorem tabD_len (a b : ByteArray) (pi po ps : Int) : (tabD a b pi po ps).length = a.size + 1 := by simp [tabD]
theorem tabD_rd {a b : ByteArray} {pi po ps : Int} {i : Nat} (h : i ≤ a.size) : rdR (tabD a b pi po ps) (i : Int) = tabRow (D a b pi po ps) (b.size + 1) i := by
  rw [rdR_getElem (by rw [tabD_len]; omega)]; simp [tabD]
theorem tabD_ht {a b : ByteArray} {pi po ps : Int} {i j : Nat} (hi : i ≤ a.size) (hj : j ≤ b.size) : ht (tabD a b pi po ps) i j = D a b pi po ps i j := by
  unfold ht; rw [tabD_rd hi]; unfold tabRow; rw [rdI_map (by omega)]
theorem tabD_ok {a b : ByteArray} {pi po ps : Int} (hp : okP pi po ps) (ha : a.size ≤ 12) (hb : b.size ≤ 12) : HOK a b pi po ps (tabD a b pi po ps) := by
  refine ⟨⟨tabD_len .., fun r hr => ?_⟩, fun i j hi hj => ⟨fun h => ?_, fun h => ?_, fun h h' => ?_⟩, ?_⟩
  · obtain ⟨i, hi, rfl⟩ := List.mem_map.1 hr
    refine ⟨by simp [tabRow], fun x hx => ?_⟩
    obtain ⟨j, hj, rfl⟩ := List.mem_map.1 hx
    have := D_range (a := a) (b := b) hp.1 hp.2.1 hp.2.2 i j
    simp at hi hj
    omega
  · rw [tabD_ht (by omega) hj, tabD_ht hi hj]; exact EM.C_out ..
  · rw [tabD_ht hi (by omega), tabD_ht hi hj]; exact EM.C_in ..
  · rw [tabD_ht (by omega) (by omega), tabD_ht hi hj]; exact EM.C_both ..
  · rw [tabD_ht (Nat.zero_le _) (Nat.zero_le _)]; unfold D; rw [EM.C_00]
theorem cut_rows {hs : List (List Int)} {a b : ByteArray} (ha : a.size ≤ 12) (hb : b.size ≤ 12) (h : shapeH a b hs) : (hs.take 16).map (·.take 16) = hs := by
  rw [List.take_of_length_le (by have := h.1; omega)]
  exact (List.map_congr_left fun r hr => List.take_of_length_le (by have := (h.2 r hr).1; omega)).trans (List.map_id hs)
theorem cut_shape {hs : List (List Int)} {a b : ByteArray} (ha : a.size ≤ 12) (hb : b.size ≤ 12) (h : shapeH a b ((hs.take 16).map (·.take 16))) : (hs.take 16).map (·.take 16) = hs := by
  have h1 := h.1
  simp only [List.length_map, List.length_take] at h1
  have e1 : hs.take 16 = hs := List.take_of_length_le (by omega)
  rw [e1] at h ⊢
  refine (List.map_congr_left fun r hr => List.take_of_length_le ?_).trans (List.map_id hs)
  have := (h.2 (r.take 16) (List.mem_map.2 ⟨r, hr, rfl⟩)).1
  simp only [List.length_take] at this
  omega
theorem cut_iff {hs : List (List Int)} {a b : ByteArray} {pi po ps : Int} (ha : a.size ≤ 12) (hb : b.size ≤ 12) : HOK a b pi po ps ((hs.take 16).map (·.take 16)) ↔ HOK a b pi po ps hs := by
  constructor
  · intro h; rw [cut_shape ha hb h.1] at h; exact h
  · intro h; rw [cut_rows ha hb h.1]; exact h
/-! ### a script's cost is no less -/
theorem C_congr (x y y' : Nat → Int) (a b c : Int) : ∀ (n i j : Nat), i + j ≤ n → (∀ k, k < j → y k = y' k) → EM.C x y a b c i j = EM.C x y' a b c i j := by
  intro n
  induction n with
  | zero =>
    intro i j h _
    obtain ⟨rfl, rfl⟩ : i = 0 ∧ j = 0 := by omega
    rw [EM.C_00, EM.C_00]
  | succ n ih =>
    intro i j h hy
    rcases i with _ | i <;> rcases j with _ | j
    · rw [EM.C_00, EM.C_00]
    · rw [EM.C_0s, EM.C_0s, ih 0 j (by omega) fun k hk => hy k (by omega)]
    · rw [EM.C_s0, EM.C_s0, ih i 0 (by omega) hy]
    · rw [EM.C_ss, EM.C_ss, ih i j (by omega) fun k hk => hy k (by omega), ih i (j + 1) (by omega) hy, ih (i + 1) j (by omega) fun k hk => hy k (by omega), hy j (by omega)]
theorem script_ge {a : ByteArray} {pi po ps : Int} (hp : okP pi po ps) (s : List (Int × Int)) : ∀ o c t, runE a pi po ps st0 s = some (o, c, t) → EM.C (fun k : Nat => bt a (k : Int)) (fun k : Nat => rdI o (k : Int)) pi po ps t o.length ≤ c :=
  snocInd (p := fun s => ∀ o c t, runE a pi po ps st0 s = some (o, c, t) → EM.C (fun k : Nat => bt a (k : Int)) (fun k : Nat => rdI o (k : Int)) pi po ps t o.length ≤ c)
    (fun o c t h => by cases h; simp only [List.length_nil]; rw [EM.C_00]; exact Int.le_refl _) (fun s e ih o c t h => by
      rw [runE_snoc] at h
      cases hr : runE a pi po ps st0 s with
      | none => rw [hr] at h; cases h
      | some z =>
        obtain ⟨o', c', t'⟩ := z
        have hi := ih _ _ _ hr
        rw [hr] at h
        simp only [stepE] at h
        split at h
        · rename_i hg
          obtain ⟨g1, g2, g3, g4, g5, g6, g7⟩ := hg
          simp only [Option.some.injEq, Prod.mk.injEq] at h
          obtain ⟨rfl, rfl, rfl⟩ := h
          have he0 : ∀ u : Int, rdI (o' ++ [u]) ((o'.length : Nat) : Int) = u := fun u => by rw [rdI_snoc, if_pos rfl]
          have hsn : ∀ u : Int, ∀ k, k < o'.length → rdI (o' ++ [u]) ((k : Nat) : Int) = rdI o' ((k : Nat) : Int) := fun u k hk => by rw [rdI_snoc, if_neg (by omega)]
          rcases (show e.1 = 0 ∨ e.1 = 1 ∨ e.1 = 2 ∨ e.1 = 3 by omega) with e1 | e1 | e1 | e1
          · simp only [e1]
            have h1 := EM.C_both (fun k : Nat => bt a (k : Int)) (fun k : Nat => rdI (o' ++ [bt a t']) (k : Int)) pi po ps t' o'.length
            rw [C_congr _ _ (fun k : Nat => rdI o' (k : Int)) pi po ps _ t' o'.length (Nat.le_refl _) (hsn _)] at h1
            simp only [he0, if_true] at h1
            simp [priceOf]
            omega
          · simp only [e1]
            have h1 := EM.C_both (fun k : Nat => bt a (k : Int)) (fun k : Nat => rdI (o' ++ [e.2]) (k : Int)) pi po ps t' o'.length
            rw [C_congr _ _ (fun k : Nat => rdI o' (k : Int)) pi po ps _ t' o'.length (Nat.le_refl _) (hsn _)] at h1
            simp only [he0, if_true] at h1
            rw [if_neg (g7 e1)] at h1
            simp [priceOf]
            omega
          · simp only [e1]
            have h1 := EM.C_out (fun k : Nat => bt a (k : Int)) (fun k : Nat => rdI o' (k : Int)) pi po ps t' o'.length
            simp [priceOf]
            omega
          · simp only [e1]
            have h1 := EM.C_in (fun k : Nat => bt a (k : Int)) (fun k : Nat => rdI (o' ++ [e.2]) (k : Int)) pi po ps t' o'.length
            rw [C_congr _ _ (fun k : Nat => rdI o' (k : Int)) pi po ps _ t' o'.length (Nat.le_refl _) (hsn _)] at h1
            simp [priceOf]
            omega
        · cases h) s
theorem script_ge' {a b : ByteArray} {pi po ps : Int} (hp : okP pi po ps) {s : List (Int × Int)} {o c t} (h : runE a pi po ps st0 s = some (o, c, t)) (ht : t = a.size) (hb : strOf o = b) : D a b pi po ps a.size b.size ≤ c := by
  have h1 := script_ge hp s o c t h
  have h2 := (runE_bounds hp s o c t h).2.2.2.2.2
  subst ht
  have hl : b.size = o.length := by rw [← hb, strOf_size]
  unfold D
  rw [hl, C_congr _ _ (fun k : Nat => rdI o (k : Int)) pi po ps _ _ _ (Nat.le_refl _) fun k hk => by rw [← hb]; exact strOf_bt o h2 k hk]
  exact h1
theorem toList_eq {a b : ByteArray} : (a.toList == b.toList) = decide (a = b) := by
  rw [Bool.eq_iff_iff, beq_iff_eq, decide_eq_true_iff, ByteArray.toList_eq, ByteArray.toList_eq]
  constructor
  · intro h
    have : a.data = b.data := Array.toList_inj.1 h
    cases a; cases b; simp_all
  · rintro rfl; rfl
/-- What Check says of a script. -/
def chkR (a b : ByteArray) (r : Option (List Int × Int × Nat)) : Int × Bool :=
  match r with
  | none => (0, false)
  | some (o, c, t) => if t = a.size ∧ strOf o = b then (c, true) else (0, false)
instance (a b : ByteArray) (hs : List (List Int)) : Decidable (shapeH a b hs) := by unfold shapeH; infer_instance
open Classical in
noncomputable def hgtR (a b : ByteArray) (pi po ps : Int) (hs : List (List Int)) : Int × Bool := if HOK a b pi po ps hs then (ht hs a.size b.size, true) else (0, false)
theorem hgtR_t {a b : ByteArray} {pi po ps : Int} {hs : List (List Int)} (h : HOK a b pi po ps hs) : hgtR a b pi po ps hs = (ht hs a.size b.size, true) := by unfold hgtR; rw [if_pos h]
theorem hgtR_f {a b : ByteArray} {pi po ps : Int} {hs : List (List Int)} (h : ¬ HOK a b pi po ps hs) : hgtR a b pi po ps hs = (0, false) := by unfold hgtR; rw [if_neg h]
end Go.Proofs.Ytnnpdgegejklpaa
