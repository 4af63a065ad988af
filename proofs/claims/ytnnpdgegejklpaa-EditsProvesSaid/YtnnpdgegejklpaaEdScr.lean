/- Plain law of scripts: what a script makes of a line, and the script that the grid tells. -/
import Derived.Test.YtnnpdgegejklpaaEdWaysP
import Derived.Test.YtnnpdgegejklpaaSxBytes
namespace Go.Proofs.Ytnnpdgegejklpaa
open Go.RowKit Go.Sx
set_option linter.unusedVariables false
set_option linter.unusedSimpArgs false

/-- An edit that may stand at a place of a line. -/
def okE (a : ByteArray) (t : Nat) (e : Int × Int) : Prop := 0 ≤ e.1 ∧ e.1 ≤ 3 ∧ 0 ≤ e.2 ∧ e.2 ≤ 255 ∧ (e.1 = 0 ∨ e.1 = 2 → e.2 = 0) ∧ (e.1 < 3 → t < a.size) ∧ (e.1 = 1 → bt a t ≠ e.2)
instance (a : ByteArray) (t : Nat) (e : Int × Int) : Decidable (okE a t e) := by unfold okE; infer_instance
/-- What one more edit makes: the bytes, the cost, the place in the line. -/
def stepE (a : ByteArray) (pi po ps : Int) (s : Option (List Int × Int × Nat)) (e : Int × Int) : Option (List Int × Int × Nat) :=
  match s with
  | none => none
  | some (o, c, t) => if okE a t e then some (o ++ (if e.1 = 0 then [bt a t] else if e.1 = 2 then [] else [e.2]), c + priceOf pi po ps e.1, if e.1 < 3 then t + 1 else t) else none
def runE (a : ByteArray) (pi po ps : Int) (st : Option (List Int × Int × Nat)) (s : List (Int × Int)) : Option (List Int × Int × Nat) := s.foldl (stepE a pi po ps) st
theorem runE_none (a : ByteArray) (pi po ps : Int) : ∀ s, runE a pi po ps none s = none
  | [] => rfl
  | e :: s => by show runE a pi po ps none s = none; exact runE_none a pi po ps s
theorem runE_snoc (a : ByteArray) (pi po ps : Int) (st) (s : List (Int × Int)) (e) : runE a pi po ps st (s ++ [e]) = stepE a pi po ps (runE a pi po ps st s) e := by simp [runE]
theorem runE_cut {a : ByteArray} {pi po ps : Int} {st} {s : List (Int × Int)} {n : Nat} (h : runE a pi po ps st (s.take n) = none) : runE a pi po ps st s = none := by
  have : runE a pi po ps st s = runE a pi po ps (runE a pi po ps st (s.take n)) (s.drop n) := by
    unfold runE; rw [← List.foldl_append, List.take_append_drop]
  rw [this, h, runE_none]
abbrev st0 : Option (List Int × Int × Nat) := some ([], 0, 0)
theorem runE_bounds {a : ByteArray} {pi po ps : Int} (hp : okP pi po ps) : ∀ (s : List (Int × Int)) (o c t), runE a pi po ps st0 s = some (o, c, t) → o.length ≤ s.length ∧ 0 ≤ c ∧ c ≤ 9 * (s.length : Int) ∧ t ≤ a.size ∧ t ≤ s.length ∧ ∀ n ∈ o, 0 ≤ n ∧ n ≤ 255 := fun s =>
  snocInd (p := fun s => ∀ o c t, runE a pi po ps st0 s = some (o, c, t) → o.length ≤ s.length ∧ 0 ≤ c ∧ c ≤ 9 * (s.length : Int) ∧ t ≤ a.size ∧ t ≤ s.length ∧ ∀ n ∈ o, 0 ≤ n ∧ n ≤ 255)
    (fun o c t h => by cases h; simp) (fun s e ih o c t h => by
      rw [runE_snoc] at h
      cases hr : runE a pi po ps st0 s with
      | none => rw [hr] at h; cases h
      | some z =>
        obtain ⟨o', c', t'⟩ := z
        obtain ⟨i1, i2, i3, i4, i5, i6⟩ := ih _ _ _ hr
        rw [hr] at h
        simp only [stepE] at h
        split at h
        · rename_i hg
          obtain ⟨g1, g2, g3, g4, g5, g6, g7⟩ := hg
          have hpr := price_range (k := e.1) hp.1 hp.2.1 hp.2.2
          simp only [Option.some.injEq, Prod.mk.injEq] at h
          obtain ⟨rfl, rfl, rfl⟩ := h
          have hbt := bt_range a t'
          refine ⟨?_, by omega, by simp; omega, ?_, ?_, ?_⟩
          · simp only [List.length_append, List.length_cons, List.length_nil]
            (repeat' split) <;> simp <;> omega
          · split
            · have := g6 (by assumption); omega
            · exact i4
          · simp only [List.length_append, List.length_cons, List.length_nil]; split <;> omega
          · intro n hn
            rcases List.mem_append.1 hn with hn | hn
            · exact i6 n hn
            · split at hn
              · simp at hn; omega
              · split at hn
                · simp at hn
                · simp at hn; omega
        · cases h) s
/-- The first bytes of a line, as numbers. -/
def firstB (b : ByteArray) (j : Nat) : List Int := (List.range j).map fun k : Nat => bt b (k : Int)
theorem firstB_len (b : ByteArray) (j : Nat) : (firstB b j).length = j := by simp [firstB]
theorem firstB_succ (b : ByteArray) (j : Nat) : firstB b (j + 1) = firstB b j ++ [bt b (j : Int)] := by simp [firstB, List.range_succ]
theorem bytes_ext {a b : ByteArray} (hs : a.size = b.size) (h : ∀ k : Nat, k < a.size → bt a k = bt b k) : a = b := by
  apply ByteArray.ext
  apply Array.ext
  · exact hs
  · intro k h1 h2
    have h1' : k < a.size := h1
    have h2' : k < b.size := h2
    have := h k h1'
    unfold bt at this
    simp only [Int.toNat_natCast] at this
    rw [dif_pos h1', dif_pos h2'] at this
    apply UInt8.toNat.inj
    exact_mod_cast this
theorem strOf_first (b : ByteArray) : strOf (firstB b b.size) = b := by
  refine bytes_ext (by rw [strOf_size, firstB_len]) fun k hk => ?_
  rw [strOf_size, firstB_len] at hk
  rw [strOf_bt _ (fun n hn => by
    obtain ⟨k, _, rfl⟩ := List.mem_map.1 hn
    exact bt_range _ _) k (by rw [firstB_len]; exact hk)]
  unfold firstB
  rw [rdI_map hk]
/-- An edge with the least cost is the last step of a script with the least cost. -/
theorem step_edge {a b : ByteArray} {pi po ps : Int} {i j : Nat} {x} (ha : i ≤ a.size) (hb : j ≤ b.size) (hx : x ∈ edges a b i j) (he : edgeC a b pi po ps x = D a b pi po ps i j) :
    stepE a pi po ps (some (firstB b x.2.1.toNat, D a b pi po ps x.1.toNat x.2.1.toNat, x.1.toNat)) (x.2.2.1, x.2.2.2) = some (firstB b j, D a b pi po ps i j, i) := by
  unfold edgeC at he
  rw [← he]
  unfold edges at hx
  simp only [List.mem_append] at hx
  have hbt := bt_range
  rcases hx with (hx | hx) | hx
  · split at hx
    · split at hx
      · rename_i h1 h2
        obtain ⟨i', rfl⟩ : ∃ i', i = i' + 1 := ⟨i - 1, by omega⟩
        obtain ⟨j', rfl⟩ : ∃ j', j = j' + 1 := ⟨j - 1, by omega⟩
        have t1 : ((i' + 1 : Nat) : Int) - 1 = i' := by omega
        have t2 : ((j' + 1 : Nat) : Int) - 1 = j' := by omega
        rw [t1, t2] at hx
        simp only [List.mem_singleton] at hx
        split at hx
        · rename_i hc
          subst hx
          simp [stepE, okE, firstB_succ, hc]; omega
        · rename_i hc
          subst hx
          have := hbt b j'
          simp [stepE, okE, firstB_succ, hc]; omega
      · cases hx
    · cases hx
  · split at hx
    · obtain ⟨i', rfl⟩ : ∃ i', i = i' + 1 := ⟨i - 1, by omega⟩
      have t1 : ((i' + 1 : Nat) : Int) - 1 = i' := by omega
      rw [t1] at hx
      simp only [List.mem_singleton] at hx
      subst hx
      simp [stepE, okE]; omega
    · cases hx
  · split at hx
    · obtain ⟨j', rfl⟩ : ∃ j', j = j' + 1 := ⟨j - 1, by omega⟩
      have t2 : ((j' + 1 : Nat) : Int) - 1 = j' := by omega
      rw [t2] at hx
      simp only [List.mem_singleton] at hx
      subst hx
      have := hbt b j'
      simp [stepE, okE, firstB_succ]; omega
    · cases hx
theorem edge_least (a b : ByteArray) {pi po ps : Int} (hp : okP pi po ps) (i j : Nat) (h : i + j ≠ 0) : ∃ x ∈ edges a b i j, edgeC a b pi po ps x = D a b pi po ps i j := by
  have hb := best_edges a b hp.1 hp.2.1 hp.2.2 i j
  have hgen : ∀ (xs : List (Int × Int × Int × Int)), (∀ x ∈ xs, 0 ≤ edgeC a b pi po ps x) → bestF (edgeC a b pi po ps) xs = -1 ∨ ∃ x ∈ xs, edgeC a b pi po ps x = bestF (edgeC a b pi po ps) xs := fun xs =>
    snocInd (p := fun xs => (∀ x ∈ xs, 0 ≤ edgeC a b pi po ps x) → bestF (edgeC a b pi po ps) xs = -1 ∨ ∃ x ∈ xs, edgeC a b pi po ps x = bestF (edgeC a b pi po ps) xs) (fun _ => .inl rfl) (fun xs x ih h => by
      right
      have e : bestF (edgeC a b pi po ps) (xs ++ [x]) = if bestF (edgeC a b pi po ps) xs < 0 ∨ edgeC a b pi po ps x < bestF (edgeC a b pi po ps) xs then edgeC a b pi po ps x else bestF (edgeC a b pi po ps) xs := by
        unfold bestF; rw [List.foldl_append]; rfl
      rw [e]
      split
      · exact ⟨x, by simp, rfl⟩
      · rename_i hn
        rcases ih (fun y hy => h y (by simp [hy])) with h1 | ⟨y, hy, h1⟩
        · exact absurd (.inl (by omega)) hn
        · exact ⟨y, by simp [hy], h1⟩) xs
  rcases hgen (edges a b i j) (fun x hx => (edgeC_range hp.1 hp.2.1 hp.2.2 hx).1) with h1 | ⟨x, hx, h1⟩
  · exfalso
    have hne : edges a b i j ≠ [] := by
      unfold edges
      rcases i with _ | i <;> rcases j with _ | j
      · omega
      all_goals simp
      all_goals omega
    cases he : edges a b i j with
    | nil => exact hne he
    | cons x xs =>
      have hpos : ∀ (xs : List (Int × Int × Int × Int)) (s : Int), 0 ≤ s → (∀ x ∈ xs, 0 ≤ edgeC a b pi po ps x) → 0 ≤ xs.foldl (fun b_ x => if b_ < 0 ∨ edgeC a b pi po ps x < b_ then edgeC a b pi po ps x else b_) s := by
        intro xs
        induction xs with
        | nil => intro s hs _; exact hs
        | cons y ys ih => intro s hs h; exact ih _ (by have := h y (by simp); show 0 ≤ (if s < 0 ∨ edgeC a b pi po ps y < s then edgeC a b pi po ps y else s); split <;> omega) fun x hx => h x (by simp [hx])
      have hall : ∀ y ∈ x :: xs, 0 ≤ edgeC a b pi po ps y := fun y hy => (edgeC_range hp.1 hp.2.1 hp.2.2 (he ▸ hy)).1
      have := hpos xs (edgeC a b pi po ps x) (hall x (by simp)) (fun y hy => hall y (by simp [hy]))
      rw [he] at h1
      simp only [bestF, List.foldl_cons] at h1
      rw [if_pos (.inl (by decide))] at h1
      omega
  · refine ⟨x, hx, ?_⟩
    have := (edgeC_range hp.1 hp.2.1 hp.2.2 hx).1
    rw [h1, ← hb]; omega
/-- What stands in a list backwards leads from a place to the end. -/
def ScrInv (a b : ByteArray) (pi po ps : Int) (i j : Nat) (l : List (Int × Int)) : Prop :=
  runE a pi po ps (some (firstB b j, D a b pi po ps i j, i)) l.reverse = some (firstB b b.size, D a b pi po ps a.size b.size, a.size) ∧ l.length + i + j ≤ a.size + b.size
theorem ScrInv.start (a b : ByteArray) (pi po ps : Int) : ScrInv a b pi po ps a.size b.size [] := ⟨rfl, by simp⟩
theorem ScrInv.step {a b : ByteArray} {pi po ps : Int} {i j : Nat} {l x} (h : ScrInv a b pi po ps i j l) (ha : i ≤ a.size) (hb : j ≤ b.size) (hx : x ∈ edges a b i j) (he : edgeC a b pi po ps x = D a b pi po ps i j) :
    ScrInv a b pi po ps x.1.toNat x.2.1.toNat (l ++ [(x.2.2.1, x.2.2.2)]) := by
  obtain ⟨q1, q2, q3, q4, q5⟩ := edges_mem hx (by omega) (by omega)
  refine ⟨?_, by have := h.2; simp only [List.length_append, List.length_cons, List.length_nil]; omega⟩
  rw [List.reverse_append]
  simp only [List.reverse_cons, List.reverse_nil, List.nil_append, List.singleton_append]
  show runE a pi po ps (stepE a pi po ps _ _) l.reverse = _
  rw [step_edge ha hb hx he]
  exact h.1
theorem ScrInv.done {a b : ByteArray} {pi po ps : Int} {l} (h : ScrInv a b pi po ps 0 0 l) : runE a pi po ps st0 l.reverse = some (firstB b b.size, D a b pi po ps a.size b.size, a.size) := by
  have := h.1
  have e : D a b pi po ps 0 0 = 0 := by unfold D; rw [EM.C_00]
  rw [e] at this
  exact this
/-- What the reference says of a script. -/
def doneR (a : ByteArray) (r : Option (List Int × Int × Nat)) : ByteArray × Int × Bool :=
  match r with
  | none => (ByteArray.empty, 0, false)
  | some (o, c, t) => (strOf o, c, decide ((t : Int) = (a.size : Int)))
def applyR (a : ByteArray) (r : Option (List Int × Int × Nat)) : ByteArray × Bool :=
  match r with
  | none => (ByteArray.empty, false)
  | some (o, c, t) => (strOf o, decide (t = a.size))
/-- What is left of a line. -/
def sufx (a : ByteArray) (n : Nat) : ByteArray := a.extract n a.size
theorem sufx_zero (a : ByteArray) : sufx a 0 = a := by unfold sufx; simp
theorem sufx_size (a : ByteArray) (n : Nat) : (sufx a n).size = a.size - n := by unfold sufx; simp
theorem sufx_bt {a : ByteArray} {n : Nat} (h : n < a.size) : bt (sufx a n) 0 = bt a n := by
  have h2 : (0 : Int).toNat < (sufx a n).size := by rw [sufx_size]; simp; omega
  unfold bt
  rw [dif_pos h2, dif_pos (by simpa using h)]
  unfold sufx
  simp [ByteArray.getElem_extract]
theorem sufx_next (a : ByteArray) (n : Nat) : (sufx a n).extract 1 (sufx a n).size = sufx a (n + 1) := by
  rw [sufx_size]
  unfold sufx
  rw [ByteArray.extract_extract]
  congr 1 <;> omega
theorem sufx_nil {a : ByteArray} {n : Nat} (h : n ≤ a.size) : ((sufx a n).toList == ByteArray.empty.toList) = decide (n = a.size) := by
  rw [Bool.eq_iff_iff, beq_iff_eq, decide_eq_true_iff, ByteArray.toList_eq, ByteArray.toList_eq]
  have hs := sufx_size a n
  have hl : (sufx a n).data.toList.length = a.size - n := by rw [← hs]; simp
  constructor
  · intro h'; rw [h'] at hl; simp at hl; omega
  · intro h'; exact List.length_eq_zero_iff.1 (by omega)
end Go.Proofs.Ytnnpdgegejklpaa
