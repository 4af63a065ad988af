/- The grid of least costs: what lies where, in plain Lean. -/
import Derived.Test.YtnnpdgegejklpaaEdA
import Derived.Test.YtnnpdgegejklpaaEdB
import Derived.Test.YtnnpdgegejklpaaEditsMath
import Derived.Test.YtnnpdgegejklpaaSxF
namespace Go.Proofs.Ytnnpdgegejklpaa
open Go.RowKit Go.Sx
set_option linter.unusedVariables false
set_option linter.unusedSimpArgs false

/-- The least cost of making the first j bytes of b out of the first i of a. -/
def D (a b : ByteArray) (pi po ps : Int) (i j : Nat) : Int := EM.C (fun k => bt a k) (fun k => bt b k) pi po ps i j
def rowO (xs : List Int) : Obj := .cells (xs.map (Value.int .i64)).toArray 3 (0, 0)
def rowV (n : Nat) (b : Nat) : Value := .slice (some ⟨b, 0, none⟩) n n
def gridO (a b : ByteArray) (pi po ps : Int) (v : Value) : Obj := .cells [.string a, .string b, .int .i64 pi, .int .i64 po, .int .i64 ps, v].toArray 99 (0, 0)
def tabRow (f : Nat → Nat → Int) (M i : Nat) : List Int := (List.range M).map (f i)
def curRow (f : Nat → Nat → Int) (M i j : Nat) : List Int := (List.range j).map (f i) ++ List.replicate (M - j) 0
def rowsM (f : Nat → Nat → Int) (M : Nat) (Bs : List Nat) : List (Nat × Obj) := Bs.mapIdx fun i b => (b, rowO (tabRow f M i))

theorem curRow_zero (f : Nat → Nat → Int) (M i : Nat) : curRow f M i 0 = List.replicate M 0 := by simp [curRow]
theorem curRow_full (f : Nat → Nat → Int) (M i : Nat) : curRow f M i M = tabRow f M i := by simp [curRow, tabRow]
theorem curRow_len (f : Nat → Nat → Int) (M i j : Nat) (h : j ≤ M) : (curRow f M i j).length = M := by simp [curRow]; omega
theorem curRow_set (f : Nat → Nat → Int) (M i j : Nat) (h : j < M) : (curRow f M i j).set j (f i j) = curRow f M i (j + 1) := by
  unfold curRow
  rw [List.range_succ, List.map_append, List.map_cons, List.map_nil, List.set_append_right _ _ (by simp), List.length_map, List.length_range, Nat.sub_self]
  obtain ⟨k, hk⟩ : ∃ k, M - j = k + 1 := ⟨M - j - 1, by omega⟩
  rw [hk, List.replicate_succ, List.set_cons_zero, show M - (j + 1) = k by omega]
  simp
theorem curRow_at (f : Nat → Nat → Int) (M i j k : Nat) (h : k < j) : (curRow f M i j)[k]? = some (f i k) := by
  unfold curRow
  rw [List.getElem?_append_left (by simpa using h)]
  simp [h]
theorem tabRow_at (f : Nat → Nat → Int) (M i k : Nat) (h : k < M) : (tabRow f M i)[k]? = some (f i k) := by
  simp [tabRow, h]
theorem rowsM_snoc (f : Nat → Nat → Int) (M : Nat) (Bs : List Nat) (b : Nat) : rowsM f M (Bs ++ [b]) = rowsM f M Bs ++ [(b, rowO (tabRow f M Bs.length))] := by
  simp [rowsM, List.mapIdx_append]
theorem rowsM_mem (f : Nat → Nat → Int) (M : Nat) (Bs : List Nat) (i b : Nat) (h : Bs[i]? = some b) : (b, rowO (tabRow f M i)) ∈ rowsM f M Bs := by
  obtain ⟨hi, hb⟩ := List.getElem?_eq_some_iff.1 h
  exact List.mem_mapIdx.2 ⟨i, hi, by rw [hb]⟩

/-- What the cost of an edge reads. -/
structure GridAt (W : World) (g bb n cap M : Nat) (a b : ByteArray) (pi po ps : Int) (i j : Nat) (rs : List Value) : Prop where
  hg : W.heap[g]? = some (gridO a b pi po ps (.slice (some ⟨bb, 0, none⟩) n cap))
  hb : W.heap[bb]? = some (.cells rs.toArray 46 (0, 0))
  row : ∀ i' j', (i' < i ∧ j' < M) ∨ (i' = i ∧ j' < j) → i' < n ∧ ∃ B cs, rs[i']? = some (rowV M B) ∧ W.heap[B]? = some (.cells (List.toArray cs) 3 (0, 0)) ∧ cs[j']? = some (.int .i64 (D a b pi po ps i' j'))

theorem edges_mem {a b : ByteArray} {i j : Int} {x : Int × Int × Int × Int} (h : x ∈ edges a b i j) (hi : 0 ≤ i) (hj : 0 ≤ j) :
    0 ≤ x.1 ∧ 0 ≤ x.2.1 ∧ (x.1 = i ∧ x.2.1 < j ∨ x.1 < i ∧ x.2.1 ≤ j) ∧ 0 ≤ x.2.2.1 ∧ x.2.2.1 ≤ 3 := by
  unfold edges at h
  simp only [List.mem_append] at h
  rcases h with (h | h) | h
  · split at h
    · split at h
      · simp only [List.mem_singleton] at h
        subst h
        split <;> (simp; omega)
      · simp at h
    · simp at h
  · split at h
    · simp only [List.mem_singleton] at h
      subst h; simp; omega
    · simp at h
  · split at h
    · simp only [List.mem_singleton] at h
      subst h; simp; omega
    · simp at h
theorem price_range {pi po ps k : Int} (h1 : 1 ≤ pi ∧ pi ≤ 9) (h2 : 1 ≤ po ∧ po ≤ 9) (h3 : 1 ≤ ps ∧ ps ≤ 9) : 0 ≤ priceOf pi po ps k ∧ priceOf pi po ps k ≤ 9 := by
  unfold priceOf; (repeat' split) <;> omega
theorem D_range {a b : ByteArray} {pi po ps : Int} (h1 : 1 ≤ pi ∧ pi ≤ 9) (h2 : 1 ≤ po ∧ po ≤ 9) (h3 : 1 ≤ ps ∧ ps ≤ 9) (i j : Nat) : 0 ≤ D a b pi po ps i j ∧ D a b pi po ps i j ≤ 9 * ((i : Int) + j) :=
  EM.C_bounds _ _ pi po ps (by omega) (by omega) (by omega) h1.2 h2.2 h3.2 (i + j) i j (Nat.le_refl _)
def edgeC (a b : ByteArray) (pi po ps : Int) (x : Int × Int × Int × Int) : Int := D a b pi po ps x.1.toNat x.2.1.toNat + priceOf pi po ps x.2.2.1
theorem edgeC_range {a b : ByteArray} {pi po ps : Int} (h1 : 1 ≤ pi ∧ pi ≤ 9) (h2 : 1 ≤ po ∧ po ≤ 9) (h3 : 1 ≤ ps ∧ ps ≤ 9) {i j : Nat} {x} (h : x ∈ edges a b i j) : 0 ≤ edgeC a b pi po ps x ∧ edgeC a b pi po ps x ≤ 9 * ((i : Int) + j) + 9 := by
  have := D_range (a := a) (b := b) h1 h2 h3 x.1.toNat x.2.1.toNat
  have h4 := price_range (k := x.2.2.1) h1 h2 h3
  have h5 := edges_mem h (by omega) (by omega)
  unfold edgeC
  omega
theorem cost_edge {W : World} {g bb n cap M : Nat} {a b : ByteArray} {pi po ps : Int} {i j : Nat} {rs : List Value} (hG : GridAt W g bb n cap M a b pi po ps i j rs) (h1 : 1 ≤ pi ∧ pi ≤ 9) (h2 : 1 ≤ po ∧ po ≤ 9) (h3 : 1 ≤ ps ∧ ps ≤ 9)
    (hi : i ≤ 100) (hj : j < M) (hM : M ≤ 101) {x : Int × Int × Int × Int} (hx : x ∈ edges a b i j) :
    Calls Try.prog 65 (edgeV g x).toArray W fun e w' => e = .returned (.int .i64 (edgeC a b pi po ps x)) ∧ Below W.heap.size W w' := by
  obtain ⟨q1, q2, q3, q4, q5⟩ := edges_mem hx (by omega) (by omega)
  have hr := edgeC_range h1 h2 h3 hx
  obtain ⟨hn, B, cs, hrs, hB, hc⟩ := hG.row x.1.toNat x.2.1.toNat (by omega)
  have hjM : x.2.1.toNat < M := by omega
  unfold edgeC at hr ⊢
  exact cost_any W g bb B n cap M M a b pi po ps x.2.2.1 x.2.2.2 x.1 x.2.1 _ rs cs (0, 0) (0, 0) q4 q5 q1 (by omega) q2 (by omega) (by omega) (by omega) hG.hg hG.hb hrs hB hc

theorem gridAt_of {W : World} {g bb bR cap M : Nat} {a b : ByteArray} {pi po ps : Int} {i j : Nat} {Bs : List Nat} {jk : List Value} (hBs : Bs.length = i) (hj : j ≤ M)
    (h1 : W.heap[g]? = some (gridO a b pi po ps (.slice (some ⟨bb, 0, none⟩) (i + 1) cap))) (h2 : W.heap[bb]? = some (.cells ((Bs.map (rowV M) ++ [rowV M bR]) ++ jk).toArray 46 (0, 0)))
    (h3 : W.heap[bR]? = some (rowO (curRow (D a b pi po ps) M i j))) (h4 : ∀ p ∈ rowsM (D a b pi po ps) M Bs, W.heap[p.1]? = some p.2) : GridAt W g bb (i + 1) cap M a b pi po ps i j ((Bs.map (rowV M) ++ [rowV M bR]) ++ jk) := by
  refine ⟨h1, h2, fun i' j' h => ?_⟩
  rcases h with ⟨hi, hj'⟩ | ⟨rfl, hj'⟩
  · refine ⟨by omega, ?_⟩
    obtain ⟨B, hB⟩ : ∃ B, Bs[i']? = some B := ⟨Bs[i']'(by omega), List.getElem?_eq_getElem _⟩
    refine ⟨B, _, ?_, h4 _ (rowsM_mem _ M Bs i' B hB), ?_⟩
    · rw [List.append_assoc, List.getElem?_append_left (by rw [List.length_map]; omega), List.getElem?_map, hB]; rfl
    · rw [List.getElem?_map, tabRow_at _ _ _ _ hj']; rfl
  · refine ⟨by omega, bR, _, ?_, h3, ?_⟩
    · rw [List.append_assoc, List.getElem?_append_right (by rw [List.length_map]; omega), List.length_map, hBs, Nat.sub_self]; rfl
    · rw [List.getElem?_map, curRow_at _ _ _ _ _ hj']; rfl

/-- The least of the costs seen so far; less than 0: none. -/
def bestF (c : Int × Int × Int × Int → Int) (xs : List (Int × Int × Int × Int)) : Int := xs.foldl (fun b x => if b < 0 ∨ c x < b then c x else b) (-1)
theorem bestF_snoc (c) (xs : List (Int × Int × Int × Int)) (k : Nat) (x) (h : xs[k]? = some x) : bestF c (xs.take (k + 1)) = if bestF c (xs.take k) < 0 ∨ c x < bestF c (xs.take k) then c x else bestF c (xs.take k) := by
  rw [List.take_add_one, h]
  simp only [bestF, List.foldl_append, Option.toList_some, List.foldl_cons, List.foldl_nil]
  rfl
theorem bestF3 (c) (x y z : Int × Int × Int × Int) (hx : 0 ≤ c x) (hy : 0 ≤ c y) : bestF c [x, y, z] = min (min (c x) (c y)) (c z) := by
  simp only [bestF, List.foldl_cons, List.foldl_nil]
  rw [if_pos (show (-1 : Int) < 0 ∨ c x < -1 from .inl (by decide))]
  generalize c x = u at *
  generalize c y = v at *
  generalize c z = r at *
  (repeat' split) <;> omega
theorem row_store (f : Nat → Nat → Int) (M i j : Nat) (v : Int) (hj : j < M) (hv : v = f i j) : setCs ((curRow f M i j).map (Value.int .i64)) ((j : Nat) : Int).toNat [.int .i64 v] = (curRow f M i (j + 1)).map (Value.int .i64) := by
  subst hv
  rw [setCs_cons, setCs_nil, ← curRow_set f M i j hj, List.map_set]
  rfl
theorem best_edges (a b : ByteArray) {pi po ps : Int} (h1 : 1 ≤ pi ∧ pi ≤ 9) (h2 : 1 ≤ po ∧ po ≤ 9) (h3 : 1 ≤ ps ∧ ps ≤ 9) (i j : Nat) : max (bestF (edgeC a b pi po ps) (edges a b i j)) 0 = D a b pi po ps i j := by
  have hD := fun i j => D_range (a := a) (b := b) h1 h2 h3 i j
  rcases i with _ | i <;> rcases j with _ | j
  · simp [edges, bestF, D, EM.C_00]
    rfl
  · have := hD 0 j
    have e : D a b pi po ps 0 (j + 1) = D a b pi po ps 0 j + pi := by unfold D; rw [EM.C_0s]
    have t : ((j : Int) + 1 - 1).toNat = j := by omega
    simp [edges, bestF, edgeC, priceOf, t, e]
    omega
  · have := hD i 0
    have e : D a b pi po ps (i + 1) 0 = D a b pi po ps i 0 + po := by unfold D; rw [EM.C_s0]
    have t : ((i : Int) + 1 - 1).toNat = i := by omega
    simp [edges, bestF, edgeC, priceOf, t, e]
    omega
  · have q1 := hD i j
    have q2 := hD i (j + 1)
    have q3 := hD (i + 1) j
    have e : D a b pi po ps (i + 1) (j + 1) = min (min (D a b pi po ps i j + if bt a i = bt b j then 0 else ps) (D a b pi po ps i (j + 1) + po)) (D a b pi po ps (i + 1) j + pi) := by unfold D; rw [EM.C_ss]
    have t1 : ((i : Int) + 1 - 1) = i := by omega
    have t2 : ((j : Int) + 1 - 1) = j := by omega
    rw [e]
    have hi' : (0 : Int) < ((i + 1 : Nat) : Int) := by omega
    have hj' : (0 : Int) < ((j + 1 : Nat) : Int) := by omega
    have t1 : ((i + 1 : Nat) : Int) - 1 = i := by omega
    have t2 : ((j + 1 : Nat) : Int) - 1 = j := by omega
    unfold edges
    rw [if_pos hi', if_pos hj', if_pos hi', if_pos hj', t1, t2]
    have p0 : priceOf pi po ps 0 = 0 := rfl
    have p1 : priceOf pi po ps 1 = ps := rfl
    have p2 : priceOf pi po ps 2 = po := rfl
    have p3 : priceOf pi po ps 3 = pi := rfl
    by_cases hq : bt a i = bt b j
    · rw [if_pos hq, if_pos hq]
      show max (bestF _ [_, _, _]) 0 = _
      rw [bestF3 _ _ _ _ (by simp only [edgeC, Int.toNat_natCast, p0]; omega) (by simp only [edgeC, Int.toNat_natCast, p2]; omega)]
      simp only [edgeC, Int.toNat_natCast, p0, p1, p2, p3]
      omega
    · rw [if_neg hq, if_neg hq]
      show max (bestF _ [_, _, _]) 0 = _
      rw [bestF3 _ _ _ _ (by simp only [edgeC, Int.toNat_natCast, p1]; omega) (by simp only [edgeC, Int.toNat_natCast, p2]; omega)]
      simp only [edgeC, Int.toNat_natCast, p0, p1, p2, p3]
      omega
end Go.Proofs.Ytnnpdgegejklpaa
