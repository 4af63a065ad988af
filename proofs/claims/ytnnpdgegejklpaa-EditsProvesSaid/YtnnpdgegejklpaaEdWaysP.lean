/- The map of the ways, in plain Lean. -/
import Derived.Test.YtnnpdgegejklpaaEdG
import Derived.Test.YtnnpdgegejklpaaSxH
namespace Go.Proofs.Ytnnpdgegejklpaa
open Go.RowKit Go.Sx
set_option linter.unusedVariables false
set_option linter.unusedSimpArgs false

theorem wf_small {z : Int} (h0 : 0 ≤ z) (h1 : z ≤ 1000000) : (Lit.int .i64 z).wf = true := by
  have e1 : IntKind.i64.min = -9223372036854775808 := rfl
  have e2 : IntKind.i64.max = 9223372036854775807 := rfl
  unfold Lit.wf
  simp
  omega
/-- What the edges that cost the least bring. -/
def sumE (a b : ByteArray) (pi po ps d : Int) (xs : List (Int × Int × Int × Int)) : Int :=
  xs.foldl (fun s x => if edgeC a b pi po ps x = d then s + U a b pi po ps x.1.toNat x.2.1.toNat else s) 0
theorem sumE_snoc (a b : ByteArray) (pi po ps d : Int) (xs : List (Int × Int × Int × Int)) (k : Nat) (x) (h : xs[k]? = some x) :
    sumE a b pi po ps d (xs.take (k + 1)) = if edgeC a b pi po ps x = d then sumE a b pi po ps d (xs.take k) + U a b pi po ps x.1.toNat x.2.1.toNat else sumE a b pi po ps d (xs.take k) := by
  rw [List.take_add_one, h]
  simp only [sumE, List.foldl_append, Option.toList_some, List.foldl_cons, List.foldl_nil]
theorem sumE_edges (a b : ByteArray) (pi po ps : Int) (i j : Nat) (h : i + j ≠ 0) : sumE a b pi po ps (D a b pi po ps i j) (edges a b i j) = U a b pi po ps i j := by
  have p0 : priceOf pi po ps 0 = 0 := rfl
  have p1 : priceOf pi po ps 1 = ps := rfl
  have p2 : priceOf pi po ps 2 = po := rfl
  have p3 : priceOf pi po ps 3 = pi := rfl
  rcases i with _ | i <;> rcases j with _ | j
  · omega
  · have e : D a b pi po ps 0 (j + 1) = D a b pi po ps 0 j + pi := by unfold D; rw [EM.C_0s]
    have e2 : U a b pi po ps 0 (j + 1) = U a b pi po ps 0 j := by unfold U; rw [EM.W_0s]
    have hj' : (0 : Int) < ((j + 1 : Nat) : Int) := by omega
    have t2 : ((j + 1 : Nat) : Int) - 1 = j := by omega
    unfold edges
    rw [if_neg (by omega), if_neg (by omega), if_pos hj', t2]
    simp [sumE, edgeC, p3, e, e2]
  · have e : D a b pi po ps (i + 1) 0 = D a b pi po ps i 0 + po := by unfold D; rw [EM.C_s0]
    have e2 : U a b pi po ps (i + 1) 0 = U a b pi po ps i 0 := by unfold U; rw [EM.W_s0]
    have hi' : (0 : Int) < ((i + 1 : Nat) : Int) := by omega
    have t1 : ((i + 1 : Nat) : Int) - 1 = i := by omega
    unfold edges
    rw [if_pos hi', if_neg (by omega), if_pos hi', if_neg (by omega), t1]
    simp [sumE, edgeC, p2, e, e2]
  · have e2 : U a b pi po ps (i + 1) (j + 1) = ((if D a b pi po ps (i + 1) (j + 1) = D a b pi po ps i j + (if bt a i = bt b j then 0 else ps) then U a b pi po ps i j else 0) +
      (if D a b pi po ps (i + 1) (j + 1) = D a b pi po ps i (j + 1) + po then U a b pi po ps i (j + 1) else 0)) +
      (if D a b pi po ps (i + 1) (j + 1) = D a b pi po ps (i + 1) j + pi then U a b pi po ps (i + 1) j else 0) := by unfold D U; rw [EM.W_ss]
    have hi' : (0 : Int) < ((i + 1 : Nat) : Int) := by omega
    have hj' : (0 : Int) < ((j + 1 : Nat) : Int) := by omega
    have t1 : ((i + 1 : Nat) : Int) - 1 = i := by omega
    have t2 : ((j + 1 : Nat) : Int) - 1 = j := by omega
    unfold edges
    rw [if_pos hi', if_pos hj', if_pos hi', if_pos hj', t1, t2, e2]
    generalize D a b pi po ps (i + 1) (j + 1) = d
    by_cases hq : bt a i = bt b j
    · rw [if_pos hq, if_pos hq]
      simp only [sumE, List.cons_append, List.nil_append, List.foldl_cons, List.foldl_nil, edgeC, Int.toNat_natCast, p0, p2, p3]
      (repeat' split) <;> omega
    · rw [if_neg hq, if_neg hq]
      simp only [sumE, List.cons_append, List.nil_append, List.foldl_cons, List.foldl_nil, edgeC, Int.toNat_natCast, p1, p2, p3]
      (repeat' split) <;> omega
/-- What the map says while place (i, j) is at work. -/
def Wst (a b : ByteArray) (pi po ps : Int) (i j k i' j' : Nat) : Int :=
  if i' = i ∧ j' = j then (if i = 0 ∧ j = 0 then 1 else 0) + sumE a b pi po ps (D a b pi po ps i j) ((edges a b i j).take k)
  else if i' < i ∨ i' = i ∧ j' < j then U a b pi po ps i' j' else if i' = 0 ∧ j' = 0 then 1 else 0
theorem U_00 (a b : ByteArray) (pi po ps : Int) : U a b pi po ps 0 0 = 1 := by unfold U; rw [EM.W_00]
theorem Wst_done (a b : ByteArray) (pi po ps : Int) (i j i' j' : Nat) : Wst a b pi po ps i j (edges a b i j).length i' j' = Wst a b pi po ps i (j + 1) 0 i' j' := by
  unfold Wst
  rw [List.take_length, List.take_zero, show sumE a b pi po ps (D a b pi po ps i (j + 1)) [] = 0 from rfl]
  have hA : i' = i ∧ j' = j → (if i = 0 ∧ j = 0 then (1 : Int) else 0) + sumE a b pi po ps (D a b pi po ps i j) (edges a b i j) = U a b pi po ps i' j' := by
    rintro ⟨rfl, rfl⟩
    by_cases h0 : i' + j' = 0
    · obtain ⟨rfl, rfl⟩ : i' = 0 ∧ j' = 0 := by omega
      rw [U_00]; simp [edges, sumE]
    · rw [if_neg (by omega), sumE_edges _ _ _ _ _ _ _ h0]; omega
  generalize sumE a b pi po ps (D a b pi po ps i j) (edges a b i j) = S at *
  generalize U a b pi po ps i' j' = u at *
  revert hA
  (repeat' split) <;> omega
theorem Wst_row (a b : ByteArray) (pi po ps : Int) (i M i' j' : Nat) (h : j' < M) : Wst a b pi po ps i M 0 i' j' = Wst a b pi po ps (i + 1) 0 0 i' j' := by
  unfold Wst
  rw [List.take_zero, List.take_zero, show sumE a b pi po ps (D a b pi po ps i M) [] = 0 from rfl, show sumE a b pi po ps (D a b pi po ps (i + 1) 0) [] = 0 from rfl]
  generalize U a b pi po ps i' j' = u at *
  (repeat' split) <;> omega
theorem Wst_first (a b : ByteArray) (pi po ps : Int) (i' j' : Nat) : (putF (fun _ _ => none) 0 0 1 (i' : Int) (j' : Int)).getD 0 = Wst a b pi po ps 0 0 0 i' j' := by
  unfold putF Wst
  by_cases h : i' = 0 ∧ j' = 0
  · rw [if_pos (by omega), if_pos h]; simp [sumE]
  · rw [if_neg (by omega), if_neg h, if_neg (by omega), if_neg h]; rfl
section
variable {a b : ByteArray} {pi po ps : Int} {i j k : Nat} {x : Int × Int × Int × Int}
theorem Wst_skip (h : (edges a b i j)[k]? = some x) (hne : ¬ edgeC a b pi po ps x = D a b pi po ps i j) (i' j' : Nat) : Wst a b pi po ps i j (k + 1) i' j' = Wst a b pi po ps i j k i' j' := by
  unfold Wst
  rw [sumE_snoc _ _ _ _ _ _ _ _ _ h, if_neg hne]
theorem Wst_take (h : (edges a b i j)[k]? = some x) (he : edgeC a b pi po ps x = D a b pi po ps i j) (i' j' : Nat) :
    Wst a b pi po ps i j (k + 1) i' j' = if i' = i ∧ j' = j then Wst a b pi po ps i j k i j + U a b pi po ps x.1.toNat x.2.1.toNat else Wst a b pi po ps i j k i' j' := by
  unfold Wst
  rw [sumE_snoc _ _ _ _ _ _ _ _ _ h, if_pos he]
  by_cases hc : i' = i ∧ j' = j
  · simp only [hc, and_self, if_true]; omega
  · simp only [hc, if_false]
theorem Wst_edge (hx : x ∈ edges a b i j) : Wst a b pi po ps i j k x.1.toNat x.2.1.toNat = U a b pi po ps x.1.toNat x.2.1.toNat := by
  have h := edges_mem hx (by omega) (by omega)
  unfold Wst
  rw [if_neg (by omega), if_pos (by omega)]
theorem sumE_range (d : Int) (hi : i ≤ 12) (hj : j ≤ 12) : ∀ (xs : List (Int × Int × Int × Int)) (s : Int), (∀ x ∈ xs, x ∈ edges a b i j) → 0 ≤ s →
    s ≤ xs.foldl (fun s x => if edgeC a b pi po ps x = d then s + U a b pi po ps x.1.toNat x.2.1.toNat else s) s ∧
    xs.foldl (fun s x => if edgeC a b pi po ps x = d then s + U a b pi po ps x.1.toNat x.2.1.toNat else s) s ≤ s + xs.length * 282429536481
  | [], s, _, hs => by simp
  | x :: xs, s, hx, hs => by
    have h := edges_mem (hx x (by simp)) (by omega) (by omega)
    have hu := U_range a b pi po ps (i := x.1.toNat) (j := x.2.1.toNat) (by omega)
    rw [List.foldl_cons, List.length_cons]
    have ih := sumE_range d hi hj xs (if edgeC a b pi po ps x = d then s + U a b pi po ps x.1.toNat x.2.1.toNat else s) (fun y hy => hx y (List.mem_cons_of_mem _ hy)) (by split <;> omega)
    have hc : s ≤ (if edgeC a b pi po ps x = d then s + U a b pi po ps x.1.toNat x.2.1.toNat else s) ∧ (if edgeC a b pi po ps x = d then s + U a b pi po ps x.1.toNat x.2.1.toNat else s) ≤ s + 282429536481 := by split <;> omega
    omega
theorem edges_len : (edges a b i j).length ≤ 3 := by
  unfold edges
  (repeat' split) <;> simp
theorem Wst_range (hi : i ≤ 12) (hj : j ≤ 12) : 0 ≤ Wst a b pi po ps i j k i j ∧ Wst a b pi po ps i j k i j ≤ 1000000000000 := by
  have h := sumE_range (a := a) (b := b) (pi := pi) (po := po) (ps := ps) (D a b pi po ps i j) hi hj ((edges a b i j).take k) 0 (fun y hy => List.mem_of_mem_take hy) (Int.le_refl 0)
  have hl : ((edges a b i j).take k).length ≤ 3 := by have := edges_len (a := a) (b := b) (i := i) (j := j); rw [List.length_take]; omega
  unfold Wst
  rw [if_pos ⟨rfl, rfl⟩]
  have e : sumE a b pi po ps (D a b pi po ps i j) ((edges a b i j).take k) = ((edges a b i j).take k).foldl (fun s x => if edgeC a b pi po ps x = D a b pi po ps i j then s + U a b pi po ps x.1.toNat x.2.1.toNat else s) 0 := rfl
  rw [e]
  split <;> omega
theorem gridAt_full {W : World} {g bb cap M : Nat} {Bs : List Nat} {jk : List Value} (hBs : Bs.length = a.size + 1)
    (h1 : W.heap[g]? = some (gridO a b pi po ps (.slice (some ⟨bb, 0, none⟩) (a.size + 1) cap))) (h2 : W.heap[bb]? = some (.cells (Bs.map (rowV M) ++ jk).toArray 46 (0, 0)))
    (h4 : ∀ p ∈ rowsM (D a b pi po ps) M Bs, W.heap[p.1]? = some p.2) : GridAt W g bb (a.size + 1) cap M a b pi po ps (a.size + 1) 0 (Bs.map (rowV M) ++ jk) := by
  refine ⟨h1, h2, fun i' j' h => ?_⟩
  rcases h with ⟨hi, hj'⟩ | ⟨rfl, hj'⟩
  · refine ⟨by omega, ?_⟩
    obtain ⟨B, hB⟩ : ∃ B, Bs[i']? = some B := ⟨Bs[i']'(by omega), List.getElem?_eq_getElem _⟩
    refine ⟨B, _, ?_, h4 _ (rowsM_mem _ M Bs i' B hB), ?_⟩
    · rw [List.getElem?_append_left (by rw [List.length_map]; omega), List.getElem?_map, hB]; rfl
    · rw [List.getElem?_map, tabRow_at _ _ _ _ hj']; rfl
  · omega
theorem cost_full {W : World} {g bb n cap M I J : Nat} {rs : List Value} (hG : GridAt W g bb n cap M a b pi po ps I J rs) (hp : okP pi po ps)
    (hi : i ≤ 100) (hI : i < I) (hj : j < M) (hM : M ≤ 101) (hx : x ∈ edges a b i j) :
    Calls Try.prog 65 (edgeV g x).toArray W fun e w' => e = .returned (.int .i64 (edgeC a b pi po ps x)) ∧ Below W.heap.size W w' := by
  obtain ⟨h1, h2, h3⟩ := hp
  obtain ⟨q1, q2, q3, q4, q5⟩ := edges_mem hx (by omega) (by omega)
  have hr := edgeC_range h1 h2 h3 hx
  obtain ⟨hn, B, cs, hrs, hB, hc⟩ := hG.row x.1.toNat x.2.1.toNat (by omega)
  unfold edgeC at hr ⊢
  exact cost_any W g bb B n cap M M a b pi po ps x.2.2.1 x.2.2.2 x.1 x.2.1 _ rs cs (0, 0) (0, 0) q4 q5 q1 (by omega) q2 (by omega) (by omega) (by omega) hG.hg hG.hb hrs hB hc
end
end Go.Proofs.Ytnnpdgegejklpaa
