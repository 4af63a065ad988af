/- Rows of rows of whole numbers, and rows of pairs, among a law's arguments. -/
import Derived.Test.YtnnpdgegejklpaaSxRows
import Derived.Deep.SlicePairs
import Derived.Deep.Matrix
import Derived.Deep.Fields
namespace Go.Sx
open Go.ChangeShapes Go.WideShapes Go.RowKit Go.Deep
set_option linter.unusedVariables false
section
variable {H : Type} {enc : TypeId × Value → H} {P : Program} {w : World}
theorem open_rdvv {t e q : TypeId} {a : Option Addr} {len cap : Nat} {D : DataW H} {p : List MemPlace} (ht : P.underlying t = some (.slice e)) (he : P.underlying e = some (.slice q)) (hq : P.underlying q = some (.int .i64)) (ce : P.cellsOf e = 1) (cq : P.cellsOf q = 1)
    (h : DataW.Trod enc P w 0 (fun _ => true) true t (.slice a len cap) D p) :
    ∃ (vs : List Value) (hs : List (List Int)), RdVV w (.slice a len cap) vs hs ∧ hs.length ≤ maxLen ∧ ∀ r ∈ hs, r.length ≤ maxLen := by
  obtain ⟨fuel, hf⟩ := h
  rcases open_int_rows ht he hq ce cq hf with ⟨hcs, _⟩ | ⟨x, l, c, A, L, C, Z, hcs, _, hl, hm, _, hrow⟩
  · simp [Value.cells] at hcs
    obtain ⟨rfl, rfl, rfl⟩ := hcs
    exact ⟨[], [], RdVV.nil, Nat.zero_le _, by simp⟩
  · simp [Value.cells] at hcs
    obtain ⟨rfl, rfl, rfl⟩ := hcs
    refine ⟨(List.range len).map fun r => .slice (A r) (L r) (C r), (List.range len).map fun r => (Z r).take (L r), ⟨⟨some x, cap, by simp⟩, by simp, fun j v hj => ⟨x, rfl, ?_⟩, fun j v h hj hh => ?_⟩, by simp; omega, fun r hr => ?_⟩
    · obtain ⟨hjl, hq⟩ := List.getElem?_eq_some_iff.1 hj
      simp only [List.length_map, List.length_range] at hjl
      simp only [List.getElem_map, List.getElem_range] at hq
      subst hq
      exact (hrow j (by omega)).1
    · obtain ⟨hjl, hq⟩ := List.getElem?_eq_some_iff.1 hj
      obtain ⟨_, hq2⟩ := List.getElem?_eq_some_iff.1 hh
      simp only [List.length_map, List.length_range] at hjl
      simp only [List.getElem_map, List.getElem_range] at hq hq2
      subst hq
      subst hq2
      obtain ⟨_, r1, r2, r3, r4, r5, r6⟩ := hrow j (by omega)
      have hlen : ((Z j).take (L j)).length = L j := by rw [List.length_take]; omega
      refine ⟨A j, C j, by rw [hlen], by omega, fun k y hk => ?_⟩
      have hk' := (List.getElem?_eq_some_iff.1 hk).1
      rw [hlen] at hk'
      cases hA : A j with
      | none => have := r5 hA; omega
      | some a' =>
        refine ⟨a', rfl, ?_⟩
        rw [(r6 a' hA).2 k (by omega)]
        rw [List.getElem?_take_of_lt (by omega)] at hk
        rw [List.getD_eq_getElem?_getD, hk]; rfl
    · obtain ⟨j, hj, rfl⟩ := List.mem_map.1 hr
      obtain ⟨_, r1, r2, r3, r4, r5, r6⟩ := hrow j (by have := List.mem_range.1 hj; omega)
      rw [List.length_take]; omega
def intIn : Value → Int
  | .int _ n => n
  | _ => 0
theorem open_rdp {t e : TypeId} {f0 f1 : Field} {a : Option Addr} {len cap : Nat} {D : DataW H} {p : List MemPlace}
    (ht : P.underlying t = some (.slice e)) (he : P.underlying e = some (.struct #[f0, f1])) (hone : oneCellFields P #[f0, f1] = true) (hC : P.cellsOf e = 2) (i0 : P.underlying f0.type = some (.int .i64)) (i1 : P.underlying f1.type = some (.int .i64))
    (h : DataW.Trod enc P w 0 (fun _ => true) true t (.slice a len cap) D p) :
    ∃ l : List (Int × Int), RdP w (.slice a len cap) l ∧ l.length ≤ maxLen ∧ ∀ s ∈ l, (Lit.int .i64 s.1).wf = true ∧ (Lit.int .i64 s.2).wf = true := by
  obtain ⟨fuel, hf⟩ := h
  obtain ⟨o0, c0⟩ := hone_of hone 0 f0 rfl
  obtain ⟨o1, c1⟩ := hone_of hone 1 f1 rfl
  rcases open_slice_pairs ht he hC o0 o1 c0 c1 hf with ⟨hcs, _⟩ | ⟨b, l, c, m, n, V0, V1, D0, D1, P0, P1, hcs, _, hl, hm, hmm, _, hi⟩
  · simp [Value.cells] at hcs
    obtain ⟨rfl, rfl, rfl⟩ := hcs
    exact ⟨[], RdP.nil, Nat.zero_le _, by simp⟩
  · simp [Value.cells] at hcs
    obtain ⟨rfl, rfl, rfl⟩ := hcs
    simp only [if_true] at hmm
    subst hmm
    have hv : ∀ i, i < m → V0 i = .int .i64 (intIn (V0 i)) ∧ V1 i = .int .i64 (intIn (V1 i)) ∧ (Lit.int .i64 (intIn (V0 i))).wf = true ∧ (Lit.int .i64 (intIn (V1 i))).wf = true := fun i him => by
      obtain ⟨_, _, t0, t1⟩ := hi i him
      obtain ⟨x, h0, _, q0⟩ := DataW.trod_int i0 t0
      obtain ⟨y, h1, _, q1⟩ := DataW.trod_int i1 t1
      simp only [List.cons.injEq, and_true] at h0 h1
      rw [h0, h1]; exact ⟨rfl, rfl, q0, q1⟩
    refine ⟨(List.range len).map fun i => (intIn (V0 i), intIn (V1 i)), ⟨some b, m, by simp, by simpa using hl, fun j q hj => ⟨b, rfl, ?_⟩⟩, by simp; omega, ?_⟩
    · obtain ⟨hjl, hq⟩ := List.getElem?_eq_some_iff.1 hj
      simp only [List.length_map, List.length_range] at hjl
      simp only [List.getElem_map, List.getElem_range] at hq
      subst hq
      obtain ⟨g0, g1, _, _⟩ := hi j (by omega)
      obtain ⟨v0, v1, _, _⟩ := hv j (by omega)
      rw [Nat.mul_comm 2 j]
      exact ⟨by rw [← v0]; exact g0, by rw [← v1]; exact g1⟩
    · intro s hs
      obtain ⟨i, hir, rfl⟩ := List.mem_map.1 hs
      obtain ⟨_, _, q0, q1⟩ := hv i (by have := List.mem_range.1 hir; omega)
      exact ⟨q0, q1⟩
end
end Go.Sx
