/- Rows of strings, of pairs, of rows of whole numbers among a law's arguments. -/
import Derived.Test.YtnnpdgegejklpaaWWords
import Derived.Deep.SlicePairs
import Derived.Deep.Matrix
import Derived.Deep.Fields
import Derived.SliceStrings
import Derived.ChangeSame
namespace Go.Sx
open Go.ChangeShapes Go.WideShapes Go.RowKit Go.Deep Go.Proofs.YtnnpdgegejklpaaW.PrintWords
set_option linter.unusedVariables false
section
variable {H : Type} {enc : TypeId × Value → H} {P : Program} {w : World}

theorem maxLen_le : maxLen ≤ 9223372036854775807 := by unfold maxLen; omega
def intIn : Value → Int
  | .int _ n => n
  | _ => 0
theorem open_rowC2 {α : Type} {d : Kd α} (mk : Int → Int → α) {k0 k1 : IntKind} (hK : ∀ (W : World) (x y : Int), d.K W (mk x y) [.int k0 x, .int k1 y]) (hsz : d.sz = 2) {t e : TypeId} {f0 f1 : Field} {a : Option Addr} {len cap : Nat} {D : DataW H} {p : List MemPlace}
    (ht : P.underlying t = some (.slice e)) (he : P.underlying e = some (.struct #[f0, f1])) (hone : oneCellFields P #[f0, f1] = true) (hC : P.cellsOf e = 2) (i0 : P.underlying f0.type = some (.int k0)) (i1 : P.underlying f1.type = some (.int k1))
    (h : DataW.Trod enc P w 0 (fun _ => true) true t (.slice a len cap) D p) :
    ∃ l : List α, len = l.length ∧ d.C w a l.length l ∧ l.length ≤ cap ∧ l.length ≤ maxLen ∧ ∀ s ∈ l, ∃ x y, s = mk x y ∧ (Lit.int k0 x).wf = true ∧ (Lit.int k1 y).wf = true := by
  obtain ⟨fuel, hf⟩ := h
  obtain ⟨o0, c0⟩ := hone_of hone 0 f0 rfl
  obtain ⟨o1, c1⟩ := hone_of hone 1 f1 rfl
  rcases open_slice_pairs ht he hC o0 o1 c0 c1 hf with ⟨hcs, _⟩ | ⟨b, l, c, m, n, V0, V1, D0, D1, P0, P1, hcs, _, hl, hm, hmm, _, hi⟩
  · simp [Value.cells] at hcs
    obtain ⟨rfl, rfl, rfl⟩ := hcs
    exact ⟨[], rfl, ⟨rfl, by simp, fun h => absurd h (by simp)⟩, Nat.le_refl _, Nat.zero_le _, by simp⟩
  · simp [Value.cells] at hcs
    obtain ⟨rfl, rfl, rfl⟩ := hcs
    simp only [if_true] at hmm
    subst hmm
    have hv : ∀ i, i < m → V0 i = .int k0 (intIn (V0 i)) ∧ V1 i = .int k1 (intIn (V1 i)) ∧ (Lit.int k0 (intIn (V0 i))).wf = true ∧ (Lit.int k1 (intIn (V1 i))).wf = true := fun i him => by
      obtain ⟨_, _, t0, t1⟩ := hi i him
      obtain ⟨x, h0, _, q0⟩ := DataW.trod_int i0 t0
      obtain ⟨y, h1, _, q1⟩ := DataW.trod_int i1 t1
      simp only [List.cons.injEq, and_true] at h0 h1
      rw [h0, h1]; exact ⟨rfl, rfl, q0, q1⟩
    refine ⟨(List.range len).map fun i => mk (intIn (V0 i)) (intIn (V1 i)), by simp, ⟨by simp, by simp; have := maxLen_le; omega, fun _ => ⟨b, rfl, fun j q hj => ?_⟩⟩, by simpa using hl, by simp; omega, ?_⟩
    · obtain ⟨hjl, hq⟩ := List.getElem?_eq_some_iff.1 hj
      simp only [List.length_map, List.length_range] at hjl
      simp only [List.getElem_map, List.getElem_range] at hq
      subst hq
      refine ⟨[.int k0 (intIn (V0 j)), .int k1 (intIn (V1 j))], by rw [hsz]; rfl, hK _ _ _, fun i u hu => ?_⟩
      obtain ⟨g0, g1, _, _⟩ := hi j (by omega)
      obtain ⟨v0, v1, _, _⟩ := hv j (by omega)
      rw [hsz]
      match i, hu with
      | 0, hu => cases hu; rw [← v0]; exact g0
      | 1, hu => cases hu; rw [← v1]; exact g1
      | i + 2, hu => simp at hu
    · intro s hs
      obtain ⟨i, hir, rfl⟩ := List.mem_map.1 hs
      obtain ⟨_, _, q0, q1⟩ := hv i (by have := List.mem_range.1 hir; omega)
      exact ⟨_, _, rfl, q0, q1⟩
theorem open_rowStr {t e : TypeId} {a : Option Addr} {len cap : Nat} {D : DataW H} {p : List MemPlace} (ht : P.underlying t = some (.slice e)) (he : P.underlying e = some .string) (hC : P.cellsOf e = 1)
    (h : DataW.Trod enc P w 0 (fun _ => true) true t (.slice a len cap) D p) :
    ∃ l : List ByteArray, len = l.length ∧ Kd.string.C w a l.length l ∧ l.length ≤ cap ∧ l.length ≤ maxLen ∧ ∀ s ∈ l, s.size ≤ maxLen := by
  obtain ⟨fuel, hf⟩ := h
  rcases Go.ChangeShapes.open_strings ht he hC hf with ⟨hcs, _⟩ | ⟨b, l, c, ss, hcs, _, hl, hm, hsl, _, hcell, hsz⟩
  · simp [Value.cells] at hcs
    obtain ⟨rfl, rfl, rfl⟩ := hcs
    exact ⟨[], rfl, ⟨rfl, by simp, fun h => absurd h (by simp)⟩, Nat.le_refl _, Nat.zero_le _, by simp⟩
  · simp [Value.cells] at hcs
    obtain ⟨rfl, rfl, rfl⟩ := hcs
    simp only [if_true] at hsl
    have hlen : (ss.take len).length = len := by rw [List.length_take]; omega
    refine ⟨ss.take len, hlen.symm, ⟨rfl, by rw [hlen]; have := maxLen_le; omega, fun _ => ⟨b, rfl, fun j q hj => ⟨[.string q], rfl, rfl, fun i u hu => ?_⟩⟩⟩, by omega, by omega, fun s hs => hsz s (List.mem_of_mem_take hs)⟩
    have hjl := (List.getElem?_eq_some_iff.1 hj).1
    match i, hu with
    | 0, hu =>
      cases hu
      have h1 := hcell j (by omega)
      rw [List.getElem?_take_of_lt (by omega)] at hj
      rw [List.getD_eq_getElem?_getD, hj] at h1
      have e1 : j * Kd.string.sz + 0 = j := Nat.mul_one j
      rw [e1]; exact h1
    | i + 1, hu => simp at hu
end
end Go.Sx
