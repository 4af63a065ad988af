/- A row of one's own cut at its end; two results in cells; in the words of Sx. -/
import Derived.Test.YtnhflahgbkmloaaSxJ
namespace Go.Sx
open Go.RowKit
set_option linter.unusedVariables false
set_option linter.unusedSimpArgs false
section
variable {N : Nat} {ds : List Deferred} {w0 w1 : World} {m : List (Nat × Obj)} {P : Program}
theorem g_prm {l : List (Nat × Value)} {X : Act → World → Prop} {m' : List (Nat × Obj)} (hp : m'.Perm m) (h : G N ds l w0 w1 m' X) : G N ds l w0 w1 m X := fun a w ha hw => h a w ha ⟨hw.toHq.perm hp.symm, hw.marks⟩
theorem at_all {w : World} {L : List (Nat × Obj)} (h : Hp w0 w1 m w) (hs : L.Sublist m) : ∀ p ∈ L, w.heap[p.1]? = some p.2 := fun p hp => h.at_ p (hs.subset hp)
theorem sv_cut {α : Type} {enc : α → Value} {t e : TypeId} {ie : TypeInfo} {sv : SV} {n : Nat} {xs : List α} {z : α} (hok : sv.ok 1 (n + 1) ((xs ++ [z]).map enc)) (hu : P.underlying t = some (.slice e)) (hie : P.info? e = some ie) (hsz : ie.size = 1) :
    ∃ sv' : SV, sv'.ok 1 n (xs.map enc) ∧ (∀ e', sv'.mem e' (xs.map enc) = sv.mem e' ((xs ++ [z]).map enc)) ∧ ∀ W : World, (Instr.slice t (sv.val (n + 1)) none (some (.int .i64 (n : Int))) none).run P W = .ok (sv'.val n) W := by
  cases sv with
  | nil => obtain ⟨h, _⟩ := hok; cases h
  | own b cap jk =>
    obtain ⟨h1, h2, h3, h4⟩ := hok
    have hel : P.elem t = e := by simp [Program.elem, hu]
    have hu' : P.underlying t = some (.slice (P.elem t)) := by rw [hel]; exact hu
    refine ⟨.own b cap (enc z :: jk), ⟨by omega, h2, ?_, ?_⟩, fun e' => ?_, fun W => ?_⟩
    · simp at h3 ⊢; omega
    · simp at h4 ⊢; omega
    · simp [SV.mem]
    · show (Instr.slice t (.slice (some ⟨b, 0, none⟩) (n + 1) cap) none (some (.int .i64 (n : Int))) none).run P W = _
      rw [run_slice_h W t (some ⟨b, 0, none⟩) (n + 1) cap hu' .i64 (n : Int) (by omega) (by omega), hel]
      have hc : cap ≠ 0 := by omega
      simp [sizeOf, typeInfo, hie, hsz, sliced, Result.andThen, SV.val, hc, Addr.add]
theorem res_c2 {l : List (Nat × Value)} {fn : Func} {a : Act} {w : World} {p1 p2 t1 t2 b1 b2 v1 v2 ty1 ty2 fr1 fr2} (i1 i2 : Nat) (ha : Has N ds l a) (hw : Hq w0 w1 m w) (hr : fn.results = #[.cell p1 t1, .cell p2 t2])
    (h1 : get p1 l = some (.pointer (some ⟨b1, 0, none⟩))) (h2 : get p2 l = some (.pointer (some ⟨b2, 0, none⟩)))
    (m1 : m[i1]? = some (b1, .cells #[v1] ty1 fr1)) (m2 : m[i2]? = some (b2, .cells #[v2] ty2 fr2)) (g1 : isAggB P t1 = some false) (g2 : isAggB P t2 = some false) :
    (results fn a.tmps).run P w = .ok (.tuple #[v1, v2]) w := by
  have e1 := ha.eval (x := .tmp p1) h1
  have e2 := ha.eval (x := .tmp p2) h2
  simp only [Act.eval] at e1 e2
  have q1 : (loadVar t1 ⟨b1, 0, none⟩).run P w = .ok v1 w := run_load1 g1 (by have := hw.at_ _ (List.mem_of_getElem? m1); simp [World.cell?, this])
  have q2 : (loadVar t2 ⟨b2, 0, none⟩).run P w = .ok v2 w := run_load1 g2 (by have := hw.at_ _ (List.mem_of_getElem? m2); simp [World.cell?, this])
  have f1 : a.tmps[p1]?.getD undef = .pointer (some ⟨b1, 0, none⟩) := by simpa using e1
  have f2 : a.tmps[p2]?.getD undef = .pointer (some ⟨b2, 0, none⟩) := by simpa using e2
  simp [results, hr, f1, f2, asAddr, q1, q2]
end
end Go.Sx
