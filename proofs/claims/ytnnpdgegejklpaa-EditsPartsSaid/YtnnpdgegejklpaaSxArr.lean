/- Arrays of two whole numbers: an element's address, two of them held against each other; in the words of Sx. -/
import Derived.Test.YtnnpdgegejklpaaSxEqTwo
import Derived.Test.YtnnpdgegejklpaaSxLookS
namespace Go.Sx
open Go.RowKit
set_option linter.unusedVariables false
set_option linter.unusedSimpArgs false
section
variable {N : Nat} {ds : List Deferred} {l : List (Nat × Value)} {w0 w1 : World} {m : List (Nat × Obj)} {P : Program} {C : World → Prop}
variable {dst : Option Tmp} {ty : TypeId} {pos : String} {aft : Array Edge} {gd : Option (Nat × Bool)}
theorem y_idxc {x y t ad r iv} (hx : ev l x = some (.pointer (some ad))) (hy : ev l y = some iv) (h : ∀ w, (Instr.indexAt t (.pointer (some ad)) iv).run P w = .ok (.pointer (some r)) w) : Yv P N ds l C ⟨dst, .indexAddr t x y, ty, pos, aft, gd⟩ (.pointer (some r)) := fun a w ha _ => by
  show Sem.run P (do pure (Next.value (← Instr.indexAt t (a.eval x) (a.eval y)))) w = _
  rw [ha.eval hx, ha.eval hy]
  exact ok_value (h w)
theorem y_eqlP {x y t t' e a b c d} {i : TypeInfo} (hx : ev l x = some (.agg #[.int .i64 a, .int .i64 b])) (hy : ev l y = some (.agg #[.int .i64 c, .int .i64 d])) (hg : ∀ w, (eqGuard .eql t x y (.agg #[.int .i64 a, .int .i64 b]) (.agg #[.int .i64 c, .int .i64 d])).run P w = .ok () w)
    (hu : P.underlying t = some (.array 2 e)) (hi : P.info? e = some i) (hc : P.cellsOf e = 1) (he : P.underlying e = some (.int .i64)) (hagg : isAggB P e = some false) : Yv P N ds l C ⟨dst, .binOp .eql t x y t', ty, pos, aft, gd⟩ (.bool (decide (a = c ∧ b = d))) :=
  y_bin hx hy hg fun w => by
    simp only [binOp, Sem.run_bind, equal_pair a b c d w hu hi hc he hagg, Result.andThen_ok]
    rfl
theorem y_neqP {x y t t' e a b c d} {i : TypeInfo} (hx : ev l x = some (.agg #[.int .i64 a, .int .i64 b])) (hy : ev l y = some (.agg #[.int .i64 c, .int .i64 d])) (hg : ∀ w, (eqGuard .neq t x y (.agg #[.int .i64 a, .int .i64 b]) (.agg #[.int .i64 c, .int .i64 d])).run P w = .ok () w)
    (hu : P.underlying t = some (.array 2 e)) (hi : P.info? e = some i) (hc : P.cellsOf e = 1) (he : P.underlying e = some (.int .i64)) (hagg : isAggB P e = some false) : Yv P N ds l C ⟨dst, .binOp .neq t x y t', ty, pos, aft, gd⟩ (.bool (!decide (a = c ∧ b = d))) :=
  y_bin hx hy hg fun w => by
    simp only [binOp, Sem.run_bind, equal_pair a b c d w hu hi hc he hagg, Result.andThen_ok]
    rfl
theorem y_ldE0 {xs : List (Int × Int)} {x t A j} {p : Int × Int} (hr : ∀ w, C w → RdLP w A xs) (hx : ev l x = some (.pointer (some ((elemA A (j * 2)).add 0)))) (ht : isAggB P t = some false) (hv : xs[j]? = some p) : Yv P N ds l C ⟨dst, .load t x, ty, pos, aft, gd⟩ (.int .i64 p.1) :=
  y_load hx fun w h => by
    obtain ⟨ad, ha, h1, h2⟩ := hr w h j p hv
    refine run_load1 ht ?_
    subst ha
    show w.cell? ((ad.add (j * 2)).add 0) = _
    rw [add_add, Nat.mul_comm j 2]
    exact h1
theorem y_ldE1 {xs : List (Int × Int)} {x t A j} {p : Int × Int} (hr : ∀ w, C w → RdLP w A xs) (hx : ev l x = some (.pointer (some ((elemA A (j * 2)).add 1)))) (ht : isAggB P t = some false) (hv : xs[j]? = some p) : Yv P N ds l C ⟨dst, .load t x, ty, pos, aft, gd⟩ (.int .i64 p.2) :=
  y_load hx fun w h => by
    obtain ⟨ad, ha, h1, h2⟩ := hr w h j p hv
    refine run_load1 ht ?_
    subst ha
    show w.cell? ((ad.add (j * 2)).add 1) = _
    rw [add_add, Nat.mul_comm j 2]
    exact h2
end
end Go.Sx
