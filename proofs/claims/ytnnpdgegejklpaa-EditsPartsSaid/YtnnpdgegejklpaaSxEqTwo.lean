/- Pairs of whole numbers held against each other; in the words of Sx. -/
import Derived.Test.YtnnpdgegejklpaaSxPair
import Derived.ChangeKeysEq
namespace Go.Sx
open Go.RowKit
set_option linter.unusedVariables false
set_option linter.unusedSimpArgs false
theorem equal_pair {P : Program} {t e : TypeId} {i : TypeInfo} (a b c d : Int) (w : World) (hu : P.underlying t = some (.array 2 e)) (hi : P.info? e = some i) (hc : P.cellsOf e = 1) (he : P.underlying e = some (.int .i64)) (hagg : isAggB P e = some false) :
    (Op.equal t (.agg #[.int .i64 a, .int .i64 b]) (.agg #[.int .i64 c, .int .i64 d])).run P w = .ok (decide (a = c ∧ b = d)) w := by
  have h1 : ∀ (n : Nat) (x y : Int) (w : World), (Op.equalIn (n + 1) e (.int .i64 x) (.int .i64 y)).run P w = .ok (x == y) w := fun n x y w => by
    unfold Op.equalIn
    simp [run_underlying he]
  have hp : ∀ (xs : Array Value) (o : Nat) (v : Value) (w : World), xs[o]? = some v → (part e xs o).run P w = .ok v w := fun xs o v w hv => by
    have h2 : (isAgg e).run P w = .ok false w := by
      unfold isAgg
      simp [run_underlying he]
    unfold part
    simp [h2, hv, Result.andThen]
  show (Op.equalIn 10000 t _ _).run P w = _
  rw [show (10000 : Nat) = 9999 + 1 from rfl, run_equalIn_array (w := w) 9999 _ _ hu hi, hc]
  rw [show (9999 : Nat) = 9998 + 1 from rfl, show List.range 2 = [0, 1] from rfl]
  simp only [Op.eqItems, Sem.run_bind]
  rw [hp _ _ (.int .i64 a) w rfl]
  simp only [Result.andThen_ok]
  rw [hp _ _ (.int .i64 c) w rfl]
  simp only [Result.andThen_ok, h1]
  by_cases e1 : a = c
  · subst e1
    simp only [beq_self_eq_true, Bool.not_true, Bool.false_eq_true, if_false, Sem.run_bind, true_and]
    rw [hp _ _ (.int .i64 b) w rfl]
    simp only [Result.andThen_ok]
    rw [hp _ _ (.int .i64 d) w rfl]
    simp only [Result.andThen_ok, h1]
    by_cases e2 : b = d <;> simp [e2]
  · simp [e1]
end Go.Sx
