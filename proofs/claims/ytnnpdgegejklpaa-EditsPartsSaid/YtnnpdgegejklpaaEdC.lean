/- edits: what isLine, valid hand back. -/
import Derived.Test.YtnnpdgegejklpaaProg
import Derived.Test.YtnnpdgegejklpaaSxF
namespace Go.Proofs.Ytnnpdgegejklpaa
open Go.RowKit Go.Sx
set_option linter.unusedVariables false
set_option linter.unusedSimpArgs false
set_option maxRecDepth 100000
set_option maxHeartbeats 4000000

private theorem fld_28_0 (b off : Nat) (w : World) : (Instr.fieldAt 28 (.pointer (some ⟨b, off, none⟩)) 0).run Try.prog w = .ok (.pointer (some ⟨b, off, none⟩)) w := by kernel_rfl
private theorem agg_3 : isAggB Try.prog 3 = some false := by kernel_rfl
private theorem fld_28_1 (b off : Nat) (w : World) : (Instr.fieldAt 28 (.pointer (some ⟨b, off, none⟩)) 1).run Try.prog w = .ok (.pointer (some ⟨b, off + 1, none⟩)) w := by kernel_rfl
private theorem fld_28_2 (b off : Nat) (w : World) : (Instr.fieldAt 28 (.pointer (some ⟨b, off, none⟩)) 2).run Try.prog w = .ok (.pointer (some ⟨b, off + 2, none⟩)) w := by kernel_rfl

theorem isLine_any (w : World) (s : ByteArray) : Calls Try.prog 68 [.string s].toArray w fun e w' => e = .returned (.bool (decide ((s.size : Int) ≤ 12))) ∧ Below w.heap.size w w' := by
  refine enter (N := 6) Try.func68 rfl rfl rfl ?_
  refine g_seq ?_
  refine g_region ?_
  refine s_y (y_assign rfl) rfl rfl rfl rfl ?_
  refine s_nil ?_
  refine g_then ?_
  refine g_seq ?_
  refine g_region ?_
  refine s_y (y_move rfl) rfl rfl rfl rfl ?_
  refine s_y (y_lens rfl Try.underlying9) rfl rfl rfl rfl ?_
  refine s_y (y_leq rfl rfl) rfl rfl rfl rfl ?_
  refine s_y (y_assign rfl) rfl rfl rfl rfl ?_
  refine s_nil ?_
  refine g_then ?_
  refine g_ret ?_
  exact g_end trivial (fun a w ha _ => res1 ha rfl rfl w) (fun w h => ⟨rfl, h.below⟩)

def okP (i o s : Int) : Prop := (1 ≤ i ∧ i ≤ 9) ∧ (1 ≤ o ∧ o ≤ 9) ∧ (1 ≤ s ∧ s ≤ 9)
instance (i o s : Int) : Decidable (okP i o s) := by unfold okP; infer_instance
theorem valid_t {i o s : Int} (h : 1 ≤ if s < (if o < i then o else i) then s else if o < i then o else i) : decide ((if s > (if o > i then o else i) then s else if o > i then o else i) ≤ 9) = decide (okP i o s) := by
  rw [decide_eq_decide]; unfold okP; revert h; (repeat' split) <;> omega
theorem valid_f {i o s : Int} (h : (if s < (if o < i then o else i) then s else if o < i then o else i) < 1) : false = decide (okP i o s) := by
  symm; apply decide_eq_false; unfold okP; revert h; (repeat' split) <;> omega
theorem valid_any (w : World) (i o s : Int) : Calls Try.prog 69 [.agg #[.int .i64 i, .int .i64 o, .int .i64 s]].toArray w fun e w' => e = .returned (.bool (decide (okP i o s))) ∧ Below w.heap.size w w' := by
  refine enter (N := 21) Try.func69 rfl rfl rfl ?_
  refine g_seq ?_
  refine g_region ?_
  refine s_tr (t_box rfl rfl) rfl rfl rfl rfl (fun b1 hb1 => ?_)
  refine s_y (y_assign rfl) rfl rfl rfl rfl ?_
  refine s_nil ?_
  refine g_then ?_
  refine g_seq ?_
  refine g_region ?_
  refine s_y (y_fld rfl (fun w => fld_28_0 _ _ w)) rfl rfl rfl rfl ?_
  refine s_y (y_ld1 0 rfl rfl agg_3 rfl) rfl rfl rfl rfl ?_
  refine s_y (y_fld rfl (fun w => fld_28_1 _ _ w)) rfl rfl rfl rfl ?_
  refine s_y (y_ld1 0 rfl rfl agg_3 rfl) rfl rfl rfl rfl ?_
  refine s_y (y_fld rfl (fun w => fld_28_2 _ _ w)) rfl rfl rfl rfl ?_
  refine s_y (y_ld1 0 rfl rfl agg_3 rfl) rfl rfl rfl rfl ?_
  refine s_y (y_min3 rfl rfl rfl) rfl rfl rfl rfl ?_
  refine s_y (y_geq rfl rfl) rfl rfl rfl rfl ?_
  refine s_y (y_move rfl) rfl rfl rfl rfl ?_
  refine g_bool 11 rfl (fun hq2 => ?_) (fun hq2 => ?_)
  · (try simp at hq2)
    refine s_y (y_fld rfl (fun w => fld_28_0 _ _ w)) rfl rfl rfl rfl ?_
    refine s_y (y_ld1 0 rfl rfl agg_3 rfl) rfl rfl rfl rfl ?_
    refine s_y (y_fld rfl (fun w => fld_28_1 _ _ w)) rfl rfl rfl rfl ?_
    refine s_y (y_ld1 0 rfl rfl agg_3 rfl) rfl rfl rfl rfl ?_
    refine s_y (y_fld rfl (fun w => fld_28_2 _ _ w)) rfl rfl rfl rfl ?_
    refine s_y (y_ld1 0 rfl rfl agg_3 rfl) rfl rfl rfl rfl ?_
    refine s_y (y_max3 rfl rfl rfl) rfl rfl rfl rfl ?_
    refine s_y (y_leq rfl rfl) rfl rfl rfl rfl ?_
    refine s_y (y_pick_t rfl rfl) rfl rfl rfl rfl ?_
    refine s_y (y_assign rfl) rfl rfl rfl rfl ?_
    refine s_nil ?_
    refine g_then ?_
    refine g_ret ?_
    exact g_end trivial (fun a w ha _ => res1 ha rfl rfl w) (fun w h => ⟨by first | exact congrArg (fun b => Ending.returned (.bool b)) (valid_t (by assumption)) | exact congrArg (fun b => Ending.returned (.bool b)) (valid_f (by assumption)), h.below⟩)
  · (try simp at hq2)
    refine s_no rfl rfl rfl ?_
    refine s_no rfl rfl rfl ?_
    refine s_no rfl rfl rfl ?_
    refine s_no rfl rfl rfl ?_
    refine s_no rfl rfl rfl ?_
    refine s_no rfl rfl rfl ?_
    refine s_no rfl rfl rfl ?_
    refine s_no rfl rfl rfl ?_
    refine s_y (y_pick_f rfl rfl) rfl rfl rfl rfl ?_
    refine s_y (y_assign rfl) rfl rfl rfl rfl ?_
    refine s_nil ?_
    refine g_then ?_
    refine g_ret ?_
    exact g_end trivial (fun a w ha _ => res1 ha rfl rfl w) (fun w h => ⟨by first | exact congrArg (fun b => Ending.returned (.bool b)) (valid_t (by assumption)) | exact congrArg (fun b => Ending.returned (.bool b)) (valid_f (by assumption)), h.below⟩)

end Go.Proofs.Ytnnpdgegejklpaa
