/- What the small functions of the grid hand back. -/
import Derived.Test.YtnnpdgegejklpaaProg
import Derived.Test.YtnnpdgegejklpaaSxE
namespace Go.Proofs.Ytnnpdgegejklpaa
open Go.RowKit Go.Sx
set_option linter.unusedVariables false
set_option linter.unusedSimpArgs false
set_option maxRecDepth 100000
set_option maxHeartbeats 4000000

def priceOf (pi po ps k : Int) : Int := if k = 0 then 0 else if k = 1 then ps else if k = 2 then po else pi
theorem of_any (w : World) (pi po ps k b : Int) (h0 : 0 ≤ k) (h3 : k ≤ 3) :
    Calls Try.prog 72 #[.agg #[.int .i64 pi, .int .i64 po, .int .i64 ps], .agg #[.int .i64 k, .int .i64 b]] w fun e w' => e = .returned (.int .i64 (priceOf pi po ps k)) ∧ Below w.heap.size w w' := by
  have i0 : ∀ (x y z u: Value) w, (Instr.index 123 (.agg #[x, y, z, u]) (.int .i64 0)).run Try.prog w = .ok x w := fun _ _ _ _ _ => by kernel_rfl
  have i1 : ∀ (x y z u: Value) w, (Instr.index 123 (.agg #[x, y, z, u]) (.int .i64 1)).run Try.prog w = .ok y w := fun _ _ _ _ _ => by kernel_rfl
  have i2 : ∀ (x y z u: Value) w, (Instr.index 123 (.agg #[x, y, z, u]) (.int .i64 2)).run Try.prog w = .ok z w := fun _ _ _ _ _ => by kernel_rfl
  have i3 : ∀ (x y z u: Value) w, (Instr.index 123 (.agg #[x, y, z, u]) (.int .i64 3)).run Try.prog w = .ok u w := fun _ _ _ _ _ => by kernel_rfl
  have hk : k = 0 ∨ k = 1 ∨ k = 2 ∨ k = 3 := by omega
  clear h0 h3
  rcases hk with rfl | rfl | rfl | rfl
  all_goals
    go_enter Try.func72, Try.ntmps72
    go_wp2
    go_ret
    exact ⟨rfl, ((Below.refl _ _).alloc (Nat.le_refl _) _).alloc (by simp) _⟩

private theorem fld_97_0 (b off : Nat) (w : World) : (Instr.fieldAt 97 (.pointer (some ⟨b, off, none⟩)) 0).run Try.prog w = .ok (.pointer (some ⟨b, off, none⟩)) w := by kernel_rfl
private theorem agg_89 : isAggB Try.prog 89 = some false := by kernel_rfl
private theorem fld_99_3 (b off : Nat) (w : World) : (Instr.fieldAt 99 (.pointer (some ⟨b, off, none⟩)) 3).run Try.prog w = .ok (.pointer (some ⟨b, off + 5, none⟩)) w := by kernel_rfl
private theorem agg_66 : isAggB Try.prog 66 = some false := by kernel_rfl
private theorem fld_97_1 (b off : Nat) (w : World) : (Instr.fieldAt 97 (.pointer (some ⟨b, off, none⟩)) 1).run Try.prog w = .ok (.pointer (some ⟨b, off + 1, none⟩)) w := by kernel_rfl
private theorem agg_3 : isAggB Try.prog 3 = some false := by kernel_rfl
private theorem size_46 : (Try.prog.info? 46).map (·.size) = some 1 := by kernel_rfl
private theorem agg_46 : isAggB Try.prog 46 = some false := by kernel_rfl
private theorem fld_97_2 (b off : Nat) (w : World) : (Instr.fieldAt 97 (.pointer (some ⟨b, off, none⟩)) 2).run Try.prog w = .ok (.pointer (some ⟨b, off + 2, none⟩)) w := by kernel_rfl
private theorem size_3 : (Try.prog.info? 3).map (·.size) = some 1 := by kernel_rfl
private theorem fld_99_2 (b off : Nat) (w : World) : (Instr.fieldAt 99 (.pointer (some ⟨b, off, none⟩)) 2).run Try.prog w = .ok (.pointer (some ⟨b, off + 2, none⟩)) w := by kernel_rfl
private theorem agg_28 : isAggB Try.prog 28 = some true := by kernel_rfl
private theorem size_28 : (Try.prog.info? 28).map (·.size) = some 3 := by kernel_rfl
private theorem fld_97_3 (b off : Nat) (w : World) : (Instr.fieldAt 97 (.pointer (some ⟨b, off, none⟩)) 3).run Try.prog w = .ok (.pointer (some ⟨b, off + 3, none⟩)) w := by kernel_rfl
private theorem agg_88 : isAggB Try.prog 88 = some true := by kernel_rfl
private theorem size_88 : (Try.prog.info? 88).map (·.size) = some 2 := by kernel_rfl
private theorem ent_72 : Enters Try.prog 72 := enters_of Try.func72 (by kernel_rfl) rfl

theorem cost_any (w : World) (g R B n cap m capm : Nat) (a b : ByteArray) (pi po ps k c i j x : Int) (rs cs : List Value) (frR frB : Nat × Nat) (h0 : 0 ≤ k) (h3 : k ≤ 3)
    (hi : 0 ≤ i) (hi2 : i < n) (hj : 0 ≤ j) (hj2 : j < m) (hx1 : -9223372036854775808 ≤ x + priceOf pi po ps k) (hx2 : x + priceOf pi po ps k ≤ 9223372036854775807)
    (hg : w.heap[g]? = some (.cells [.string a, .string b, .int .i64 pi, .int .i64 po, .int .i64 ps, .slice (some ⟨R, 0, none⟩) n cap].toArray 99 (0, 0)))
    (hR : w.heap[R]? = some (.cells rs.toArray 46 frR)) (cr : rs[i.toNat]? = some (.slice (some ⟨B, 0, none⟩) m capm))
    (hB : w.heap[B]? = some (.cells cs.toArray 3 frB)) (cx : cs[j.toNat]? = some (.int .i64 x)) :
    Calls Try.prog 65 [.agg #[.pointer (some ⟨g, 0, none⟩), .int .i64 i, .int .i64 j, .int .i64 k, .int .i64 c]].toArray w fun e w' => e = .returned (.int .i64 (x + priceOf pi po ps k)) ∧ Below w.heap.size w w' := by
  refine enter (N := 25) Try.func65 rfl rfl rfl ?_
  refine g_seq ?_
  refine g_region ?_
  refine s_tr (t_box rfl rfl) rfl rfl rfl rfl (fun b1 hb1 => ?_)
  refine s_y (y_assign rfl) rfl rfl rfl rfl ?_
  refine s_nil ?_
  refine g_then ?_
  refine g_seq ?_
  refine g_draw 23 (by kernel_rfl) ?_
  refine j_p (i := 0) rfl (y_fld rfl (fun w => fld_97_0 _ _ w)) (by kernel_rfl) (by kernel_rfl) (by kernel_rfl) rfl rfl rfl rfl rfl (.inr (fun _ h => h)) ?_
  refine j_l (i := 1) rfl (y_ld1 0 rfl rfl agg_89 rfl) (by kernel_rfl) (by kernel_rfl) (by kernel_rfl) (by kernel_rfl) rfl rfl rfl rfl rfl (.inr (fun _ h => h)) ?_
  refine j_p (i := 2) rfl (y_nil rfl) (by kernel_rfl) (by kernel_rfl) (by kernel_rfl) rfl rfl rfl rfl rfl (.inr (fun _ h => h)) ?_
  refine j_p (i := 3) rfl (y_fld rfl (fun w => fld_99_3 _ _ w)) (by kernel_rfl) (by kernel_rfl) (by kernel_rfl) rfl rfl rfl rfl rfl (.inr (fun _ h => h)) ?_
  refine j_l (i := 4) rfl (y_ldO1 hg rfl agg_66 rfl) (by kernel_rfl) (by kernel_rfl) (by kernel_rfl) (by kernel_rfl) rfl rfl rfl rfl rfl (.inr (fun _ h => h)) ?_
  refine j_p (i := 5) rfl (y_fld rfl (fun w => fld_97_1 _ _ w)) (by kernel_rfl) (by kernel_rfl) (by kernel_rfl) rfl rfl rfl rfl rfl (.inr (fun _ h => h)) ?_
  refine j_l (i := 6) rfl (y_ld1 0 rfl rfl agg_3 rfl) (by kernel_rfl) (by kernel_rfl) (by kernel_rfl) (by kernel_rfl) rfl rfl rfl rfl rfl (.inr (fun _ h => h)) ?_
  refine j_p (i := 7) rfl (y_idxb1 rfl rfl Try.underlying66 size_46 (by omega) (by omega)) (by kernel_rfl) (by kernel_rfl) (by kernel_rfl) rfl rfl rfl rfl rfl (.inr (fun _ h => h)) ?_
  refine j_l (i := 8) rfl (y_ldO1 hR rfl agg_46 cr) (by kernel_rfl) (by kernel_rfl) (by kernel_rfl) (by kernel_rfl) rfl rfl rfl rfl rfl (.inr (fun _ h => h)) ?_
  refine j_p (i := 9) rfl (y_fld rfl (fun w => fld_97_2 _ _ w)) (by kernel_rfl) (by kernel_rfl) (by kernel_rfl) rfl rfl rfl rfl rfl (.inr (fun _ h => h)) ?_
  refine j_l (i := 10) rfl (y_ld1 0 rfl rfl agg_3 rfl) (by kernel_rfl) (by kernel_rfl) (by kernel_rfl) (by kernel_rfl) rfl rfl rfl rfl rfl (.inr (fun _ h => h)) ?_
  refine j_p (i := 11) rfl (y_idxb1 rfl rfl Try.underlying46 size_3 (by omega) (by omega)) (by kernel_rfl) (by kernel_rfl) (by kernel_rfl) rfl rfl rfl rfl rfl (.inr (fun _ h => h)) ?_
  refine j_l (i := 12) rfl (y_ldO1 hB rfl agg_3 cx) (by kernel_rfl) (by kernel_rfl) (by kernel_rfl) (by kernel_rfl) rfl rfl rfl rfl rfl (.inr (fun _ h => h)) ?_
  refine j_p (i := 13) rfl (y_fld rfl (fun w => fld_97_0 _ _ w)) (by kernel_rfl) (by kernel_rfl) (by kernel_rfl) rfl rfl rfl rfl rfl (.inr (fun _ h => h)) ?_
  refine j_l (i := 14) rfl (y_ld1 0 rfl rfl agg_89 rfl) (by kernel_rfl) (by kernel_rfl) (by kernel_rfl) (by kernel_rfl) rfl rfl rfl rfl rfl (.inr (fun _ h => h)) ?_
  refine j_p (i := 15) rfl (y_nil rfl) (by kernel_rfl) (by kernel_rfl) (by kernel_rfl) rfl rfl rfl rfl rfl (.inr (fun _ h => h)) ?_
  refine j_p (i := 16) rfl (y_fld rfl (fun w => fld_99_2 _ _ w)) (by kernel_rfl) (by kernel_rfl) (by kernel_rfl) rfl rfl rfl rfl rfl (.inr (fun _ h => h)) ?_
  refine j_l (i := 17) rfl (y_ldOn hg rfl agg_28 size_28 rfl rfl) (by kernel_rfl) (by kernel_rfl) (by kernel_rfl) (by kernel_rfl) rfl rfl rfl rfl rfl (.inr (fun _ h => h)) ?_
  refine j_p (i := 18) rfl (y_fld rfl (fun w => fld_97_3 _ _ w)) (by kernel_rfl) (by kernel_rfl) (by kernel_rfl) rfl rfl rfl rfl rfl (.inr (fun _ h => h)) ?_
  refine j_l (i := 19) rfl (y_ldn 0 rfl rfl agg_88 size_88 rfl rfl) (by kernel_rfl) (by kernel_rfl) (by kernel_rfl) (by kernel_rfl) rfl rfl rfl rfl rfl (.inr (fun _ h => h)) ?_
  refine j_tr (i := 20) rfl (t_call rfl rfl ent_72 (fun w h => of_any w _ _ _ _ _ h0 h3)) (by kernel_rfl) rfl rfl rfl rfl (.inr (fun x w hb h => h)) (fun _ _ => ?_)
  refine j_p (i := 21) rfl (y_add rfl rfl (by omega) (by omega)) (by kernel_rfl) (by kernel_rfl) (by kernel_rfl) rfl rfl rfl rfl rfl (.inr (fun _ h => h)) ?_
  refine j_p (i := 22) rfl (y_assign rfl) (by kernel_rfl) (by kernel_rfl) (by kernel_rfl) rfl rfl rfl rfl rfl (.inr (fun _ h => h)) ?_
  refine j_nil (by kernel_rfl) ?_
  refine g_then ?_
  refine g_ret ?_
  exact g_end trivial (fun a w ha _ => res1 ha rfl rfl w) (fun w h => ⟨rfl, h.below⟩)

end Go.Proofs.Ytnnpdgegejklpaa
