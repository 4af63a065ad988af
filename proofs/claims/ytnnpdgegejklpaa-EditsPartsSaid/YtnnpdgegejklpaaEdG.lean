/- The reference's Cost and Ways, walked. -/
import Derived.Test.YtnnpdgegejklpaaEdF
namespace Go.Proofs.Ytnnpdgegejklpaa
open Go.RowKit Go.Sx
set_option linter.unusedVariables false
set_option linter.unusedSimpArgs false
set_option maxRecDepth 100000
set_option maxHeartbeats 4000000

private theorem agg_23 : isAggB Try.prog 23 = some true := by kernel_rfl
private theorem size_23 : (Try.prog.info? 23).map (·.size) = some 3 := by kernel_rfl
private theorem ent_66 : Enters Try.prog 66 := enters_of Try.func66 (by kernel_rfl) rfl
private theorem size_46 : (Try.prog.info? 46).map (·.size) = some 1 := by kernel_rfl
private theorem agg_46 : isAggB Try.prog 46 = some false := by kernel_rfl
private theorem size_3 : (Try.prog.info? 3).map (·.size) = some 1 := by kernel_rfl
private theorem agg_3 : isAggB Try.prog 3 = some false := by kernel_rfl

theorem RCost_ok (w : World) (a b : ByteArray) (pi po ps : Int) (ha12 : a.size ≤ 12) (hb12 : b.size ≤ 12) (hp : okP pi po ps) :
    Calls Try.prog 30 [.string a, .string b, .agg #[.int .i64 pi, .int .i64 po, .int .i64 ps]].toArray w fun e w' => e = .returned (.int .i64 (D a b pi po ps a.size b.size)) ∧ Below w.heap.size w w' := by
  refine enter (N := 25) Try.func30 rfl rfl rfl ?_
  refine g_seq ?_
  refine g_region ?_
  refine s_tr (t_box rfl rfl) rfl rfl rfl rfl (fun b1 hb1 => ?_)
  refine s_y (y_assign rfl) rfl rfl rfl rfl ?_
  refine s_nil ?_
  refine g_then ?_
  refine g_seq ?_
  refine g_region ?_
  refine s_y (y_move rfl) rfl rfl rfl rfl ?_
  refine s_y (y_move rfl) rfl rfl rfl rfl ?_
  refine s_y (y_ldn 0 rfl rfl agg_23 size_23 rfl rfl) rfl rfl rfl rfl ?_
  refine s_tr (t_callm (A := fun x : (Nat × Nat × List Value × List Nat) × (Nat × Nat × List Value × List Nat) => x.1.2.2.2.length = a.size + 1 ∧ x.2.2.2.2.length = a.size + 1) (vf := fun x => .tuple #[.slice (some ⟨x.1.1, 0, none⟩) (a.size + 1) x.1.2.1, .slice (some ⟨x.2.1, 0, none⟩) (a.size + 1) x.2.2.1]) rfl rfl ent_66 (fun w hw => (costs_ok w a b pi po ps ha12 hb12 hp).mono fun e w' ⟨x, h1, h2, h3⟩ => ⟨x, h1, h2, h3⟩)) rfl rfl rfl rfl (fun x hx => ?_)
  obtain ⟨B, hB0⟩ : ∃ B, x.1.2.2.2[a.size]? = some B := ⟨_, List.getElem?_eq_getElem (by omega)⟩
  have hrs : (x.1.2.2.2.map (rowV (b.size + 1)) ++ x.1.2.2.1)[((a.size : Nat) : Int).toNat]? = some (rowV (b.size + 1) B) := by rw [Int.toNat_natCast, List.getElem?_append_left (by rw [List.length_map]; omega), List.getElem?_map, hB0]; rfl
  have hc : ((tabRow (D a b pi po ps) (b.size + 1) a.size).map (Value.int .i64))[((b.size : Nat) : Int).toNat]? = some (.int .i64 (D a b pi po ps a.size b.size)) := by rw [Int.toNat_natCast, List.getElem?_map, tabRow_at _ _ _ _ (by omega)]; rfl
  have hBm := List.mem_cons_of_mem (x.1.1, Obj.cells (x.1.2.2.2.map (rowV (b.size + 1)) ++ x.1.2.2.1).toArray 46 (0, 0)) (List.mem_cons_of_mem (x.2.1, Obj.cells (x.2.2.2.2.map (rowV (b.size + 1)) ++ x.2.2.2.1).toArray 46 (0, 0)) (List.mem_append_left [(b1, Obj.cells [.int .i64 pi, .int .i64 po, .int .i64 ps].toArray 23 (0, 0))] (List.mem_append_left (rowsM (U a b pi po ps) (b.size + 1) x.2.2.2.2) (rowsM_mem (D a b pi po ps) (b.size + 1) x.1.2.2.2 a.size B hB0))))
  refine s_y (y_move rfl) rfl rfl rfl rfl ?_
  refine s_y (y_extract rfl rfl) rfl rfl rfl rfl ?_
  refine s_y (y_extract rfl rfl) rfl rfl rfl rfl ?_
  refine s_y (y_assign rfl) rfl rfl rfl rfl ?_
  refine s_y (y_assign rfl) rfl rfl rfl rfl ?_
  refine s_nil ?_
  refine g_then ?_
  refine g_seq ?_
  refine g_region ?_
  refine s_y (y_move rfl) rfl rfl rfl rfl ?_
  refine s_y (y_move rfl) rfl rfl rfl rfl ?_
  refine s_y (y_lens rfl Try.underlying9) rfl rfl rfl rfl ?_
  refine s_y (y_idxb1 rfl rfl Try.underlying66 size_46 (by omega) (by omega)) rfl rfl rfl rfl ?_
  refine s_y (y_ld1 0 rfl rfl agg_46 hrs) rfl rfl rfl rfl ?_
  refine s_y (y_move rfl) rfl rfl rfl rfl ?_
  refine s_y (y_lens rfl Try.underlying9) rfl rfl rfl rfl ?_
  refine s_y (y_idxb1 rfl rfl Try.underlying46 size_3 (by omega) (by omega)) rfl rfl rfl rfl ?_
  refine s_y (y_ldM hBm rfl agg_3 hc) rfl rfl rfl rfl ?_
  refine s_y (y_assign rfl) rfl rfl rfl rfl ?_
  refine s_nil ?_
  refine g_then ?_
  refine g_ret ?_
  exact g_end trivial (fun a w ha _ => res1 ha rfl rfl w) (fun w h => ⟨rfl, h.below⟩)

theorem RWays_ok (w : World) (a b : ByteArray) (pi po ps : Int) (ha12 : a.size ≤ 12) (hb12 : b.size ≤ 12) (hp : okP pi po ps) :
    Calls Try.prog 26 [.string a, .string b, .agg #[.int .i64 pi, .int .i64 po, .int .i64 ps]].toArray w fun e w' => e = .returned (.int .i64 (U a b pi po ps a.size b.size)) ∧ Below w.heap.size w w' := by
  refine enter (N := 25) Try.func26 rfl rfl rfl ?_
  refine g_seq ?_
  refine g_region ?_
  refine s_tr (t_box rfl rfl) rfl rfl rfl rfl (fun b1 hb1 => ?_)
  refine s_y (y_assign rfl) rfl rfl rfl rfl ?_
  refine s_nil ?_
  refine g_then ?_
  refine g_seq ?_
  refine g_region ?_
  refine s_y (y_move rfl) rfl rfl rfl rfl ?_
  refine s_y (y_move rfl) rfl rfl rfl rfl ?_
  refine s_y (y_ldn 0 rfl rfl agg_23 size_23 rfl rfl) rfl rfl rfl rfl ?_
  refine s_tr (t_callm (A := fun x : (Nat × Nat × List Value × List Nat) × (Nat × Nat × List Value × List Nat) => x.1.2.2.2.length = a.size + 1 ∧ x.2.2.2.2.length = a.size + 1) (vf := fun x => .tuple #[.slice (some ⟨x.1.1, 0, none⟩) (a.size + 1) x.1.2.1, .slice (some ⟨x.2.1, 0, none⟩) (a.size + 1) x.2.2.1]) rfl rfl ent_66 (fun w hw => (costs_ok w a b pi po ps ha12 hb12 hp).mono fun e w' ⟨x, h1, h2, h3⟩ => ⟨x, h1, h2, h3⟩)) rfl rfl rfl rfl (fun x hx => ?_)
  obtain ⟨B, hB0⟩ : ∃ B, x.2.2.2.2[a.size]? = some B := ⟨_, List.getElem?_eq_getElem (by omega)⟩
  have hrs : (x.2.2.2.2.map (rowV (b.size + 1)) ++ x.2.2.2.1)[((a.size : Nat) : Int).toNat]? = some (rowV (b.size + 1) B) := by rw [Int.toNat_natCast, List.getElem?_append_left (by rw [List.length_map]; omega), List.getElem?_map, hB0]; rfl
  have hc : ((tabRow (U a b pi po ps) (b.size + 1) a.size).map (Value.int .i64))[((b.size : Nat) : Int).toNat]? = some (.int .i64 (U a b pi po ps a.size b.size)) := by rw [Int.toNat_natCast, List.getElem?_map, tabRow_at _ _ _ _ (by omega)]; rfl
  have hBm := List.mem_cons_of_mem (x.1.1, Obj.cells (x.1.2.2.2.map (rowV (b.size + 1)) ++ x.1.2.2.1).toArray 46 (0, 0)) (List.mem_cons_of_mem (x.2.1, Obj.cells (x.2.2.2.2.map (rowV (b.size + 1)) ++ x.2.2.2.1).toArray 46 (0, 0)) (List.mem_append_left [(b1, Obj.cells [.int .i64 pi, .int .i64 po, .int .i64 ps].toArray 23 (0, 0))] (List.mem_append_right (rowsM (D a b pi po ps) (b.size + 1) x.1.2.2.2) (rowsM_mem (U a b pi po ps) (b.size + 1) x.2.2.2.2 a.size B hB0))))
  refine s_y (y_move rfl) rfl rfl rfl rfl ?_
  refine s_y (y_extract rfl rfl) rfl rfl rfl rfl ?_
  refine s_y (y_extract rfl rfl) rfl rfl rfl rfl ?_
  refine s_y (y_assign rfl) rfl rfl rfl rfl ?_
  refine s_y (y_assign rfl) rfl rfl rfl rfl ?_
  refine s_nil ?_
  refine g_then ?_
  refine g_seq ?_
  refine g_region ?_
  refine s_y (y_move rfl) rfl rfl rfl rfl ?_
  refine s_y (y_move rfl) rfl rfl rfl rfl ?_
  refine s_y (y_lens rfl Try.underlying9) rfl rfl rfl rfl ?_
  refine s_y (y_idxb1 rfl rfl Try.underlying66 size_46 (by omega) (by omega)) rfl rfl rfl rfl ?_
  refine s_y (y_ld1 1 rfl rfl agg_46 hrs) rfl rfl rfl rfl ?_
  refine s_y (y_move rfl) rfl rfl rfl rfl ?_
  refine s_y (y_lens rfl Try.underlying9) rfl rfl rfl rfl ?_
  refine s_y (y_idxb1 rfl rfl Try.underlying46 size_3 (by omega) (by omega)) rfl rfl rfl rfl ?_
  refine s_y (y_ldM hBm rfl agg_3 hc) rfl rfl rfl rfl ?_
  refine s_y (y_assign rfl) rfl rfl rfl rfl ?_
  refine s_nil ?_
  refine g_then ?_
  refine g_ret ?_
  exact g_end trivial (fun a w ha _ => res1 ha rfl rfl w) (fun w h => ⟨rfl, h.below⟩)

end Go.Proofs.Ytnnpdgegejklpaa
