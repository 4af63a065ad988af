/- edits: what last and Cost hand back. -/
import Derived.Test.YtnnpdgegejklpaaEdD
namespace Go.Proofs.Ytnnpdgegejklpaa
open Go.RowKit Go.Sx
set_option linter.unusedVariables false
set_option linter.unusedSimpArgs false
set_option maxRecDepth 100000
set_option maxHeartbeats 4000000

private theorem fld_99_3 (b off : Nat) (w : World) : (Instr.fieldAt 99 (.pointer (some ⟨b, off, none⟩)) 3).run Try.prog w = .ok (.pointer (some ⟨b, off + 5, none⟩)) w := by kernel_rfl
private theorem agg_66 : isAggB Try.prog 66 = some false := by kernel_rfl
private theorem fld_99_0 (b off : Nat) (w : World) : (Instr.fieldAt 99 (.pointer (some ⟨b, off, none⟩)) 0).run Try.prog w = .ok (.pointer (some ⟨b, off, none⟩)) w := by kernel_rfl
private theorem agg_9 : isAggB Try.prog 9 = some false := by kernel_rfl
private theorem size_46 : (Try.prog.info? 46).map (·.size) = some 1 := by kernel_rfl
private theorem agg_46 : isAggB Try.prog 46 = some false := by kernel_rfl
private theorem fld_99_1 (b off : Nat) (w : World) : (Instr.fieldAt 99 (.pointer (some ⟨b, off, none⟩)) 1).run Try.prog w = .ok (.pointer (some ⟨b, off + 1, none⟩)) w := by kernel_rfl
private theorem size_3 : (Try.prog.info? 3).map (·.size) = some 1 := by kernel_rfl
private theorem agg_3 : isAggB Try.prog 3 = some false := by kernel_rfl
private theorem agg_28 : isAggB Try.prog 28 = some true := by kernel_rfl
private theorem size_28 : (Try.prog.info? 28).map (·.size) = some 3 := by kernel_rfl
private theorem ent_62 : Enters Try.prog 62 := enters_of Try.func62 (by kernel_rfl) rfl
private theorem ent_63 : Enters Try.prog 63 := enters_of Try.func63 (by kernel_rfl) rfl

theorem last_any (w : World) (g : Nat) (a b : ByteArray) (pi po ps : Int) (x : Nat × Nat × Nat × List Value × List Nat) (hl : x.2.2.2.2.length = a.size + 1) (hx : ∀ p ∈ gridM a b pi po ps x, w.heap[p.1]? = some p.2) :
    Calls Try.prog 63 [.pointer (some ⟨x.1, 0, none⟩)].toArray w fun e w' => e = .returned (.int .i64 (D a b pi po ps a.size b.size)) ∧ Below w.heap.size w w' := by
  have hg := hx _ (List.mem_of_getElem? (i := 0) rfl)
  have hb := hx _ (List.mem_of_getElem? (i := 1) rfl)
  obtain ⟨B, hB0⟩ : ∃ B, x.2.2.2.2[a.size]? = some B := ⟨_, List.getElem?_eq_getElem (by omega)⟩
  have hB := hx (B, rowO (tabRow (D a b pi po ps) (b.size + 1) a.size)) (List.mem_cons_of_mem _ (List.mem_cons_of_mem _ (rowsM_mem _ _ _ _ _ hB0)))
  have hrs : (x.2.2.2.2.map (rowV (b.size + 1)) ++ x.2.2.2.1)[((a.size : Nat) : Int).toNat]? = some (rowV (b.size + 1) B) := by
    rw [Int.toNat_natCast, List.getElem?_append_left (by rw [List.length_map]; omega), List.getElem?_map, hB0]; rfl
  have hc : ((tabRow (D a b pi po ps) (b.size + 1) a.size).map (Value.int .i64))[((b.size : Nat) : Int).toNat]? = some (.int .i64 (D a b pi po ps a.size b.size)) := by
    rw [Int.toNat_natCast, List.getElem?_map, tabRow_at _ _ _ _ (by omega)]; rfl
  refine enter (N := 21) Try.func63 rfl rfl rfl ?_
  refine g_seq ?_
  refine g_region ?_
  refine s_y (y_assign rfl) rfl rfl rfl rfl ?_
  refine s_nil ?_
  refine g_then ?_
  refine g_seq ?_
  refine g_draw 19 (by kernel_rfl) ?_
  refine j_p (i := 0) rfl (y_move rfl) (by kernel_rfl) (by kernel_rfl) (by kernel_rfl) rfl rfl rfl rfl rfl (.inr (fun _ h => h)) ?_
  refine j_p (i := 1) rfl (y_nil rfl) (by kernel_rfl) (by kernel_rfl) (by kernel_rfl) rfl rfl rfl rfl rfl (.inr (fun _ h => h)) ?_
  refine j_p (i := 2) rfl (y_fld rfl (fun w => fld_99_3 _ _ w)) (by kernel_rfl) (by kernel_rfl) (by kernel_rfl) rfl rfl rfl rfl rfl (.inr (fun _ h => h)) ?_
  refine j_l (i := 3) rfl (y_ldO1 hg rfl agg_66 rfl) (by kernel_rfl) (by kernel_rfl) (by kernel_rfl) (by kernel_rfl) rfl rfl rfl rfl rfl (.inr (fun _ h => h)) ?_
  refine j_p (i := 4) rfl (y_move rfl) (by kernel_rfl) (by kernel_rfl) (by kernel_rfl) rfl rfl rfl rfl rfl (.inr (fun _ h => h)) ?_
  refine j_p (i := 5) rfl (y_nil rfl) (by kernel_rfl) (by kernel_rfl) (by kernel_rfl) rfl rfl rfl rfl rfl (.inr (fun _ h => h)) ?_
  refine j_p (i := 6) rfl (y_fld rfl (fun w => fld_99_0 _ _ w)) (by kernel_rfl) (by kernel_rfl) (by kernel_rfl) rfl rfl rfl rfl rfl (.inr (fun _ h => h)) ?_
  refine j_l (i := 7) rfl (y_ldO1 hg rfl agg_9 rfl) (by kernel_rfl) (by kernel_rfl) (by kernel_rfl) (by kernel_rfl) rfl rfl rfl rfl rfl (.inr (fun _ h => h)) ?_
  refine j_p (i := 8) rfl (y_lens rfl Try.underlying9) (by kernel_rfl) (by kernel_rfl) (by kernel_rfl) rfl rfl rfl rfl rfl (.inr (fun _ h => h)) ?_
  refine j_p (i := 9) rfl (y_idxb1 rfl rfl Try.underlying66 size_46 (by omega) (by omega)) (by kernel_rfl) (by kernel_rfl) (by kernel_rfl) rfl rfl rfl rfl rfl (.inr (fun _ h => h)) ?_
  refine j_l (i := 10) rfl (y_ldO1 hb rfl agg_46 hrs) (by kernel_rfl) (by kernel_rfl) (by kernel_rfl) (by kernel_rfl) rfl rfl rfl rfl rfl (.inr (fun _ h => h)) ?_
  refine j_p (i := 11) rfl (y_move rfl) (by kernel_rfl) (by kernel_rfl) (by kernel_rfl) rfl rfl rfl rfl rfl (.inr (fun _ h => h)) ?_
  refine j_p (i := 12) rfl (y_nil rfl) (by kernel_rfl) (by kernel_rfl) (by kernel_rfl) rfl rfl rfl rfl rfl (.inr (fun _ h => h)) ?_
  refine j_p (i := 13) rfl (y_fld rfl (fun w => fld_99_1 _ _ w)) (by kernel_rfl) (by kernel_rfl) (by kernel_rfl) rfl rfl rfl rfl rfl (.inr (fun _ h => h)) ?_
  refine j_l (i := 14) rfl (y_ldO1 hg rfl agg_9 rfl) (by kernel_rfl) (by kernel_rfl) (by kernel_rfl) (by kernel_rfl) rfl rfl rfl rfl rfl (.inr (fun _ h => h)) ?_
  refine j_p (i := 15) rfl (y_lens rfl Try.underlying9) (by kernel_rfl) (by kernel_rfl) (by kernel_rfl) rfl rfl rfl rfl rfl (.inr (fun _ h => h)) ?_
  refine j_p (i := 16) rfl (y_idxb1 rfl rfl Try.underlying46 size_3 (by omega) (by omega)) (by kernel_rfl) (by kernel_rfl) (by kernel_rfl) rfl rfl rfl rfl rfl (.inr (fun _ h => h)) ?_
  refine j_l (i := 17) rfl (y_ldO1 hB rfl agg_3 hc) (by kernel_rfl) (by kernel_rfl) (by kernel_rfl) (by kernel_rfl) rfl rfl rfl rfl rfl (.inr (fun _ h => h)) ?_
  refine j_p (i := 18) rfl (y_assign rfl) (by kernel_rfl) (by kernel_rfl) (by kernel_rfl) rfl rfl rfl rfl rfl (.inr (fun _ h => h)) ?_
  refine j_nil (by kernel_rfl) ?_
  refine g_then ?_
  refine g_ret ?_
  exact g_end trivial (fun a w ha _ => res1 ha rfl rfl w) (fun w h => ⟨rfl, h.below⟩)

theorem Cost_bad (w : World) (a b : ByteArray) (pi po ps : Int) (h : ¬ (a.size ≤ 12 ∧ b.size ≤ 12 ∧ okP pi po ps)) :
    Calls Try.prog 18 [.string a, .string b, .agg #[.int .i64 pi, .int .i64 po, .int .i64 ps]].toArray w fun e w' => e = .returned (.tuple #[.int .i64 0, .int .i64 2]) ∧ Below w.heap.size w w' := by
  refine enter (N := 21) Try.func18 rfl rfl rfl ?_
  refine g_seq ?_
  refine g_region ?_
  refine s_tr (t_box rfl rfl) rfl rfl rfl rfl (fun b1 hb1 => ?_)
  refine s_y (y_assign rfl) rfl rfl rfl rfl ?_
  refine s_y (y_assign rfl) rfl rfl rfl rfl ?_
  refine s_nil ?_
  refine g_then ?_
  refine g_seq ?_
  refine g_region ?_
  refine s_y (y_move rfl) rfl rfl rfl rfl ?_
  refine s_y (y_move rfl) rfl rfl rfl rfl ?_
  refine s_y (y_ldn 0 rfl rfl agg_28 size_28 rfl rfl) rfl rfl rfl rfl ?_
  refine s_tr (t_callm (A := fun _ => True) (vf := fun g : Nat => .tuple #[.pointer (some ⟨g, 0, none⟩), .bool false]) (mm := fun _ => []) rfl rfl ent_62 (fun w hw => (read_bad w a b pi po ps h).mono fun e w' ⟨g, h1, h2⟩ => ⟨g, trivial, h1, Hq.of_below h2⟩)) rfl rfl rfl rfl (fun g _ => ?_)
  refine s_y (y_move rfl) rfl rfl rfl rfl ?_
  refine s_y (y_extract rfl rfl) rfl rfl rfl rfl ?_
  refine s_y (y_extract rfl rfl) rfl rfl rfl rfl ?_
  refine s_y (y_assign rfl) rfl rfl rfl rfl ?_
  refine s_y (y_assign rfl) rfl rfl rfl rfl ?_
  refine s_nil ?_
  refine g_then ?_
  refine g_seq ?_
  refine g_seq ?_
  refine g_region ?_
  refine s_y (y_move rfl) rfl rfl rfl rfl ?_
  refine s_y (y_not_f rfl) rfl rfl rfl rfl ?_
  refine s_nil ?_
  refine g_then ?_
  refine g_cond_t rfl ?_
  refine g_seq ?_
  refine g_region ?_
  refine s_y (y_assign rfl) rfl rfl rfl rfl ?_
  refine s_y (y_assign rfl) rfl rfl rfl rfl ?_
  refine s_nil ?_
  refine g_then ?_
  refine g_ret ?_
  refine g_thenr ?_
  exact g_end trivial (fun a w ha _ => res2 ha rfl rfl rfl w) (fun w h => ⟨rfl, h.below⟩)

theorem Cost_ok (w : World) (a b : ByteArray) (pi po ps : Int) (ha12 : a.size ≤ 12) (hb12 : b.size ≤ 12) (hp : okP pi po ps) :
    Calls Try.prog 18 [.string a, .string b, .agg #[.int .i64 pi, .int .i64 po, .int .i64 ps]].toArray w fun e w' => e = .returned (.tuple #[.int .i64 (D a b pi po ps a.size b.size), .int .i64 0]) ∧ Below w.heap.size w w' := by
  refine enter (N := 21) Try.func18 rfl rfl rfl ?_
  refine g_seq ?_
  refine g_region ?_
  refine s_tr (t_box rfl rfl) rfl rfl rfl rfl (fun b1 hb1 => ?_)
  refine s_y (y_assign rfl) rfl rfl rfl rfl ?_
  refine s_y (y_assign rfl) rfl rfl rfl rfl ?_
  refine s_nil ?_
  refine g_then ?_
  refine g_seq ?_
  refine g_region ?_
  refine s_y (y_move rfl) rfl rfl rfl rfl ?_
  refine s_y (y_move rfl) rfl rfl rfl rfl ?_
  refine s_y (y_ldn 0 rfl rfl agg_28 size_28 rfl rfl) rfl rfl rfl rfl ?_
  refine s_tr (t_callm (A := fun x : Nat × Nat × Nat × List Value × List Nat => x.2.2.2.2.length = a.size + 1) (vf := fun x => .tuple #[.pointer (some ⟨x.1, 0, none⟩), .bool true]) rfl rfl ent_62 (fun w hw => (read_ok w a b pi po ps ha12 hb12 hp).mono fun e w' ⟨x, h1, h2, h3⟩ => ⟨x, h1, h2, h3⟩)) rfl rfl rfl rfl (fun x hx => ?_)
  refine s_y (y_move rfl) rfl rfl rfl rfl ?_
  refine s_y (y_extract rfl rfl) rfl rfl rfl rfl ?_
  refine s_y (y_extract rfl rfl) rfl rfl rfl rfl ?_
  refine s_y (y_assign rfl) rfl rfl rfl rfl ?_
  refine s_y (y_assign rfl) rfl rfl rfl rfl ?_
  refine s_nil ?_
  refine g_then ?_
  refine g_seq ?_
  refine g_seq ?_
  refine g_region ?_
  refine s_y (y_move rfl) rfl rfl rfl rfl ?_
  refine s_y (y_not_t rfl) rfl rfl rfl rfl ?_
  refine s_nil ?_
  refine g_then ?_
  refine g_cond_f rfl ?_
  refine g_skip ?_
  refine g_then ?_
  refine g_seq ?_
  refine g_region ?_
  refine s_y (y_move rfl) rfl rfl rfl rfl ?_
  refine s_tr (t_call rfl rfl ent_63 (fun w h => last_any w 0 a b pi po ps x hx (fun p hp => h.at_ p (List.mem_append_left _ hp)))) rfl rfl rfl rfl (fun _ _ => ?_)
  refine s_y (y_assign rfl) rfl rfl rfl rfl ?_
  refine s_y (y_assign rfl) rfl rfl rfl rfl ?_
  refine s_nil ?_
  refine g_then ?_
  refine g_ret ?_
  exact g_end trivial (fun a w ha _ => res2 ha rfl rfl rfl w) (fun w h => ⟨rfl, h.below⟩)

/-- What Cost hands back. -/
def costR (a b : ByteArray) (pi po ps : Int) : Int × Int := if a.size ≤ 12 ∧ b.size ≤ 12 ∧ okP pi po ps then (D a b pi po ps a.size b.size, 0) else (0, 2)
theorem Cost_any (w : World) (a b : ByteArray) (pi po ps : Int) : Calls Try.prog 18 [.string a, .string b, .agg #[.int .i64 pi, .int .i64 po, .int .i64 ps]].toArray w fun e w' => e = .returned (.tuple #[.int .i64 (costR a b pi po ps).1, .int .i64 (costR a b pi po ps).2]) ∧ Below w.heap.size w w' := by
  unfold costR
  split
  · rename_i h; exact Cost_ok w a b pi po ps h.1 h.2.1 h.2.2
  · rename_i h; exact Cost_bad w a b pi po ps h
end Go.Proofs.Ytnnpdgegejklpaa
