/- The iterator over the edits that lead to a place of the grid. -/
import Derived.Test.YtnnpdgegejklpaaProg
import Derived.Test.YtnnpdgegejklpaaSxE
namespace Go.Proofs.Ytnnpdgegejklpaa
open Go.RowKit Go.Sx
set_option linter.unusedVariables false
set_option linter.unusedSimpArgs false
set_option maxRecDepth 100000
set_option maxHeartbeats 4000000

private theorem agg_3 : isAggB Try.prog 3 = some false := by kernel_rfl
private theorem agg_89 : isAggB Try.prog 89 = some false := by kernel_rfl
private theorem fld_99_1 (b off : Nat) (w : World) : (Instr.fieldAt 99 (.pointer (some ⟨b, off, none⟩)) 1).run Try.prog w = .ok (.pointer (some ⟨b, off + 1, none⟩)) w := by kernel_rfl
private theorem agg_9 : isAggB Try.prog 9 = some false := by kernel_rfl
private theorem bld_88_0_1 (x0 : Int) (x1 : Int) (w : World) : (Instr.build 88 #[(0, (.int .i64 x0)), (1, (.int .i64 x1))]).run Try.prog w = .ok (.agg #[(.int .i64 x0), (.int .i64 x1)]) w := by kernel_rfl
private theorem bld_97_0_1_2_3 (x0 : Option Addr) (x1 : Int) (x2 : Int) (x3_0 : Int) (x3_1 : Int) (w : World) : (Instr.build 97 #[(0, (.pointer x0)), (1, (.int .i64 x1)), (2, (.int .i64 x2)), (3, (.agg #[(.int .i64 x3_0), (.int .i64 x3_1)]))]).run Try.prog w = .ok (.agg #[(.pointer x0), (.int .i64 x1), (.int .i64 x2), (.int .i64 x3_0), (.int .i64 x3_1)]) w := by kernel_rfl
private theorem zero_97 : (Try.prog.info? 97).bind (·.zero) = some (.agg #[(.pointer none), (.int .i64 0), (.int .i64 0), (.int .i64 0), (.int .i64 0)]) := by kernel_rfl
private theorem size_97 : (Try.prog.info? 97).map (·.size) = some 5 := by kernel_rfl
private theorem fld_99_0 (b off : Nat) (w : World) : (Instr.fieldAt 99 (.pointer (some ⟨b, off, none⟩)) 0).run Try.prog w = .ok (.pointer (some ⟨b, off, none⟩)) w := by kernel_rfl
private theorem bld_88_0 (x0 : Int) (w : World) : (Instr.build 88 #[(0, (.int .i64 x0))]).run Try.prog w = .ok (.agg #[(.int .i64 x0), (.int .i64 0)]) w := by kernel_rfl
private theorem fld_97_3 (b off : Nat) (w : World) : (Instr.fieldAt 97 (.pointer (some ⟨b, off, none⟩)) 3).run Try.prog w = .ok (.pointer (some ⟨b, off + 3, none⟩)) w := by kernel_rfl
private theorem size_88 : (Try.prog.info? 88).map (·.size) = some 2 := by kernel_rfl
private theorem agg_97 : isAggB Try.prog 97 = some true := by kernel_rfl

theorem into_any (w : World) (g : Nat) (i j : Int) :
    Calls Try.prog 64 [.pointer (some ⟨g, 0, none⟩), .int .i64 i, .int .i64 j].toArray w fun e w' => ∃ x : Nat × Nat × Nat, e = .returned (.func (.func 88) #[] #[.pointer (some ⟨x.1, 0, none⟩), .pointer (some ⟨x.2.1, 0, none⟩), .pointer (some ⟨x.2.2, 0, none⟩)]) ∧
      Hq w w [(x.2.1, .cells [.int .i64 j].toArray 3 (0, 0)), (x.1, .cells [.int .i64 i].toArray 3 (0, 0)), (x.2.2, .cells [.pointer (some ⟨g, 0, none⟩)].toArray 89 (0, 0))] w' := by
  refine enter (N := 8) Try.func64 rfl rfl rfl ?_
  refine g_seq ?_
  refine g_region ?_
  refine s_tr (t_box rfl rfl) rfl rfl rfl rfl (fun b1 hb1 => ?_)
  refine s_tr (t_box rfl rfl) rfl rfl rfl rfl (fun b2 hb2 => ?_)
  refine s_tr (t_box rfl rfl) rfl rfl rfl rfl (fun b3 hb3 => ?_)
  refine s_y (y_assign rfl) rfl rfl rfl rfl ?_
  refine s_nil ?_
  refine g_then ?_
  refine g_seq ?_
  refine g_region ?_
  refine s_y (y_func rfl rfl) rfl rfl rfl rfl ?_
  refine s_y (y_assign rfl) rfl rfl rfl rfl ?_
  refine s_nil ?_
  refine g_then ?_
  refine g_ret ?_
  exact g_end trivial (fun a w ha _ => res1 ha rfl rfl w) (fun w h => ⟨(_, _, _), rfl, h⟩)

/-- The edits that lead to a place: from where, the kind, the byte. -/
def edges (a b : ByteArray) (i j : Int) : List (Int × Int × Int × Int) :=
  (if 0 < i then (if 0 < j then [if bt a (i - 1) = bt b (j - 1) then (i - 1, j - 1, 0, 0) else (i - 1, j - 1, 1, bt b (j - 1))] else []) else []) ++ (if 0 < i then [(i - 1, j, 2, 0)] else []) ++ (if 0 < j then [(i, j - 1, 3, bt b (j - 1))] else [])
def edgeV (g : Nat) (x : Int × Int × Int × Int) : List Value := [.agg #[.pointer (some ⟨g, 0, none⟩), .int .i64 x.1, .int .i64 x.2.1, .int .i64 x.2.2.1, .int .i64 x.2.2.2]]
/-- What the iterator reads. -/
def GridS (g b3 b4 b5 : Nat) (a b : ByteArray) (i j : Int) (W : World) : Prop :=
  W.heap[b4]? = some (.cells [.int .i64 i].toArray 3 (0, 0)) ∧ W.heap[b5]? = some (.cells [.int .i64 j].toArray 3 (0, 0)) ∧ W.heap[b3]? = some (.cells [.pointer (some ⟨g, 0, none⟩)].toArray 89 (0, 0)) ∧
    ∃ v2 v3 v4 v5, W.heap[g]? = some (.cells [.string a, .string b, v2, v3, v4, v5].toArray 99 (0, 0))
theorem into_iter (g b3 b4 b5 : Nat) (a b : ByteArray) (i j : Int) (hi0 : 0 ≤ i) (hia : i ≤ a.size) (hj0 : 0 ≤ j) (hjb : j ≤ b.size) (ha : a.size ≤ 100) (hb : b.size ≤ 100) :
    IterC Try.prog 88 [.pointer (some ⟨b4, 0, none⟩), .pointer (some ⟨b5, 0, none⟩), .pointer (some ⟨b3, 0, none⟩)] (edgeV g) (edges a b i j) (GridS g b3 b4 b5 a b i j) := by
  intro lp J Jx hS hJg hJxg hY w hJ
  obtain ⟨h4, h5, h3, v2, v3, v4, v5, hg⟩ := hS _ _ hJ
  refine enter (N := 79) Try.func88 rfl rfl rfl ?_
  refine g_seq ?_
  refine g_seq ?_
  refine g_region ?_
  refine s_y (y_ldO1 h4 rfl agg_3 rfl) rfl rfl rfl rfl ?_
  refine s_y (y_gtr rfl rfl) rfl rfl rfl rfl ?_
  refine s_y (y_move rfl) rfl rfl rfl rfl ?_
  refine g_bool 8 rfl (fun hq1 => ?_) (fun hq1 => ?_)
  · (try simp at hq1)
    refine s_y (y_ldO1 h5 rfl agg_3 rfl) rfl rfl rfl rfl ?_
    refine s_y (y_gtr rfl rfl) rfl rfl rfl rfl ?_
    refine s_y (y_pick_t rfl rfl) rfl rfl rfl rfl ?_
    refine s_nil ?_
    refine g_then ?_
    refine g_cond rfl (fun hq2 => ?_) (fun hq2 => ?_)
    · (try simp at hq2)
      refine g_seq ?_
      refine g_draw 16 (by kernel_rfl) ?_
      refine j_l (i := 0) rfl (y_ldO1 h3 rfl agg_89 rfl) (by kernel_rfl) (by kernel_rfl) (by kernel_rfl) (by kernel_rfl) rfl rfl rfl rfl rfl (.inr (fun _ h => h)) ?_
      refine j_l (i := 1) rfl (y_ldO1 h4 rfl agg_3 rfl) (by kernel_rfl) (by kernel_rfl) (by kernel_rfl) (by kernel_rfl) rfl rfl rfl rfl rfl (.inr (fun _ h => h)) ?_
      refine j_p (i := 2) rfl (y_sub rfl rfl (by omega) (by omega)) (by kernel_rfl) (by kernel_rfl) (by kernel_rfl) rfl rfl rfl rfl rfl (.inr (fun _ h => h)) ?_
      refine j_l (i := 3) rfl (y_ldO1 h5 rfl agg_3 rfl) (by kernel_rfl) (by kernel_rfl) (by kernel_rfl) (by kernel_rfl) rfl rfl rfl rfl rfl (.inr (fun _ h => h)) ?_
      refine j_p (i := 4) rfl (y_sub rfl rfl (by omega) (by omega)) (by kernel_rfl) (by kernel_rfl) (by kernel_rfl) rfl rfl rfl rfl rfl (.inr (fun _ h => h)) ?_
      refine j_l (i := 5) rfl (y_ldO1 h3 rfl agg_89 rfl) (by kernel_rfl) (by kernel_rfl) (by kernel_rfl) (by kernel_rfl) rfl rfl rfl rfl rfl (.inr (fun _ h => h)) ?_
      refine j_p (i := 6) rfl (y_nil rfl) (by kernel_rfl) (by kernel_rfl) (by kernel_rfl) rfl rfl rfl rfl rfl (.inr (fun _ h => h)) ?_
      refine j_p (i := 7) rfl (y_fld rfl (fun w => fld_99_1 _ _ w)) (by kernel_rfl) (by kernel_rfl) (by kernel_rfl) rfl rfl rfl rfl rfl (.inr (fun _ h => h)) ?_
      refine j_l (i := 8) rfl (y_ldO1 hg rfl agg_9 rfl) (by kernel_rfl) (by kernel_rfl) (by kernel_rfl) (by kernel_rfl) rfl rfl rfl rfl rfl (.inr (fun _ h => h)) ?_
      refine j_l (i := 9) rfl (y_ldO1 h5 rfl agg_3 rfl) (by kernel_rfl) (by kernel_rfl) (by kernel_rfl) (by kernel_rfl) rfl rfl rfl rfl rfl (.inr (fun _ h => h)) ?_
      refine j_p (i := 10) rfl (y_sub rfl rfl (by omega) (by omega)) (by kernel_rfl) (by kernel_rfl) (by kernel_rfl) rfl rfl rfl rfl rfl (.inr (fun _ h => h)) ?_
      refine j_p (i := 11) rfl (y_idxs rfl rfl Try.underlying9 (by omega) (by omega)) (by kernel_rfl) (by kernel_rfl) (by kernel_rfl) rfl rfl rfl rfl rfl (.inr (fun _ h => h)) ?_
      refine j_p (i := 12) rfl (y_convb rfl (by kernel_rfl) Try.underlying3) (by kernel_rfl) (by kernel_rfl) (by kernel_rfl) rfl rfl rfl rfl rfl (.inr (fun _ h => h)) ?_
      refine j_p (i := 13) rfl (y_build (vs := [(0, _), (1, _)]) rfl rfl (fun w => bld_88_0_1 _ _ w)) (by kernel_rfl) (by kernel_rfl) (by kernel_rfl) rfl rfl rfl rfl rfl (.inr (fun _ h => h)) ?_
      refine j_p (i := 14) rfl (y_build (vs := [(0, _), (1, _), (2, _), (3, _)]) rfl rfl (fun w => bld_97_0_1_2_3 _ _ _ _ _ w)) (by kernel_rfl) (by kernel_rfl) (by kernel_rfl) rfl rfl rfl rfl rfl (.inr (fun _ h => h)) ?_
      refine j_tr (i := 15) rfl (t_alloc zero_97 rfl) (by kernel_rfl) rfl rfl rfl rfl (.inr (fun x w hb h => (h.tail hb.2))) (fun b3 hb3 => ?_)
      refine j_tr0 (i := 16) rfl (t_store 0 rfl rfl rfl rfl size_97 rfl rfl) (by kernel_rfl) rfl rfl rfl (.inl rfl) (fun _ _ => ?_)
      refine j_nil (by kernel_rfl) ?_
      refine g_then ?_
      refine g_seq ?_
      refine g_seq ?_
      refine g_draw 15 (by kernel_rfl) ?_
      refine j_l (i := 0) rfl (y_ldO1 h3 rfl agg_89 rfl) (by kernel_rfl) (by kernel_rfl) (by kernel_rfl) (by kernel_rfl) rfl rfl rfl rfl rfl (.inr (fun _ h => h)) ?_
      refine j_p (i := 1) rfl (y_nil rfl) (by kernel_rfl) (by kernel_rfl) (by kernel_rfl) rfl rfl rfl rfl rfl (.inr (fun _ h => h)) ?_
      refine j_p (i := 2) rfl (y_fld rfl (fun w => fld_99_0 _ _ w)) (by kernel_rfl) (by kernel_rfl) (by kernel_rfl) rfl rfl rfl rfl rfl (.inr (fun _ h => h)) ?_
      refine j_l (i := 3) rfl (y_ldO1 hg rfl agg_9 rfl) (by kernel_rfl) (by kernel_rfl) (by kernel_rfl) (by kernel_rfl) rfl rfl rfl rfl rfl (.inr (fun _ h => h)) ?_
      refine j_l (i := 4) rfl (y_ldO1 h4 rfl agg_3 rfl) (by kernel_rfl) (by kernel_rfl) (by kernel_rfl) (by kernel_rfl) rfl rfl rfl rfl rfl (.inr (fun _ h => h)) ?_
      refine j_p (i := 5) rfl (y_sub rfl rfl (by omega) (by omega)) (by kernel_rfl) (by kernel_rfl) (by kernel_rfl) rfl rfl rfl rfl rfl (.inr (fun _ h => h)) ?_
      refine j_p (i := 6) rfl (y_idxs rfl rfl Try.underlying9 (by omega) (by omega)) (by kernel_rfl) (by kernel_rfl) (by kernel_rfl) rfl rfl rfl rfl rfl (.inr (fun _ h => h)) ?_
      refine j_l (i := 7) rfl (y_ldO1 h3 rfl agg_89 rfl) (by kernel_rfl) (by kernel_rfl) (by kernel_rfl) (by kernel_rfl) rfl rfl rfl rfl rfl (.inr (fun _ h => h)) ?_
      refine j_p (i := 8) rfl (y_nil rfl) (by kernel_rfl) (by kernel_rfl) (by kernel_rfl) rfl rfl rfl rfl rfl (.inr (fun _ h => h)) ?_
      refine j_p (i := 9) rfl (y_fld rfl (fun w => fld_99_1 _ _ w)) (by kernel_rfl) (by kernel_rfl) (by kernel_rfl) rfl rfl rfl rfl rfl (.inr (fun _ h => h)) ?_
      refine j_l (i := 10) rfl (y_ldO1 hg rfl agg_9 rfl) (by kernel_rfl) (by kernel_rfl) (by kernel_rfl) (by kernel_rfl) rfl rfl rfl rfl rfl (.inr (fun _ h => h)) ?_
      refine j_l (i := 11) rfl (y_ldO1 h5 rfl agg_3 rfl) (by kernel_rfl) (by kernel_rfl) (by kernel_rfl) (by kernel_rfl) rfl rfl rfl rfl rfl (.inr (fun _ h => h)) ?_
      refine j_p (i := 12) rfl (y_sub rfl rfl (by omega) (by omega)) (by kernel_rfl) (by kernel_rfl) (by kernel_rfl) rfl rfl rfl rfl rfl (.inr (fun _ h => h)) ?_
      refine j_p (i := 13) rfl (y_idxs rfl rfl Try.underlying9 (by omega) (by omega)) (by kernel_rfl) (by kernel_rfl) (by kernel_rfl) rfl rfl rfl rfl rfl (.inr (fun _ h => h)) ?_
      refine j_p (i := 14) rfl (y_eql rfl rfl) (by kernel_rfl) (by kernel_rfl) (by kernel_rfl) rfl rfl rfl rfl rfl (.inr (fun _ h => h)) ?_
      refine j_nil (by kernel_rfl) ?_
      refine g_then ?_
      refine g_cond rfl (fun hq4 => ?_) (fun hq4 => ?_)
      · (try simp at hq4)
        refine g_region ?_
        refine s_y (y_build (vs := [(0, _)]) rfl rfl (fun w => bld_88_0 _ w)) rfl rfl rfl rfl ?_
        refine s_y (y_fld rfl (fun w => fld_97_3 _ _ w)) rfl rfl rfl rfl ?_
        refine s_tr0 (t_store 0 rfl rfl rfl rfl size_88 rfl rfl) rfl rfl rfl (fun _ _ => ?_)
        refine s_nil ?_
        refine g_then ?_
        refine g_seq ?_
        refine g_region ?_
        refine s_y (y_move rfl) rfl rfl rfl rfl ?_
        refine s_y (y_ldn 0 rfl rfl agg_97 size_97 rfl rfl) rfl rfl rfl rfl ?_
        refine s_yield (A := J 1) (B := Jx 1) rfl rfl rfl rfl (fun w hw => hY 0 (_, _, _, _) w (hJg _ _ _ hJ hw.below) (by unfold edges; (repeat' split) <;> first | rfl | (exfalso; omega))) (fun w hJ => ?_) (fun w hJ => ?_)
        · obtain ⟨h4, h5, h3, v2, v3, v4, v5, hg⟩ := hS _ _ hJ
          refine s_y (y_not_t rfl) rfl rfl rfl rfl ?_
          refine s_nil ?_
          refine g_then ?_
          refine g_cond_f rfl ?_
          refine g_skip ?_
          refine g_then ?_
          refine g_seq ?_
          refine g_seq ?_
          refine g_region ?_
          refine s_y (y_ldO1 h4 rfl agg_3 rfl) rfl rfl rfl rfl ?_
          refine s_y (y_gtr rfl rfl) rfl rfl rfl rfl ?_
          refine s_y (y_move rfl) rfl rfl rfl rfl ?_
          refine g_bool 50 rfl (fun hq5 => ?_) (fun hq5 => ?_)
          · (try simp at hq5)
            refine s_y (y_move rfl) rfl rfl rfl rfl ?_
            refine s_y (y_ldO1 h3 rfl agg_89 rfl) rfl rfl rfl rfl ?_
            refine s_y (y_ldO1 h4 rfl agg_3 rfl) rfl rfl rfl rfl ?_
            refine s_y (y_sub rfl rfl (by omega) (by omega)) rfl rfl rfl rfl ?_
            refine s_y (y_ldO1 h5 rfl agg_3 rfl) rfl rfl rfl rfl ?_
            refine s_y (y_build (vs := [(0, _)]) rfl rfl (fun w => bld_88_0 _ w)) rfl rfl rfl rfl ?_
            refine s_y (y_build (vs := [(0, _), (1, _), (2, _), (3, _)]) rfl rfl (fun w => bld_97_0_1_2_3 _ _ _ _ _ w)) rfl rfl rfl rfl ?_
            refine s_yield (A := J 2) (B := Jx 2) rfl rfl rfl rfl (fun w hw => hY 1 (_, _, _, _) w (hJg _ _ _ hJ hw.below) (by unfold edges; (repeat' split) <;> first | rfl | (exfalso; omega))) (fun w hJ => ?_) (fun w hJ => ?_)
            · obtain ⟨h4, h5, h3, v2, v3, v4, v5, hg⟩ := hS _ _ hJ
              refine s_y (y_not_t rfl) rfl rfl rfl rfl ?_
              refine s_y (y_pick_t rfl rfl) rfl rfl rfl rfl ?_
              refine s_nil ?_
              refine g_then ?_
              refine g_cond_f rfl ?_
              refine g_skip ?_
              refine g_then ?_
              refine g_seq ?_
              refine g_region ?_
              refine s_y (y_ldO1 h5 rfl agg_3 rfl) rfl rfl rfl rfl ?_
              refine s_y (y_gtr rfl rfl) rfl rfl rfl rfl ?_
              refine s_nil ?_
              refine g_then ?_
              refine g_cond rfl (fun hq6 => ?_) (fun hq6 => ?_)
              · (try simp at hq6)
                refine g_draw 15 (by kernel_rfl) ?_
                refine j_p (i := 0) rfl (y_move rfl) (by kernel_rfl) (by kernel_rfl) (by kernel_rfl) rfl rfl rfl rfl rfl (.inr (fun _ h => h)) ?_
                refine j_l (i := 1) rfl (y_ldO1 h3 rfl agg_89 rfl) (by kernel_rfl) (by kernel_rfl) (by kernel_rfl) (by kernel_rfl) rfl rfl rfl rfl rfl (.inr (fun _ h => h)) ?_
                refine j_l (i := 2) rfl (y_ldO1 h4 rfl agg_3 rfl) (by kernel_rfl) (by kernel_rfl) (by kernel_rfl) (by kernel_rfl) rfl rfl rfl rfl rfl (.inr (fun _ h => h)) ?_
                refine j_l (i := 3) rfl (y_ldO1 h5 rfl agg_3 rfl) (by kernel_rfl) (by kernel_rfl) (by kernel_rfl) (by kernel_rfl) rfl rfl rfl rfl rfl (.inr (fun _ h => h)) ?_
                refine j_p (i := 4) rfl (y_sub rfl rfl (by omega) (by omega)) (by kernel_rfl) (by kernel_rfl) (by kernel_rfl) rfl rfl rfl rfl rfl (.inr (fun _ h => h)) ?_
                refine j_l (i := 5) rfl (y_ldO1 h3 rfl agg_89 rfl) (by kernel_rfl) (by kernel_rfl) (by kernel_rfl) (by kernel_rfl) rfl rfl rfl rfl rfl (.inr (fun _ h => h)) ?_
                refine j_p (i := 6) rfl (y_nil rfl) (by kernel_rfl) (by kernel_rfl) (by kernel_rfl) rfl rfl rfl rfl rfl (.inr (fun _ h => h)) ?_
                refine j_p (i := 7) rfl (y_fld rfl (fun w => fld_99_1 _ _ w)) (by kernel_rfl) (by kernel_rfl) (by kernel_rfl) rfl rfl rfl rfl rfl (.inr (fun _ h => h)) ?_
                refine j_l (i := 8) rfl (y_ldO1 hg rfl agg_9 rfl) (by kernel_rfl) (by kernel_rfl) (by kernel_rfl) (by kernel_rfl) rfl rfl rfl rfl rfl (.inr (fun _ h => h)) ?_
                refine j_l (i := 9) rfl (y_ldO1 h5 rfl agg_3 rfl) (by kernel_rfl) (by kernel_rfl) (by kernel_rfl) (by kernel_rfl) rfl rfl rfl rfl rfl (.inr (fun _ h => h)) ?_
                refine j_p (i := 10) rfl (y_sub rfl rfl (by omega) (by omega)) (by kernel_rfl) (by kernel_rfl) (by kernel_rfl) rfl rfl rfl rfl rfl (.inr (fun _ h => h)) ?_
                refine j_p (i := 11) rfl (y_idxs rfl rfl Try.underlying9 (by omega) (by omega)) (by kernel_rfl) (by kernel_rfl) (by kernel_rfl) rfl rfl rfl rfl rfl (.inr (fun _ h => h)) ?_
                refine j_p (i := 12) rfl (y_convb rfl (by kernel_rfl) Try.underlying3) (by kernel_rfl) (by kernel_rfl) (by kernel_rfl) rfl rfl rfl rfl rfl (.inr (fun _ h => h)) ?_
                refine j_p (i := 13) rfl (y_build (vs := [(0, _), (1, _)]) rfl rfl (fun w => bld_88_0_1 _ _ w)) (by kernel_rfl) (by kernel_rfl) (by kernel_rfl) rfl rfl rfl rfl rfl (.inr (fun _ h => h)) ?_
                refine j_p (i := 14) rfl (y_build (vs := [(0, _), (1, _), (2, _), (3, _)]) rfl rfl (fun w => bld_97_0_1_2_3 _ _ _ _ _ w)) (by kernel_rfl) (by kernel_rfl) (by kernel_rfl) rfl rfl rfl rfl rfl (.inr (fun _ h => h)) ?_
                refine j_yield (i := 15) (A := J 3) (B := Jx 3) rfl rfl rfl (by kernel_rfl) rfl rfl rfl (fun w hw => hY 2 (_, _, _, _) w (hJg _ _ _ hJ hw.below) (by unfold edges; (repeat' split) <;> first | rfl | (exfalso; omega))) (fun w hJ => ?_) (fun w hJ => ?_)
                · obtain ⟨h4, h5, h3, v2, v3, v4, v5, hg⟩ := hS _ _ hJ
                  refine j_nil (by kernel_rfl) ?_
                  refine g_endn trivial (fun a w ha _ => res0 rfl w) (fun w h => ⟨⟨_, rfl⟩, .inl ?_⟩)
                  have hl : (edges a b i j).length = 3 := by unfold edges; (repeat' split) <;> first | rfl | (exfalso; omega)
                  rw [hl]
                  exact hJg _ _ _ hJ h.below
                · skip
                  refine j_nil (by kernel_rfl) ?_
                  refine g_endn trivial (fun a w ha _ => res0 rfl w) (fun w h => ⟨⟨_, rfl⟩, .inr ⟨3, (by unfold edges; (repeat' split) <;> first | (simp; done) | (exfalso; omega)), hJxg _ _ _ hJ h.below⟩⟩)
              · (try simp at hq6)
                refine g_skip ?_
                refine g_endn trivial (fun a w ha _ => res0 rfl w) (fun w h => ⟨⟨_, rfl⟩, .inl ?_⟩)
                have hl : (edges a b i j).length = 2 := by unfold edges; (repeat' split) <;> first | rfl | (exfalso; omega)
                rw [hl]
                exact hJg _ _ _ hJ h.below
            · skip
              refine s_y (y_not_f rfl) rfl rfl rfl rfl ?_
              refine s_y (y_pick_t rfl rfl) rfl rfl rfl rfl ?_
              refine s_nil ?_
              refine g_then ?_
              refine g_cond_t rfl ?_
              refine g_ret ?_
              refine g_thenr ?_
              refine g_end trivial (fun a w ha _ => res0 rfl w) (fun w h => ⟨⟨_, rfl⟩, .inr ⟨2, (by unfold edges; (repeat' split) <;> first | (simp; done) | (exfalso; omega)), hJxg _ _ _ hJ h.below⟩⟩)
          · (try simp at hq5)
            refine s_no rfl rfl rfl ?_
            refine s_no rfl rfl rfl ?_
            refine s_no rfl rfl rfl ?_
            refine s_no rfl rfl rfl ?_
            refine s_no rfl rfl rfl ?_
            refine s_no rfl rfl rfl ?_
            refine s_no rfl rfl rfl ?_
            refine s_no rfl rfl rfl ?_
            refine s_no rfl rfl rfl ?_
            refine s_y (y_pick_f rfl rfl) rfl rfl rfl rfl ?_
            refine s_nil ?_
            refine g_then ?_
            refine g_cond_f rfl ?_
            refine g_skip ?_
            refine g_then ?_
            refine g_seq ?_
            refine g_region ?_
            refine s_y (y_ldO1 h5 rfl agg_3 rfl) rfl rfl rfl rfl ?_
            refine s_y (y_gtr rfl rfl) rfl rfl rfl rfl ?_
            refine s_nil ?_
            refine g_then ?_
            refine g_cond rfl (fun hq7 => ?_) (fun hq7 => ?_)
            · (try simp at hq7)
              refine g_draw 15 (by kernel_rfl) ?_
              refine j_p (i := 0) rfl (y_move rfl) (by kernel_rfl) (by kernel_rfl) (by kernel_rfl) rfl rfl rfl rfl rfl (.inr (fun _ h => h)) ?_
              refine j_l (i := 1) rfl (y_ldO1 h3 rfl agg_89 rfl) (by kernel_rfl) (by kernel_rfl) (by kernel_rfl) (by kernel_rfl) rfl rfl rfl rfl rfl (.inr (fun _ h => h)) ?_
              refine j_l (i := 2) rfl (y_ldO1 h4 rfl agg_3 rfl) (by kernel_rfl) (by kernel_rfl) (by kernel_rfl) (by kernel_rfl) rfl rfl rfl rfl rfl (.inr (fun _ h => h)) ?_
              refine j_l (i := 3) rfl (y_ldO1 h5 rfl agg_3 rfl) (by kernel_rfl) (by kernel_rfl) (by kernel_rfl) (by kernel_rfl) rfl rfl rfl rfl rfl (.inr (fun _ h => h)) ?_
              refine j_p (i := 4) rfl (y_sub rfl rfl (by omega) (by omega)) (by kernel_rfl) (by kernel_rfl) (by kernel_rfl) rfl rfl rfl rfl rfl (.inr (fun _ h => h)) ?_
              refine j_l (i := 5) rfl (y_ldO1 h3 rfl agg_89 rfl) (by kernel_rfl) (by kernel_rfl) (by kernel_rfl) (by kernel_rfl) rfl rfl rfl rfl rfl (.inr (fun _ h => h)) ?_
              refine j_p (i := 6) rfl (y_nil rfl) (by kernel_rfl) (by kernel_rfl) (by kernel_rfl) rfl rfl rfl rfl rfl (.inr (fun _ h => h)) ?_
              refine j_p (i := 7) rfl (y_fld rfl (fun w => fld_99_1 _ _ w)) (by kernel_rfl) (by kernel_rfl) (by kernel_rfl) rfl rfl rfl rfl rfl (.inr (fun _ h => h)) ?_
              refine j_l (i := 8) rfl (y_ldO1 hg rfl agg_9 rfl) (by kernel_rfl) (by kernel_rfl) (by kernel_rfl) (by kernel_rfl) rfl rfl rfl rfl rfl (.inr (fun _ h => h)) ?_
              refine j_l (i := 9) rfl (y_ldO1 h5 rfl agg_3 rfl) (by kernel_rfl) (by kernel_rfl) (by kernel_rfl) (by kernel_rfl) rfl rfl rfl rfl rfl (.inr (fun _ h => h)) ?_
              refine j_p (i := 10) rfl (y_sub rfl rfl (by omega) (by omega)) (by kernel_rfl) (by kernel_rfl) (by kernel_rfl) rfl rfl rfl rfl rfl (.inr (fun _ h => h)) ?_
              refine j_p (i := 11) rfl (y_idxs rfl rfl Try.underlying9 (by omega) (by omega)) (by kernel_rfl) (by kernel_rfl) (by kernel_rfl) rfl rfl rfl rfl rfl (.inr (fun _ h => h)) ?_
              refine j_p (i := 12) rfl (y_convb rfl (by kernel_rfl) Try.underlying3) (by kernel_rfl) (by kernel_rfl) (by kernel_rfl) rfl rfl rfl rfl rfl (.inr (fun _ h => h)) ?_
              refine j_p (i := 13) rfl (y_build (vs := [(0, _), (1, _)]) rfl rfl (fun w => bld_88_0_1 _ _ w)) (by kernel_rfl) (by kernel_rfl) (by kernel_rfl) rfl rfl rfl rfl rfl (.inr (fun _ h => h)) ?_
              refine j_p (i := 14) rfl (y_build (vs := [(0, _), (1, _), (2, _), (3, _)]) rfl rfl (fun w => bld_97_0_1_2_3 _ _ _ _ _ w)) (by kernel_rfl) (by kernel_rfl) (by kernel_rfl) rfl rfl rfl rfl rfl (.inr (fun _ h => h)) ?_
              refine j_yield (i := 15) (A := J 2) (B := Jx 2) rfl rfl rfl (by kernel_rfl) rfl rfl rfl (fun w hw => hY 1 (_, _, _, _) w (hJg _ _ _ hJ hw.below) (by unfold edges; (repeat' split) <;> first | rfl | (exfalso; omega))) (fun w hJ => ?_) (fun w hJ => ?_)
              · obtain ⟨h4, h5, h3, v2, v3, v4, v5, hg⟩ := hS _ _ hJ
                refine j_nil (by kernel_rfl) ?_
                refine g_endn trivial (fun a w ha _ => res0 rfl w) (fun w h => ⟨⟨_, rfl⟩, .inl ?_⟩)
                have hl : (edges a b i j).length = 2 := by unfold edges; (repeat' split) <;> first | rfl | (exfalso; omega)
                rw [hl]
                exact hJg _ _ _ hJ h.below
              · skip
                refine j_nil (by kernel_rfl) ?_
                refine g_endn trivial (fun a w ha _ => res0 rfl w) (fun w h => ⟨⟨_, rfl⟩, .inr ⟨2, (by unfold edges; (repeat' split) <;> first | (simp; done) | (exfalso; omega)), hJxg _ _ _ hJ h.below⟩⟩)
            · (try simp at hq7)
              refine g_skip ?_
              refine g_endn trivial (fun a w ha _ => res0 rfl w) (fun w h => ⟨⟨_, rfl⟩, .inl ?_⟩)
              have hl : (edges a b i j).length = 1 := by unfold edges; (repeat' split) <;> first | rfl | (exfalso; omega)
              rw [hl]
              exact hJg _ _ _ hJ h.below
        · skip
          refine s_y (y_not_f rfl) rfl rfl rfl rfl ?_
          refine s_nil ?_
          refine g_then ?_
          refine g_cond_t rfl ?_
          refine g_ret ?_
          refine g_thenr ?_
          refine g_end trivial (fun a w ha _ => res0 rfl w) (fun w h => ⟨⟨_, rfl⟩, .inr ⟨1, (by unfold edges; (repeat' split) <;> first | (simp; done) | (exfalso; omega)), hJxg _ _ _ hJ h.below⟩⟩)
      · (try simp at hq4)
        refine g_skip ?_
        refine g_then ?_
        refine g_seq ?_
        refine g_region ?_
        refine s_y (y_move rfl) rfl rfl rfl rfl ?_
        refine s_y (y_ldn 0 rfl rfl agg_97 size_97 rfl rfl) rfl rfl rfl rfl ?_
        refine s_yield (A := J 1) (B := Jx 1) rfl rfl rfl rfl (fun w hw => hY 0 (_, _, _, _) w (hJg _ _ _ hJ hw.below) (by unfold edges; (repeat' split) <;> first | rfl | (exfalso; omega))) (fun w hJ => ?_) (fun w hJ => ?_)
        · obtain ⟨h4, h5, h3, v2, v3, v4, v5, hg⟩ := hS _ _ hJ
          refine s_y (y_not_t rfl) rfl rfl rfl rfl ?_
          refine s_nil ?_
          refine g_then ?_
          refine g_cond_f rfl ?_
          refine g_skip ?_
          refine g_then ?_
          refine g_seq ?_
          refine g_seq ?_
          refine g_region ?_
          refine s_y (y_ldO1 h4 rfl agg_3 rfl) rfl rfl rfl rfl ?_
          refine s_y (y_gtr rfl rfl) rfl rfl rfl rfl ?_
          refine s_y (y_move rfl) rfl rfl rfl rfl ?_
          refine g_bool 50 rfl (fun hq8 => ?_) (fun hq8 => ?_)
          · (try simp at hq8)
            refine s_y (y_move rfl) rfl rfl rfl rfl ?_
            refine s_y (y_ldO1 h3 rfl agg_89 rfl) rfl rfl rfl rfl ?_
            refine s_y (y_ldO1 h4 rfl agg_3 rfl) rfl rfl rfl rfl ?_
            refine s_y (y_sub rfl rfl (by omega) (by omega)) rfl rfl rfl rfl ?_
            refine s_y (y_ldO1 h5 rfl agg_3 rfl) rfl rfl rfl rfl ?_
            refine s_y (y_build (vs := [(0, _)]) rfl rfl (fun w => bld_88_0 _ w)) rfl rfl rfl rfl ?_
            refine s_y (y_build (vs := [(0, _), (1, _), (2, _), (3, _)]) rfl rfl (fun w => bld_97_0_1_2_3 _ _ _ _ _ w)) rfl rfl rfl rfl ?_
            refine s_yield (A := J 2) (B := Jx 2) rfl rfl rfl rfl (fun w hw => hY 1 (_, _, _, _) w (hJg _ _ _ hJ hw.below) (by unfold edges; (repeat' split) <;> first | rfl | (exfalso; omega))) (fun w hJ => ?_) (fun w hJ => ?_)
            · obtain ⟨h4, h5, h3, v2, v3, v4, v5, hg⟩ := hS _ _ hJ
              refine s_y (y_not_t rfl) rfl rfl rfl rfl ?_
              refine s_y (y_pick_t rfl rfl) rfl rfl rfl rfl ?_
              refine s_nil ?_
              refine g_then ?_
              refine g_cond_f rfl ?_
              refine g_skip ?_
              refine g_then ?_
              refine g_seq ?_
              refine g_region ?_
              refine s_y (y_ldO1 h5 rfl agg_3 rfl) rfl rfl rfl rfl ?_
              refine s_y (y_gtr rfl rfl) rfl rfl rfl rfl ?_
              refine s_nil ?_
              refine g_then ?_
              refine g_cond rfl (fun hq9 => ?_) (fun hq9 => ?_)
              · (try simp at hq9)
                refine g_draw 15 (by kernel_rfl) ?_
                refine j_p (i := 0) rfl (y_move rfl) (by kernel_rfl) (by kernel_rfl) (by kernel_rfl) rfl rfl rfl rfl rfl (.inr (fun _ h => h)) ?_
                refine j_l (i := 1) rfl (y_ldO1 h3 rfl agg_89 rfl) (by kernel_rfl) (by kernel_rfl) (by kernel_rfl) (by kernel_rfl) rfl rfl rfl rfl rfl (.inr (fun _ h => h)) ?_
                refine j_l (i := 2) rfl (y_ldO1 h4 rfl agg_3 rfl) (by kernel_rfl) (by kernel_rfl) (by kernel_rfl) (by kernel_rfl) rfl rfl rfl rfl rfl (.inr (fun _ h => h)) ?_
                refine j_l (i := 3) rfl (y_ldO1 h5 rfl agg_3 rfl) (by kernel_rfl) (by kernel_rfl) (by kernel_rfl) (by kernel_rfl) rfl rfl rfl rfl rfl (.inr (fun _ h => h)) ?_
                refine j_p (i := 4) rfl (y_sub rfl rfl (by omega) (by omega)) (by kernel_rfl) (by kernel_rfl) (by kernel_rfl) rfl rfl rfl rfl rfl (.inr (fun _ h => h)) ?_
                refine j_l (i := 5) rfl (y_ldO1 h3 rfl agg_89 rfl) (by kernel_rfl) (by kernel_rfl) (by kernel_rfl) (by kernel_rfl) rfl rfl rfl rfl rfl (.inr (fun _ h => h)) ?_
                refine j_p (i := 6) rfl (y_nil rfl) (by kernel_rfl) (by kernel_rfl) (by kernel_rfl) rfl rfl rfl rfl rfl (.inr (fun _ h => h)) ?_
                refine j_p (i := 7) rfl (y_fld rfl (fun w => fld_99_1 _ _ w)) (by kernel_rfl) (by kernel_rfl) (by kernel_rfl) rfl rfl rfl rfl rfl (.inr (fun _ h => h)) ?_
                refine j_l (i := 8) rfl (y_ldO1 hg rfl agg_9 rfl) (by kernel_rfl) (by kernel_rfl) (by kernel_rfl) (by kernel_rfl) rfl rfl rfl rfl rfl (.inr (fun _ h => h)) ?_
                refine j_l (i := 9) rfl (y_ldO1 h5 rfl agg_3 rfl) (by kernel_rfl) (by kernel_rfl) (by kernel_rfl) (by kernel_rfl) rfl rfl rfl rfl rfl (.inr (fun _ h => h)) ?_
                refine j_p (i := 10) rfl (y_sub rfl rfl (by omega) (by omega)) (by kernel_rfl) (by kernel_rfl) (by kernel_rfl) rfl rfl rfl rfl rfl (.inr (fun _ h => h)) ?_
                refine j_p (i := 11) rfl (y_idxs rfl rfl Try.underlying9 (by omega) (by omega)) (by kernel_rfl) (by kernel_rfl) (by kernel_rfl) rfl rfl rfl rfl rfl (.inr (fun _ h => h)) ?_
                refine j_p (i := 12) rfl (y_convb rfl (by kernel_rfl) Try.underlying3) (by kernel_rfl) (by kernel_rfl) (by kernel_rfl) rfl rfl rfl rfl rfl (.inr (fun _ h => h)) ?_
                refine j_p (i := 13) rfl (y_build (vs := [(0, _), (1, _)]) rfl rfl (fun w => bld_88_0_1 _ _ w)) (by kernel_rfl) (by kernel_rfl) (by kernel_rfl) rfl rfl rfl rfl rfl (.inr (fun _ h => h)) ?_
                refine j_p (i := 14) rfl (y_build (vs := [(0, _), (1, _), (2, _), (3, _)]) rfl rfl (fun w => bld_97_0_1_2_3 _ _ _ _ _ w)) (by kernel_rfl) (by kernel_rfl) (by kernel_rfl) rfl rfl rfl rfl rfl (.inr (fun _ h => h)) ?_
                refine j_yield (i := 15) (A := J 3) (B := Jx 3) rfl rfl rfl (by kernel_rfl) rfl rfl rfl (fun w hw => hY 2 (_, _, _, _) w (hJg _ _ _ hJ hw.below) (by unfold edges; (repeat' split) <;> first | rfl | (exfalso; omega))) (fun w hJ => ?_) (fun w hJ => ?_)
                · obtain ⟨h4, h5, h3, v2, v3, v4, v5, hg⟩ := hS _ _ hJ
                  refine j_nil (by kernel_rfl) ?_
                  refine g_endn trivial (fun a w ha _ => res0 rfl w) (fun w h => ⟨⟨_, rfl⟩, .inl ?_⟩)
                  have hl : (edges a b i j).length = 3 := by unfold edges; (repeat' split) <;> first | rfl | (exfalso; omega)
                  rw [hl]
                  exact hJg _ _ _ hJ h.below
                · skip
                  refine j_nil (by kernel_rfl) ?_
                  refine g_endn trivial (fun a w ha _ => res0 rfl w) (fun w h => ⟨⟨_, rfl⟩, .inr ⟨3, (by unfold edges; (repeat' split) <;> first | (simp; done) | (exfalso; omega)), hJxg _ _ _ hJ h.below⟩⟩)
              · (try simp at hq9)
                refine g_skip ?_
                refine g_endn trivial (fun a w ha _ => res0 rfl w) (fun w h => ⟨⟨_, rfl⟩, .inl ?_⟩)
                have hl : (edges a b i j).length = 2 := by unfold edges; (repeat' split) <;> first | rfl | (exfalso; omega)
                rw [hl]
                exact hJg _ _ _ hJ h.below
            · skip
              refine s_y (y_not_f rfl) rfl rfl rfl rfl ?_
              refine s_y (y_pick_t rfl rfl) rfl rfl rfl rfl ?_
              refine s_nil ?_
              refine g_then ?_
              refine g_cond_t rfl ?_
              refine g_ret ?_
              refine g_thenr ?_
              refine g_end trivial (fun a w ha _ => res0 rfl w) (fun w h => ⟨⟨_, rfl⟩, .inr ⟨2, (by unfold edges; (repeat' split) <;> first | (simp; done) | (exfalso; omega)), hJxg _ _ _ hJ h.below⟩⟩)
          · (try simp at hq8)
            refine s_no rfl rfl rfl ?_
            refine s_no rfl rfl rfl ?_
            refine s_no rfl rfl rfl ?_
            refine s_no rfl rfl rfl ?_
            refine s_no rfl rfl rfl ?_
            refine s_no rfl rfl rfl ?_
            refine s_no rfl rfl rfl ?_
            refine s_no rfl rfl rfl ?_
            refine s_no rfl rfl rfl ?_
            refine s_y (y_pick_f rfl rfl) rfl rfl rfl rfl ?_
            refine s_nil ?_
            refine g_then ?_
            refine g_cond_f rfl ?_
            refine g_skip ?_
            refine g_then ?_
            refine g_seq ?_
            refine g_region ?_
            refine s_y (y_ldO1 h5 rfl agg_3 rfl) rfl rfl rfl rfl ?_
            refine s_y (y_gtr rfl rfl) rfl rfl rfl rfl ?_
            refine s_nil ?_
            refine g_then ?_
            refine g_cond rfl (fun hq10 => ?_) (fun hq10 => ?_)
            · (try simp at hq10)
              refine g_draw 15 (by kernel_rfl) ?_
              refine j_p (i := 0) rfl (y_move rfl) (by kernel_rfl) (by kernel_rfl) (by kernel_rfl) rfl rfl rfl rfl rfl (.inr (fun _ h => h)) ?_
              refine j_l (i := 1) rfl (y_ldO1 h3 rfl agg_89 rfl) (by kernel_rfl) (by kernel_rfl) (by kernel_rfl) (by kernel_rfl) rfl rfl rfl rfl rfl (.inr (fun _ h => h)) ?_
              refine j_l (i := 2) rfl (y_ldO1 h4 rfl agg_3 rfl) (by kernel_rfl) (by kernel_rfl) (by kernel_rfl) (by kernel_rfl) rfl rfl rfl rfl rfl (.inr (fun _ h => h)) ?_
              refine j_l (i := 3) rfl (y_ldO1 h5 rfl agg_3 rfl) (by kernel_rfl) (by kernel_rfl) (by kernel_rfl) (by kernel_rfl) rfl rfl rfl rfl rfl (.inr (fun _ h => h)) ?_
              refine j_p (i := 4) rfl (y_sub rfl rfl (by omega) (by omega)) (by kernel_rfl) (by kernel_rfl) (by kernel_rfl) rfl rfl rfl rfl rfl (.inr (fun _ h => h)) ?_
              refine j_l (i := 5) rfl (y_ldO1 h3 rfl agg_89 rfl) (by kernel_rfl) (by kernel_rfl) (by kernel_rfl) (by kernel_rfl) rfl rfl rfl rfl rfl (.inr (fun _ h => h)) ?_
              refine j_p (i := 6) rfl (y_nil rfl) (by kernel_rfl) (by kernel_rfl) (by kernel_rfl) rfl rfl rfl rfl rfl (.inr (fun _ h => h)) ?_
              refine j_p (i := 7) rfl (y_fld rfl (fun w => fld_99_1 _ _ w)) (by kernel_rfl) (by kernel_rfl) (by kernel_rfl) rfl rfl rfl rfl rfl (.inr (fun _ h => h)) ?_
              refine j_l (i := 8) rfl (y_ldO1 hg rfl agg_9 rfl) (by kernel_rfl) (by kernel_rfl) (by kernel_rfl) (by kernel_rfl) rfl rfl rfl rfl rfl (.inr (fun _ h => h)) ?_
              refine j_l (i := 9) rfl (y_ldO1 h5 rfl agg_3 rfl) (by kernel_rfl) (by kernel_rfl) (by kernel_rfl) (by kernel_rfl) rfl rfl rfl rfl rfl (.inr (fun _ h => h)) ?_
              refine j_p (i := 10) rfl (y_sub rfl rfl (by omega) (by omega)) (by kernel_rfl) (by kernel_rfl) (by kernel_rfl) rfl rfl rfl rfl rfl (.inr (fun _ h => h)) ?_
              refine j_p (i := 11) rfl (y_idxs rfl rfl Try.underlying9 (by omega) (by omega)) (by kernel_rfl) (by kernel_rfl) (by kernel_rfl) rfl rfl rfl rfl rfl (.inr (fun _ h => h)) ?_
              refine j_p (i := 12) rfl (y_convb rfl (by kernel_rfl) Try.underlying3) (by kernel_rfl) (by kernel_rfl) (by kernel_rfl) rfl rfl rfl rfl rfl (.inr (fun _ h => h)) ?_
              refine j_p (i := 13) rfl (y_build (vs := [(0, _), (1, _)]) rfl rfl (fun w => bld_88_0_1 _ _ w)) (by kernel_rfl) (by kernel_rfl) (by kernel_rfl) rfl rfl rfl rfl rfl (.inr (fun _ h => h)) ?_
              refine j_p (i := 14) rfl (y_build (vs := [(0, _), (1, _), (2, _), (3, _)]) rfl rfl (fun w => bld_97_0_1_2_3 _ _ _ _ _ w)) (by kernel_rfl) (by kernel_rfl) (by kernel_rfl) rfl rfl rfl rfl rfl (.inr (fun _ h => h)) ?_
              refine j_yield (i := 15) (A := J 2) (B := Jx 2) rfl rfl rfl (by kernel_rfl) rfl rfl rfl (fun w hw => hY 1 (_, _, _, _) w (hJg _ _ _ hJ hw.below) (by unfold edges; (repeat' split) <;> first | rfl | (exfalso; omega))) (fun w hJ => ?_) (fun w hJ => ?_)
              · obtain ⟨h4, h5, h3, v2, v3, v4, v5, hg⟩ := hS _ _ hJ
                refine j_nil (by kernel_rfl) ?_
                refine g_endn trivial (fun a w ha _ => res0 rfl w) (fun w h => ⟨⟨_, rfl⟩, .inl ?_⟩)
                have hl : (edges a b i j).length = 2 := by unfold edges; (repeat' split) <;> first | rfl | (exfalso; omega)
                rw [hl]
                exact hJg _ _ _ hJ h.below
              · skip
                refine j_nil (by kernel_rfl) ?_
                refine g_endn trivial (fun a w ha _ => res0 rfl w) (fun w h => ⟨⟨_, rfl⟩, .inr ⟨2, (by unfold edges; (repeat' split) <;> first | (simp; done) | (exfalso; omega)), hJxg _ _ _ hJ h.below⟩⟩)
            · (try simp at hq10)
              refine g_skip ?_
              refine g_endn trivial (fun a w ha _ => res0 rfl w) (fun w h => ⟨⟨_, rfl⟩, .inl ?_⟩)
              have hl : (edges a b i j).length = 1 := by unfold edges; (repeat' split) <;> first | rfl | (exfalso; omega)
              rw [hl]
              exact hJg _ _ _ hJ h.below
        · skip
          refine s_y (y_not_f rfl) rfl rfl rfl rfl ?_
          refine s_nil ?_
          refine g_then ?_
          refine g_cond_t rfl ?_
          refine g_ret ?_
          refine g_thenr ?_
          refine g_end trivial (fun a w ha _ => res0 rfl w) (fun w h => ⟨⟨_, rfl⟩, .inr ⟨1, (by unfold edges; (repeat' split) <;> first | (simp; done) | (exfalso; omega)), hJxg _ _ _ hJ h.below⟩⟩)
    · (try simp at hq2)
      refine g_skip ?_
      refine g_then ?_
      refine g_seq ?_
      refine g_seq ?_
      refine g_region ?_
      refine s_y (y_ldO1 h4 rfl agg_3 rfl) rfl rfl rfl rfl ?_
      refine s_y (y_gtr rfl rfl) rfl rfl rfl rfl ?_
      refine s_y (y_move rfl) rfl rfl rfl rfl ?_
      refine g_bool 50 rfl (fun hq11 => ?_) (fun hq11 => ?_)
      · (try simp at hq11)
        refine s_y (y_move rfl) rfl rfl rfl rfl ?_
        refine s_y (y_ldO1 h3 rfl agg_89 rfl) rfl rfl rfl rfl ?_
        refine s_y (y_ldO1 h4 rfl agg_3 rfl) rfl rfl rfl rfl ?_
        refine s_y (y_sub rfl rfl (by omega) (by omega)) rfl rfl rfl rfl ?_
        refine s_y (y_ldO1 h5 rfl agg_3 rfl) rfl rfl rfl rfl ?_
        refine s_y (y_build (vs := [(0, _)]) rfl rfl (fun w => bld_88_0 _ w)) rfl rfl rfl rfl ?_
        refine s_y (y_build (vs := [(0, _), (1, _), (2, _), (3, _)]) rfl rfl (fun w => bld_97_0_1_2_3 _ _ _ _ _ w)) rfl rfl rfl rfl ?_
        refine s_yield (A := J 1) (B := Jx 1) rfl rfl rfl rfl (fun w hw => hY 0 (_, _, _, _) w (hJg _ _ _ hJ hw.below) (by unfold edges; (repeat' split) <;> first | rfl | (exfalso; omega))) (fun w hJ => ?_) (fun w hJ => ?_)
        · obtain ⟨h4, h5, h3, v2, v3, v4, v5, hg⟩ := hS _ _ hJ
          refine s_y (y_not_t rfl) rfl rfl rfl rfl ?_
          refine s_y (y_pick_t rfl rfl) rfl rfl rfl rfl ?_
          refine s_nil ?_
          refine g_then ?_
          refine g_cond_f rfl ?_
          refine g_skip ?_
          refine g_then ?_
          refine g_seq ?_
          refine g_region ?_
          refine s_y (y_ldO1 h5 rfl agg_3 rfl) rfl rfl rfl rfl ?_
          refine s_y (y_gtr rfl rfl) rfl rfl rfl rfl ?_
          refine s_nil ?_
          refine g_then ?_
          refine g_cond rfl (fun hq12 => ?_) (fun hq12 => ?_)
          · (try simp at hq12)
            refine g_draw 15 (by kernel_rfl) ?_
            refine j_p (i := 0) rfl (y_move rfl) (by kernel_rfl) (by kernel_rfl) (by kernel_rfl) rfl rfl rfl rfl rfl (.inr (fun _ h => h)) ?_
            refine j_l (i := 1) rfl (y_ldO1 h3 rfl agg_89 rfl) (by kernel_rfl) (by kernel_rfl) (by kernel_rfl) (by kernel_rfl) rfl rfl rfl rfl rfl (.inr (fun _ h => h)) ?_
            refine j_l (i := 2) rfl (y_ldO1 h4 rfl agg_3 rfl) (by kernel_rfl) (by kernel_rfl) (by kernel_rfl) (by kernel_rfl) rfl rfl rfl rfl rfl (.inr (fun _ h => h)) ?_
            refine j_l (i := 3) rfl (y_ldO1 h5 rfl agg_3 rfl) (by kernel_rfl) (by kernel_rfl) (by kernel_rfl) (by kernel_rfl) rfl rfl rfl rfl rfl (.inr (fun _ h => h)) ?_
            refine j_p (i := 4) rfl (y_sub rfl rfl (by omega) (by omega)) (by kernel_rfl) (by kernel_rfl) (by kernel_rfl) rfl rfl rfl rfl rfl (.inr (fun _ h => h)) ?_
            refine j_l (i := 5) rfl (y_ldO1 h3 rfl agg_89 rfl) (by kernel_rfl) (by kernel_rfl) (by kernel_rfl) (by kernel_rfl) rfl rfl rfl rfl rfl (.inr (fun _ h => h)) ?_
            refine j_p (i := 6) rfl (y_nil rfl) (by kernel_rfl) (by kernel_rfl) (by kernel_rfl) rfl rfl rfl rfl rfl (.inr (fun _ h => h)) ?_
            refine j_p (i := 7) rfl (y_fld rfl (fun w => fld_99_1 _ _ w)) (by kernel_rfl) (by kernel_rfl) (by kernel_rfl) rfl rfl rfl rfl rfl (.inr (fun _ h => h)) ?_
            refine j_l (i := 8) rfl (y_ldO1 hg rfl agg_9 rfl) (by kernel_rfl) (by kernel_rfl) (by kernel_rfl) (by kernel_rfl) rfl rfl rfl rfl rfl (.inr (fun _ h => h)) ?_
            refine j_l (i := 9) rfl (y_ldO1 h5 rfl agg_3 rfl) (by kernel_rfl) (by kernel_rfl) (by kernel_rfl) (by kernel_rfl) rfl rfl rfl rfl rfl (.inr (fun _ h => h)) ?_
            refine j_p (i := 10) rfl (y_sub rfl rfl (by omega) (by omega)) (by kernel_rfl) (by kernel_rfl) (by kernel_rfl) rfl rfl rfl rfl rfl (.inr (fun _ h => h)) ?_
            refine j_p (i := 11) rfl (y_idxs rfl rfl Try.underlying9 (by omega) (by omega)) (by kernel_rfl) (by kernel_rfl) (by kernel_rfl) rfl rfl rfl rfl rfl (.inr (fun _ h => h)) ?_
            refine j_p (i := 12) rfl (y_convb rfl (by kernel_rfl) Try.underlying3) (by kernel_rfl) (by kernel_rfl) (by kernel_rfl) rfl rfl rfl rfl rfl (.inr (fun _ h => h)) ?_
            refine j_p (i := 13) rfl (y_build (vs := [(0, _), (1, _)]) rfl rfl (fun w => bld_88_0_1 _ _ w)) (by kernel_rfl) (by kernel_rfl) (by kernel_rfl) rfl rfl rfl rfl rfl (.inr (fun _ h => h)) ?_
            refine j_p (i := 14) rfl (y_build (vs := [(0, _), (1, _), (2, _), (3, _)]) rfl rfl (fun w => bld_97_0_1_2_3 _ _ _ _ _ w)) (by kernel_rfl) (by kernel_rfl) (by kernel_rfl) rfl rfl rfl rfl rfl (.inr (fun _ h => h)) ?_
            refine j_yield (i := 15) (A := J 2) (B := Jx 2) rfl rfl rfl (by kernel_rfl) rfl rfl rfl (fun w hw => hY 1 (_, _, _, _) w (hJg _ _ _ hJ hw.below) (by unfold edges; (repeat' split) <;> first | rfl | (exfalso; omega))) (fun w hJ => ?_) (fun w hJ => ?_)
            · obtain ⟨h4, h5, h3, v2, v3, v4, v5, hg⟩ := hS _ _ hJ
              refine j_nil (by kernel_rfl) ?_
              refine g_endn trivial (fun a w ha _ => res0 rfl w) (fun w h => ⟨⟨_, rfl⟩, .inl ?_⟩)
              have hl : (edges a b i j).length = 2 := by unfold edges; (repeat' split) <;> first | rfl | (exfalso; omega)
              rw [hl]
              exact hJg _ _ _ hJ h.below
            · skip
              refine j_nil (by kernel_rfl) ?_
              refine g_endn trivial (fun a w ha _ => res0 rfl w) (fun w h => ⟨⟨_, rfl⟩, .inr ⟨2, (by unfold edges; (repeat' split) <;> first | (simp; done) | (exfalso; omega)), hJxg _ _ _ hJ h.below⟩⟩)
          · (try simp at hq12)
            refine g_skip ?_
            refine g_endn trivial (fun a w ha _ => res0 rfl w) (fun w h => ⟨⟨_, rfl⟩, .inl ?_⟩)
            have hl : (edges a b i j).length = 1 := by unfold edges; (repeat' split) <;> first | rfl | (exfalso; omega)
            rw [hl]
            exact hJg _ _ _ hJ h.below
        · skip
          refine s_y (y_not_f rfl) rfl rfl rfl rfl ?_
          refine s_y (y_pick_t rfl rfl) rfl rfl rfl rfl ?_
          refine s_nil ?_
          refine g_then ?_
          refine g_cond_t rfl ?_
          refine g_ret ?_
          refine g_thenr ?_
          refine g_end trivial (fun a w ha _ => res0 rfl w) (fun w h => ⟨⟨_, rfl⟩, .inr ⟨1, (by unfold edges; (repeat' split) <;> first | (simp; done) | (exfalso; omega)), hJxg _ _ _ hJ h.below⟩⟩)
      · (try simp at hq11)
        refine s_no rfl rfl rfl ?_
        refine s_no rfl rfl rfl ?_
        refine s_no rfl rfl rfl ?_
        refine s_no rfl rfl rfl ?_
        refine s_no rfl rfl rfl ?_
        refine s_no rfl rfl rfl ?_
        refine s_no rfl rfl rfl ?_
        refine s_no rfl rfl rfl ?_
        refine s_no rfl rfl rfl ?_
        refine s_y (y_pick_f rfl rfl) rfl rfl rfl rfl ?_
        refine s_nil ?_
        refine g_then ?_
        refine g_cond_f rfl ?_
        refine g_skip ?_
        refine g_then ?_
        refine g_seq ?_
        refine g_region ?_
        refine s_y (y_ldO1 h5 rfl agg_3 rfl) rfl rfl rfl rfl ?_
        refine s_y (y_gtr rfl rfl) rfl rfl rfl rfl ?_
        refine s_nil ?_
        refine g_then ?_
        refine g_cond rfl (fun hq13 => ?_) (fun hq13 => ?_)
        · (try simp at hq13)
          refine g_draw 15 (by kernel_rfl) ?_
          refine j_p (i := 0) rfl (y_move rfl) (by kernel_rfl) (by kernel_rfl) (by kernel_rfl) rfl rfl rfl rfl rfl (.inr (fun _ h => h)) ?_
          refine j_l (i := 1) rfl (y_ldO1 h3 rfl agg_89 rfl) (by kernel_rfl) (by kernel_rfl) (by kernel_rfl) (by kernel_rfl) rfl rfl rfl rfl rfl (.inr (fun _ h => h)) ?_
          refine j_l (i := 2) rfl (y_ldO1 h4 rfl agg_3 rfl) (by kernel_rfl) (by kernel_rfl) (by kernel_rfl) (by kernel_rfl) rfl rfl rfl rfl rfl (.inr (fun _ h => h)) ?_
          refine j_l (i := 3) rfl (y_ldO1 h5 rfl agg_3 rfl) (by kernel_rfl) (by kernel_rfl) (by kernel_rfl) (by kernel_rfl) rfl rfl rfl rfl rfl (.inr (fun _ h => h)) ?_
          refine j_p (i := 4) rfl (y_sub rfl rfl (by omega) (by omega)) (by kernel_rfl) (by kernel_rfl) (by kernel_rfl) rfl rfl rfl rfl rfl (.inr (fun _ h => h)) ?_
          refine j_l (i := 5) rfl (y_ldO1 h3 rfl agg_89 rfl) (by kernel_rfl) (by kernel_rfl) (by kernel_rfl) (by kernel_rfl) rfl rfl rfl rfl rfl (.inr (fun _ h => h)) ?_
          refine j_p (i := 6) rfl (y_nil rfl) (by kernel_rfl) (by kernel_rfl) (by kernel_rfl) rfl rfl rfl rfl rfl (.inr (fun _ h => h)) ?_
          refine j_p (i := 7) rfl (y_fld rfl (fun w => fld_99_1 _ _ w)) (by kernel_rfl) (by kernel_rfl) (by kernel_rfl) rfl rfl rfl rfl rfl (.inr (fun _ h => h)) ?_
          refine j_l (i := 8) rfl (y_ldO1 hg rfl agg_9 rfl) (by kernel_rfl) (by kernel_rfl) (by kernel_rfl) (by kernel_rfl) rfl rfl rfl rfl rfl (.inr (fun _ h => h)) ?_
          refine j_l (i := 9) rfl (y_ldO1 h5 rfl agg_3 rfl) (by kernel_rfl) (by kernel_rfl) (by kernel_rfl) (by kernel_rfl) rfl rfl rfl rfl rfl (.inr (fun _ h => h)) ?_
          refine j_p (i := 10) rfl (y_sub rfl rfl (by omega) (by omega)) (by kernel_rfl) (by kernel_rfl) (by kernel_rfl) rfl rfl rfl rfl rfl (.inr (fun _ h => h)) ?_
          refine j_p (i := 11) rfl (y_idxs rfl rfl Try.underlying9 (by omega) (by omega)) (by kernel_rfl) (by kernel_rfl) (by kernel_rfl) rfl rfl rfl rfl rfl (.inr (fun _ h => h)) ?_
          refine j_p (i := 12) rfl (y_convb rfl (by kernel_rfl) Try.underlying3) (by kernel_rfl) (by kernel_rfl) (by kernel_rfl) rfl rfl rfl rfl rfl (.inr (fun _ h => h)) ?_
          refine j_p (i := 13) rfl (y_build (vs := [(0, _), (1, _)]) rfl rfl (fun w => bld_88_0_1 _ _ w)) (by kernel_rfl) (by kernel_rfl) (by kernel_rfl) rfl rfl rfl rfl rfl (.inr (fun _ h => h)) ?_
          refine j_p (i := 14) rfl (y_build (vs := [(0, _), (1, _), (2, _), (3, _)]) rfl rfl (fun w => bld_97_0_1_2_3 _ _ _ _ _ w)) (by kernel_rfl) (by kernel_rfl) (by kernel_rfl) rfl rfl rfl rfl rfl (.inr (fun _ h => h)) ?_
          refine j_yield (i := 15) (A := J 1) (B := Jx 1) rfl rfl rfl (by kernel_rfl) rfl rfl rfl (fun w hw => hY 0 (_, _, _, _) w (hJg _ _ _ hJ hw.below) (by unfold edges; (repeat' split) <;> first | rfl | (exfalso; omega))) (fun w hJ => ?_) (fun w hJ => ?_)
          · obtain ⟨h4, h5, h3, v2, v3, v4, v5, hg⟩ := hS _ _ hJ
            refine j_nil (by kernel_rfl) ?_
            refine g_endn trivial (fun a w ha _ => res0 rfl w) (fun w h => ⟨⟨_, rfl⟩, .inl ?_⟩)
            have hl : (edges a b i j).length = 1 := by unfold edges; (repeat' split) <;> first | rfl | (exfalso; omega)
            rw [hl]
            exact hJg _ _ _ hJ h.below
          · skip
            refine j_nil (by kernel_rfl) ?_
            refine g_endn trivial (fun a w ha _ => res0 rfl w) (fun w h => ⟨⟨_, rfl⟩, .inr ⟨1, (by unfold edges; (repeat' split) <;> first | (simp; done) | (exfalso; omega)), hJxg _ _ _ hJ h.below⟩⟩)
        · (try simp at hq13)
          refine g_skip ?_
          refine g_endn trivial (fun a w ha _ => res0 rfl w) (fun w h => ⟨⟨_, rfl⟩, .inl ?_⟩)
          have hl : (edges a b i j).length = 0 := by unfold edges; (repeat' split) <;> first | rfl | (exfalso; omega)
          rw [hl]
          exact hJg _ _ _ hJ h.below
  · (try simp at hq1)
    refine s_no rfl rfl rfl ?_
    refine s_no rfl rfl rfl ?_
    refine s_y (y_pick_f rfl rfl) rfl rfl rfl rfl ?_
    refine s_nil ?_
    refine g_then ?_
    refine g_cond_f rfl ?_
    refine g_skip ?_
    refine g_then ?_
    refine g_seq ?_
    refine g_seq ?_
    refine g_region ?_
    refine s_y (y_ldO1 h4 rfl agg_3 rfl) rfl rfl rfl rfl ?_
    refine s_y (y_gtr rfl rfl) rfl rfl rfl rfl ?_
    refine s_y (y_move rfl) rfl rfl rfl rfl ?_
    refine g_bool 50 rfl (fun hq14 => ?_) (fun hq14 => ?_)
    · (try simp at hq14)
      refine s_y (y_move rfl) rfl rfl rfl rfl ?_
      refine s_y (y_ldO1 h3 rfl agg_89 rfl) rfl rfl rfl rfl ?_
      refine s_y (y_ldO1 h4 rfl agg_3 rfl) rfl rfl rfl rfl ?_
      refine s_y (y_sub rfl rfl (by omega) (by omega)) rfl rfl rfl rfl ?_
      refine s_y (y_ldO1 h5 rfl agg_3 rfl) rfl rfl rfl rfl ?_
      refine s_y (y_build (vs := [(0, _)]) rfl rfl (fun w => bld_88_0 _ w)) rfl rfl rfl rfl ?_
      refine s_y (y_build (vs := [(0, _), (1, _), (2, _), (3, _)]) rfl rfl (fun w => bld_97_0_1_2_3 _ _ _ _ _ w)) rfl rfl rfl rfl ?_
      refine s_yield (A := J 1) (B := Jx 1) rfl rfl rfl rfl (fun w hw => hY 0 (_, _, _, _) w (hJg _ _ _ hJ hw.below) (by unfold edges; (repeat' split) <;> first | rfl | (exfalso; omega))) (fun w hJ => ?_) (fun w hJ => ?_)
      · obtain ⟨h4, h5, h3, v2, v3, v4, v5, hg⟩ := hS _ _ hJ
        refine s_y (y_not_t rfl) rfl rfl rfl rfl ?_
        refine s_y (y_pick_t rfl rfl) rfl rfl rfl rfl ?_
        refine s_nil ?_
        refine g_then ?_
        refine g_cond_f rfl ?_
        refine g_skip ?_
        refine g_then ?_
        refine g_seq ?_
        refine g_region ?_
        refine s_y (y_ldO1 h5 rfl agg_3 rfl) rfl rfl rfl rfl ?_
        refine s_y (y_gtr rfl rfl) rfl rfl rfl rfl ?_
        refine s_nil ?_
        refine g_then ?_
        refine g_cond rfl (fun hq15 => ?_) (fun hq15 => ?_)
        · (try simp at hq15)
          refine g_draw 15 (by kernel_rfl) ?_
          refine j_p (i := 0) rfl (y_move rfl) (by kernel_rfl) (by kernel_rfl) (by kernel_rfl) rfl rfl rfl rfl rfl (.inr (fun _ h => h)) ?_
          refine j_l (i := 1) rfl (y_ldO1 h3 rfl agg_89 rfl) (by kernel_rfl) (by kernel_rfl) (by kernel_rfl) (by kernel_rfl) rfl rfl rfl rfl rfl (.inr (fun _ h => h)) ?_
          refine j_l (i := 2) rfl (y_ldO1 h4 rfl agg_3 rfl) (by kernel_rfl) (by kernel_rfl) (by kernel_rfl) (by kernel_rfl) rfl rfl rfl rfl rfl (.inr (fun _ h => h)) ?_
          refine j_l (i := 3) rfl (y_ldO1 h5 rfl agg_3 rfl) (by kernel_rfl) (by kernel_rfl) (by kernel_rfl) (by kernel_rfl) rfl rfl rfl rfl rfl (.inr (fun _ h => h)) ?_
          refine j_p (i := 4) rfl (y_sub rfl rfl (by omega) (by omega)) (by kernel_rfl) (by kernel_rfl) (by kernel_rfl) rfl rfl rfl rfl rfl (.inr (fun _ h => h)) ?_
          refine j_l (i := 5) rfl (y_ldO1 h3 rfl agg_89 rfl) (by kernel_rfl) (by kernel_rfl) (by kernel_rfl) (by kernel_rfl) rfl rfl rfl rfl rfl (.inr (fun _ h => h)) ?_
          refine j_p (i := 6) rfl (y_nil rfl) (by kernel_rfl) (by kernel_rfl) (by kernel_rfl) rfl rfl rfl rfl rfl (.inr (fun _ h => h)) ?_
          refine j_p (i := 7) rfl (y_fld rfl (fun w => fld_99_1 _ _ w)) (by kernel_rfl) (by kernel_rfl) (by kernel_rfl) rfl rfl rfl rfl rfl (.inr (fun _ h => h)) ?_
          refine j_l (i := 8) rfl (y_ldO1 hg rfl agg_9 rfl) (by kernel_rfl) (by kernel_rfl) (by kernel_rfl) (by kernel_rfl) rfl rfl rfl rfl rfl (.inr (fun _ h => h)) ?_
          refine j_l (i := 9) rfl (y_ldO1 h5 rfl agg_3 rfl) (by kernel_rfl) (by kernel_rfl) (by kernel_rfl) (by kernel_rfl) rfl rfl rfl rfl rfl (.inr (fun _ h => h)) ?_
          refine j_p (i := 10) rfl (y_sub rfl rfl (by omega) (by omega)) (by kernel_rfl) (by kernel_rfl) (by kernel_rfl) rfl rfl rfl rfl rfl (.inr (fun _ h => h)) ?_
          refine j_p (i := 11) rfl (y_idxs rfl rfl Try.underlying9 (by omega) (by omega)) (by kernel_rfl) (by kernel_rfl) (by kernel_rfl) rfl rfl rfl rfl rfl (.inr (fun _ h => h)) ?_
          refine j_p (i := 12) rfl (y_convb rfl (by kernel_rfl) Try.underlying3) (by kernel_rfl) (by kernel_rfl) (by kernel_rfl) rfl rfl rfl rfl rfl (.inr (fun _ h => h)) ?_
          refine j_p (i := 13) rfl (y_build (vs := [(0, _), (1, _)]) rfl rfl (fun w => bld_88_0_1 _ _ w)) (by kernel_rfl) (by kernel_rfl) (by kernel_rfl) rfl rfl rfl rfl rfl (.inr (fun _ h => h)) ?_
          refine j_p (i := 14) rfl (y_build (vs := [(0, _), (1, _), (2, _), (3, _)]) rfl rfl (fun w => bld_97_0_1_2_3 _ _ _ _ _ w)) (by kernel_rfl) (by kernel_rfl) (by kernel_rfl) rfl rfl rfl rfl rfl (.inr (fun _ h => h)) ?_
          refine j_yield (i := 15) (A := J 2) (B := Jx 2) rfl rfl rfl (by kernel_rfl) rfl rfl rfl (fun w hw => hY 1 (_, _, _, _) w (hJg _ _ _ hJ hw.below) (by unfold edges; (repeat' split) <;> first | rfl | (exfalso; omega))) (fun w hJ => ?_) (fun w hJ => ?_)
          · obtain ⟨h4, h5, h3, v2, v3, v4, v5, hg⟩ := hS _ _ hJ
            refine j_nil (by kernel_rfl) ?_
            refine g_endn trivial (fun a w ha _ => res0 rfl w) (fun w h => ⟨⟨_, rfl⟩, .inl ?_⟩)
            have hl : (edges a b i j).length = 2 := by unfold edges; (repeat' split) <;> first | rfl | (exfalso; omega)
            rw [hl]
            exact hJg _ _ _ hJ h.below
          · skip
            refine j_nil (by kernel_rfl) ?_
            refine g_endn trivial (fun a w ha _ => res0 rfl w) (fun w h => ⟨⟨_, rfl⟩, .inr ⟨2, (by unfold edges; (repeat' split) <;> first | (simp; done) | (exfalso; omega)), hJxg _ _ _ hJ h.below⟩⟩)
        · (try simp at hq15)
          refine g_skip ?_
          refine g_endn trivial (fun a w ha _ => res0 rfl w) (fun w h => ⟨⟨_, rfl⟩, .inl ?_⟩)
          have hl : (edges a b i j).length = 1 := by unfold edges; (repeat' split) <;> first | rfl | (exfalso; omega)
          rw [hl]
          exact hJg _ _ _ hJ h.below
      · skip
        refine s_y (y_not_f rfl) rfl rfl rfl rfl ?_
        refine s_y (y_pick_t rfl rfl) rfl rfl rfl rfl ?_
        refine s_nil ?_
        refine g_then ?_
        refine g_cond_t rfl ?_
        refine g_ret ?_
        refine g_thenr ?_
        refine g_end trivial (fun a w ha _ => res0 rfl w) (fun w h => ⟨⟨_, rfl⟩, .inr ⟨1, (by unfold edges; (repeat' split) <;> first | (simp; done) | (exfalso; omega)), hJxg _ _ _ hJ h.below⟩⟩)
    · (try simp at hq14)
      refine s_no rfl rfl rfl ?_
      refine s_no rfl rfl rfl ?_
      refine s_no rfl rfl rfl ?_
      refine s_no rfl rfl rfl ?_
      refine s_no rfl rfl rfl ?_
      refine s_no rfl rfl rfl ?_
      refine s_no rfl rfl rfl ?_
      refine s_no rfl rfl rfl ?_
      refine s_no rfl rfl rfl ?_
      refine s_y (y_pick_f rfl rfl) rfl rfl rfl rfl ?_
      refine s_nil ?_
      refine g_then ?_
      refine g_cond_f rfl ?_
      refine g_skip ?_
      refine g_then ?_
      refine g_seq ?_
      refine g_region ?_
      refine s_y (y_ldO1 h5 rfl agg_3 rfl) rfl rfl rfl rfl ?_
      refine s_y (y_gtr rfl rfl) rfl rfl rfl rfl ?_
      refine s_nil ?_
      refine g_then ?_
      refine g_cond rfl (fun hq16 => ?_) (fun hq16 => ?_)
      · (try simp at hq16)
        refine g_draw 15 (by kernel_rfl) ?_
        refine j_p (i := 0) rfl (y_move rfl) (by kernel_rfl) (by kernel_rfl) (by kernel_rfl) rfl rfl rfl rfl rfl (.inr (fun _ h => h)) ?_
        refine j_l (i := 1) rfl (y_ldO1 h3 rfl agg_89 rfl) (by kernel_rfl) (by kernel_rfl) (by kernel_rfl) (by kernel_rfl) rfl rfl rfl rfl rfl (.inr (fun _ h => h)) ?_
        refine j_l (i := 2) rfl (y_ldO1 h4 rfl agg_3 rfl) (by kernel_rfl) (by kernel_rfl) (by kernel_rfl) (by kernel_rfl) rfl rfl rfl rfl rfl (.inr (fun _ h => h)) ?_
        refine j_l (i := 3) rfl (y_ldO1 h5 rfl agg_3 rfl) (by kernel_rfl) (by kernel_rfl) (by kernel_rfl) (by kernel_rfl) rfl rfl rfl rfl rfl (.inr (fun _ h => h)) ?_
        refine j_p (i := 4) rfl (y_sub rfl rfl (by omega) (by omega)) (by kernel_rfl) (by kernel_rfl) (by kernel_rfl) rfl rfl rfl rfl rfl (.inr (fun _ h => h)) ?_
        refine j_l (i := 5) rfl (y_ldO1 h3 rfl agg_89 rfl) (by kernel_rfl) (by kernel_rfl) (by kernel_rfl) (by kernel_rfl) rfl rfl rfl rfl rfl (.inr (fun _ h => h)) ?_
        refine j_p (i := 6) rfl (y_nil rfl) (by kernel_rfl) (by kernel_rfl) (by kernel_rfl) rfl rfl rfl rfl rfl (.inr (fun _ h => h)) ?_
        refine j_p (i := 7) rfl (y_fld rfl (fun w => fld_99_1 _ _ w)) (by kernel_rfl) (by kernel_rfl) (by kernel_rfl) rfl rfl rfl rfl rfl (.inr (fun _ h => h)) ?_
        refine j_l (i := 8) rfl (y_ldO1 hg rfl agg_9 rfl) (by kernel_rfl) (by kernel_rfl) (by kernel_rfl) (by kernel_rfl) rfl rfl rfl rfl rfl (.inr (fun _ h => h)) ?_
        refine j_l (i := 9) rfl (y_ldO1 h5 rfl agg_3 rfl) (by kernel_rfl) (by kernel_rfl) (by kernel_rfl) (by kernel_rfl) rfl rfl rfl rfl rfl (.inr (fun _ h => h)) ?_
        refine j_p (i := 10) rfl (y_sub rfl rfl (by omega) (by omega)) (by kernel_rfl) (by kernel_rfl) (by kernel_rfl) rfl rfl rfl rfl rfl (.inr (fun _ h => h)) ?_
        refine j_p (i := 11) rfl (y_idxs rfl rfl Try.underlying9 (by omega) (by omega)) (by kernel_rfl) (by kernel_rfl) (by kernel_rfl) rfl rfl rfl rfl rfl (.inr (fun _ h => h)) ?_
        refine j_p (i := 12) rfl (y_convb rfl (by kernel_rfl) Try.underlying3) (by kernel_rfl) (by kernel_rfl) (by kernel_rfl) rfl rfl rfl rfl rfl (.inr (fun _ h => h)) ?_
        refine j_p (i := 13) rfl (y_build (vs := [(0, _), (1, _)]) rfl rfl (fun w => bld_88_0_1 _ _ w)) (by kernel_rfl) (by kernel_rfl) (by kernel_rfl) rfl rfl rfl rfl rfl (.inr (fun _ h => h)) ?_
        refine j_p (i := 14) rfl (y_build (vs := [(0, _), (1, _), (2, _), (3, _)]) rfl rfl (fun w => bld_97_0_1_2_3 _ _ _ _ _ w)) (by kernel_rfl) (by kernel_rfl) (by kernel_rfl) rfl rfl rfl rfl rfl (.inr (fun _ h => h)) ?_
        refine j_yield (i := 15) (A := J 1) (B := Jx 1) rfl rfl rfl (by kernel_rfl) rfl rfl rfl (fun w hw => hY 0 (_, _, _, _) w (hJg _ _ _ hJ hw.below) (by unfold edges; (repeat' split) <;> first | rfl | (exfalso; omega))) (fun w hJ => ?_) (fun w hJ => ?_)
        · obtain ⟨h4, h5, h3, v2, v3, v4, v5, hg⟩ := hS _ _ hJ
          refine j_nil (by kernel_rfl) ?_
          refine g_endn trivial (fun a w ha _ => res0 rfl w) (fun w h => ⟨⟨_, rfl⟩, .inl ?_⟩)
          have hl : (edges a b i j).length = 1 := by unfold edges; (repeat' split) <;> first | rfl | (exfalso; omega)
          rw [hl]
          exact hJg _ _ _ hJ h.below
        · skip
          refine j_nil (by kernel_rfl) ?_
          refine g_endn trivial (fun a w ha _ => res0 rfl w) (fun w h => ⟨⟨_, rfl⟩, .inr ⟨1, (by unfold edges; (repeat' split) <;> first | (simp; done) | (exfalso; omega)), hJxg _ _ _ hJ h.below⟩⟩)
      · (try simp at hq16)
        refine g_skip ?_
        refine g_endn trivial (fun a w ha _ => res0 rfl w) (fun w h => ⟨⟨_, rfl⟩, .inl ?_⟩)
        have hl : (edges a b i j).length = 0 := by unfold edges; (repeat' split) <;> first | rfl | (exfalso; omega)
        rw [hl]
        exact hJg _ _ _ hJ h.below

end Go.Proofs.Ytnnpdgegejklpaa
