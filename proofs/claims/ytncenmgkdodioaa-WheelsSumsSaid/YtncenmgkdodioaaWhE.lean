/- wheels: the references' small functions. -/
import Derived.Test.YtncenmgkdodioaaWhD
namespace Go.Proofs.Ytncenmgkdodioaa
open Go.RowKit Go.Sx Go.Wh
set_option linter.unusedVariables false
set_option linter.unusedSimpArgs false
set_option maxRecDepth 100000
set_option maxHeartbeats 4000000

private theorem ent_21 : Enters Try.prog 21 := enters_of Try.func21 (by kernel_rfl) rfl
private theorem ent_58 : Enters Try.prog 58 := enters_of Try.func58 (by kernel_rfl) rfl
private theorem sle_32 : Try.prog.underlying 32 = some (.slice (Try.prog.elem 32)) := by kernel_rfl
private theorem size_3 : (Try.prog.info? 3).map (·.size) = some 1 := by kernel_rfl
private theorem agg_3 : isAggB Try.prog 3 = some false := by kernel_rfl
private theorem inf_3 : ∃ ie, Try.prog.info? 3 = some ie ∧ ie.zero = some (.int .i64 0) ∧ ie.size = 1 ∧ ie.bytes = 8 := info_of (by kernel_rfl) (by kernel_rfl)
private theorem ent_34 : Enters Try.prog 34 := enters_of Try.func34 (by kernel_rfl) rfl
private theorem ent_30 : Enters Try.prog 30 := enters_of Try.func30 (by kernel_rfl) rfl

theorem Circle_any (w : World) (n : Int) :
    Calls Try.prog 19 [.int .i64 n].toArray w fun e w' => e = .returned (.bool (decide (RIn n))) ∧ Below w.heap.size w w' := by
  refine enter (N := 9) Try.func19 rfl rfl rfl ?_
  refine g_seq ?_
  refine g_region ?_
  refine s_y (y_assign rfl) rfl rfl rfl rfl ?_
  refine s_nil ?_
  refine g_then ?_
  refine g_seq ?_
  refine g_region ?_
  refine s_y (y_move rfl) rfl rfl rfl rfl ?_
  refine s_y (y_geq rfl rfl) rfl rfl rfl rfl ?_
  refine s_y (y_move rfl) rfl rfl rfl rfl ?_
  refine g_bool 5 rfl (fun cq1 => ?_) (fun cq1 => ?_)
  · (try simp at cq1)
    refine s_y (y_move rfl) rfl rfl rfl rfl ?_
    refine s_y (y_leq rfl rfl) rfl rfl rfl rfl ?_
    refine s_y (y_pick_t rfl rfl) rfl rfl rfl rfl ?_
    refine s_y (y_assign rfl) rfl rfl rfl rfl ?_
    refine s_nil ?_
    refine g_then ?_
    refine g_ret ?_
    rw [show decide (RIn n) = decide (n ≤ 16) from by rw [Bool.eq_iff_iff]; simp [RIn]; omega]
    exact g_end trivial (fun a w ha hq_ => res1 ha rfl rfl  w) (fun w h => ⟨rfl, h.below⟩)
  · (try simp at cq1)
    refine s_no rfl rfl rfl ?_
    refine s_no rfl rfl rfl ?_
    refine s_y (y_pick_f rfl rfl) rfl rfl rfl rfl ?_
    refine s_y (y_assign rfl) rfl rfl rfl rfl ?_
    refine s_nil ?_
    refine g_then ?_
    refine g_ret ?_
    rw [show decide (RIn n) = false from by rw [Bool.eq_iff_iff]; simp [RIn]; omega]
    exact g_end trivial (fun a w ha hq_ => res1 ha rfl rfl  w) (fun w h => ⟨rfl, h.below⟩)

theorem Circle_t (w : World) (n : Int) (h : RIn n) : Calls Try.prog 19 [.int .i64 n].toArray w fun e w' => e = .returned (.bool true) ∧ Below w.heap.size w w' := by have := Circle_any w n; rwa [decide_eq_true h] at this
theorem Circle_f (w : World) (n : Int) (h : ¬ RIn n) : Calls Try.prog 19 [.int .i64 n].toArray w fun e w' => e = .returned (.bool false) ∧ Below w.heap.size w w' := by have := Circle_any w n; rwa [decide_eq_false h] at this

theorem Rpower_any (w : World) (q x : Int) (k : Nat) (hq : 2 ≤ q) (hq2 : q ≤ 1000) (hx : 0 ≤ x) (hx2 : x ≤ 1000) (hk : k ≤ 100000) :
    Calls Try.prog 58 [.int .i64 x, .int .i64 (k : Int), .int .i64 q].toArray w fun e w' => e = .returned (.int .i64 (pw q x k)) ∧ Below w.heap.size w w' := by
  refine enter (N := 18) Try.func58 rfl rfl rfl ?_
  refine g_seq ?_
  refine g_region ?_
  refine s_y (y_assign rfl) rfl rfl rfl rfl ?_
  refine s_nil ?_
  refine g_then ?_
  refine g_seq ?_
  refine g_region ?_
  refine s_y (y_assign rfl) rfl rfl rfl rfl ?_
  refine s_nil ?_
  refine g_then ?_
  refine g_seq ?_
  refine g_seq ?_
  refine g_region ?_
  refine s_y (y_move rfl) rfl rfl rfl rfl ?_
  refine s_y (y_move rfl) rfl rfl rfl rfl ?_
  refine s_nil ?_
  refine g_then ?_
  refine g_block ?_
  refine g_loop (fun (i : Nat) act W => i ≤ k ∧ ∃ (w1 : World), Has 18 [] [(0, .int .i64 x), (2, .int .i64 q), (6, .int .i64 0), (7, .int .i64 (pw q x i)), (8, .int .i64 (k : Int)), (9, .int .i64 (i : Int))] act ∧ Hp w w1 ([]) W) (fun i => k - i) 0 (fun act W ha hw => ⟨by omega, W, ha.weak (sub_get ⟨rfl, rfl, rfl, rfl, rfl, rfl, trivial⟩), hw.toHq.lookSub (List.Sublist.refl _)⟩) ?_
  intro i act W ⟨hb_i, w1, ha, hw⟩
  refine g_go ha hw ?_
  clear ha hw act W
  have hr := pw_range (x := x) hq i
  have hm := mul_small (a := pw q x i) (b := x) (by omega) (by omega) hx (by omega)
  refine g_seq ?_
  refine g_region ?_
  refine s_y (y_lss rfl rfl) rfl rfl rfl rfl ?_
  refine s_nil ?_
  refine g_then ?_
  refine g_seq ?_
  refine g_cond rfl (fun cq1 => ?_) (fun cq1 => ?_)
  · (try simp at cq1)
    refine g_skip ?_
    refine g_then ?_
    refine g_seq ?_
    refine g_block ?_
    refine g_region ?_
    refine s_y (y_move rfl) rfl rfl rfl rfl ?_
    refine s_y (y_move rfl) rfl rfl rfl rfl ?_
    refine s_y (y_mul rfl rfl (by omega) (by omega)) rfl rfl rfl rfl ?_
    refine s_y (y_move rfl) rfl rfl rfl rfl ?_
    refine s_y (y_rem rfl rfl (by omega) (by omega)) rfl rfl rfl rfl ?_
    refine s_y (y_assign rfl) rfl rfl rfl rfl ?_
    refine s_nil ?_
    refine g_inb ?_
    refine g_then ?_
    refine g_region ?_
    refine s_y (y_add rfl rfl (by omega) (by omega)) rfl rfl rfl rfl ?_
    refine s_y (y_move rfl) rfl rfl rfl rfl ?_
    refine s_nil ?_
    refine g_then ?_
    exact fun act W ha hw => ⟨i + 1, by omega, by omega, W, ha.weak (sub_get ⟨rfl, rfl, rfl, rfl, rfl, rfl, trivial⟩), hw.toHq.lookSub (List.Sublist.refl _)⟩
  · (try simp at cq1)
    refine g_exit ?_
    refine g_thenx ?_
    refine g_thenx ?_
    refine g_inbx ?_
    refine g_then ?_
    refine g_seq ?_
    refine g_region ?_
    refine s_y (y_move rfl) rfl rfl rfl rfl ?_
    refine s_y (y_assign rfl) rfl rfl rfl rfl ?_
    refine s_nil ?_
    refine g_then ?_
    refine g_ret ?_
    obtain rfl : i = k := by omega
    exact g_end trivial (fun a w ha hq_ => res1 ha rfl rfl  w) (fun w h => ⟨rfl, h.below⟩)

theorem RPrime_any (w : World) (n : Nat) (hn : 2 ≤ n) (hn2 : n ≤ 16) :
    Calls Try.prog 21 [.int .i64 (n : Int)].toArray w fun e w' => e = .returned (.int .i64 (qOf n)) ∧ Below w.heap.size w w' := by
  obtain ⟨hf1, hf2, hf3, hf4, hf5, hf6, hf7⟩ := q_facts hn hn2
  refine enter (N := 30) Try.func21 rfl rfl rfl ?_
  refine g_seq ?_
  refine g_region ?_
  refine s_y (y_assign rfl) rfl rfl rfl rfl ?_
  refine s_nil ?_
  refine g_then ?_
  refine g_seq ?_
  refine g_region ?_
  refine s_y (y_move rfl) rfl rfl rfl rfl ?_
  refine s_y (y_mul rfl rfl (by omega) (by omega)) rfl rfl rfl rfl ?_
  refine s_y (y_add rfl rfl (by omega) (by omega)) rfl rfl rfl rfl ?_
  refine s_y (y_assign rfl) rfl rfl rfl rfl ?_
  refine s_nil ?_
  refine g_then ?_
  refine g_block ?_
  refine g_loop (fun (i : Nat) act W => 2 * (n : Int) + 1 + (i : Int) ≤ qOf n ∧ ∃ (w1 : World), Has 30 [] [(0, .int .i64 (n : Int)), (3, .int .i64 (2 * (n : Int) + 1 + (i : Int)))] act ∧ Hp w w1 ([]) W) (fun i => 100 - i) 0 (fun act W ha hw => ⟨by omega, W, ha.weak (sub_get ⟨rfl, rfl, trivial⟩), hw.toHq.lookSub (List.Sublist.refl _)⟩) ?_
  intro i act W ⟨hb_i, w1, ha, hw⟩
  refine g_go ha hw ?_
  clear ha hw act W
  refine g_seq ?_
  refine g_block ?_
  refine g_seq ?_
  refine g_region ?_
  refine s_y (y_move rfl) rfl rfl rfl rfl ?_
  refine s_y (y_sub rfl rfl (by omega) (by omega)) rfl rfl rfl rfl ?_
  refine s_y (y_move rfl) rfl rfl rfl rfl ?_
  refine s_y (y_rem rfl rfl (by omega) (by omega)) rfl rfl rfl rfl ?_
  refine s_y (y_eql rfl rfl) rfl rfl rfl rfl ?_
  refine s_y (y_assign rfl) rfl rfl rfl rfl ?_
  refine s_nil ?_
  refine g_then ?_
  refine g_seq ?_
  refine g_seq ?_
  refine g_region ?_
  refine s_y (y_assign rfl) rfl rfl rfl rfl ?_
  refine s_nil ?_
  refine g_then ?_
  refine g_block ?_
  refine g_loop (fun (j : Nat) act W => (j : Int) + 2 ≤ 2 * (n : Int) + 1 + (i : Int) ∧ ∃ (pb : Bool) (w1 : World), (pb = rP n (2 * (n : Int) + 1 + (i : Int)) j) ∧ Has 30 [] [(0, .int .i64 (n : Int)), (3, .int .i64 (2 * (n : Int) + 1 + (i : Int))), (4, .bool pb), (5, .int .i64 ((j : Int) + 2)), (11, .int .i64 (2 * (n : Int) + 1 + (i : Int))), (12, .int .i64 ((2 * (n : Int) + 1 + (i : Int)) - 1)), (13, .int .i64 (n : Int)), (14, .int .i64 (((2 * (n : Int) + 1 + (i : Int)) - 1) % (n : Int))), (15, .bool (decide ((((2 * (n : Int) + 1 + (i : Int)) - 1) % (n : Int)) = 0)))] act ∧ Hp w w1 ([]) W) (fun j => 200 - j) 0 (fun act W ha hw => ⟨by omega, _, W, (by simp [rP]), ha.weak (sub_get ⟨rfl, rfl, rfl, rfl, rfl, rfl, rfl, rfl, rfl, trivial⟩), hw.toHq.lookSub (List.Sublist.refl _)⟩) ?_
  intro j act W ⟨hb_j, pb, w1, hpb, ha, hw⟩
  refine g_go ha hw ?_
  clear ha hw act W
  refine g_seq ?_
  refine g_seq ?_
  refine g_region ?_
  refine s_y (y_move rfl) rfl rfl rfl rfl ?_
  refine s_y (y_move rfl) rfl rfl rfl rfl ?_
  refine s_y (y_lss rfl rfl) rfl rfl rfl rfl ?_
  refine s_nil ?_
  refine g_then ?_
  refine g_cond rfl (fun cq1 => ?_) (fun cq1 => ?_)
  · (try simp at cq1)
    refine g_skip ?_
    refine g_then ?_
    refine g_seq ?_
    refine g_block ?_
    refine g_region ?_
    refine s_y (y_move rfl) rfl rfl rfl rfl ?_
    refine s_y (y_move rfl) rfl rfl rfl rfl ?_
    refine g_bool 22 rfl (fun cq2 => ?_) (fun cq2 => ?_)
    · (try simp at cq2)
      refine s_y (y_move rfl) rfl rfl rfl rfl ?_
      refine s_y (y_move rfl) rfl rfl rfl rfl ?_
      refine s_y (y_rem rfl rfl (by omega) (by omega)) rfl rfl rfl rfl ?_
      refine s_y (y_neq rfl rfl) rfl rfl rfl rfl ?_
      refine s_y (y_pick_t rfl rfl) rfl rfl rfl rfl ?_
      refine s_y (y_assign rfl) rfl rfl rfl rfl ?_
      refine s_nil ?_
      refine g_inb ?_
      refine g_then ?_
      refine g_region ?_
      refine s_y (y_move rfl) rfl rfl rfl rfl ?_
      refine s_y (y_add rfl rfl (by omega) (by omega)) rfl rfl rfl rfl ?_
      refine s_y (y_assign rfl) rfl rfl rfl rfl ?_
      refine s_nil ?_
      refine g_then ?_
      exact fun act W ha hw => ⟨j + 1, by omega, by omega, (!decide (((2 * (n : Int) + 1 + (i : Int)) % ((j : Int) + 2)) = 0)), W, (by rw [rP_succ, ← hpb]; first | (rw [show pb = true from by assumption]; simp; done) | (rw [show pb = false from by assumption]; simp; done)), ha.weak (sub_get ⟨rfl, rfl, rfl, rfl, rfl, rfl, rfl, rfl, rfl, trivial⟩), hw.toHq.lookSub (List.Sublist.refl _)⟩
    · (try simp at cq2)
      refine s_no rfl rfl rfl ?_
      refine s_no rfl rfl rfl ?_
      refine s_no rfl rfl rfl ?_
      refine s_no rfl rfl rfl ?_
      refine s_y (y_pick_f rfl rfl) rfl rfl rfl rfl ?_
      refine s_y (y_assign rfl) rfl rfl rfl rfl ?_
      refine s_nil ?_
      refine g_inb ?_
      refine g_then ?_
      refine g_region ?_
      refine s_y (y_move rfl) rfl rfl rfl rfl ?_
      refine s_y (y_add rfl rfl (by omega) (by omega)) rfl rfl rfl rfl ?_
      refine s_y (y_assign rfl) rfl rfl rfl rfl ?_
      refine s_nil ?_
      refine g_then ?_
      exact fun act W ha hw => ⟨j + 1, by omega, by omega, false, W, (by rw [rP_succ, ← hpb]; first | (rw [show pb = true from by assumption]; simp; done) | (rw [show pb = false from by assumption]; simp; done)), ha.weak (sub_get ⟨rfl, rfl, rfl, rfl, rfl, rfl, rfl, rfl, rfl, trivial⟩), hw.toHq.lookSub (List.Sublist.refl _)⟩
  · (try simp at cq1)
    refine g_exit ?_
    refine g_thenx ?_
    refine g_thenx ?_
    refine g_inbx ?_
    refine g_then ?_
    refine g_seq ?_
    refine g_region ?_
    refine s_y (y_move rfl) rfl rfl rfl rfl ?_
    refine s_nil ?_
    refine g_then ?_
    refine g_cond rfl (fun cq3 => ?_) (fun cq3 => ?_)
    · (try simp at cq3)
      have hqe : 2 * (n : Int) + 1 + (i : Int) = qOf n := by
        rcases Int.lt_or_eq_of_le hb_i with h | h
        · rw [cq3, rp_before hn hn2 i h (j := j) (by omega)] at hpb; cases hpb
        · exact h
      refine g_seq ?_
      refine g_region ?_
      refine s_y (y_move rfl) rfl rfl rfl rfl ?_
      refine s_y (y_assign rfl) rfl rfl rfl rfl ?_
      refine s_nil ?_
      refine g_then ?_
      refine g_ret ?_
      refine g_inbr ?_
      refine g_thenr ?_
      refine g_thenr ?_
      refine g_inbr ?_
      rw [← hqe]
      exact g_end trivial (fun a w ha hq_ => res1 ha rfl rfl  w) (fun w h => ⟨rfl, h.below⟩)
    · (try simp at cq3)
      have hlt : 2 * (n : Int) + 1 + (i : Int) < qOf n := by
        rcases Int.lt_or_eq_of_le hb_i with h | h
        · exact h
        · rw [cq3, rp_at hn hn2 i h (j := j) (by omega)] at hpb; cases hpb
      refine g_skip ?_
      refine g_inb ?_
      refine g_then ?_
      refine g_region ?_
      refine s_y (y_move rfl) rfl rfl rfl rfl ?_
      refine s_y (y_add rfl rfl (by omega) (by omega)) rfl rfl rfl rfl ?_
      refine s_y (y_assign rfl) rfl rfl rfl rfl ?_
      refine s_nil ?_
      refine g_then ?_
      exact fun act W ha hw => ⟨i + 1, by omega, by omega, W, ha.weak (sub_get ⟨rfl, rfl, trivial⟩), hw.toHq.lookSub (List.Sublist.refl _)⟩

theorem RRoot_any (w : World) (n : Nat) (hn : 2 ≤ n) (hn2 : n ≤ 16) :
    Calls Try.prog 22 [.int .i64 (n : Int)].toArray w fun e w' => e = .returned (.int .i64 (wOf n)) ∧ Below w.heap.size w w' := by
  obtain ⟨hf1, hf2, hf3, hf4, hf5, hf6, hf7⟩ := q_facts hn hn2
  refine enter (N := 21) Try.func22 rfl rfl rfl ?_
  refine g_seq ?_
  refine g_region ?_
  refine s_y (y_assign rfl) rfl rfl rfl rfl ?_
  refine s_nil ?_
  refine g_then ?_
  refine g_seq ?_
  refine g_region ?_
  refine s_y (y_move rfl) rfl rfl rfl rfl ?_
  refine s_tr (t_call rfl rfl ent_21 (fun w h => RPrime_any w n hn hn2)) rfl rfl rfl rfl (fun _ _ => ?_)
  refine s_y (y_assign rfl) rfl rfl rfl rfl ?_
  refine s_nil ?_
  refine g_then ?_
  refine g_seq ?_
  refine g_region ?_
  refine s_y (y_assign rfl) rfl rfl rfl rfl ?_
  refine s_nil ?_
  refine g_then ?_
  refine g_block ?_
  refine g_loop (fun (i : Nat) act W => 2 + (i : Int) ≤ wOf n ∧ ∃ (w1 : World), Has 21 [] [(0, .int .i64 (n : Int)), (3, .int .i64 (qOf n)), (4, .int .i64 (2 + (i : Int)))] act ∧ Hp w w1 ([]) W) (fun i => 100 - i) 0 (fun act W ha hw => ⟨by omega, W, ha.weak (sub_get ⟨rfl, rfl, rfl, trivial⟩), hw.toHq.lookSub (List.Sublist.refl _)⟩) ?_
  intro i act W ⟨hb_i, w1, ha, hw⟩
  refine g_go ha hw ?_
  clear ha hw act W
  refine g_seq ?_
  refine g_block ?_
  refine g_seq ?_
  refine g_region ?_
  refine s_y (y_assign rfl) rfl rfl rfl rfl ?_
  refine s_nil ?_
  refine g_then ?_
  refine g_seq ?_
  refine g_block ?_
  refine g_loop (fun (j : Nat) act W => (j ≤ 100 ∧ ∀ k, k < j → yv (qOf n) (2 + (i : Int)) k ≠ 1) ∧ ∃ (w1 : World), Has 21 [] [(0, .int .i64 (n : Int)), (3, .int .i64 (qOf n)), (4, .int .i64 (2 + (i : Int))), (5, .int .i64 ((j : Int) + 1))] act ∧ Hp w w1 ([]) W) (fun j => 200 - j) 0 (fun act W ha hw => ⟨⟨by omega, fun k hk => by omega⟩, W, ha.weak (sub_get ⟨rfl, rfl, rfl, rfl, trivial⟩), hw.toHq.lookSub (List.Sublist.refl _)⟩) ?_
  intro j act W ⟨hb_j, w1, ha, hw⟩
  refine g_go ha hw ?_
  clear ha hw act W
  refine g_seq ?_
  refine g_seq ?_
  refine g_region ?_
  refine s_y (y_move rfl) rfl rfl rfl rfl ?_
  refine s_y (y_move rfl) rfl rfl rfl rfl ?_
  refine s_y (y_move rfl) rfl rfl rfl rfl ?_
  refine s_tr (t_call rfl rfl ent_58 (fun w h => (show ((j + 1 : Nat) : Int) = (j : Int) + 1 from rfl) ▸ Rpower_any w (qOf n) (2 + (i : Int)) (j + 1) (by omega) (by omega) (by omega) (by omega) (by omega))) rfl rfl rfl rfl (fun _ _ => ?_)
  refine s_y (y_neq rfl rfl) rfl rfl rfl rfl ?_
  refine s_nil ?_
  refine g_then ?_
  refine g_cond rfl (fun cq1 => ?_) (fun cq1 => ?_)
  · (try simp at cq1)
    refine g_skip ?_
    refine g_then ?_
    refine g_block ?_
    refine g_region ?_
    refine s_y (y_move rfl) rfl rfl rfl rfl ?_
    refine s_y (y_add rfl rfl (by omega) (by omega)) rfl rfl rfl rfl ?_
    refine s_y (y_assign rfl) rfl rfl rfl rfl ?_
    refine s_nil ?_
    refine g_inb ?_
    refine g_then ?_
    have hj1 : yv (qOf n) (2 + (i : Int)) j ≠ 1 := by rw [← pw_yv (by omega) (by omega)]; assumption
    have hall : ∀ k, k < j + 1 → yv (qOf n) (2 + (i : Int)) k ≠ 1 := by
      intro k hk
      rcases Nat.lt_or_ge k j with h | h
      · exact hb_j.2 k h
      · have : k = j := by omega
        subst this; exact hj1
    obtain ⟨⟨K, hK, hy⟩, _⟩ := w_facts hn hn2 (x := 2 + (i : Int)) (by omega) hb_i
    have hjK : j < K := by
      rcases Nat.lt_or_ge j K with h | h
      · exact h
      · exact absurd hy (hall K (by omega))
    exact fun act W ha hw => ⟨j + 1, by omega, ⟨by omega, hall⟩, W, ha.weak (sub_get ⟨rfl, rfl, rfl, rfl, trivial⟩), hw.toHq.lookSub (List.Sublist.refl _)⟩
  · (try simp at cq1)
    have hj0 : ordOf (qOf n) (2 + (i : Int)) = j + 1 := by
      have h1 : yv (qOf n) (2 + (i : Int)) j = 1 := by rw [← pw_yv (by omega) (by omega)]; assumption
      have hj : j < 100 := by
        obtain ⟨⟨K, hK, hy⟩, _⟩ := w_facts hn hn2 (x := 2 + (i : Int)) (by omega) hb_i
        rcases Nat.lt_or_ge K j with h | h
        · exact absurd hy (hb_j.2 K h)
        · omega
      exact ordOf_eq hj h1 hb_j.2
    refine g_exit ?_
    refine g_thenx ?_
    refine g_thenx ?_
    refine g_inbx ?_
    refine g_then ?_
    refine g_seq ?_
    refine g_region ?_
    refine s_y (y_move rfl) rfl rfl rfl rfl ?_
    refine s_y (y_move rfl) rfl rfl rfl rfl ?_
    refine s_y (y_eql rfl rfl) rfl rfl rfl rfl ?_
    refine s_nil ?_
    refine g_then ?_
    refine g_cond rfl (fun cq2 => ?_) (fun cq2 => ?_)
    · (try simp at cq2)
      have hwe : 2 + (i : Int) = wOf n := by
        rcases Int.lt_or_eq_of_le hb_i with h | h
        · exact absurd (by omega) ((w_facts hn hn2 (x := 2 + (i : Int)) (by omega) hb_i).2 h)
        · exact h
      refine g_seq ?_
      refine g_region ?_
      refine s_y (y_move rfl) rfl rfl rfl rfl ?_
      refine s_y (y_assign rfl) rfl rfl rfl rfl ?_
      refine s_nil ?_
      refine g_then ?_
      refine g_ret ?_
      refine g_inbr ?_
      refine g_thenr ?_
      refine g_thenr ?_
      refine g_inbr ?_
      rw [← hwe]
      exact g_end trivial (fun a w ha hq_ => res1 ha rfl rfl  w) (fun w h => ⟨rfl, h.below⟩)
    · (try simp at cq2)
      have hlt : 2 + (i : Int) < wOf n := by
        rcases Int.lt_or_eq_of_le hb_i with h | h
        · exact h
        · rw [h, hf7] at hj0; omega
      refine g_skip ?_
      refine g_inb ?_
      refine g_then ?_
      refine g_region ?_
      refine s_y (y_move rfl) rfl rfl rfl rfl ?_
      refine s_y (y_add rfl rfl (by omega) (by omega)) rfl rfl rfl rfl ?_
      refine s_y (y_assign rfl) rfl rfl rfl rfl ?_
      refine s_nil ?_
      refine g_then ?_
      exact fun act W ha hw => ⟨i + 1, by omega, by omega, W, ha.weak (sub_get ⟨rfl, rfl, rfl, trivial⟩), hw.toHq.lookSub (List.Sublist.refl _)⟩

theorem Equal_any (w : World) (v v' : Value) (xs ys : List Int) (hv : RdV (Value.int .i64) w v xs) (hv' : RdV (Value.int .i64) w v' ys) (hl : xs.length ≤ 1000000) :
    Calls Try.prog 30 [v, v'].toArray w fun e w' => e = .returned (.bool (decide (xs = ys))) ∧ Below w.heap.size w w' := by
  refine enter (N := 26) Try.func30 rfl rfl rfl ?_
  refine g_seq ?_
  refine g_region ?_
  refine s_y (y_assign rfl) rfl rfl rfl rfl ?_
  refine s_nil ?_
  refine g_then ?_
  refine g_seq ?_
  refine g_seq ?_
  refine g_region ?_
  refine s_y (y_move rfl) rfl rfl rfl rfl ?_
  refine s_y (y_lenV (n := xs.length) rfl (by obtain ⟨A, c, h1, _⟩ := hv; exact ⟨A, c, h1⟩) sle_32) rfl rfl rfl rfl ?_
  refine s_y (y_move rfl) rfl rfl rfl rfl ?_
  refine s_y (y_lenV (n := ys.length) rfl (by obtain ⟨A, c, h1, _⟩ := hv'; exact ⟨A, c, h1⟩) sle_32) rfl rfl rfl rfl ?_
  refine s_y (y_neq rfl rfl) rfl rfl rfl rfl ?_
  refine s_nil ?_
  refine g_then ?_
  refine g_cond rfl (fun cq1 => ?_) (fun cq1 => ?_)
  · (try simp at cq1)
    refine g_seq ?_
    refine g_region ?_
    refine s_y (y_assign rfl) rfl rfl rfl rfl ?_
    refine s_nil ?_
    refine g_then ?_
    refine g_ret ?_
    refine g_thenr ?_
    rw [show decide (xs = ys) = false from decide_eq_false fun h => by subst h; first | omega | contradiction]
    exact g_end trivial (fun a w ha hq_ => res1 ha rfl rfl  w) (fun w h => ⟨rfl, h.below⟩)
  · (try simp at cq1)
    have hll : xs.length = ys.length := by omega
    refine g_skip ?_
    refine g_then ?_
    refine g_seq ?_
    refine g_seq ?_
    refine g_region ?_
    refine s_y (y_move rfl) rfl rfl rfl rfl ?_
    refine s_y (y_lenV (n := xs.length) rfl (by obtain ⟨A, c, h1, _⟩ := hv; exact ⟨A, c, h1⟩) sle_32) rfl rfl rfl rfl ?_
    refine s_y (y_move rfl) rfl rfl rfl rfl ?_
    refine s_nil ?_
    refine g_then ?_
    refine g_block ?_
    refine g_loop (fun (i : Nat) act W => (i ≤ xs.length ∧ ∀ j : Nat, j < i → rdI xs (j : Int) = rdI ys (j : Int)) ∧ ∃ (w1 : World), Has 26 [] [(0, v), (1, v'), (12, .int .i64 (xs.length : Nat)), (13, .int .i64 (i : Int))] act ∧ Hp w w1 ([]) W) (fun i => xs.length - i) 0 (fun act W ha hw => ⟨⟨by omega, fun j hj => by omega⟩, W, ha.weak (sub_get ⟨rfl, rfl, rfl, rfl, trivial⟩), hw.toHq.lookSub (List.Sublist.refl _)⟩) ?_
    intro i act W ⟨hb_i, w1, ha, hw⟩
    refine g_go ha hw ?_
    clear ha hw act W
    refine g_seq ?_
    refine g_region ?_
    refine s_y (y_lss rfl rfl) rfl rfl rfl rfl ?_
    refine s_nil ?_
    refine g_then ?_
    refine g_seq ?_
    refine g_cond rfl (fun cq2 => ?_) (fun cq2 => ?_)
    · (try simp at cq2)
      refine g_skip ?_
      refine g_then ?_
      refine g_seq ?_
      refine g_block ?_
      refine g_seq ?_
      refine g_region ?_
      refine s_y (y_move rfl) rfl rfl rfl rfl ?_
      refine s_y (y_assign rfl) rfl rfl rfl rfl ?_
      refine s_nil ?_
      refine g_then ?_
      refine g_seq ?_
      refine g_draw 9 (by kernel_rfl) ?_
      refine j_p (i := 0) rfl (y_move rfl) (by kernel_rfl) (by kernel_rfl) (by kernel_rfl) rfl rfl rfl rfl rfl (.inr (fun _ h => h)) ?_
      refine j_p (i := 1) rfl (y_move rfl) (by kernel_rfl) (by kernel_rfl) (by kernel_rfl) rfl rfl rfl rfl rfl (.inr (fun _ h => h)) ?_
      refine j_p (i := 2) rfl (y_idxV (enc := (Value.int .i64)) rfl rfl hv Try.underlying32 size_3 (by omega) (by omega)) (by kernel_rfl) (by kernel_rfl) (by kernel_rfl) rfl rfl rfl rfl rfl (.inr (fun _ h => h)) ?_
      refine j_l (i := 3) rfl (y_ldV (enc := (Value.int .i64)) (xs := xs) (fun w h => hv.rdl.below h.below) rfl agg_3 (rdI_at (by omega) (by omega))) (by kernel_rfl) (by kernel_rfl) (by kernel_rfl) (by kernel_rfl) rfl rfl rfl rfl rfl (.inr (fun _ h => h)) ?_
      refine j_p (i := 4) rfl (y_move rfl) (by kernel_rfl) (by kernel_rfl) (by kernel_rfl) rfl rfl rfl rfl rfl (.inr (fun _ h => h)) ?_
      refine j_p (i := 5) rfl (y_move rfl) (by kernel_rfl) (by kernel_rfl) (by kernel_rfl) rfl rfl rfl rfl rfl (.inr (fun _ h => h)) ?_
      refine j_p (i := 6) rfl (y_idxV (enc := (Value.int .i64)) rfl rfl hv' Try.underlying32 size_3 (by omega) (by omega)) (by kernel_rfl) (by kernel_rfl) (by kernel_rfl) rfl rfl rfl rfl rfl (.inr (fun _ h => h)) ?_
      refine j_l (i := 7) rfl (y_ldV (enc := (Value.int .i64)) (xs := ys) (fun w h => hv'.rdl.below h.below) rfl agg_3 (rdI_at (by omega) (by omega))) (by kernel_rfl) (by kernel_rfl) (by kernel_rfl) (by kernel_rfl) rfl rfl rfl rfl rfl (.inr (fun _ h => h)) ?_
      refine j_p (i := 8) rfl (y_neq rfl rfl) (by kernel_rfl) (by kernel_rfl) (by kernel_rfl) rfl rfl rfl rfl rfl (.inr (fun _ h => h)) ?_
      refine j_nil (by kernel_rfl) ?_
      refine g_then ?_
      refine g_cond rfl (fun cq3 => ?_) (fun cq3 => ?_)
      · (try simp at cq3)
        refine g_seq ?_
        refine g_region ?_
        refine s_y (y_assign rfl) rfl rfl rfl rfl ?_
        refine s_nil ?_
        refine g_then ?_
        refine g_ret ?_
        refine g_inbr ?_
        refine g_thenr ?_
        refine g_thenr ?_
        refine g_inbr ?_
        refine g_thenr ?_
        rw [show decide (xs = ys) = false from decide_eq_false fun h => by subst h; first | omega | contradiction]
        exact g_end trivial (fun a w ha hq_ => res1 ha rfl rfl  w) (fun w h => ⟨rfl, h.below⟩)
      · (try simp at cq3)
        refine g_skip ?_
        refine g_inb ?_
        refine g_then ?_
        refine g_region ?_
        refine s_y (y_add rfl rfl (by omega) (by omega)) rfl rfl rfl rfl ?_
        refine s_y (y_move rfl) rfl rfl rfl rfl ?_
        refine s_nil ?_
        refine g_then ?_
        have hall : ∀ j : Nat, j < i + 1 → rdI xs (j : Int) = rdI ys (j : Int) := by
          intro k hk
          rcases Nat.lt_or_ge k i with h | h
          · exact hb_i.2 k h
          · have : k = i := by omega
            subst this; assumption
        exact fun act W ha hw => ⟨i + 1, by omega, ⟨by omega, hall⟩, W, ha.weak (sub_get ⟨rfl, rfl, rfl, rfl, trivial⟩), hw.toHq.lookSub (List.Sublist.refl _)⟩
    · (try simp at cq2)
      refine g_exit ?_
      refine g_thenx ?_
      refine g_thenx ?_
      refine g_inbx ?_
      refine g_then ?_
      refine g_seq ?_
      refine g_region ?_
      refine s_y (y_assign rfl) rfl rfl rfl rfl ?_
      refine s_nil ?_
      refine g_then ?_
      refine g_ret ?_
      rw [show decide (xs = ys) = true from decide_eq_true (rdI_ext hll fun j hj => hb_i.2 j (by omega))]
      exact g_end trivial (fun a w ha hq_ => res1 ha rfl rfl  w) (fun w h => ⟨rfl, h.below⟩)

theorem Equal_t (w : World) (v v' : Value) (xs ys : List Int) (hv : RdV (Value.int .i64) w v xs) (hv' : RdV (Value.int .i64) w v' ys) (hl : xs.length ≤ 1000000) (h : xs = ys) : Calls Try.prog 30 [v, v'].toArray w fun e w' => e = .returned (.bool true) ∧ Below w.heap.size w w' := by have := Equal_any w v v' xs ys hv hv' hl; rwa [decide_eq_true h] at this
theorem Equal_f (w : World) (v v' : Value) (xs ys : List Int) (hv : RdV (Value.int .i64) w v xs) (hv' : RdV (Value.int .i64) w v' ys) (hl : xs.length ≤ 1000000) (h : xs ≠ ys) : Calls Try.prog 30 [v, v'].toArray w fun e w' => e = .returned (.bool false) ∧ Below w.heap.size w w' := by have := Equal_any w v v' xs ys hv hv' hl; rwa [decide_eq_false h] at this

theorem awake_t (w : World) :
    Calls Try.prog 20 [].toArray w fun e w' => e = .returned (.bool true) ∧ Below w.heap.size w w' := by
  obtain ⟨ie3, hi3⟩ := inf_3
  refine enter (N := 15) Try.func20 rfl rfl rfl ?_
  refine g_seq ?_
  refine g_region ?_
  refine s_y (y_assign rfl) rfl rfl rfl rfl ?_
  refine s_nil ?_
  refine g_then ?_
  refine g_seq ?_
  refine g_region ?_
  refine s_tr (t_build (vs := [(0, .int .i64 0), (1, .int .i64 1), (2, .int .i64 0), (3, .int .i64 0)]) (cells := [.int .i64 0, .int .i64 1, .int .i64 0, .int .i64 0]) rfl rfl Try.underlying32 hi3.1 hi3.2.1 (by rw [hi3.2.2.1]; rfl) (by rw [hi3.2.2.1]; rfl) (by rw [hi3.2.2.1]; kernel_rfl)) rfl rfl rfl rfl (fun bl hbl => ?_)
  refine s_tr (t_callm (A := New _ _) rfl rfl ent_34 (fun w h => (Spectrum_ok w 4 _ [0, 1, 0, 0] (RdV.own (enc := (Value.int .i64)) (xs := [0, 1, 0, 0]) (jk := []) (at_of (i := 0) h rfl) rfl (Nat.le_refl _)) (by decide) (by decide) (by decide)).mono fun e w' ⟨b, h1, h2⟩ => ⟨b, ⟨Nat.le_trans h.below.size (h2.ge _ (List.mem_cons_self ..)), Nat.le_trans h.size (h2.ge _ (List.mem_cons_self ..))⟩, h1, h2⟩)) rfl rfl rfl rfl (fun bs hbs => ?_)
  refine s_y (y_move rfl) rfl rfl rfl rfl ?_
  refine s_y (y_extract rfl rfl) rfl rfl rfl rfl ?_
  refine s_y (y_extract rfl rfl) rfl rfl rfl rfl ?_
  refine s_y (y_assign rfl) rfl rfl rfl rfl ?_
  refine s_y (y_assign rfl) rfl rfl rfl rfl ?_
  refine s_nil ?_
  refine g_then ?_
  refine g_seq ?_
  refine g_region ?_
  refine s_y (y_move rfl) rfl rfl rfl rfl ?_
  refine s_y (y_eql_t rfl rfl (by decide)) rfl rfl rfl rfl ?_
  refine s_y (y_move rfl) rfl rfl rfl rfl ?_
  refine s_y (y_move rfl) rfl rfl rfl rfl ?_
  refine s_tr (t_build (vs := [(0, .int .i64 1), (1, .int .i64 5), (2, .int .i64 12), (3, .int .i64 8)]) (cells := [.int .i64 1, .int .i64 5, .int .i64 12, .int .i64 8]) rfl rfl Try.underlying32 hi3.1 hi3.2.1 (by rw [hi3.2.2.1]; rfl) (by rw [hi3.2.2.1]; rfl) (by rw [hi3.2.2.1]; kernel_rfl)) rfl rfl rfl rfl (fun br hbr => ?_)
  refine s_tr (t_call rfl rfl ent_30 (fun w h => Equal_t w _ _ (turnL (qOf 4) (wOf 4) 4 [0, 1, 0, 0]) [1, 5, 12, 8] (RdV.own (jk := []) (at_of (i := 1) h rfl) (by decide) (Nat.le_refl _)) (RdV.own (enc := (Value.int .i64)) (xs := [1, 5, 12, 8]) (jk := []) (at_of (i := 0) h rfl) rfl (Nat.le_refl _)) (by decide) (by decide))) rfl rfl rfl rfl (fun _ _ => ?_)
  refine s_y (y_pick_t rfl rfl) rfl rfl rfl rfl ?_
  refine s_y (y_assign rfl) rfl rfl rfl rfl ?_
  refine s_nil ?_
  refine g_then ?_
  refine g_ret ?_
  exact g_end trivial (fun a w ha hq_ => res1 ha rfl rfl  w) (fun w h => ⟨rfl, h.below⟩)

end Go.Proofs.Ytncenmgkdodioaa
