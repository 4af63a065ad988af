/- edits: the law EditsOver. -/
import Derived.Test.YtnnpdgegejklpaaEdW
namespace Go.Proofs.Ytnnpdgegejklpaa
open Go.RowKit Go.Sx Go.WideMaps
set_option linter.unusedVariables false
set_option linter.unusedSimpArgs false
set_option maxRecDepth 100000
set_option maxHeartbeats 4000000

private theorem ent_51 : Enters Try.prog 51 := enters_of Try.func51 (by kernel_rfl) rfl
private theorem ent_50 : Enters Try.prog 50 := enters_of Try.func50 (by kernel_rfl) rfl
private theorem ent_52 : Enters Try.prog 52 := enters_of Try.func52 (by kernel_rfl) rfl
private theorem ent_53 : Enters Try.prog 53 := enters_of Try.func53 (by kernel_rfl) rfl
private theorem ent_54 : Enters Try.prog 54 := enters_of Try.func54 (by kernel_rfl) rfl
private theorem ent_56 : Enters Try.prog 56 := enters_of Try.func56 (by kernel_rfl) rfl
private theorem ent_55 : Enters Try.prog 55 := enters_of Try.func55 (by kernel_rfl) rfl
private theorem ent_22 : Enters Try.prog 22 := enters_of Try.func22 (by kernel_rfl) rfl
private theorem sle_74 : Try.prog.underlying 74 = some (.slice (Try.prog.elem 74)) := by kernel_rfl

theorem kN_le (a b : List Int) : kN a b < 40 := by
  unfold kN
  split
  · rename_i k h; exact List.mem_range.1 (List.mem_of_find?_eq_some h)
  · decide
theorem wayL_len (a b : List Int) : (wayL a b).length ≤ 1000 := by have := kN_le a b; unfold wayL; simp; omega

theorem EditsOver_ok (w : World) (v v' : Value) (a b : List Int) (ha : RdV (Value.int .i64) w v a) (hb : RdV (Value.int .i64) w v' b) (hma : melB a = true) (hmb_ : melB b = true) :
    Calls Try.prog 14 [v, v'].toArray w fun e w' => e = .returned (.bool (true)) ∧ Below w.heap.size w w' := by
  obtain ⟨hal, hxa⟩ := melB_true.1 hma
  obtain ⟨hbl, hxb⟩ := melB_true.1 hmb_
  have ea : a.take 16 = a := List.take_of_length_le (by omega)
  have eb : b.take 16 = b := List.take_of_length_le (by omega)
  refine enter (N := 74) Try.func14 rfl rfl rfl ?_
  refine g_seq ?_
  refine g_region ?_
  refine s_y (y_assign rfl) rfl rfl rfl rfl ?_
  refine s_nil ?_
  refine g_then ?_
  refine g_seq ?_
  refine g_region ?_
  refine s_y (y_move rfl) rfl rfl rfl rfl ?_
  refine s_tr (t_callm rfl rfl ent_51 (fun w h => ea ▸ list_any w _ a (ha.below h.below))) rfl rfl rfl rfl (fun x2 hx3 => ?_)
  obtain ⟨vo1, mo1⟩ := x2
  obtain ⟨hOo1, hEo1⟩ := hx3
  refine s_y (y_move rfl) rfl rfl rfl rfl ?_
  refine s_tr (t_callm rfl rfl ent_51 (fun w h => eb ▸ list_any w _ b (hb.below h.below))) rfl rfl rfl rfl (fun x5 hx6 => ?_)
  obtain ⟨vo4, mo4⟩ := x5
  obtain ⟨hOo4, hEo4⟩ := hx6
  refine s_tr (t_call rfl rfl ent_50 (fun w h => Over_ok w _ _ a b (hOo1.rd fun p hp => h.at_ p (mem_ar mo4 (mem_al mo1 hp))) (hOo4.rd fun p hp => h.at_ p (mem_al mo4 hp)) hma hmb_)) rfl rfl rfl rfl (fun _ _ => ?_)
  refine s_y (y_move rfl) rfl rfl rfl rfl ?_
  refine s_y (y_extract rfl rfl) rfl rfl rfl rfl ?_
  refine s_y (y_extract rfl rfl) rfl rfl rfl rfl ?_
  refine s_y (y_assign rfl) rfl rfl rfl rfl ?_
  refine s_y (y_assign rfl) rfl rfl rfl rfl ?_
  refine s_nil ?_
  refine g_then ?_
  refine g_seq ?_
  refine g_region ?_
  refine s_y (y_move rfl) rfl rfl rfl rfl ?_
  refine s_tr (t_callm rfl rfl ent_51 (fun w h => ea ▸ list_any w _ a (ha.below h.below))) rfl rfl rfl rfl (fun x8 hx9 => ?_)
  obtain ⟨vo7, mo7⟩ := x8
  obtain ⟨hOo7, hEo7⟩ := hx9
  refine s_y (y_move rfl) rfl rfl rfl rfl ?_
  refine s_tr (t_callm rfl rfl ent_51 (fun w h => eb ▸ list_any w _ b (hb.below h.below))) rfl rfl rfl rfl (fun x11 hx12 => ?_)
  obtain ⟨vo10, mo10⟩ := x11
  obtain ⟨hOo10, hEo10⟩ := hx12
  refine s_tr (t_callm rfl rfl ent_52 (fun w h => OverWay_ok w _ _ a b (hOo7.rd fun p hp => h.at_ p (mem_ar mo10 (mem_al mo7 hp))) (hOo10.rd fun p hp => h.at_ p (mem_al mo10 hp)) hma hmb_)) rfl rfl rfl rfl (fun x14 hx15 => ?_)
  obtain ⟨vo13, mo13⟩ := x14
  obtain ⟨hOo13, hEo13⟩ := hx15
  refine s_y (y_move rfl) rfl rfl rfl rfl ?_
  refine s_y (y_extract rfl rfl) rfl rfl rfl rfl ?_
  refine s_y (y_extract rfl rfl) rfl rfl rfl rfl ?_
  refine s_y (y_assign rfl) rfl rfl rfl rfl ?_
  refine s_y (y_assign rfl) rfl rfl rfl rfl ?_
  refine s_nil ?_
  refine g_then ?_
  refine g_seq ?_
  refine g_seq ?_
  refine g_region ?_
  refine s_y (y_move rfl) rfl rfl rfl rfl ?_
  refine s_tr (t_call rfl rfl ent_53 (fun w h => by have h_ := RMelody_any w _ a (ha.below h.below) (by omega); rwa [hma] at h_)) rfl rfl rfl rfl (fun _ _ => ?_)
  refine s_y (y_not_t rfl) rfl rfl rfl rfl ?_
  refine s_y (y_move rfl) rfl rfl rfl rfl ?_
  refine s_y (y_move rfl) rfl rfl rfl rfl ?_
  refine s_tr (t_call rfl rfl ent_53 (fun w h => by have h_ := RMelody_any w _ b (hb.below h.below) (by omega); rwa [hmb_] at h_)) rfl rfl rfl rfl (fun _ _ => ?_)
  refine s_y (y_not_t rfl) rfl rfl rfl rfl ?_
  refine s_y (y_pick_f rfl rfl) rfl rfl rfl rfl ?_
  refine s_nil ?_
  refine g_then ?_
  refine g_cond_f rfl ?_
  refine g_skip ?_
  refine g_then ?_
  refine g_seq ?_
  refine g_region ?_
  refine s_y (y_move rfl) rfl rfl rfl rfl ?_
  refine s_y (y_move rfl) rfl rfl rfl rfl ?_
  refine s_y (y_move rfl) rfl rfl rfl rfl ?_
  refine s_tr (t_call rfl rfl ent_54 (fun w h => ROver_any w v v' a b (ha.below h.below) (hb.below h.below) hma hmb_)) rfl rfl rfl rfl (fun _ _ => ?_)
  refine s_y (y_eql_t rfl rfl (rfl)) rfl rfl rfl rfl ?_
  refine s_y (y_move rfl) rfl rfl rfl rfl ?_
  refine s_y (y_move rfl) rfl rfl rfl rfl ?_
  refine s_y (y_move rfl) rfl rfl rfl rfl ?_
  refine s_y (y_move rfl) rfl rfl rfl rfl ?_
  refine s_tr (t_callm rfl rfl ent_56 (fun w h => ROverWay_ok w v v' a b (ha.below h.below) (hb.below h.below) hma hmb_)) rfl rfl rfl rfl (fun x17 hx18 => ?_)
  obtain ⟨vo16, mo16⟩ := x17
  obtain ⟨hOo16, hEo16⟩ := hx18
  refine s_tr (t_call rfl rfl ent_55 (fun w h => EqualP_t w _ _ (wayL a b) (hOo13.rd fun p hp => h.at_ p (mem_ar mo16 (mem_al mo13 hp))) (hOo16.rd fun p hp => h.at_ p (mem_al mo16 hp)) (wayL_len a b))) rfl rfl rfl rfl (fun _ _ => ?_)
  refine s_y (y_pick_t rfl rfl) rfl rfl rfl rfl ?_
  refine s_y (y_move rfl) rfl rfl rfl rfl ?_
  refine s_y (y_move rfl) rfl rfl rfl rfl ?_
  refine s_y (y_eql_t rfl rfl (by decide)) rfl rfl rfl rfl ?_
  refine s_y (y_pick_t rfl rfl) rfl rfl rfl rfl ?_
  refine s_y (y_move rfl) rfl rfl rfl rfl ?_
  refine s_y (y_move rfl) rfl rfl rfl rfl ?_
  refine s_y (y_eql_t rfl rfl (by decide)) rfl rfl rfl rfl ?_
  refine s_y (y_pick_t rfl rfl) rfl rfl rfl rfl ?_
  refine s_y (y_move rfl) rfl rfl rfl rfl ?_
  refine s_tr (t_call rfl rfl ent_22 (fun w h => awakeE_t w)) rfl rfl rfl rfl (fun _ _ => ?_)
  refine s_y (y_pick_t rfl rfl) rfl rfl rfl rfl ?_
  refine s_y (y_assign rfl) rfl rfl rfl rfl ?_
  refine s_nil ?_
  refine g_then ?_
  refine g_ret ?_
  exact g_end trivial (fun a w ha hq_ => res1 ha rfl rfl  w) (fun w h => ⟨rfl, h.below⟩)

theorem mel_take {xs : List Int} (h : melB (xs.take 16) = true) : melB xs = true := by
  have h1 := (melB_true.1 h).1
  rw [List.length_take] at h1
  rwa [List.take_of_length_le (by omega)] at h

theorem EditsOver_no (w : World) (v v' : Value) (a b : List Int) (ha : RdV (Value.int .i64) w v a) (hb : RdV (Value.int .i64) w v' b) (hal : a.length ≤ 9223372036854775807) (hbl : b.length ≤ 9223372036854775807) (hno : ¬ (melB a = true ∧ melB b = true)) :
    Calls Try.prog 14 [v, v'].toArray w fun e w' => e = .returned (.bool (true)) ∧ Below w.heap.size w w' := by
  have hno2 : ¬ (melB (a.take 16) = true ∧ melB (b.take 16) = true) := fun h => hno ⟨mel_take h.1, mel_take h.2⟩
  refine enter (N := 74) Try.func14 rfl rfl rfl ?_
  refine g_seq ?_
  refine g_region ?_
  refine s_y (y_assign rfl) rfl rfl rfl rfl ?_
  refine s_nil ?_
  refine g_then ?_
  refine g_seq ?_
  refine g_region ?_
  refine s_y (y_move rfl) rfl rfl rfl rfl ?_
  refine s_tr (t_callm rfl rfl ent_51 (fun w h => list_any w _ a (ha.below h.below))) rfl rfl rfl rfl (fun x2 hx3 => ?_)
  obtain ⟨vo1, mo1⟩ := x2
  obtain ⟨hOo1, hEo1⟩ := hx3
  refine s_y (y_move rfl) rfl rfl rfl rfl ?_
  refine s_tr (t_callm rfl rfl ent_51 (fun w h => list_any w _ b (hb.below h.below))) rfl rfl rfl rfl (fun x5 hx6 => ?_)
  obtain ⟨vo4, mo4⟩ := x5
  obtain ⟨hOo4, hEo4⟩ := hx6
  refine s_tr (t_call rfl rfl ent_50 (fun w h => Over_bad w _ _ (a.take 16) (b.take 16) (hOo1.rd fun p hp => h.at_ p (mem_ar mo4 (mem_al mo1 hp))) (hOo4.rd fun p hp => h.at_ p (mem_al mo4 hp)) (by rw [List.length_take]; omega) (by rw [List.length_take]; omega) hno2)) rfl rfl rfl rfl (fun _ _ => ?_)
  refine s_y (y_move rfl) rfl rfl rfl rfl ?_
  refine s_y (y_extract rfl rfl) rfl rfl rfl rfl ?_
  refine s_y (y_extract rfl rfl) rfl rfl rfl rfl ?_
  refine s_y (y_assign rfl) rfl rfl rfl rfl ?_
  refine s_y (y_assign rfl) rfl rfl rfl rfl ?_
  refine s_nil ?_
  refine g_then ?_
  refine g_seq ?_
  refine g_region ?_
  refine s_y (y_move rfl) rfl rfl rfl rfl ?_
  refine s_tr (t_callm rfl rfl ent_51 (fun w h => list_any w _ a (ha.below h.below))) rfl rfl rfl rfl (fun x8 hx9 => ?_)
  obtain ⟨vo7, mo7⟩ := x8
  obtain ⟨hOo7, hEo7⟩ := hx9
  refine s_y (y_move rfl) rfl rfl rfl rfl ?_
  refine s_tr (t_callm rfl rfl ent_51 (fun w h => list_any w _ b (hb.below h.below))) rfl rfl rfl rfl (fun x11 hx12 => ?_)
  obtain ⟨vo10, mo10⟩ := x11
  obtain ⟨hOo10, hEo10⟩ := hx12
  refine s_tr (t_call rfl rfl ent_52 (fun w h => OverWay_bad w _ _ (a.take 16) (b.take 16) (hOo7.rd fun p hp => h.at_ p (mem_ar mo10 (mem_al mo7 hp))) (hOo10.rd fun p hp => h.at_ p (mem_al mo10 hp)) (by rw [List.length_take]; omega) (by rw [List.length_take]; omega) hno2)) rfl rfl rfl rfl (fun _ _ => ?_)
  refine s_y (y_move rfl) rfl rfl rfl rfl ?_
  refine s_y (y_extract rfl rfl) rfl rfl rfl rfl ?_
  refine s_y (y_extract rfl rfl) rfl rfl rfl rfl ?_
  refine s_y (y_assign rfl) rfl rfl rfl rfl ?_
  refine s_y (y_assign rfl) rfl rfl rfl rfl ?_
  refine s_nil ?_
  refine g_then ?_
  refine g_seq ?_
  refine g_seq ?_
  refine g_region ?_
  refine s_y (y_move rfl) rfl rfl rfl rfl ?_
  refine s_tr (t_call rfl rfl ent_53 (fun w h => RMelody_any w _ a (ha.below h.below) (by omega))) rfl rfl rfl rfl (fun _ _ => ?_)
  refine s_y (y_not rfl) rfl rfl rfl rfl ?_
  refine s_y (y_move rfl) rfl rfl rfl rfl ?_
  refine g_bool 28 rfl (fun cq13 => ?_) (fun cq13 => ?_)
  · (try simp at cq13)
    refine s_no rfl rfl rfl ?_
    refine s_no rfl rfl rfl ?_
    refine s_no rfl rfl rfl ?_
    refine s_y (y_pick_t rfl rfl) rfl rfl rfl rfl ?_
    refine s_nil ?_
    refine g_then ?_
    refine g_cond_t rfl ?_
    refine g_seq ?_
    refine g_region ?_
    refine s_y (y_move rfl) rfl rfl rfl rfl ?_
    refine s_y (y_eql_t rfl rfl (by decide)) rfl rfl rfl rfl ?_
    refine s_y (y_move rfl) rfl rfl rfl rfl ?_
    refine s_y (y_move rfl) rfl rfl rfl rfl ?_
    refine s_y (y_lensl rfl sle_74) rfl rfl rfl rfl ?_
    refine s_y (y_eql_t rfl rfl (by decide)) rfl rfl rfl rfl ?_
    refine s_y (y_pick_t rfl rfl) rfl rfl rfl rfl ?_
    refine s_y (y_move rfl) rfl rfl rfl rfl ?_
    refine s_y (y_move rfl) rfl rfl rfl rfl ?_
    refine s_y (y_eql_t rfl rfl (by decide)) rfl rfl rfl rfl ?_
    refine s_y (y_pick_t rfl rfl) rfl rfl rfl rfl ?_
    refine s_y (y_move rfl) rfl rfl rfl rfl ?_
    refine s_y (y_move rfl) rfl rfl rfl rfl ?_
    refine s_y (y_eql_t rfl rfl (by decide)) rfl rfl rfl rfl ?_
    refine s_y (y_pick_t rfl rfl) rfl rfl rfl rfl ?_
    refine s_y (y_move rfl) rfl rfl rfl rfl ?_
    refine s_tr (t_call rfl rfl ent_22 (fun w h => awakeE_t w)) rfl rfl rfl rfl (fun _ _ => ?_)
    refine s_y (y_pick_t rfl rfl) rfl rfl rfl rfl ?_
    refine s_y (y_assign rfl) rfl rfl rfl rfl ?_
    refine s_nil ?_
    refine g_then ?_
    refine g_ret ?_
    refine g_thenr ?_
    exact g_end trivial (fun a w ha hq_ => res1 ha rfl rfl  w) (fun w h => ⟨rfl, h.below⟩)
  · (try simp at cq13)
    refine s_y (y_move rfl) rfl rfl rfl rfl ?_
    refine s_tr (t_call rfl rfl ent_53 (fun w h => RMelody_any w _ b (hb.below h.below) (by omega))) rfl rfl rfl rfl (fun _ _ => ?_)
    refine s_y (y_not rfl) rfl rfl rfl rfl ?_
    refine s_y (y_pick_f rfl rfl) rfl rfl rfl rfl ?_
    refine s_nil ?_
    refine g_then ?_
    refine g_cond rfl (fun cq14 => ?_) (fun cq14 => ?_)
    · (try simp at cq14)
      refine g_seq ?_
      refine g_region ?_
      refine s_y (y_move rfl) rfl rfl rfl rfl ?_
      refine s_y (y_eql_t rfl rfl (by decide)) rfl rfl rfl rfl ?_
      refine s_y (y_move rfl) rfl rfl rfl rfl ?_
      refine s_y (y_move rfl) rfl rfl rfl rfl ?_
      refine s_y (y_lensl rfl sle_74) rfl rfl rfl rfl ?_
      refine s_y (y_eql_t rfl rfl (by decide)) rfl rfl rfl rfl ?_
      refine s_y (y_pick_t rfl rfl) rfl rfl rfl rfl ?_
      refine s_y (y_move rfl) rfl rfl rfl rfl ?_
      refine s_y (y_move rfl) rfl rfl rfl rfl ?_
      refine s_y (y_eql_t rfl rfl (by decide)) rfl rfl rfl rfl ?_
      refine s_y (y_pick_t rfl rfl) rfl rfl rfl rfl ?_
      refine s_y (y_move rfl) rfl rfl rfl rfl ?_
      refine s_y (y_move rfl) rfl rfl rfl rfl ?_
      refine s_y (y_eql_t rfl rfl (by decide)) rfl rfl rfl rfl ?_
      refine s_y (y_pick_t rfl rfl) rfl rfl rfl rfl ?_
      refine s_y (y_move rfl) rfl rfl rfl rfl ?_
      refine s_tr (t_call rfl rfl ent_22 (fun w h => awakeE_t w)) rfl rfl rfl rfl (fun _ _ => ?_)
      refine s_y (y_pick_t rfl rfl) rfl rfl rfl rfl ?_
      refine s_y (y_assign rfl) rfl rfl rfl rfl ?_
      refine s_nil ?_
      refine g_then ?_
      refine g_ret ?_
      refine g_thenr ?_
      exact g_end trivial (fun a w ha hq_ => res1 ha rfl rfl  w) (fun w h => ⟨rfl, h.below⟩)
    · (try simp at cq14)
      exact absurd ⟨by simp_all, by simp_all⟩ hno

theorem EditsOver_law (w : World) (v : Value) (a : List Int) (v' : Value) (b : List Int) (ha : RdV (Value.int .i64) w v a) (hal : a.length ≤ maxLen) (_ : ∀ x ∈ a, (Lit.int .i64 x).wf = true) (hb : RdV (Value.int .i64) w v' b) (hbl : b.length ≤ maxLen) (_ : ∀ x ∈ b, (Lit.int .i64 x).wf = true) : Calls Try.prog 14 [v, v'].toArray w fun e w' => e = .returned (.bool (true)) ∧ Below w.heap.size w w' := by
  by_cases h : melB a = true ∧ melB b = true
  · exact EditsOver_ok w v v' a b ha hb h.1 h.2
  · exact EditsOver_no w v v' a b ha hb (by unfold maxLen at hal; omega) (by unfold maxLen at hbl; omega) h

end Go.Proofs.Ytnnpdgegejklpaa
