/- duets: the laws DuetsChecks, DuetsLifts. -/
import Derived.Test.YtolalckejnijkaaDuC
import Derived.Test.YtolalckejnijkaaDuF
namespace Go.Proofs.Ytolalckejnijkaa
open Go.RowKit Go.Sx 
set_option linter.unusedVariables false
set_option linter.unusedSimpArgs false
set_option maxRecDepth 100000
set_option maxHeartbeats 4000000

private theorem ent_17 : Enters Try.prog 17 := enters_of Try.func17 (by kernel_rfl) rfl
private theorem ent_21 : Enters Try.prog 21 := enters_of Try.func21 (by kernel_rfl) rfl
private theorem ent_22 : Enters Try.prog 22 := enters_of Try.func22 (by kernel_rfl) rfl
private theorem ent_23 : Enters Try.prog 23 := enters_of Try.func23 (by kernel_rfl) rfl
private theorem ent_19 : Enters Try.prog 19 := enters_of Try.func19 (by kernel_rfl) rfl
private theorem ent_24 : Enters Try.prog 24 := enters_of Try.func24 (by kernel_rfl) rfl
private theorem ent_18 : Enters Try.prog 18 := enters_of Try.func18 (by kernel_rfl) rfl
private theorem ent_25 : Enters Try.prog 25 := enters_of Try.func25 (by kernel_rfl) rfl
private theorem ent_26 : Enters Try.prog 26 := enters_of Try.func26 (by kernel_rfl) rfl
private theorem sle_22 : Try.prog.underlying 22 = some (.slice (Try.prog.elem 22)) := by kernel_rfl

theorem part_take {xs : List Int} (h : partB xs = false) : partB (xs.take 11) = false := by
  by_cases c : xs.length ≤ 11
  · rwa [List.take_of_length_le c]
  · cases h2 : partB (xs.take 11) with
    | false => rfl
    | true =>
      have := (partB_true.1 h2).1.2
      rw [List.length_take] at this; omega
theorem pair_take {g s : List Int} (h : pairB g s = false) : pairB (g.take 11) (s.take 11) = false := by
  cases h2 : pairB (g.take 11) (s.take 11) with
  | false => rfl
  | true =>
    obtain ⟨⟨h3, _⟩, _, h4⟩ := pair_facts h2
    rw [List.length_take] at h3 h4
    rw [List.length_take] at h4
    rw [List.take_of_length_le (by omega), List.take_of_length_le (by omega)] at h2
    rw [h] at h2; cases h2

theorem DuetsChecks_ok (w : World) (v : Value) (g : List Int) (v' : Value) (s : List Int) (hg : RdV (Value.int .i64) w v g) (hs : RdV (Value.int .i64) w v' s) (hp : pairB g s = true) :
    Calls Try.prog 4 [v, v'].toArray w fun e w' => e = .returned (.bool true) ∧ Below w.heap.size w w' := by
  obtain ⟨⟨hgl, hgn⟩, hsn, hln⟩ := pair_facts hp
  refine enter (N := 60) Try.func4 rfl rfl rfl ?_
  refine g_seq ?_
  refine g_region ?_
  refine s_y (y_assign rfl) rfl rfl rfl rfl ?_
  refine s_nil ?_
  refine g_then ?_
  refine g_seq ?_
  refine g_region ?_
  refine s_y (y_move rfl) rfl rfl rfl rfl ?_
  refine s_tr (t_callm rfl rfl ent_17 (fun w h => by have h_ := list_any w _ g (hg.below h.below); rw [List.take_of_length_le (by omega)] at h_; exact h_)) rfl rfl rfl rfl (fun x2 hx3 => ?_)
  obtain ⟨vo1, mo1⟩ := x2
  obtain ⟨hOo1, hEo1⟩ := hx3
  refine s_y (y_move rfl) rfl rfl rfl rfl ?_
  refine s_tr (t_callm rfl rfl ent_17 (fun w h => by have h_ := list_any w _ s (hs.below h.below); rw [List.take_of_length_le (by omega)] at h_; exact h_)) rfl rfl rfl rfl (fun x5 hx6 => ?_)
  obtain ⟨vo4, mo4⟩ := x5
  obtain ⟨hOo4, hEo4⟩ := hx6
  refine s_tr (t_call rfl rfl ent_21 (fun w h => Check_ok w _ _ g s (hOo1.rd fun p hp => h.at_ p (mem_ar mo4 (mem_al mo1 hp))) (hOo4.rd fun p hp => h.at_ p (mem_al mo4 hp)) hp)) rfl rfl rfl rfl (fun _ _ => ?_)
  refine s_y (y_move rfl) rfl rfl rfl rfl ?_
  refine s_y (y_extract rfl rfl) rfl rfl rfl rfl ?_
  refine s_y (y_extract rfl rfl) rfl rfl rfl rfl ?_
  refine s_y (y_extract rfl rfl) rfl rfl rfl rfl ?_
  refine s_y (y_assign rfl) rfl rfl rfl rfl ?_
  refine s_y (y_assign rfl) rfl rfl rfl rfl ?_
  refine s_y (y_assign rfl) rfl rfl rfl rfl ?_
  refine s_nil ?_
  refine g_then ?_
  refine g_seq ?_
  refine g_seq ?_
  refine g_region ?_
  refine s_y (y_move rfl) rfl rfl rfl rfl ?_
  refine s_y (y_move rfl) rfl rfl rfl rfl ?_
  refine s_tr (t_call rfl rfl ent_22 (fun w h => by have h_ := pair_any w _ _ g s (hg.below h.below) (hs.below h.below) (by omega) (by omega); rwa [hp] at h_)) rfl rfl rfl rfl (fun _ _ => ?_)
  refine s_y (y_not_t rfl) rfl rfl rfl rfl ?_
  refine s_nil ?_
  refine g_then ?_
  refine g_cond_f rfl ?_
  refine g_skip ?_
  refine g_then ?_
  refine g_seq ?_
  refine g_region ?_
  refine s_y (y_move rfl) rfl rfl rfl rfl ?_
  refine s_y (y_move rfl) rfl rfl rfl rfl ?_
  refine s_tr (t_call rfl rfl ent_23 (fun w h => RCheck_ok w _ _ g s (hg.below h.below) (hs.below h.below) hp)) rfl rfl rfl rfl (fun _ _ => ?_)
  refine s_y (y_move rfl) rfl rfl rfl rfl ?_
  refine s_y (y_extract rfl rfl) rfl rfl rfl rfl ?_
  refine s_y (y_extract rfl rfl) rfl rfl rfl rfl ?_
  refine s_y (y_extract rfl rfl) rfl rfl rfl rfl ?_
  refine s_y (y_assign rfl) rfl rfl rfl rfl ?_
  refine s_y (y_assign rfl) rfl rfl rfl rfl ?_
  refine s_y (y_assign rfl) rfl rfl rfl rfl ?_
  refine s_nil ?_
  refine g_then ?_
  refine g_seq ?_
  refine g_region ?_
  refine s_y (y_move rfl) rfl rfl rfl rfl ?_
  refine s_y (y_move rfl) rfl rfl rfl rfl ?_
  refine s_y (y_eql_t rfl rfl (rfl)) rfl rfl rfl rfl ?_
  refine s_y (y_move rfl) rfl rfl rfl rfl ?_
  refine s_y (y_move rfl) rfl rfl rfl rfl ?_
  refine s_y (y_move rfl) rfl rfl rfl rfl ?_
  refine s_y (y_eql_t rfl rfl (rfl)) rfl rfl rfl rfl ?_
  refine s_y (y_pick_t rfl rfl) rfl rfl rfl rfl ?_
  refine s_y (y_move rfl) rfl rfl rfl rfl ?_
  refine s_y (y_move rfl) rfl rfl rfl rfl ?_
  refine s_y (y_move rfl) rfl rfl rfl rfl ?_
  refine s_y (y_eql_t rfl rfl (rfl)) rfl rfl rfl rfl ?_
  refine s_y (y_pick_t rfl rfl) rfl rfl rfl rfl ?_
  refine s_y (y_move rfl) rfl rfl rfl rfl ?_
  refine s_tr (t_call rfl rfl ent_19 (fun w h => awake_t w)) rfl rfl rfl rfl (fun _ _ => ?_)
  refine s_y (y_pick_t rfl rfl) rfl rfl rfl rfl ?_
  refine s_y (y_assign rfl) rfl rfl rfl rfl ?_
  refine s_nil ?_
  refine g_then ?_
  refine g_ret ?_
  exact g_end trivial (fun a w ha hq_ => res1 ha rfl rfl  w) (fun w h => ⟨rfl, h.below⟩)

theorem DuetsChecks_no (w : World) (v : Value) (g : List Int) (v' : Value) (s : List Int) (hg : RdV (Value.int .i64) w v g) (hs : RdV (Value.int .i64) w v' s) (hgl : g.length ≤ 9223372036854775807) (hsl : s.length ≤ 9223372036854775807) (hp : pairB g s = false) :
    Calls Try.prog 4 [v, v'].toArray w fun e w' => e = .returned (.bool true) ∧ Below w.heap.size w w' := by
  refine enter (N := 60) Try.func4 rfl rfl rfl ?_
  refine g_seq ?_
  refine g_region ?_
  refine s_y (y_assign rfl) rfl rfl rfl rfl ?_
  refine s_nil ?_
  refine g_then ?_
  refine g_seq ?_
  refine g_region ?_
  refine s_y (y_move rfl) rfl rfl rfl rfl ?_
  refine s_tr (t_callm rfl rfl ent_17 (fun w h => list_any w _ g (hg.below h.below))) rfl rfl rfl rfl (fun x2 hx3 => ?_)
  obtain ⟨vo1, mo1⟩ := x2
  obtain ⟨hOo1, hEo1⟩ := hx3
  refine s_y (y_move rfl) rfl rfl rfl rfl ?_
  refine s_tr (t_callm rfl rfl ent_17 (fun w h => list_any w _ s (hs.below h.below))) rfl rfl rfl rfl (fun x5 hx6 => ?_)
  obtain ⟨vo4, mo4⟩ := x5
  obtain ⟨hOo4, hEo4⟩ := hx6
  refine s_tr (t_call rfl rfl ent_21 (fun w h => Check_no w _ _ (g.take 11) (s.take 11) (hOo1.rd fun p hp => h.at_ p (mem_ar mo4 (mem_al mo1 hp))) (hOo4.rd fun p hp => h.at_ p (mem_al mo4 hp)) (by rw [List.length_take]; omega) (by rw [List.length_take]; omega) (pair_take hp))) rfl rfl rfl rfl (fun _ _ => ?_)
  refine s_y (y_move rfl) rfl rfl rfl rfl ?_
  refine s_y (y_extract rfl rfl) rfl rfl rfl rfl ?_
  refine s_y (y_extract rfl rfl) rfl rfl rfl rfl ?_
  refine s_y (y_extract rfl rfl) rfl rfl rfl rfl ?_
  refine s_y (y_assign rfl) rfl rfl rfl rfl ?_
  refine s_y (y_assign rfl) rfl rfl rfl rfl ?_
  refine s_y (y_assign rfl) rfl rfl rfl rfl ?_
  refine s_nil ?_
  refine g_then ?_
  refine g_seq ?_
  refine g_seq ?_
  refine g_region ?_
  refine s_y (y_move rfl) rfl rfl rfl rfl ?_
  refine s_y (y_move rfl) rfl rfl rfl rfl ?_
  refine s_tr (t_call rfl rfl ent_22 (fun w h => by have h_ := pair_any w _ _ g s (hg.below h.below) (hs.below h.below) hgl hsl; rwa [hp] at h_)) rfl rfl rfl rfl (fun _ _ => ?_)
  refine s_y (y_not_f rfl) rfl rfl rfl rfl ?_
  refine s_nil ?_
  refine g_then ?_
  refine g_cond_t rfl ?_
  refine g_seq ?_
  refine g_region ?_
  refine s_y (y_move rfl) rfl rfl rfl rfl ?_
  refine s_y (y_eql_t rfl rfl (by decide)) rfl rfl rfl rfl ?_
  refine s_y (y_move rfl) rfl rfl rfl rfl ?_
  refine s_y (y_move rfl) rfl rfl rfl rfl ?_
  refine s_y (y_eql_t rfl rfl (by decide)) rfl rfl rfl rfl ?_
  refine s_y (y_pick_t rfl rfl) rfl rfl rfl rfl ?_
  refine s_y (y_move rfl) rfl rfl rfl rfl ?_
  refine s_y (y_move rfl) rfl rfl rfl rfl ?_
  refine s_y (y_eql_t rfl rfl (by decide)) rfl rfl rfl rfl ?_
  refine s_y (y_pick_t rfl rfl) rfl rfl rfl rfl ?_
  refine s_y (y_move rfl) rfl rfl rfl rfl ?_
  refine s_tr (t_call rfl rfl ent_19 (fun w h => awake_t w)) rfl rfl rfl rfl (fun _ _ => ?_)
  refine s_y (y_pick_t rfl rfl) rfl rfl rfl rfl ?_
  refine s_y (y_assign rfl) rfl rfl rfl rfl ?_
  refine s_nil ?_
  refine g_then ?_
  refine g_ret ?_
  refine g_thenr ?_
  exact g_end trivial (fun a w ha hq_ => res1 ha rfl rfl  w) (fun w h => ⟨rfl, h.below⟩)

theorem DuetsChecks_law (w : World) (v : Value) (g : List Int) (v' : Value) (s : List Int) (hg : RdV (Value.int .i64) w v g) (hgl : g.length ≤ maxLen) (wg : ∀ x ∈ g, (Lit.int .i64 x).wf = true) (hs : RdV (Value.int .i64) w v' s) (hsl : s.length ≤ maxLen) (ws : ∀ x ∈ s, (Lit.int .i64 x).wf = true) : Calls Try.prog 4 [v, v'].toArray w fun e w' => e = .returned (.bool true) ∧ Below w.heap.size w w' := by
  have hmx : (maxLen : Nat) = 9223372036854775807 := rfl
  cases hp : pairB g s with
  | true => exact DuetsChecks_ok w v g v' s hg hs hp
  | false => exact DuetsChecks_no w v g v' s hg hs (by omega) (by omega) hp

theorem DuetsLifts_yes (w : World) (v : Value) (xs : List Int) (b : Int) (hv : RdV (Value.int .i64) w v xs) (hp : partB xs = true) (hb : -20 ≤ b ∧ b ≤ 20) (hq : partB (liftL xs b) = true) :
    Calls Try.prog 5 [v, .int .i64 b].toArray w fun e w' => e = .returned (.bool true) ∧ Below w.heap.size w w' := by
  obtain ⟨hxl, hn⟩ := partB_true.1 hp
  have hq' : notesB (liftL xs b) = true := by rw [← notes_part (by rw [liftL_len]; omega)]; exact hq
  refine enter (N := 46) Try.func5 rfl rfl rfl ?_
  refine g_seq ?_
  refine g_region ?_
  refine s_y (y_assign rfl) rfl rfl rfl rfl ?_
  refine s_nil ?_
  refine g_then ?_
  refine g_seq ?_
  refine g_region ?_
  refine s_y (y_move rfl) rfl rfl rfl rfl ?_
  refine s_tr (t_callm rfl rfl ent_17 (fun w h => by have h_ := list_any w _ xs (hv.below h.below); rw [List.take_of_length_le (by omega)] at h_; exact h_)) rfl rfl rfl rfl (fun x2 hx3 => ?_)
  obtain ⟨vo1, mo1⟩ := x2
  obtain ⟨hOo1, hEo1⟩ := hx3
  refine s_y (y_move rfl) rfl rfl rfl rfl ?_
  refine s_tr (t_callm rfl rfl ent_24 (fun w h => Lift_yes w _ xs (hOo1.rd fun p hp => h.at_ p (mem_al mo1 hp)) b hp hb hq)) rfl rfl rfl rfl (fun x5 hx6 => ?_)
  obtain ⟨vo4, mo4⟩ := x5
  obtain ⟨hOo4, hEo4⟩ := hx6
  refine s_y (y_move rfl) rfl rfl rfl rfl ?_
  refine s_y (y_extract rfl rfl) rfl rfl rfl rfl ?_
  refine s_y (y_extract rfl rfl) rfl rfl rfl rfl ?_
  refine s_y (y_assign rfl) rfl rfl rfl rfl ?_
  refine s_y (y_assign rfl) rfl rfl rfl rfl ?_
  refine s_nil ?_
  refine g_then ?_
  refine g_seq ?_
  refine g_seq ?_
  refine g_region ?_
  refine s_y (y_move rfl) rfl rfl rfl rfl ?_
  refine s_tr (t_call rfl rfl ent_18 (fun w h => by have h_ := Part_any w _ xs (hv.below h.below) (by omega); rwa [hp] at h_)) rfl rfl rfl rfl (fun _ _ => ?_)
  refine s_y (y_not_t rfl) rfl rfl rfl rfl ?_
  refine s_nil ?_
  refine g_then ?_
  refine g_cond_f rfl ?_
  refine g_skip ?_
  refine g_then ?_
  refine g_seq ?_
  refine g_region ?_
  refine s_y (y_move rfl) rfl rfl rfl rfl ?_
  refine s_y (y_move rfl) rfl rfl rfl rfl ?_
  refine s_tr (t_callm rfl rfl ent_25 (fun w h => RLift_yes w _ xs (hv.below h.below) b hp hb hq')) rfl rfl rfl rfl (fun x8 hx9 => ?_)
  obtain ⟨vo7, mo7⟩ := x8
  obtain ⟨hOo7, hEo7⟩ := hx9
  refine s_y (y_move rfl) rfl rfl rfl rfl ?_
  refine s_y (y_extract rfl rfl) rfl rfl rfl rfl ?_
  refine s_y (y_extract rfl rfl) rfl rfl rfl rfl ?_
  refine s_y (y_assign rfl) rfl rfl rfl rfl ?_
  refine s_y (y_assign rfl) rfl rfl rfl rfl ?_
  refine s_nil ?_
  refine g_then ?_
  refine g_seq ?_
  refine g_region ?_
  refine s_y (y_move rfl) rfl rfl rfl rfl ?_
  refine s_y (y_move rfl) rfl rfl rfl rfl ?_
  refine s_tr (t_call rfl rfl ent_26 (fun w h => by have h_ := Equal_any w _ _ (liftL xs b) (liftL xs b) (hOo4.rd fun p hp => h.at_ p (mem_ar mo7 (mem_al mo4 hp))) (hOo7.rd fun p hp => h.at_ p (mem_al mo7 hp)) (by have := liftL_len xs b; omega); rw [decide_eq_true (rfl)] at h_; exact h_)) rfl rfl rfl rfl (fun _ _ => ?_)
  refine s_y (y_move rfl) rfl rfl rfl rfl ?_
  refine s_y (y_move rfl) rfl rfl rfl rfl ?_
  refine s_y (y_move rfl) rfl rfl rfl rfl ?_
  refine s_y (y_eql_t rfl rfl (by decide)) rfl rfl rfl rfl ?_
  refine s_y (y_pick_t rfl rfl) rfl rfl rfl rfl ?_
  refine s_y (y_move rfl) rfl rfl rfl rfl ?_
  refine s_tr (t_call rfl rfl ent_19 (fun w h => awake_t w)) rfl rfl rfl rfl (fun _ _ => ?_)
  refine s_y (y_pick_t rfl rfl) rfl rfl rfl rfl ?_
  refine s_y (y_assign rfl) rfl rfl rfl rfl ?_
  refine s_nil ?_
  refine g_then ?_
  refine g_ret ?_
  exact g_end trivial (fun a w ha hq_ => res1 ha rfl rfl  w) (fun w h => ⟨rfl, h.below⟩)

theorem DuetsLifts_none1 (w : World) (v : Value) (xs : List Int) (b : Int) (hv : RdV (Value.int .i64) w v xs) (hp : partB xs = true) (hb : -20 ≤ b ∧ b ≤ 20) (hq : partB (liftL xs b) = false) :
    Calls Try.prog 5 [v, .int .i64 b].toArray w fun e w' => e = .returned (.bool true) ∧ Below w.heap.size w w' := by
  obtain ⟨hxl, hn⟩ := partB_true.1 hp
  have hq' : notesB (liftL xs b) = false := by rw [← notes_part (by rw [liftL_len]; omega)]; exact hq
  refine enter (N := 46) Try.func5 rfl rfl rfl ?_
  refine g_seq ?_
  refine g_region ?_
  refine s_y (y_assign rfl) rfl rfl rfl rfl ?_
  refine s_nil ?_
  refine g_then ?_
  refine g_seq ?_
  refine g_region ?_
  refine s_y (y_move rfl) rfl rfl rfl rfl ?_
  refine s_tr (t_callm rfl rfl ent_17 (fun w h => by have h_ := list_any w _ xs (hv.below h.below); rw [List.take_of_length_le (by omega)] at h_; exact h_)) rfl rfl rfl rfl (fun x2 hx3 => ?_)
  obtain ⟨vo1, mo1⟩ := x2
  obtain ⟨hOo1, hEo1⟩ := hx3
  refine s_y (y_move rfl) rfl rfl rfl rfl ?_
  refine s_tr (t_call rfl rfl ent_24 (fun w h => Lift_none1 w _ xs (hOo1.rd fun p hp => h.at_ p (mem_al mo1 hp)) b hp hb hq)) rfl rfl rfl rfl (fun _ _ => ?_)
  refine s_y (y_move rfl) rfl rfl rfl rfl ?_
  refine s_y (y_extract rfl rfl) rfl rfl rfl rfl ?_
  refine s_y (y_extract rfl rfl) rfl rfl rfl rfl ?_
  refine s_y (y_assign rfl) rfl rfl rfl rfl ?_
  refine s_y (y_assign rfl) rfl rfl rfl rfl ?_
  refine s_nil ?_
  refine g_then ?_
  refine g_seq ?_
  refine g_seq ?_
  refine g_region ?_
  refine s_y (y_move rfl) rfl rfl rfl rfl ?_
  refine s_tr (t_call rfl rfl ent_18 (fun w h => by have h_ := Part_any w _ xs (hv.below h.below) (by omega); rwa [hp] at h_)) rfl rfl rfl rfl (fun _ _ => ?_)
  refine s_y (y_not_t rfl) rfl rfl rfl rfl ?_
  refine s_nil ?_
  refine g_then ?_
  refine g_cond_f rfl ?_
  refine g_skip ?_
  refine g_then ?_
  refine g_seq ?_
  refine g_region ?_
  refine s_y (y_move rfl) rfl rfl rfl rfl ?_
  refine s_y (y_move rfl) rfl rfl rfl rfl ?_
  refine s_tr (t_call rfl rfl ent_25 (fun w h => RLift_none1 w _ xs (hv.below h.below) b hp hb hq')) rfl rfl rfl rfl (fun _ _ => ?_)
  refine s_y (y_move rfl) rfl rfl rfl rfl ?_
  refine s_y (y_extract rfl rfl) rfl rfl rfl rfl ?_
  refine s_y (y_extract rfl rfl) rfl rfl rfl rfl ?_
  refine s_y (y_assign rfl) rfl rfl rfl rfl ?_
  refine s_y (y_assign rfl) rfl rfl rfl rfl ?_
  refine s_nil ?_
  refine g_then ?_
  refine g_seq ?_
  refine g_region ?_
  refine s_y (y_move rfl) rfl rfl rfl rfl ?_
  refine s_y (y_move rfl) rfl rfl rfl rfl ?_
  refine s_tr (t_call rfl rfl ent_26 (fun w h => by have h_ := Equal_any w _ _ ([] : List Int) ([] : List Int) RdV.nil RdV.nil (by simp); rw [decide_eq_true (rfl)] at h_; exact h_)) rfl rfl rfl rfl (fun _ _ => ?_)
  refine s_y (y_move rfl) rfl rfl rfl rfl ?_
  refine s_y (y_move rfl) rfl rfl rfl rfl ?_
  refine s_y (y_move rfl) rfl rfl rfl rfl ?_
  refine s_y (y_eql_t rfl rfl (by decide)) rfl rfl rfl rfl ?_
  refine s_y (y_pick_t rfl rfl) rfl rfl rfl rfl ?_
  refine s_y (y_move rfl) rfl rfl rfl rfl ?_
  refine s_tr (t_call rfl rfl ent_19 (fun w h => awake_t w)) rfl rfl rfl rfl (fun _ _ => ?_)
  refine s_y (y_pick_t rfl rfl) rfl rfl rfl rfl ?_
  refine s_y (y_assign rfl) rfl rfl rfl rfl ?_
  refine s_nil ?_
  refine g_then ?_
  refine g_ret ?_
  exact g_end trivial (fun a w ha hq_ => res1 ha rfl rfl  w) (fun w h => ⟨rfl, h.below⟩)

theorem DuetsLifts_none2 (w : World) (v : Value) (xs : List Int) (b : Int) (hv : RdV (Value.int .i64) w v xs) (hp : partB xs = true) (hb : ¬ (-20 ≤ b ∧ b ≤ 20)) :
    Calls Try.prog 5 [v, .int .i64 b].toArray w fun e w' => e = .returned (.bool true) ∧ Below w.heap.size w w' := by
  obtain ⟨hxl, hn⟩ := partB_true.1 hp
  refine enter (N := 46) Try.func5 rfl rfl rfl ?_
  refine g_seq ?_
  refine g_region ?_
  refine s_y (y_assign rfl) rfl rfl rfl rfl ?_
  refine s_nil ?_
  refine g_then ?_
  refine g_seq ?_
  refine g_region ?_
  refine s_y (y_move rfl) rfl rfl rfl rfl ?_
  refine s_tr (t_callm rfl rfl ent_17 (fun w h => by have h_ := list_any w _ xs (hv.below h.below); rw [List.take_of_length_le (by omega)] at h_; exact h_)) rfl rfl rfl rfl (fun x2 hx3 => ?_)
  obtain ⟨vo1, mo1⟩ := x2
  obtain ⟨hOo1, hEo1⟩ := hx3
  refine s_y (y_move rfl) rfl rfl rfl rfl ?_
  refine s_tr (t_call rfl rfl ent_24 (fun w h => Lift_none2 w _ xs (hOo1.rd fun p hp => h.at_ p (mem_al mo1 hp)) b hp hb)) rfl rfl rfl rfl (fun _ _ => ?_)
  refine s_y (y_move rfl) rfl rfl rfl rfl ?_
  refine s_y (y_extract rfl rfl) rfl rfl rfl rfl ?_
  refine s_y (y_extract rfl rfl) rfl rfl rfl rfl ?_
  refine s_y (y_assign rfl) rfl rfl rfl rfl ?_
  refine s_y (y_assign rfl) rfl rfl rfl rfl ?_
  refine s_nil ?_
  refine g_then ?_
  refine g_seq ?_
  refine g_seq ?_
  refine g_region ?_
  refine s_y (y_move rfl) rfl rfl rfl rfl ?_
  refine s_tr (t_call rfl rfl ent_18 (fun w h => by have h_ := Part_any w _ xs (hv.below h.below) (by omega); rwa [hp] at h_)) rfl rfl rfl rfl (fun _ _ => ?_)
  refine s_y (y_not_t rfl) rfl rfl rfl rfl ?_
  refine s_nil ?_
  refine g_then ?_
  refine g_cond_f rfl ?_
  refine g_skip ?_
  refine g_then ?_
  refine g_seq ?_
  refine g_region ?_
  refine s_y (y_move rfl) rfl rfl rfl rfl ?_
  refine s_y (y_move rfl) rfl rfl rfl rfl ?_
  refine s_tr (t_call rfl rfl ent_25 (fun w h => RLift_none2 w _ xs (hv.below h.below) b hp hb)) rfl rfl rfl rfl (fun _ _ => ?_)
  refine s_y (y_move rfl) rfl rfl rfl rfl ?_
  refine s_y (y_extract rfl rfl) rfl rfl rfl rfl ?_
  refine s_y (y_extract rfl rfl) rfl rfl rfl rfl ?_
  refine s_y (y_assign rfl) rfl rfl rfl rfl ?_
  refine s_y (y_assign rfl) rfl rfl rfl rfl ?_
  refine s_nil ?_
  refine g_then ?_
  refine g_seq ?_
  refine g_region ?_
  refine s_y (y_move rfl) rfl rfl rfl rfl ?_
  refine s_y (y_move rfl) rfl rfl rfl rfl ?_
  refine s_tr (t_call rfl rfl ent_26 (fun w h => by have h_ := Equal_any w _ _ ([] : List Int) ([] : List Int) RdV.nil RdV.nil (by simp); rw [decide_eq_true (rfl)] at h_; exact h_)) rfl rfl rfl rfl (fun _ _ => ?_)
  refine s_y (y_move rfl) rfl rfl rfl rfl ?_
  refine s_y (y_move rfl) rfl rfl rfl rfl ?_
  refine s_y (y_move rfl) rfl rfl rfl rfl ?_
  refine s_y (y_eql_t rfl rfl (by decide)) rfl rfl rfl rfl ?_
  refine s_y (y_pick_t rfl rfl) rfl rfl rfl rfl ?_
  refine s_y (y_move rfl) rfl rfl rfl rfl ?_
  refine s_tr (t_call rfl rfl ent_19 (fun w h => awake_t w)) rfl rfl rfl rfl (fun _ _ => ?_)
  refine s_y (y_pick_t rfl rfl) rfl rfl rfl rfl ?_
  refine s_y (y_assign rfl) rfl rfl rfl rfl ?_
  refine s_nil ?_
  refine g_then ?_
  refine g_ret ?_
  exact g_end trivial (fun a w ha hq_ => res1 ha rfl rfl  w) (fun w h => ⟨rfl, h.below⟩)

theorem DuetsLifts_bad (w : World) (v : Value) (xs : List Int) (b : Int) (hv : RdV (Value.int .i64) w v xs) (hl : xs.length ≤ 9223372036854775807) (hp : partB xs = false) :
    Calls Try.prog 5 [v, .int .i64 b].toArray w fun e w' => e = .returned (.bool true) ∧ Below w.heap.size w w' := by
  refine enter (N := 46) Try.func5 rfl rfl rfl ?_
  refine g_seq ?_
  refine g_region ?_
  refine s_y (y_assign rfl) rfl rfl rfl rfl ?_
  refine s_nil ?_
  refine g_then ?_
  refine g_seq ?_
  refine g_region ?_
  refine s_y (y_move rfl) rfl rfl rfl rfl ?_
  refine s_tr (t_callm rfl rfl ent_17 (fun w h => list_any w _ xs (hv.below h.below))) rfl rfl rfl rfl (fun x2 hx3 => ?_)
  obtain ⟨vo1, mo1⟩ := x2
  obtain ⟨hOo1, hEo1⟩ := hx3
  refine s_y (y_move rfl) rfl rfl rfl rfl ?_
  refine s_tr (t_call rfl rfl ent_24 (fun w h => Lift_bad w _ (xs.take 11) (hOo1.rd fun p hp => h.at_ p (mem_al mo1 hp)) b (by rw [List.length_take]; omega) (part_take hp))) rfl rfl rfl rfl (fun _ _ => ?_)
  refine s_y (y_move rfl) rfl rfl rfl rfl ?_
  refine s_y (y_extract rfl rfl) rfl rfl rfl rfl ?_
  refine s_y (y_extract rfl rfl) rfl rfl rfl rfl ?_
  refine s_y (y_assign rfl) rfl rfl rfl rfl ?_
  refine s_y (y_assign rfl) rfl rfl rfl rfl ?_
  refine s_nil ?_
  refine g_then ?_
  refine g_seq ?_
  refine g_seq ?_
  refine g_region ?_
  refine s_y (y_move rfl) rfl rfl rfl rfl ?_
  refine s_tr (t_call rfl rfl ent_18 (fun w h => by have h_ := Part_any w _ xs (hv.below h.below) hl; rwa [hp] at h_)) rfl rfl rfl rfl (fun _ _ => ?_)
  refine s_y (y_not_f rfl) rfl rfl rfl rfl ?_
  refine s_nil ?_
  refine g_then ?_
  refine g_cond_t rfl ?_
  refine g_seq ?_
  refine g_region ?_
  refine s_y (y_move rfl) rfl rfl rfl rfl ?_
  refine s_y (y_lensl rfl sle_22) rfl rfl rfl rfl ?_
  refine s_y (y_eql_t rfl rfl (by decide)) rfl rfl rfl rfl ?_
  refine s_y (y_move rfl) rfl rfl rfl rfl ?_
  refine s_y (y_move rfl) rfl rfl rfl rfl ?_
  refine s_y (y_eql_t rfl rfl (by decide)) rfl rfl rfl rfl ?_
  refine s_y (y_pick_t rfl rfl) rfl rfl rfl rfl ?_
  refine s_y (y_move rfl) rfl rfl rfl rfl ?_
  refine s_tr (t_call rfl rfl ent_19 (fun w h => awake_t w)) rfl rfl rfl rfl (fun _ _ => ?_)
  refine s_y (y_pick_t rfl rfl) rfl rfl rfl rfl ?_
  refine s_y (y_assign rfl) rfl rfl rfl rfl ?_
  refine s_nil ?_
  refine g_then ?_
  refine g_ret ?_
  refine g_thenr ?_
  exact g_end trivial (fun a w ha hq_ => res1 ha rfl rfl  w) (fun w h => ⟨rfl, h.below⟩)

theorem DuetsLifts_law (w : World) (v : Value) (xs : List Int) (b : Int) (hv : RdV (Value.int .i64) w v xs) (hl : xs.length ≤ maxLen) (_ : ∀ x ∈ xs, (Lit.int .i64 x).wf = true) (_ : (Lit.int .i64 b).wf = true) : Calls Try.prog 5 [v, .int .i64 b].toArray w fun e w' => e = .returned (.bool true) ∧ Below w.heap.size w w' := by
  have hmx : (maxLen : Nat) = 9223372036854775807 := rfl
  cases hp : partB xs with
  | false => exact DuetsLifts_bad w v xs b hv (by omega) hp
  | true =>
    by_cases hb : -20 ≤ b ∧ b ≤ 20
    · cases hq : partB (liftL xs b) with
      | true => exact DuetsLifts_yes w v xs b hv hp hb hq
      | false => exact DuetsLifts_none1 w v xs b hv hp hb hq
    · exact DuetsLifts_none2 w v xs b hv hp hb

end Go.Proofs.Ytolalckejnijkaa
