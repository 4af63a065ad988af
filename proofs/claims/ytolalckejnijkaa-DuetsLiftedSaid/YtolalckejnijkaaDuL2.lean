/- duets: the laws DuetsSwaps, DuetsTurned, DuetsLifted. -/
import Derived.Test.YtolalckejnijkaaDuG
namespace Go.Proofs.Ytolalckejnijkaa
open Go.RowKit Go.Sx 
set_option linter.unusedVariables false
set_option linter.unusedSimpArgs false
set_option maxRecDepth 100000
set_option maxHeartbeats 4000000

private theorem ent_17 : Enters Try.prog 17 := enters_of Try.func17 (by kernel_rfl) rfl
private theorem ent_33 : Enters Try.prog 33 := enters_of Try.func33 (by kernel_rfl) rfl
private theorem ent_22 : Enters Try.prog 22 := enters_of Try.func22 (by kernel_rfl) rfl
private theorem ent_34 : Enters Try.prog 34 := enters_of Try.func34 (by kernel_rfl) rfl
private theorem ent_26 : Enters Try.prog 26 := enters_of Try.func26 (by kernel_rfl) rfl
private theorem ent_19 : Enters Try.prog 19 := enters_of Try.func19 (by kernel_rfl) rfl
private theorem sle_22 : Try.prog.underlying 22 = some (.slice (Try.prog.elem 22)) := by kernel_rfl
private theorem ent_39 : Enters Try.prog 39 := enters_of Try.func39 (by kernel_rfl) rfl
private theorem size_3 : (Try.prog.info? 3).map (·.size) = some 1 := by kernel_rfl
private theorem agg_3 : isAggB Try.prog 3 = some false := by kernel_rfl
private theorem ent_24 : Enters Try.prog 24 := enters_of Try.func24 (by kernel_rfl) rfl
private theorem ent_21 : Enters Try.prog 21 := enters_of Try.func21 (by kernel_rfl) rfl
private theorem ent_44 : Enters Try.prog 44 := enters_of Try.func44 (by kernel_rfl) rfl
private theorem ent_40 : Enters Try.prog 40 := enters_of Try.func40 (by kernel_rfl) rfl

theorem liftL_at {xs : List Int} {b : Int} {i : Nat} (h : i < xs.length) : rdI (liftL xs b) (i : Int) = rdI xs (i : Int) + b := by
  rw [rdI_lt (by rw [liftL_len]; exact h), rdI_lt h]; simp [liftL]
theorem liftL_back (xs : List Int) (b : Int) : liftL (liftL xs b) (0 - b) = xs := by
  unfold liftL
  induction xs with
  | nil => rfl
  | cons x xs ih => rw [List.map_cons, List.map_cons, ih, show x + b + (0 - b) = x by omega]
theorem ivI_lift {g s : List Int} {b : Int} {i : Nat} (hi : i < s.length) (hl : g.length = s.length) : ivI (liftL g b) (liftL s b) (i : Int) = ivI g s (i : Int) := by
  unfold ivI; rw [liftL_at hi, liftL_at (by omega)]; omega
theorem mvI_lift {s : List Int} {b : Int} {i : Nat} (hi : i < s.length) (h0 : i ≠ 0) : mvI (liftL s b) (i : Int) = mvI s (i : Int) := by
  unfold mvI
  rw [show (i : Int) - 1 = ((i - 1 : Nat) : Int) by omega, liftL_at hi, liftL_at (by omega)]; omega
theorem brk_lift {g s : List Int} {b : Int} {i : Nat} (hi : i < s.length) (hl : g.length = s.length) : brk (liftL g b) (liftL s b) i = brk g s i := by
  unfold brk
  rw [liftL_len, ivI_lift hi hl]
  rcases Nat.eq_zero_or_pos i with h0 | h0
  · have q3 : ∀ m : Int, R3 ((i : Nat) : Int) m := fun m => .inl (by omega)
    have q4 : ∀ a b c : Int, R4 ((i : Nat) : Int) a b c := fun a b c => .inl (by omega)
    have q5 : ∀ a b c : Int, R5 ((i : Nat) : Int) a b c := fun a b c => .inl (by omega)
    have q6 : ∀ b m : Int, R6 ((i : Nat) : Int) b m := fun b m => .inl (by omega)
    have q7 : ∀ b m : Int, R7 ((i : Nat) : Int) b m := fun b m => .inl (by omega)
    unfold brkI
    simp only [q3, q4, q5, q6, q7, not_true_eq_false, if_false]
  · have e1 : ivI (liftL g b) (liftL s b) ((i : Int) - 1) = ivI g s ((i : Int) - 1) := by
      rw [show (i : Int) - 1 = ((i - 1 : Nat) : Int) by omega]; exact ivI_lift (by omega) hl
    rw [e1, mvI_lift hi (by omega), mvI_lift (by omega) (by omega)]
    rcases Nat.lt_or_ge i 2 with h2 | h2
    · have q6 : ∀ b m : Int, R6 ((i : Nat) : Int) b m := fun b m => .inl (by omega)
      have q7 : ∀ b m : Int, R7 ((i : Nat) : Int) b m := fun b m => .inl (by omega)
      unfold brkI
      simp only [q6, q7, not_true_eq_false, if_false]
    · have e2 : mvI (liftL s b) ((i : Int) - 1) = mvI s ((i : Int) - 1) := by
        rw [show (i : Int) - 1 = ((i - 1 : Nat) : Int) by omega]; exact mvI_lift (by omega) (by omega)
      rw [e2]
theorem frsR_lift {g s : List Int} {b : Int} (hl : g.length = s.length) : ∀ k i : Nat, i + k = s.length → frsR (liftL g b) (liftL s b) k i = frsR g s k i
  | 0, _, _ => rfl
  | k + 1, i, h => by
    unfold frsR
    rw [brk_lift (by omega) hl, frsR_lift hl k (i + 1) (by omega)]
theorem frs_lift {g s : List Int} {b : Int} (hl : g.length = s.length) : frs (liftL g b) (liftL s b) = frs g s := by
  unfold frs; rw [liftL_len]; exact frsR_lift hl _ _ (by omega)
theorem chkD_lift {g s : List Int} {b : Int} (hl : g.length = s.length) : chkD (liftL g b) (liftL s b) = chkD g s := by
  unfold chkD; rw [frs_lift hl]
theorem wsum_lift {g s : List Int} {b : Int} (hl : g.length = s.length) : ∀ i : Nat, i ≤ s.length → wsum (liftL g b) (liftL s b) i = wsum g s i
  | 0, _ => rfl
  | i + 1, h => by
    unfold wsum wrt
    rw [wsum_lift hl i (by omega)]
    rcases Nat.eq_zero_or_pos i with h0 | h0
    · rw [if_pos h0, if_pos h0]
    · rw [if_neg (by omega), if_neg (by omega), mvI_lift (by omega) (by omega), mvI_lift (by omega) (by omega)]
theorem wthD_lift {g s : List Int} {b : Int} (hl : g.length = s.length) : wthD (liftL g b) (liftL s b) = wthD g s := by
  unfold wthD; rw [frs_lift hl, liftL_len, wsum_lift hl _ (Nat.le_refl _)]
def LiftOK (xs : List Int) (b : Int) : Prop := partB xs = true ∧ (-20 ≤ b ∧ b ≤ 20) ∧ partB (liftL xs b) = true
theorem not_lift_take {xs : List Int} {b : Int} (h : ¬ LiftOK xs b) : ¬ LiftOK (xs.take 11) b := fun h2 => by
  have h3 := (partB_true.1 h2.1).1.2
  rw [List.length_take] at h3
  rw [List.take_of_length_le (by omega)] at h2
  exact h h2
theorem Lift_none (w : World) (v : Value) (xs : List Int) (hv : RdV (Value.int .i64) w v xs) (b : Int) (hp : partB xs = true) (h : ¬ LiftOK xs b) : Calls Try.prog 24 [v, .int .i64 b].toArray w fun e w' => e = .returned (.tuple #[.slice none 0 0, .int .i64 4]) ∧ Below w.heap.size w w' := by
  by_cases hb : -20 ≤ b ∧ b ≤ 20
  · cases hq : partB (liftL xs b) with
    | true => exact absurd ⟨hp, hb, hq⟩ h
    | false => exact Lift_none1 w v xs hv b hp hb hq
  · exact Lift_none2 w v xs hv b hp hb
theorem Lift_err (w : World) (v : Value) (xs : List Int) (hv : RdV (Value.int .i64) w v xs) (b : Int) (hl : xs.length ≤ 9223372036854775807) (h : ¬ LiftOK xs b) : Calls Try.prog 24 [v, .int .i64 b].toArray w fun e w' => ∃ c : Int, (c = 2 ∨ c = 4) ∧ e = .returned (.tuple #[.slice none 0 0, .int .i64 c]) ∧ Hq w w [] w' := by
  cases hp : partB xs with
  | false => exact (Lift_bad w v xs hv b hl hp).mono fun e w' ⟨h1, h2⟩ => ⟨2, .inl rfl, h1, Hq.of_below h2⟩
  | true => exact (Lift_none w v xs hv b hp h).mono fun e w' ⟨h1, h2⟩ => ⟨4, .inr rfl, h1, Hq.of_below h2⟩

theorem DuetsSwaps_yes (w : World) (v : Value) (g : List Int) (v' : Value) (s : List Int) (hg : RdV (Value.int .i64) w v g) (hs : RdV (Value.int .i64) w v' s) (hp : pairB g s = true) (hsw : SwOk g s) :
    Calls Try.prog 8 [v, v'].toArray w fun e w' => e = .returned (.bool true) ∧ Below w.heap.size w w' := by
  obtain ⟨⟨hgl, hgn⟩, hsn, hln⟩ := pair_facts hp
  refine enter (N := 60) Try.func8 rfl rfl rfl ?_
  refine g_seq ?_
  refine g_region ?_
  refine s_y (y_assign rfl) rfl rfl rfl rfl ?_
  refine s_nil ?_
  refine g_then ?_
  refine g_seq ?_
  refine g_region ?_
  refine s_y (y_move rfl) rfl rfl rfl rfl ?_
  refine s_tr (t_callm rfl rfl ent_17 (fun w h => by have h_ := list_any w _ g (hg.below h.below); rw [List.take_of_length_le (by omega)] at h_; exact h_)) rfl rfl rfl rfl (fun x2 hx3 => ?_)
  obtain ⟨vo1, mo1⟩ := x2
  obtain ⟨hOo1, hEo1⟩ := hx3
  refine s_y (y_move rfl) rfl rfl rfl rfl ?_
  refine s_tr (t_callm rfl rfl ent_17 (fun w h => by have h_ := list_any w _ s (hs.below h.below); rw [List.take_of_length_le (by omega)] at h_; exact h_)) rfl rfl rfl rfl (fun x5 hx6 => ?_)
  obtain ⟨vo4, mo4⟩ := x5
  obtain ⟨hOo4, hEo4⟩ := hx6
  refine s_tr (t_callm2 (mm1 := fun x : (Value × List (Nat × Obj)) × (Value × List (Nat × Obj)) => x.1.2) (mm2 := fun x => x.2.2) rfl rfl ent_33 (fun w h => Swap_yes w _ _ g s (hOo1.rd fun p hp => h.at_ p (mem_ar mo4 (mem_al mo1 hp))) (hOo4.rd fun p hp => h.at_ p (mem_al mo4 hp)) hp hsw)) rfl rfl rfl rfl (fun xq7 hxq7 => ?_)
  obtain ⟨⟨vAq7, mAq7⟩, ⟨vBq7, mBq7⟩⟩ := xq7
  obtain ⟨⟨hOAq7, hEAq7⟩, ⟨hOBq7, hEBq7⟩⟩ := hxq7
  refine s_y (y_move rfl) rfl rfl rfl rfl ?_
  refine s_y (y_extract rfl rfl) rfl rfl rfl rfl ?_
  refine s_y (y_extract rfl rfl) rfl rfl rfl rfl ?_
  refine s_y (y_extract rfl rfl) rfl rfl rfl rfl ?_
  refine s_y (y_assign rfl) rfl rfl rfl rfl ?_
  refine s_y (y_assign rfl) rfl rfl rfl rfl ?_
  refine s_y (y_assign rfl) rfl rfl rfl rfl ?_
  refine s_nil ?_
  refine g_then ?_
  refine g_seq ?_
  refine g_seq ?_
  refine g_region ?_
  refine s_y (y_move rfl) rfl rfl rfl rfl ?_
  refine s_y (y_move rfl) rfl rfl rfl rfl ?_
  refine s_tr (t_call rfl rfl ent_22 (fun w h => by have h_ := pair_any w _ _ g s (hg.below h.below) (hs.below h.below) (by omega) (by omega); rwa [hp] at h_)) rfl rfl rfl rfl (fun _ _ => ?_)
  refine s_y (y_not_t rfl) rfl rfl rfl rfl ?_
  refine s_nil ?_
  refine g_then ?_
  refine g_cond_f rfl ?_
  refine g_skip ?_
  refine g_then ?_
  refine g_seq ?_
  refine g_region ?_
  refine s_y (y_move rfl) rfl rfl rfl rfl ?_
  refine s_y (y_move rfl) rfl rfl rfl rfl ?_
  refine s_tr (t_callm2 (mm1 := fun x : (Value × List (Nat × Obj)) × (Value × List (Nat × Obj)) => x.1.2) (mm2 := fun x => x.2.2) rfl rfl ent_34 (fun w h => RSwap_yes w _ _ g s (hg.below h.below) (hs.below h.below) hp hsw)) rfl rfl rfl rfl (fun xq8 hxq8 => ?_)
  obtain ⟨⟨vAq8, mAq8⟩, ⟨vBq8, mBq8⟩⟩ := xq8
  obtain ⟨⟨hOAq8, hEAq8⟩, ⟨hOBq8, hEBq8⟩⟩ := hxq8
  refine s_y (y_move rfl) rfl rfl rfl rfl ?_
  refine s_y (y_extract rfl rfl) rfl rfl rfl rfl ?_
  refine s_y (y_extract rfl rfl) rfl rfl rfl rfl ?_
  refine s_y (y_extract rfl rfl) rfl rfl rfl rfl ?_
  refine s_y (y_assign rfl) rfl rfl rfl rfl ?_
  refine s_y (y_assign rfl) rfl rfl rfl rfl ?_
  refine s_y (y_assign rfl) rfl rfl rfl rfl ?_
  refine s_nil ?_
  refine g_then ?_
  refine g_seq ?_
  refine g_region ?_
  refine s_y (y_move rfl) rfl rfl rfl rfl ?_
  refine s_y (y_move rfl) rfl rfl rfl rfl ?_
  refine s_tr (t_call rfl rfl ent_26 (fun w h => by have h_ := Equal_any w _ _ s s (hOAq7.rd fun p hp => h.at_ p (mem_ar mAq8 (mem_ar mBq8 (mem_al mAq7 hp)))) (hOAq8.rd fun p hp => h.at_ p (mem_al mAq8 hp)) (by first | omega | (rw [liftL_len]; omega) | simp); rw [decide_eq_true (rfl)] at h_; exact h_)) rfl rfl rfl rfl (fun _ _ => ?_)
  refine s_y (y_move rfl) rfl rfl rfl rfl ?_
  refine s_y (y_move rfl) rfl rfl rfl rfl ?_
  refine s_y (y_move rfl) rfl rfl rfl rfl ?_
  refine s_tr (t_call rfl rfl ent_26 (fun w h => by have h_ := Equal_any w _ _ (liftL g 7) (liftL g 7) (hOBq7.rd fun p hp => h.at_ p (mem_ar mAq8 (mem_ar mBq8 (mem_ar mAq7 (mem_al mBq7 hp))))) (hOBq8.rd fun p hp => h.at_ p (mem_ar mAq8 (mem_al mBq8 hp))) (by first | omega | (rw [liftL_len]; omega) | simp); rw [decide_eq_true (rfl)] at h_; exact h_)) rfl rfl rfl rfl (fun _ _ => ?_)
  refine s_y (y_pick_t rfl rfl) rfl rfl rfl rfl ?_
  refine s_y (y_move rfl) rfl rfl rfl rfl ?_
  refine s_y (y_move rfl) rfl rfl rfl rfl ?_
  refine s_y (y_move rfl) rfl rfl rfl rfl ?_
  refine s_y (y_eql_t rfl rfl (by decide)) rfl rfl rfl rfl ?_
  refine s_y (y_pick_t rfl rfl) rfl rfl rfl rfl ?_
  refine s_y (y_move rfl) rfl rfl rfl rfl ?_
  refine s_tr (t_call rfl rfl ent_19 (fun w h => awake_t w)) rfl rfl rfl rfl (fun _ _ => ?_)
  refine s_y (y_pick_t rfl rfl) rfl rfl rfl rfl ?_
  refine s_y (y_assign rfl) rfl rfl rfl rfl ?_
  refine s_nil ?_
  refine g_then ?_
  refine g_ret ?_
  exact g_end trivial (fun a w ha hq_ => res1 ha rfl rfl  w) (fun w h => ⟨rfl, h.below⟩)

theorem DuetsSwaps_none (w : World) (v : Value) (g : List Int) (v' : Value) (s : List Int) (hg : RdV (Value.int .i64) w v g) (hs : RdV (Value.int .i64) w v' s) (hp : pairB g s = true) (hsw : ¬ SwOk g s) :
    Calls Try.prog 8 [v, v'].toArray w fun e w' => e = .returned (.bool true) ∧ Below w.heap.size w w' := by
  obtain ⟨⟨hgl, hgn⟩, hsn, hln⟩ := pair_facts hp
  refine enter (N := 60) Try.func8 rfl rfl rfl ?_
  refine g_seq ?_
  refine g_region ?_
  refine s_y (y_assign rfl) rfl rfl rfl rfl ?_
  refine s_nil ?_
  refine g_then ?_
  refine g_seq ?_
  refine g_region ?_
  refine s_y (y_move rfl) rfl rfl rfl rfl ?_
  refine s_tr (t_callm rfl rfl ent_17 (fun w h => by have h_ := list_any w _ g (hg.below h.below); rw [List.take_of_length_le (by omega)] at h_; exact h_)) rfl rfl rfl rfl (fun x2 hx3 => ?_)
  obtain ⟨vo1, mo1⟩ := x2
  obtain ⟨hOo1, hEo1⟩ := hx3
  refine s_y (y_move rfl) rfl rfl rfl rfl ?_
  refine s_tr (t_callm rfl rfl ent_17 (fun w h => by have h_ := list_any w _ s (hs.below h.below); rw [List.take_of_length_le (by omega)] at h_; exact h_)) rfl rfl rfl rfl (fun x5 hx6 => ?_)
  obtain ⟨vo4, mo4⟩ := x5
  obtain ⟨hOo4, hEo4⟩ := hx6
  refine s_tr (t_call rfl rfl ent_33 (fun w h => Swap_none w _ _ g s (hOo1.rd fun p hp => h.at_ p (mem_ar mo4 (mem_al mo1 hp))) (hOo4.rd fun p hp => h.at_ p (mem_al mo4 hp)) hp hsw)) rfl rfl rfl rfl (fun _ _ => ?_)
  refine s_y (y_move rfl) rfl rfl rfl rfl ?_
  refine s_y (y_extract rfl rfl) rfl rfl rfl rfl ?_
  refine s_y (y_extract rfl rfl) rfl rfl rfl rfl ?_
  refine s_y (y_extract rfl rfl) rfl rfl rfl rfl ?_
  refine s_y (y_assign rfl) rfl rfl rfl rfl ?_
  refine s_y (y_assign rfl) rfl rfl rfl rfl ?_
  refine s_y (y_assign rfl) rfl rfl rfl rfl ?_
  refine s_nil ?_
  refine g_then ?_
  refine g_seq ?_
  refine g_seq ?_
  refine g_region ?_
  refine s_y (y_move rfl) rfl rfl rfl rfl ?_
  refine s_y (y_move rfl) rfl rfl rfl rfl ?_
  refine s_tr (t_call rfl rfl ent_22 (fun w h => by have h_ := pair_any w _ _ g s (hg.below h.below) (hs.below h.below) (by omega) (by omega); rwa [hp] at h_)) rfl rfl rfl rfl (fun _ _ => ?_)
  refine s_y (y_not_t rfl) rfl rfl rfl rfl ?_
  refine s_nil ?_
  refine g_then ?_
  refine g_cond_f rfl ?_
  refine g_skip ?_
  refine g_then ?_
  refine g_seq ?_
  refine g_region ?_
  refine s_y (y_move rfl) rfl rfl rfl rfl ?_
  refine s_y (y_move rfl) rfl rfl rfl rfl ?_
  refine s_tr (t_call rfl rfl ent_34 (fun w h => RSwap_none w _ _ g s (hg.below h.below) (hs.below h.below) hp hsw)) rfl rfl rfl rfl (fun _ _ => ?_)
  refine s_y (y_move rfl) rfl rfl rfl rfl ?_
  refine s_y (y_extract rfl rfl) rfl rfl rfl rfl ?_
  refine s_y (y_extract rfl rfl) rfl rfl rfl rfl ?_
  refine s_y (y_extract rfl rfl) rfl rfl rfl rfl ?_
  refine s_y (y_assign rfl) rfl rfl rfl rfl ?_
  refine s_y (y_assign rfl) rfl rfl rfl rfl ?_
  refine s_y (y_assign rfl) rfl rfl rfl rfl ?_
  refine s_nil ?_
  refine g_then ?_
  refine g_seq ?_
  refine g_region ?_
  refine s_y (y_move rfl) rfl rfl rfl rfl ?_
  refine s_y (y_move rfl) rfl rfl rfl rfl ?_
  refine s_tr (t_call rfl rfl ent_26 (fun w h => by have h_ := Equal_any w _ _ ([] : List Int) ([] : List Int) RdV.nil RdV.nil (by first | omega | (rw [liftL_len]; omega) | simp); rw [decide_eq_true (rfl)] at h_; exact h_)) rfl rfl rfl rfl (fun _ _ => ?_)
  refine s_y (y_move rfl) rfl rfl rfl rfl ?_
  refine s_y (y_move rfl) rfl rfl rfl rfl ?_
  refine s_y (y_move rfl) rfl rfl rfl rfl ?_
  refine s_tr (t_call rfl rfl ent_26 (fun w h => by have h_ := Equal_any w _ _ ([] : List Int) ([] : List Int) RdV.nil RdV.nil (by first | omega | (rw [liftL_len]; omega) | simp); rw [decide_eq_true (rfl)] at h_; exact h_)) rfl rfl rfl rfl (fun _ _ => ?_)
  refine s_y (y_pick_t rfl rfl) rfl rfl rfl rfl ?_
  refine s_y (y_move rfl) rfl rfl rfl rfl ?_
  refine s_y (y_move rfl) rfl rfl rfl rfl ?_
  refine s_y (y_move rfl) rfl rfl rfl rfl ?_
  refine s_y (y_eql_t rfl rfl (by decide)) rfl rfl rfl rfl ?_
  refine s_y (y_pick_t rfl rfl) rfl rfl rfl rfl ?_
  refine s_y (y_move rfl) rfl rfl rfl rfl ?_
  refine s_tr (t_call rfl rfl ent_19 (fun w h => awake_t w)) rfl rfl rfl rfl (fun _ _ => ?_)
  refine s_y (y_pick_t rfl rfl) rfl rfl rfl rfl ?_
  refine s_y (y_assign rfl) rfl rfl rfl rfl ?_
  refine s_nil ?_
  refine g_then ?_
  refine g_ret ?_
  exact g_end trivial (fun a w ha hq_ => res1 ha rfl rfl  w) (fun w h => ⟨rfl, h.below⟩)

theorem DuetsSwaps_no (w : World) (v : Value) (g : List Int) (v' : Value) (s : List Int) (hg : RdV (Value.int .i64) w v g) (hs : RdV (Value.int .i64) w v' s) (hgl : g.length ≤ 9223372036854775807) (hsl : s.length ≤ 9223372036854775807) (hp : pairB g s = false) :
    Calls Try.prog 8 [v, v'].toArray w fun e w' => e = .returned (.bool true) ∧ Below w.heap.size w w' := by
  refine enter (N := 60) Try.func8 rfl rfl rfl ?_
  refine g_seq ?_
  refine g_region ?_
  refine s_y (y_assign rfl) rfl rfl rfl rfl ?_
  refine s_nil ?_
  refine g_then ?_
  refine g_seq ?_
  refine g_region ?_
  refine s_y (y_move rfl) rfl rfl rfl rfl ?_
  refine s_tr (t_callm rfl rfl ent_17 (fun w h => list_any w _ g (hg.below h.below))) rfl rfl rfl rfl (fun x2 hx3 => ?_)
  obtain ⟨vo1, mo1⟩ := x2
  obtain ⟨hOo1, hEo1⟩ := hx3
  refine s_y (y_move rfl) rfl rfl rfl rfl ?_
  refine s_tr (t_callm rfl rfl ent_17 (fun w h => list_any w _ s (hs.below h.below))) rfl rfl rfl rfl (fun x5 hx6 => ?_)
  obtain ⟨vo4, mo4⟩ := x5
  obtain ⟨hOo4, hEo4⟩ := hx6
  refine s_tr (t_call rfl rfl ent_33 (fun w h => Swap_no w _ _ (g.take 11) (s.take 11) (hOo1.rd fun p hp => h.at_ p (mem_ar mo4 (mem_al mo1 hp))) (hOo4.rd fun p hp => h.at_ p (mem_al mo4 hp)) (by rw [List.length_take]; omega) (by rw [List.length_take]; omega) (pair_take hp))) rfl rfl rfl rfl (fun _ _ => ?_)
  refine s_y (y_move rfl) rfl rfl rfl rfl ?_
  refine s_y (y_extract rfl rfl) rfl rfl rfl rfl ?_
  refine s_y (y_extract rfl rfl) rfl rfl rfl rfl ?_
  refine s_y (y_extract rfl rfl) rfl rfl rfl rfl ?_
  refine s_y (y_assign rfl) rfl rfl rfl rfl ?_
  refine s_y (y_assign rfl) rfl rfl rfl rfl ?_
  refine s_y (y_assign rfl) rfl rfl rfl rfl ?_
  refine s_nil ?_
  refine g_then ?_
  refine g_seq ?_
  refine g_seq ?_
  refine g_region ?_
  refine s_y (y_move rfl) rfl rfl rfl rfl ?_
  refine s_y (y_move rfl) rfl rfl rfl rfl ?_
  refine s_tr (t_call rfl rfl ent_22 (fun w h => by have h_ := pair_any w _ _ g s (hg.below h.below) (hs.below h.below) hgl hsl; rwa [hp] at h_)) rfl rfl rfl rfl (fun _ _ => ?_)
  refine s_y (y_not_f rfl) rfl rfl rfl rfl ?_
  refine s_nil ?_
  refine g_then ?_
  refine g_cond_t rfl ?_
  refine g_seq ?_
  refine g_region ?_
  refine s_y (y_move rfl) rfl rfl rfl rfl ?_
  refine s_y (y_lensl rfl sle_22) rfl rfl rfl rfl ?_
  refine s_y (y_move rfl) rfl rfl rfl rfl ?_
  refine s_y (y_lensl rfl sle_22) rfl rfl rfl rfl ?_
  refine s_y (y_add rfl rfl (by omega) (by omega)) rfl rfl rfl rfl ?_
  refine s_y (y_eql_t rfl rfl (by decide)) rfl rfl rfl rfl ?_
  refine s_y (y_move rfl) rfl rfl rfl rfl ?_
  refine s_y (y_move rfl) rfl rfl rfl rfl ?_
  refine s_y (y_eql_t rfl rfl (by decide)) rfl rfl rfl rfl ?_
  refine s_y (y_pick_t rfl rfl) rfl rfl rfl rfl ?_
  refine s_y (y_move rfl) rfl rfl rfl rfl ?_
  refine s_tr (t_call rfl rfl ent_19 (fun w h => awake_t w)) rfl rfl rfl rfl (fun _ _ => ?_)
  refine s_y (y_pick_t rfl rfl) rfl rfl rfl rfl ?_
  refine s_y (y_assign rfl) rfl rfl rfl rfl ?_
  refine s_nil ?_
  refine g_then ?_
  refine g_ret ?_
  refine g_thenr ?_
  exact g_end trivial (fun a w ha hq_ => res1 ha rfl rfl  w) (fun w h => ⟨rfl, h.below⟩)

theorem DuetsSwaps_law (w : World) (v : Value) (g : List Int) (v' : Value) (s : List Int) (hg : RdV (Value.int .i64) w v g) (hgl : g.length ≤ maxLen) (wg : ∀ x ∈ g, (Lit.int .i64 x).wf = true) (hs : RdV (Value.int .i64) w v' s) (hsl : s.length ≤ maxLen) (ws : ∀ x ∈ s, (Lit.int .i64 x).wf = true) : Calls Try.prog 8 [v, v'].toArray w fun e w' => e = .returned (.bool true) ∧ Below w.heap.size w w' := by
  have hmx : (maxLen : Nat) = 9223372036854775807 := rfl
  cases hp : pairB g s with
  | true =>
    by_cases hsw : SwOk g s
    · exact DuetsSwaps_yes w v g v' s hg hs hp hsw
    · exact DuetsSwaps_none w v g v' s hg hs hp hsw
  | false => exact DuetsSwaps_no w v g v' s hg hs (by omega) (by omega) hp

theorem DuetsTurned_yes (w : World) (v : Value) (g : List Int) (v' : Value) (s : List Int) (hg : RdV (Value.int .i64) w v g) (hs : RdV (Value.int .i64) w v' s) (hp : pairB g s = true) (hsw : SwOk g s) :
    Calls Try.prog 11 [v, v'].toArray w fun e w' => e = .returned (.bool true) ∧ Below w.heap.size w w' := by
  obtain ⟨⟨hgl, hgn⟩, hsn, hln⟩ := pair_facts hp
  have hl7 := liftL_len g 7
  refine enter (N := 104) Try.func11 rfl rfl rfl ?_
  refine g_seq ?_
  refine g_region ?_
  refine s_y (y_assign rfl) rfl rfl rfl rfl ?_
  refine s_nil ?_
  refine g_then ?_
  refine g_seq ?_
  refine g_region ?_
  refine s_y (y_move rfl) rfl rfl rfl rfl ?_
  refine s_tr (t_callm rfl rfl ent_17 (fun w h => by have h_ := list_any w _ g (hg.below h.below); rw [List.take_of_length_le (by omega)] at h_; exact h_)) rfl rfl rfl rfl (fun x2 hx3 => ?_)
  obtain ⟨vo1, mo1⟩ := x2
  obtain ⟨hOo1, hEo1⟩ := hx3
  refine s_y (y_move rfl) rfl rfl rfl rfl ?_
  refine s_tr (t_callm rfl rfl ent_17 (fun w h => by have h_ := list_any w _ s (hs.below h.below); rw [List.take_of_length_le (by omega)] at h_; exact h_)) rfl rfl rfl rfl (fun x5 hx6 => ?_)
  obtain ⟨vo4, mo4⟩ := x5
  obtain ⟨hOo4, hEo4⟩ := hx6
  refine s_tr (t_callm2 (mm1 := fun x : (Value × List (Nat × Obj)) × (Value × List (Nat × Obj)) => x.1.2) (mm2 := fun x => x.2.2) rfl rfl ent_33 (fun w h => Swap_yes w _ _ g s (hOo1.rd fun p hp => h.at_ p (mem_ar mo4 (mem_al mo1 hp))) (hOo4.rd fun p hp => h.at_ p (mem_al mo4 hp)) hp hsw)) rfl rfl rfl rfl (fun xq7 hxq7 => ?_)
  obtain ⟨⟨vAq7, mAq7⟩, ⟨vBq7, mBq7⟩⟩ := xq7
  obtain ⟨⟨hOAq7, hEAq7⟩, ⟨hOBq7, hEBq7⟩⟩ := hxq7
  refine s_y (y_move rfl) rfl rfl rfl rfl ?_
  refine s_y (y_extract rfl rfl) rfl rfl rfl rfl ?_
  refine s_y (y_extract rfl rfl) rfl rfl rfl rfl ?_
  refine s_y (y_extract rfl rfl) rfl rfl rfl rfl ?_
  refine s_y (y_assign rfl) rfl rfl rfl rfl ?_
  refine s_y (y_assign rfl) rfl rfl rfl rfl ?_
  refine s_y (y_assign rfl) rfl rfl rfl rfl ?_
  refine s_nil ?_
  refine g_then ?_
  refine g_seq ?_
  refine g_seq ?_
  refine g_region ?_
  refine s_y (y_move rfl) rfl rfl rfl rfl ?_
  refine s_y (y_neq_f rfl rfl (by decide)) rfl rfl rfl rfl ?_
  refine s_y (y_move rfl) rfl rfl rfl rfl ?_
  refine s_y (y_move rfl) rfl rfl rfl rfl ?_
  refine s_y (y_move rfl) rfl rfl rfl rfl ?_
  refine s_tr (t_call rfl rfl ent_22 (fun w h => by have h_ := pair_any w _ _ g s (hg.below h.below) (hs.below h.below) (by omega) (by omega); rwa [hp] at h_)) rfl rfl rfl rfl (fun _ _ => ?_)
  refine s_y (y_not_t rfl) rfl rfl rfl rfl ?_
  refine s_y (y_pick_f rfl rfl) rfl rfl rfl rfl ?_
  refine s_nil ?_
  refine g_then ?_
  refine g_cond_f rfl ?_
  refine g_skip ?_
  refine g_then ?_
  refine g_seq ?_
  refine g_seq ?_
  refine g_region ?_
  refine s_y (y_move rfl) rfl rfl rfl rfl ?_
  refine s_y (y_move rfl) rfl rfl rfl rfl ?_
  refine s_tr (t_call rfl rfl ent_39 (fun w h => right_t w _ _ g s (hg.below h.below) (hs.below h.below) hp hsw.1)) rfl rfl rfl rfl (fun _ _ => ?_)
  refine s_y (y_not_t rfl) rfl rfl rfl rfl ?_
  refine s_y (y_move rfl) rfl rfl rfl rfl ?_
  refine s_y (y_move rfl) rfl rfl rfl rfl ?_
  refine s_y (y_lenV (n := s.length) rfl hOAq7.1 sle_22) rfl rfl rfl rfl ?_
  refine s_y (y_move rfl) rfl rfl rfl rfl ?_
  refine s_y (y_lenV (n := g.length) rfl (by obtain ⟨A, c, h1, _⟩ := hg; exact ⟨A, c, h1⟩) sle_22) rfl rfl rfl rfl ?_
  refine s_y (y_neq_f rfl rfl (by first | omega | (rw [liftL_len]; omega) | simp [liftL_len, hln])) rfl rfl rfl rfl ?_
  refine s_y (y_pick_f rfl rfl) rfl rfl rfl rfl ?_
  refine s_y (y_move rfl) rfl rfl rfl rfl ?_
  refine s_y (y_move rfl) rfl rfl rfl rfl ?_
  refine s_y (y_lenV (n := ((liftL g 7).length)) rfl hOBq7.1 sle_22) rfl rfl rfl rfl ?_
  refine s_y (y_move rfl) rfl rfl rfl rfl ?_
  refine s_y (y_lenV (n := g.length) rfl (by obtain ⟨A, c, h1, _⟩ := hg; exact ⟨A, c, h1⟩) sle_22) rfl rfl rfl rfl ?_
  refine s_y (y_neq_f rfl rfl (by first | omega | (rw [liftL_len]; omega) | simp [liftL_len, hln])) rfl rfl rfl rfl ?_
  refine s_y (y_pick_f rfl rfl) rfl rfl rfl rfl ?_
  refine s_y (y_move rfl) rfl rfl rfl rfl ?_
  refine s_y (y_move rfl) rfl rfl rfl rfl ?_
  refine s_y (y_move rfl) rfl rfl rfl rfl ?_
  refine s_tr (t_call rfl rfl ent_26 (fun w h => by have h_ := Equal_any w _ _ s s (hOAq7.rd fun p hp => h.at_ p (mem_al mAq7 hp)) (hs.below h.below) (by first | omega | (rw [liftL_len]; omega) | simp); rw [decide_eq_true (rfl)] at h_; exact h_)) rfl rfl rfl rfl (fun _ _ => ?_)
  refine s_y (y_not_t rfl) rfl rfl rfl rfl ?_
  refine s_y (y_pick_f rfl rfl) rfl rfl rfl rfl ?_
  refine s_nil ?_
  refine g_then ?_
  refine g_cond_f rfl ?_
  refine g_skip ?_
  refine g_then ?_
  refine g_seq ?_
  refine g_seq ?_
  refine g_region ?_
  refine s_y (y_move rfl) rfl rfl rfl rfl ?_
  refine s_y (y_lenV (n := s.length) rfl hOAq7.1 sle_22) rfl rfl rfl rfl ?_
  refine s_y (y_move rfl) rfl rfl rfl rfl ?_
  refine s_nil ?_
  refine g_then ?_
  refine g_block ?_
  refine g_loop (fun (i : Nat) act W => i ≤ s.length ∧ ∃ (w1 : World), Has 104 [] [(0, v), (1, v'), (5, vAq7), (6, vBq7), (60, .int .i64 (s.length : Nat)), (61, .int .i64 (i : Int))] act ∧ Hp w w1 ((mAq7 ++ ((mBq7 ++ ((mo4 ++ ((mo1 ++ ([]))))))))) W) (fun i => s.length - i) 0 (fun act W ha hw => ⟨by omega, W, ha.weak (sub_get ⟨rfl, rfl, rfl, rfl, rfl, rfl, trivial⟩), hw.toHq.lookSub (List.Sublist.refl _)⟩) ?_
  intro i act W ⟨hb_i, w1, ha, hw⟩
  refine g_go ha hw ?_
  clear ha hw act W
  refine g_seq ?_
  refine g_region ?_
  refine s_y (y_lss rfl rfl) rfl rfl rfl rfl ?_
  refine s_nil ?_
  refine g_then ?_
  refine g_seq ?_
  refine g_cond rfl (fun cq8 => ?_) (fun cq8 => ?_)
  · (try simp at cq8)
    refine g_skip ?_
    refine g_then ?_
    refine g_seq ?_
    refine g_block ?_
    refine g_seq ?_
    refine g_region ?_
    refine s_y (y_move rfl) rfl rfl rfl rfl ?_
    refine s_y (y_assign rfl) rfl rfl rfl rfl ?_
    refine s_nil ?_
    refine g_then ?_
    refine g_seq ?_
    have g0 := notes_at hgn (i := (i : Int)) (by omega) (by omega)
    have s0 := notes_at hsn (i := (i : Int)) (by omega) (by omega)
    have l0 := notes_at (partB_true.1 hsw.2.2).2 (i := (i : Int)) (by omega) (by rw [liftL_len]; omega)
    have l1 := liftL_at (xs := g) (b := 7) (i := i) (by omega)
    have q1 : ivI g s (i : Int) = rdI s (i : Int) - rdI g (i : Int) := rfl
    have q2 := hsw.2.1 i (by omega)
    refine g_draw 38 (by kernel_rfl) ?_
    refine j_p (i := 0) rfl (y_move rfl) (by kernel_rfl) (by kernel_rfl) (by kernel_rfl) rfl rfl rfl rfl rfl (.inr (fun _ h => h)) ?_
    refine j_p (i := 1) rfl (y_move rfl) (by kernel_rfl) (by kernel_rfl) (by kernel_rfl) rfl rfl rfl rfl rfl (.inr (fun _ h => h)) ?_
    refine j_p (i := 2) rfl (y_idxO (enc := (Value.int .i64)) rfl rfl hOBq7 hEBq7 Try.underlying22 size_3 (by omega) (by omega)) (by kernel_rfl) (by kernel_rfl) (by kernel_rfl) rfl rfl rfl rfl rfl (.inr (fun _ h => h)) ?_
    refine j_l (i := 3) rfl (y_ldV (enc := (Value.int .i64)) (xs := liftL g 7) (fun w h => (hOBq7.rd fun p hp => h.at_ p (mem_ar mAq7 (mem_al mBq7 hp))).rdl) rfl agg_3 (rdI_at (by omega) (by omega))) (by kernel_rfl) (by kernel_rfl) (by kernel_rfl) (by kernel_rfl) rfl rfl rfl rfl rfl (.inr (fun _ h => h)) ?_
    refine j_p (i := 4) rfl (y_move rfl) (by kernel_rfl) (by kernel_rfl) (by kernel_rfl) rfl rfl rfl rfl rfl (.inr (fun _ h => h)) ?_
    refine j_p (i := 5) rfl (y_move rfl) (by kernel_rfl) (by kernel_rfl) (by kernel_rfl) rfl rfl rfl rfl rfl (.inr (fun _ h => h)) ?_
    refine j_p (i := 6) rfl (y_idxO (enc := (Value.int .i64)) rfl rfl hOAq7 hEAq7 Try.underlying22 size_3 (by omega) (by omega)) (by kernel_rfl) (by kernel_rfl) (by kernel_rfl) rfl rfl rfl rfl rfl (.inr (fun _ h => h)) ?_
    refine j_l (i := 7) rfl (y_ldV (enc := (Value.int .i64)) (xs := s) (fun w h => (hOAq7.rd fun p hp => h.at_ p (mem_al mAq7 hp)).rdl) rfl agg_3 (rdI_at (by omega) (by omega))) (by kernel_rfl) (by kernel_rfl) (by kernel_rfl) (by kernel_rfl) rfl rfl rfl rfl rfl (.inr (fun _ h => h)) ?_
    refine j_p (i := 8) rfl (y_sub rfl rfl (by omega) (by omega)) (by kernel_rfl) (by kernel_rfl) (by kernel_rfl) rfl rfl rfl rfl rfl (.inr (fun _ h => h)) ?_
    refine j_p (i := 9) rfl (y_move rfl) (by kernel_rfl) (by kernel_rfl) (by kernel_rfl) rfl rfl rfl rfl rfl (.inr (fun _ h => h)) ?_
    refine j_p (i := 10) rfl (y_move rfl) (by kernel_rfl) (by kernel_rfl) (by kernel_rfl) rfl rfl rfl rfl rfl (.inr (fun _ h => h)) ?_
    refine j_p (i := 11) rfl (y_idxV (enc := (Value.int .i64)) rfl rfl hs Try.underlying22 size_3 (by omega) (by omega)) (by kernel_rfl) (by kernel_rfl) (by kernel_rfl) rfl rfl rfl rfl rfl (.inr (fun _ h => h)) ?_
    refine j_l (i := 12) rfl (y_ldV (enc := (Value.int .i64)) (xs := s) (fun w h => hs.rdl.below h.below) rfl agg_3 (rdI_at (by omega) (by omega))) (by kernel_rfl) (by kernel_rfl) (by kernel_rfl) (by kernel_rfl) rfl rfl rfl rfl rfl (.inr (fun _ h => h)) ?_
    refine j_p (i := 13) rfl (y_move rfl) (by kernel_rfl) (by kernel_rfl) (by kernel_rfl) rfl rfl rfl rfl rfl (.inr (fun _ h => h)) ?_
    refine j_p (i := 14) rfl (y_move rfl) (by kernel_rfl) (by kernel_rfl) (by kernel_rfl) rfl rfl rfl rfl rfl (.inr (fun _ h => h)) ?_
    refine j_p (i := 15) rfl (y_idxV (enc := (Value.int .i64)) rfl rfl hg Try.underlying22 size_3 (by omega) (by omega)) (by kernel_rfl) (by kernel_rfl) (by kernel_rfl) rfl rfl rfl rfl rfl (.inr (fun _ h => h)) ?_
    refine j_l (i := 16) rfl (y_ldV (enc := (Value.int .i64)) (xs := g) (fun w h => hg.rdl.below h.below) rfl agg_3 (rdI_at (by omega) (by omega))) (by kernel_rfl) (by kernel_rfl) (by kernel_rfl) (by kernel_rfl) rfl rfl rfl rfl rfl (.inr (fun _ h => h)) ?_
    refine j_p (i := 17) rfl (y_sub rfl rfl (by omega) (by omega)) (by kernel_rfl) (by kernel_rfl) (by kernel_rfl) rfl rfl rfl rfl rfl (.inr (fun _ h => h)) ?_
    refine j_p (i := 18) rfl (y_sub rfl rfl (by omega) (by omega)) (by kernel_rfl) (by kernel_rfl) (by kernel_rfl) rfl rfl rfl rfl rfl (.inr (fun _ h => h)) ?_
    refine j_p (i := 19) rfl (y_neq_f rfl rfl (by omega)) (by kernel_rfl) (by kernel_rfl) (by kernel_rfl) rfl rfl rfl rfl rfl (.inr (fun _ h => h)) ?_
    refine j_p (i := 20) rfl (y_move rfl) (by kernel_rfl) (by kernel_rfl) (by kernel_rfl) rfl rfl rfl rfl rfl (.inr (fun _ h => h)) ?_
    refine j_p (i := 21) rfl (y_move rfl) (by kernel_rfl) (by kernel_rfl) (by kernel_rfl) rfl rfl rfl rfl rfl (.inr (fun _ h => h)) ?_
    refine j_p (i := 22) rfl (y_move rfl) (by kernel_rfl) (by kernel_rfl) (by kernel_rfl) rfl rfl rfl rfl rfl (.inr (fun _ h => h)) ?_
    refine j_p (i := 23) rfl (y_idxO (enc := (Value.int .i64)) rfl rfl hOBq7 hEBq7 Try.underlying22 size_3 (by omega) (by omega)) (by kernel_rfl) (by kernel_rfl) (by kernel_rfl) rfl rfl rfl rfl rfl (.inr (fun _ h => h)) ?_
    refine j_l (i := 24) rfl (y_ldV (enc := (Value.int .i64)) (xs := liftL g 7) (fun w h => (hOBq7.rd fun p hp => h.at_ p (mem_ar mAq7 (mem_al mBq7 hp))).rdl) rfl agg_3 (rdI_at (by omega) (by omega))) (by kernel_rfl) (by kernel_rfl) (by kernel_rfl) (by kernel_rfl) rfl rfl rfl rfl rfl (.inr (fun _ h => h)) ?_
    refine j_p (i := 25) rfl (y_move rfl) (by kernel_rfl) (by kernel_rfl) (by kernel_rfl) rfl rfl rfl rfl rfl (.inr (fun _ h => h)) ?_
    refine j_p (i := 26) rfl (y_move rfl) (by kernel_rfl) (by kernel_rfl) (by kernel_rfl) rfl rfl rfl rfl rfl (.inr (fun _ h => h)) ?_
    refine j_p (i := 27) rfl (y_idxO (enc := (Value.int .i64)) rfl rfl hOAq7 hEAq7 Try.underlying22 size_3 (by omega) (by omega)) (by kernel_rfl) (by kernel_rfl) (by kernel_rfl) rfl rfl rfl rfl rfl (.inr (fun _ h => h)) ?_
    refine j_l (i := 28) rfl (y_ldV (enc := (Value.int .i64)) (xs := s) (fun w h => (hOAq7.rd fun p hp => h.at_ p (mem_al mAq7 hp)).rdl) rfl agg_3 (rdI_at (by omega) (by omega))) (by kernel_rfl) (by kernel_rfl) (by kernel_rfl) (by kernel_rfl) rfl rfl rfl rfl rfl (.inr (fun _ h => h)) ?_
    refine j_p (i := 29) rfl (y_lss_f rfl rfl (by omega)) (by kernel_rfl) (by kernel_rfl) (by kernel_rfl) rfl rfl rfl rfl rfl (.inr (fun _ h => h)) ?_
    refine j_p (i := 30) rfl (y_pick_f rfl rfl) (by kernel_rfl) (by kernel_rfl) (by kernel_rfl) rfl rfl rfl rfl rfl (.inr (fun _ h => h)) ?_
    refine j_p (i := 31) rfl (y_move rfl) (by kernel_rfl) (by kernel_rfl) (by kernel_rfl) rfl rfl rfl rfl rfl (.inr (fun _ h => h)) ?_
    refine j_p (i := 32) rfl (y_move rfl) (by kernel_rfl) (by kernel_rfl) (by kernel_rfl) rfl rfl rfl rfl rfl (.inr (fun _ h => h)) ?_
    refine j_p (i := 33) rfl (y_move rfl) (by kernel_rfl) (by kernel_rfl) (by kernel_rfl) rfl rfl rfl rfl rfl (.inr (fun _ h => h)) ?_
    refine j_p (i := 34) rfl (y_idxO (enc := (Value.int .i64)) rfl rfl hOBq7 hEBq7 Try.underlying22 size_3 (by omega) (by omega)) (by kernel_rfl) (by kernel_rfl) (by kernel_rfl) rfl rfl rfl rfl rfl (.inr (fun _ h => h)) ?_
    refine j_l (i := 35) rfl (y_ldV (enc := (Value.int .i64)) (xs := liftL g 7) (fun w h => (hOBq7.rd fun p hp => h.at_ p (mem_ar mAq7 (mem_al mBq7 hp))).rdl) rfl agg_3 (rdI_at (by omega) (by omega))) (by kernel_rfl) (by kernel_rfl) (by kernel_rfl) (by kernel_rfl) rfl rfl rfl rfl rfl (.inr (fun _ h => h)) ?_
    refine j_p (i := 36) rfl (y_gtr_f rfl rfl (by omega)) (by kernel_rfl) (by kernel_rfl) (by kernel_rfl) rfl rfl rfl rfl rfl (.inr (fun _ h => h)) ?_
    refine j_p (i := 37) rfl (y_pick_f rfl rfl) (by kernel_rfl) (by kernel_rfl) (by kernel_rfl) rfl rfl rfl rfl rfl (.inr (fun _ h => h)) ?_
    refine j_nil (by kernel_rfl) ?_
    refine g_then ?_
    refine g_cond_f rfl ?_
    refine g_skip ?_
    refine g_inb ?_
    refine g_then ?_
    refine g_region ?_
    refine s_y (y_add rfl rfl (by omega) (by omega)) rfl rfl rfl rfl ?_
    refine s_y (y_move rfl) rfl rfl rfl rfl ?_
    refine s_nil ?_
    refine g_then ?_
    exact fun act W ha hw => ⟨i + 1, by omega, by omega, W, ha.weak (sub_get ⟨rfl, rfl, rfl, rfl, rfl, rfl, trivial⟩), hw.toHq.lookSub (List.Sublist.refl _)⟩
  · (try simp at cq8)
    refine g_exit ?_
    refine g_thenx ?_
    refine g_thenx ?_
    refine g_inbx ?_
    refine g_then ?_
    refine g_seq ?_
    refine g_region ?_
    refine s_tr (t_call rfl rfl ent_19 (fun w h => awake_t w)) rfl rfl rfl rfl (fun _ _ => ?_)
    refine s_y (y_assign rfl) rfl rfl rfl rfl ?_
    refine s_nil ?_
    refine g_then ?_
    refine g_ret ?_
    exact g_end trivial (fun a w ha hq_ => res1 ha rfl rfl  w) (fun w h => ⟨rfl, h.below⟩)

theorem DuetsTurned_none (w : World) (v : Value) (g : List Int) (v' : Value) (s : List Int) (hg : RdV (Value.int .i64) w v g) (hs : RdV (Value.int .i64) w v' s) (hp : pairB g s = true) (hsw : ¬ SwOk g s) :
    Calls Try.prog 11 [v, v'].toArray w fun e w' => e = .returned (.bool true) ∧ Below w.heap.size w w' := by
  obtain ⟨⟨hgl, hgn⟩, hsn, hln⟩ := pair_facts hp
  refine enter (N := 104) Try.func11 rfl rfl rfl ?_
  refine g_seq ?_
  refine g_region ?_
  refine s_y (y_assign rfl) rfl rfl rfl rfl ?_
  refine s_nil ?_
  refine g_then ?_
  refine g_seq ?_
  refine g_region ?_
  refine s_y (y_move rfl) rfl rfl rfl rfl ?_
  refine s_tr (t_callm rfl rfl ent_17 (fun w h => by have h_ := list_any w _ g (hg.below h.below); rw [List.take_of_length_le (by omega)] at h_; exact h_)) rfl rfl rfl rfl (fun x2 hx3 => ?_)
  obtain ⟨vo1, mo1⟩ := x2
  obtain ⟨hOo1, hEo1⟩ := hx3
  refine s_y (y_move rfl) rfl rfl rfl rfl ?_
  refine s_tr (t_callm rfl rfl ent_17 (fun w h => by have h_ := list_any w _ s (hs.below h.below); rw [List.take_of_length_le (by omega)] at h_; exact h_)) rfl rfl rfl rfl (fun x5 hx6 => ?_)
  obtain ⟨vo4, mo4⟩ := x5
  obtain ⟨hOo4, hEo4⟩ := hx6
  refine s_tr (t_call rfl rfl ent_33 (fun w h => Swap_none w _ _ g s (hOo1.rd fun p hp => h.at_ p (mem_ar mo4 (mem_al mo1 hp))) (hOo4.rd fun p hp => h.at_ p (mem_al mo4 hp)) hp hsw)) rfl rfl rfl rfl (fun _ _ => ?_)
  refine s_y (y_move rfl) rfl rfl rfl rfl ?_
  refine s_y (y_extract rfl rfl) rfl rfl rfl rfl ?_
  refine s_y (y_extract rfl rfl) rfl rfl rfl rfl ?_
  refine s_y (y_extract rfl rfl) rfl rfl rfl rfl ?_
  refine s_y (y_assign rfl) rfl rfl rfl rfl ?_
  refine s_y (y_assign rfl) rfl rfl rfl rfl ?_
  refine s_y (y_assign rfl) rfl rfl rfl rfl ?_
  refine s_nil ?_
  refine g_then ?_
  refine g_seq ?_
  refine g_seq ?_
  refine g_region ?_
  refine s_y (y_move rfl) rfl rfl rfl rfl ?_
  refine s_y (y_neq_t rfl rfl (by decide)) rfl rfl rfl rfl ?_
  refine s_y (y_move rfl) rfl rfl rfl rfl ?_
  refine s_no rfl rfl rfl ?_
  refine s_no rfl rfl rfl ?_
  refine s_no rfl rfl rfl ?_
  refine s_no rfl rfl rfl ?_
  refine s_y (y_pick_t rfl rfl) rfl rfl rfl rfl ?_
  refine s_nil ?_
  refine g_then ?_
  refine g_cond_t rfl ?_
  refine g_seq ?_
  refine g_region ?_
  refine s_y (y_move rfl) rfl rfl rfl rfl ?_
  refine s_y (y_eql_f rfl rfl (by decide)) rfl rfl rfl rfl ?_
  refine s_y (y_move rfl) rfl rfl rfl rfl ?_
  refine s_y (y_move rfl) rfl rfl rfl rfl ?_
  refine s_y (y_eql_t rfl rfl (by decide)) rfl rfl rfl rfl ?_
  refine s_y (y_pick_f rfl rfl) rfl rfl rfl rfl ?_
  refine s_y (y_move rfl) rfl rfl rfl rfl ?_
  refine s_tr (t_call rfl rfl ent_19 (fun w h => awake_t w)) rfl rfl rfl rfl (fun _ _ => ?_)
  refine s_y (y_pick_t rfl rfl) rfl rfl rfl rfl ?_
  refine s_y (y_assign rfl) rfl rfl rfl rfl ?_
  refine s_nil ?_
  refine g_then ?_
  refine g_ret ?_
  refine g_thenr ?_
  exact g_end trivial (fun a w ha hq_ => res1 ha rfl rfl  w) (fun w h => ⟨rfl, h.below⟩)

theorem DuetsTurned_no (w : World) (v : Value) (g : List Int) (v' : Value) (s : List Int) (hg : RdV (Value.int .i64) w v g) (hs : RdV (Value.int .i64) w v' s) (hgl : g.length ≤ 9223372036854775807) (hsl : s.length ≤ 9223372036854775807) (hp : pairB g s = false) :
    Calls Try.prog 11 [v, v'].toArray w fun e w' => e = .returned (.bool true) ∧ Below w.heap.size w w' := by
  refine enter (N := 104) Try.func11 rfl rfl rfl ?_
  refine g_seq ?_
  refine g_region ?_
  refine s_y (y_assign rfl) rfl rfl rfl rfl ?_
  refine s_nil ?_
  refine g_then ?_
  refine g_seq ?_
  refine g_region ?_
  refine s_y (y_move rfl) rfl rfl rfl rfl ?_
  refine s_tr (t_callm rfl rfl ent_17 (fun w h => list_any w _ g (hg.below h.below))) rfl rfl rfl rfl (fun x2 hx3 => ?_)
  obtain ⟨vo1, mo1⟩ := x2
  obtain ⟨hOo1, hEo1⟩ := hx3
  refine s_y (y_move rfl) rfl rfl rfl rfl ?_
  refine s_tr (t_callm rfl rfl ent_17 (fun w h => list_any w _ s (hs.below h.below))) rfl rfl rfl rfl (fun x5 hx6 => ?_)
  obtain ⟨vo4, mo4⟩ := x5
  obtain ⟨hOo4, hEo4⟩ := hx6
  refine s_tr (t_call rfl rfl ent_33 (fun w h => Swap_no w _ _ (g.take 11) (s.take 11) (hOo1.rd fun p hp => h.at_ p (mem_ar mo4 (mem_al mo1 hp))) (hOo4.rd fun p hp => h.at_ p (mem_al mo4 hp)) (by rw [List.length_take]; omega) (by rw [List.length_take]; omega) (pair_take hp))) rfl rfl rfl rfl (fun _ _ => ?_)
  refine s_y (y_move rfl) rfl rfl rfl rfl ?_
  refine s_y (y_extract rfl rfl) rfl rfl rfl rfl ?_
  refine s_y (y_extract rfl rfl) rfl rfl rfl rfl ?_
  refine s_y (y_extract rfl rfl) rfl rfl rfl rfl ?_
  refine s_y (y_assign rfl) rfl rfl rfl rfl ?_
  refine s_y (y_assign rfl) rfl rfl rfl rfl ?_
  refine s_y (y_assign rfl) rfl rfl rfl rfl ?_
  refine s_nil ?_
  refine g_then ?_
  refine g_seq ?_
  refine g_seq ?_
  refine g_region ?_
  refine s_y (y_move rfl) rfl rfl rfl rfl ?_
  refine s_y (y_neq_t rfl rfl (by decide)) rfl rfl rfl rfl ?_
  refine s_y (y_move rfl) rfl rfl rfl rfl ?_
  refine s_no rfl rfl rfl ?_
  refine s_no rfl rfl rfl ?_
  refine s_no rfl rfl rfl ?_
  refine s_no rfl rfl rfl ?_
  refine s_y (y_pick_t rfl rfl) rfl rfl rfl rfl ?_
  refine s_nil ?_
  refine g_then ?_
  refine g_cond_t rfl ?_
  refine g_seq ?_
  refine g_region ?_
  refine s_y (y_move rfl) rfl rfl rfl rfl ?_
  refine s_y (y_eql_t rfl rfl (by decide)) rfl rfl rfl rfl ?_
  refine s_y (y_move rfl) rfl rfl rfl rfl ?_
  refine s_no rfl rfl rfl ?_
  refine s_no rfl rfl rfl ?_
  refine s_y (y_pick_t rfl rfl) rfl rfl rfl rfl ?_
  refine s_y (y_move rfl) rfl rfl rfl rfl ?_
  refine s_tr (t_call rfl rfl ent_19 (fun w h => awake_t w)) rfl rfl rfl rfl (fun _ _ => ?_)
  refine s_y (y_pick_t rfl rfl) rfl rfl rfl rfl ?_
  refine s_y (y_assign rfl) rfl rfl rfl rfl ?_
  refine s_nil ?_
  refine g_then ?_
  refine g_ret ?_
  refine g_thenr ?_
  exact g_end trivial (fun a w ha hq_ => res1 ha rfl rfl  w) (fun w h => ⟨rfl, h.below⟩)

theorem DuetsTurned_law (w : World) (v : Value) (g : List Int) (v' : Value) (s : List Int) (hg : RdV (Value.int .i64) w v g) (hgl : g.length ≤ maxLen) (wg : ∀ x ∈ g, (Lit.int .i64 x).wf = true) (hs : RdV (Value.int .i64) w v' s) (hsl : s.length ≤ maxLen) (ws : ∀ x ∈ s, (Lit.int .i64 x).wf = true) : Calls Try.prog 11 [v, v'].toArray w fun e w' => e = .returned (.bool true) ∧ Below w.heap.size w w' := by
  have hmx : (maxLen : Nat) = 9223372036854775807 := rfl
  cases hp : pairB g s with
  | true =>
    by_cases hsw : SwOk g s
    · exact DuetsTurned_yes w v g v' s hg hs hp hsw
    · exact DuetsTurned_none w v g v' s hg hs hp hsw
  | false => exact DuetsTurned_no w v g v' s hg hs (by omega) (by omega) hp

theorem DuetsLifted_bad_B (w : World) (v : Value) (g : List Int) (v' : Value) (s : List Int) (b : Int) (hg : RdV (Value.int .i64) w v g) (hs : RdV (Value.int .i64) w v' s) (hgl : g.length ≤ 9223372036854775807) (hsl : s.length ≤ 9223372036854775807) (hp1 : partB g = false) (hB : LiftOK s b) :
    Calls Try.prog 13 [v, v', .int .i64 b].toArray w fun e w' => e = .returned (.bool true) ∧ Below w.heap.size w w' := by
  have hs8 := (partB_true.1 hB.1).1
  refine enter (N := 168) Try.func13 rfl rfl rfl ?_
  refine g_seq ?_
  refine g_region ?_
  refine s_y (y_assign rfl) rfl rfl rfl rfl ?_
  refine s_nil ?_
  refine g_then ?_
  refine g_seq ?_
  refine g_region ?_
  refine s_y (y_move rfl) rfl rfl rfl rfl ?_
  refine s_tr (t_callm rfl rfl ent_17 (fun w h => list_any w _ g (hg.below h.below))) rfl rfl rfl rfl (fun x2 hx3 => ?_)
  obtain ⟨vo1, mo1⟩ := x2
  obtain ⟨hOo1, hEo1⟩ := hx3
  refine s_y (y_move rfl) rfl rfl rfl rfl ?_
  refine s_tr (t_call rfl rfl ent_24 (fun w h => Lift_bad w _ (g.take 11) (hOo1.rd fun p hp => h.at_ p (mem_al mo1 hp)) b (by rw [List.length_take]; omega) (part_take hp1))) rfl rfl rfl rfl (fun _ _ => ?_)
  refine s_y (y_move rfl) rfl rfl rfl rfl ?_
  refine s_y (y_extract rfl rfl) rfl rfl rfl rfl ?_
  refine s_y (y_extract rfl rfl) rfl rfl rfl rfl ?_
  refine s_y (y_assign rfl) rfl rfl rfl rfl ?_
  refine s_y (y_assign rfl) rfl rfl rfl rfl ?_
  refine s_nil ?_
  refine g_then ?_
  refine g_seq ?_
  refine g_region ?_
  refine s_y (y_move rfl) rfl rfl rfl rfl ?_
  refine s_tr (t_callm rfl rfl ent_17 (fun w h => by have h_ := list_any w _ s (hs.below h.below); rw [List.take_of_length_le (by omega)] at h_; exact h_)) rfl rfl rfl rfl (fun x5 hx6 => ?_)
  obtain ⟨vo4, mo4⟩ := x5
  obtain ⟨hOo4, hEo4⟩ := hx6
  refine s_y (y_move rfl) rfl rfl rfl rfl ?_
  refine s_tr (t_callm rfl rfl ent_24 (fun w h => Lift_yes w _ s (hOo4.rd fun p hp => h.at_ p (mem_al mo4 hp)) b hB.1 hB.2.1 hB.2.2)) rfl rfl rfl rfl (fun x8 hx9 => ?_)
  obtain ⟨vo7, mo7⟩ := x8
  obtain ⟨hOo7, hEo7⟩ := hx9
  refine s_y (y_move rfl) rfl rfl rfl rfl ?_
  refine s_y (y_extract rfl rfl) rfl rfl rfl rfl ?_
  refine s_y (y_extract rfl rfl) rfl rfl rfl rfl ?_
  refine s_y (y_assign rfl) rfl rfl rfl rfl ?_
  refine s_y (y_assign rfl) rfl rfl rfl rfl ?_
  refine s_nil ?_
  refine g_then ?_
  refine g_seq ?_
  refine g_seq ?_
  refine g_region ?_
  refine s_y (y_move rfl) rfl rfl rfl rfl ?_
  refine s_y (y_neq_t rfl rfl (by decide)) rfl rfl rfl rfl ?_
  refine s_y (y_move rfl) rfl rfl rfl rfl ?_
  refine s_no rfl rfl rfl ?_
  refine s_no rfl rfl rfl ?_
  refine s_y (y_pick_t rfl rfl) rfl rfl rfl rfl ?_
  refine s_y (y_move rfl) rfl rfl rfl rfl ?_
  refine s_no rfl rfl rfl ?_
  refine s_no rfl rfl rfl ?_
  refine s_no rfl rfl rfl ?_
  refine s_no rfl rfl rfl ?_
  refine s_y (y_pick_t rfl rfl) rfl rfl rfl rfl ?_
  refine s_nil ?_
  refine g_then ?_
  refine g_cond_t rfl ?_
  refine g_seq ?_
  refine g_region ?_
  refine s_y (y_move rfl) rfl rfl rfl rfl ?_
  refine s_y (y_eql_f rfl rfl (by decide)) rfl rfl rfl rfl ?_
  refine s_y (y_move rfl) rfl rfl rfl rfl ?_
  refine s_y (y_move rfl) rfl rfl rfl rfl ?_
  refine s_y (y_eql_t rfl rfl (by decide)) rfl rfl rfl rfl ?_
  refine s_y (y_pick_f rfl rfl) rfl rfl rfl rfl ?_
  refine s_y (y_move rfl) rfl rfl rfl rfl ?_
  refine s_no rfl rfl rfl ?_
  refine s_no rfl rfl rfl ?_
  refine s_y (y_pick_t rfl rfl) rfl rfl rfl rfl ?_
  refine s_y (y_move rfl) rfl rfl rfl rfl ?_
  refine s_tr (t_call rfl rfl ent_19 (fun w h => awake_t w)) rfl rfl rfl rfl (fun _ _ => ?_)
  refine s_y (y_pick_t rfl rfl) rfl rfl rfl rfl ?_
  refine s_y (y_assign rfl) rfl rfl rfl rfl ?_
  refine s_nil ?_
  refine g_then ?_
  refine g_ret ?_
  refine g_thenr ?_
  exact g_end trivial (fun a w ha hq_ => res1 ha rfl rfl  w) (fun w h => ⟨rfl, h.below⟩)

theorem DuetsLifted_bad_n (w : World) (v : Value) (g : List Int) (v' : Value) (s : List Int) (b : Int) (hg : RdV (Value.int .i64) w v g) (hs : RdV (Value.int .i64) w v' s) (hgl : g.length ≤ 9223372036854775807) (hsl : s.length ≤ 9223372036854775807) (hp1 : partB g = false) (hB : ¬ LiftOK s b) :
    Calls Try.prog 13 [v, v', .int .i64 b].toArray w fun e w' => e = .returned (.bool true) ∧ Below w.heap.size w w' := by
  refine enter (N := 168) Try.func13 rfl rfl rfl ?_
  refine g_seq ?_
  refine g_region ?_
  refine s_y (y_assign rfl) rfl rfl rfl rfl ?_
  refine s_nil ?_
  refine g_then ?_
  refine g_seq ?_
  refine g_region ?_
  refine s_y (y_move rfl) rfl rfl rfl rfl ?_
  refine s_tr (t_callm rfl rfl ent_17 (fun w h => list_any w _ g (hg.below h.below))) rfl rfl rfl rfl (fun x2 hx3 => ?_)
  obtain ⟨vo1, mo1⟩ := x2
  obtain ⟨hOo1, hEo1⟩ := hx3
  refine s_y (y_move rfl) rfl rfl rfl rfl ?_
  refine s_tr (t_call rfl rfl ent_24 (fun w h => Lift_bad w _ (g.take 11) (hOo1.rd fun p hp => h.at_ p (mem_al mo1 hp)) b (by rw [List.length_take]; omega) (part_take hp1))) rfl rfl rfl rfl (fun _ _ => ?_)
  refine s_y (y_move rfl) rfl rfl rfl rfl ?_
  refine s_y (y_extract rfl rfl) rfl rfl rfl rfl ?_
  refine s_y (y_extract rfl rfl) rfl rfl rfl rfl ?_
  refine s_y (y_assign rfl) rfl rfl rfl rfl ?_
  refine s_y (y_assign rfl) rfl rfl rfl rfl ?_
  refine s_nil ?_
  refine g_then ?_
  refine g_seq ?_
  refine g_region ?_
  refine s_y (y_move rfl) rfl rfl rfl rfl ?_
  refine s_tr (t_callm rfl rfl ent_17 (fun w h => list_any w _ s (hs.below h.below))) rfl rfl rfl rfl (fun x5 hx6 => ?_)
  obtain ⟨vo4, mo4⟩ := x5
  obtain ⟨hOo4, hEo4⟩ := hx6
  refine s_y (y_move rfl) rfl rfl rfl rfl ?_
  refine s_tr (t_callm (A := fun c : Int => c = 2 ∨ c = 4) (vf := fun c => .tuple #[.slice none 0 0, .int .i64 c]) (mm := fun _ => []) rfl rfl ent_24 (fun w h => Lift_err w _ (s.take 11) (hOo4.rd fun p hp => h.at_ p (mem_al mo4 hp)) b (by rw [List.length_take]; omega) (not_lift_take hB))) rfl rfl rfl rfl (fun c7 hc7 => ?_)
  refine s_y (y_move rfl) rfl rfl rfl rfl ?_
  refine s_y (y_extract rfl rfl) rfl rfl rfl rfl ?_
  refine s_y (y_extract rfl rfl) rfl rfl rfl rfl ?_
  refine s_y (y_assign rfl) rfl rfl rfl rfl ?_
  refine s_y (y_assign rfl) rfl rfl rfl rfl ?_
  refine s_nil ?_
  refine g_then ?_
  refine g_seq ?_
  refine g_seq ?_
  refine g_region ?_
  refine s_y (y_move rfl) rfl rfl rfl rfl ?_
  refine s_y (y_neq_t rfl rfl (by decide)) rfl rfl rfl rfl ?_
  refine s_y (y_move rfl) rfl rfl rfl rfl ?_
  refine s_no rfl rfl rfl ?_
  refine s_no rfl rfl rfl ?_
  refine s_y (y_pick_t rfl rfl) rfl rfl rfl rfl ?_
  refine s_y (y_move rfl) rfl rfl rfl rfl ?_
  refine s_no rfl rfl rfl ?_
  refine s_no rfl rfl rfl ?_
  refine s_no rfl rfl rfl ?_
  refine s_no rfl rfl rfl ?_
  refine s_y (y_pick_t rfl rfl) rfl rfl rfl rfl ?_
  refine s_nil ?_
  refine g_then ?_
  refine g_cond_t rfl ?_
  refine g_seq ?_
  refine g_region ?_
  refine s_y (y_move rfl) rfl rfl rfl rfl ?_
  refine s_y (y_eql_f rfl rfl (by decide)) rfl rfl rfl rfl ?_
  refine s_y (y_move rfl) rfl rfl rfl rfl ?_
  refine s_y (y_move rfl) rfl rfl rfl rfl ?_
  refine s_y (y_eql_t rfl rfl (by decide)) rfl rfl rfl rfl ?_
  refine s_y (y_pick_f rfl rfl) rfl rfl rfl rfl ?_
  refine s_y (y_move rfl) rfl rfl rfl rfl ?_
  refine s_no rfl rfl rfl ?_
  refine s_no rfl rfl rfl ?_
  refine s_y (y_pick_t rfl rfl) rfl rfl rfl rfl ?_
  refine s_y (y_move rfl) rfl rfl rfl rfl ?_
  refine s_tr (t_call rfl rfl ent_19 (fun w h => awake_t w)) rfl rfl rfl rfl (fun _ _ => ?_)
  refine s_y (y_pick_t rfl rfl) rfl rfl rfl rfl ?_
  refine s_y (y_assign rfl) rfl rfl rfl rfl ?_
  refine s_nil ?_
  refine g_then ?_
  refine g_ret ?_
  refine g_thenr ?_
  exact g_end trivial (fun a w ha hq_ => res1 ha rfl rfl  w) (fun w h => ⟨rfl, h.below⟩)

theorem DuetsLifted_none_B (w : World) (v : Value) (g : List Int) (v' : Value) (s : List Int) (b : Int) (hg : RdV (Value.int .i64) w v g) (hs : RdV (Value.int .i64) w v' s) (hgl : g.length ≤ 9223372036854775807) (hsl : s.length ≤ 9223372036854775807) (hp1 : partB g = true) (hA : ¬ LiftOK g b) (hB : LiftOK s b) :
    Calls Try.prog 13 [v, v', .int .i64 b].toArray w fun e w' => e = .returned (.bool true) ∧ Below w.heap.size w w' := by
  have hg8 := (partB_true.1 hp1).1
  have hs8 := (partB_true.1 hB.1).1
  refine enter (N := 168) Try.func13 rfl rfl rfl ?_
  refine g_seq ?_
  refine g_region ?_
  refine s_y (y_assign rfl) rfl rfl rfl rfl ?_
  refine s_nil ?_
  refine g_then ?_
  refine g_seq ?_
  refine g_region ?_
  refine s_y (y_move rfl) rfl rfl rfl rfl ?_
  refine s_tr (t_callm rfl rfl ent_17 (fun w h => by have h_ := list_any w _ g (hg.below h.below); rw [List.take_of_length_le (by omega)] at h_; exact h_)) rfl rfl rfl rfl (fun x2 hx3 => ?_)
  obtain ⟨vo1, mo1⟩ := x2
  obtain ⟨hOo1, hEo1⟩ := hx3
  refine s_y (y_move rfl) rfl rfl rfl rfl ?_
  refine s_tr (t_call rfl rfl ent_24 (fun w h => Lift_none w _ g (hOo1.rd fun p hp => h.at_ p (mem_al mo1 hp)) b hp1 hA)) rfl rfl rfl rfl (fun _ _ => ?_)
  refine s_y (y_move rfl) rfl rfl rfl rfl ?_
  refine s_y (y_extract rfl rfl) rfl rfl rfl rfl ?_
  refine s_y (y_extract rfl rfl) rfl rfl rfl rfl ?_
  refine s_y (y_assign rfl) rfl rfl rfl rfl ?_
  refine s_y (y_assign rfl) rfl rfl rfl rfl ?_
  refine s_nil ?_
  refine g_then ?_
  refine g_seq ?_
  refine g_region ?_
  refine s_y (y_move rfl) rfl rfl rfl rfl ?_
  refine s_tr (t_callm rfl rfl ent_17 (fun w h => by have h_ := list_any w _ s (hs.below h.below); rw [List.take_of_length_le (by omega)] at h_; exact h_)) rfl rfl rfl rfl (fun x5 hx6 => ?_)
  obtain ⟨vo4, mo4⟩ := x5
  obtain ⟨hOo4, hEo4⟩ := hx6
  refine s_y (y_move rfl) rfl rfl rfl rfl ?_
  refine s_tr (t_callm rfl rfl ent_24 (fun w h => Lift_yes w _ s (hOo4.rd fun p hp => h.at_ p (mem_al mo4 hp)) b hB.1 hB.2.1 hB.2.2)) rfl rfl rfl rfl (fun x8 hx9 => ?_)
  obtain ⟨vo7, mo7⟩ := x8
  obtain ⟨hOo7, hEo7⟩ := hx9
  refine s_y (y_move rfl) rfl rfl rfl rfl ?_
  refine s_y (y_extract rfl rfl) rfl rfl rfl rfl ?_
  refine s_y (y_extract rfl rfl) rfl rfl rfl rfl ?_
  refine s_y (y_assign rfl) rfl rfl rfl rfl ?_
  refine s_y (y_assign rfl) rfl rfl rfl rfl ?_
  refine s_nil ?_
  refine g_then ?_
  refine g_seq ?_
  refine g_seq ?_
  refine g_region ?_
  refine s_y (y_move rfl) rfl rfl rfl rfl ?_
  refine s_y (y_neq_t rfl rfl (by decide)) rfl rfl rfl rfl ?_
  refine s_y (y_move rfl) rfl rfl rfl rfl ?_
  refine s_no rfl rfl rfl ?_
  refine s_no rfl rfl rfl ?_
  refine s_y (y_pick_t rfl rfl) rfl rfl rfl rfl ?_
  refine s_y (y_move rfl) rfl rfl rfl rfl ?_
  refine s_no rfl rfl rfl ?_
  refine s_no rfl rfl rfl ?_
  refine s_no rfl rfl rfl ?_
  refine s_no rfl rfl rfl ?_
  refine s_y (y_pick_t rfl rfl) rfl rfl rfl rfl ?_
  refine s_nil ?_
  refine g_then ?_
  refine g_cond_t rfl ?_
  refine g_seq ?_
  refine g_region ?_
  refine s_y (y_move rfl) rfl rfl rfl rfl ?_
  refine s_y (y_eql_f rfl rfl (by decide)) rfl rfl rfl rfl ?_
  refine s_y (y_move rfl) rfl rfl rfl rfl ?_
  refine s_y (y_move rfl) rfl rfl rfl rfl ?_
  refine s_y (y_eql_f rfl rfl (by decide)) rfl rfl rfl rfl ?_
  refine s_y (y_pick_f rfl rfl) rfl rfl rfl rfl ?_
  refine s_y (y_move rfl) rfl rfl rfl rfl ?_
  refine s_y (y_move rfl) rfl rfl rfl rfl ?_
  refine s_y (y_eql_t rfl rfl (by decide)) rfl rfl rfl rfl ?_
  refine s_y (y_pick_f rfl rfl) rfl rfl rfl rfl ?_
  refine s_y (y_move rfl) rfl rfl rfl rfl ?_
  refine s_tr (t_call rfl rfl ent_19 (fun w h => awake_t w)) rfl rfl rfl rfl (fun _ _ => ?_)
  refine s_y (y_pick_t rfl rfl) rfl rfl rfl rfl ?_
  refine s_y (y_assign rfl) rfl rfl rfl rfl ?_
  refine s_nil ?_
  refine g_then ?_
  refine g_ret ?_
  refine g_thenr ?_
  exact g_end trivial (fun a w ha hq_ => res1 ha rfl rfl  w) (fun w h => ⟨rfl, h.below⟩)

theorem DuetsLifted_none_n (w : World) (v : Value) (g : List Int) (v' : Value) (s : List Int) (b : Int) (hg : RdV (Value.int .i64) w v g) (hs : RdV (Value.int .i64) w v' s) (hgl : g.length ≤ 9223372036854775807) (hsl : s.length ≤ 9223372036854775807) (hp1 : partB g = true) (hA : ¬ LiftOK g b) (hB : ¬ LiftOK s b) :
    Calls Try.prog 13 [v, v', .int .i64 b].toArray w fun e w' => e = .returned (.bool true) ∧ Below w.heap.size w w' := by
  have hg8 := (partB_true.1 hp1).1
  refine enter (N := 168) Try.func13 rfl rfl rfl ?_
  refine g_seq ?_
  refine g_region ?_
  refine s_y (y_assign rfl) rfl rfl rfl rfl ?_
  refine s_nil ?_
  refine g_then ?_
  refine g_seq ?_
  refine g_region ?_
  refine s_y (y_move rfl) rfl rfl rfl rfl ?_
  refine s_tr (t_callm rfl rfl ent_17 (fun w h => by have h_ := list_any w _ g (hg.below h.below); rw [List.take_of_length_le (by omega)] at h_; exact h_)) rfl rfl rfl rfl (fun x2 hx3 => ?_)
  obtain ⟨vo1, mo1⟩ := x2
  obtain ⟨hOo1, hEo1⟩ := hx3
  refine s_y (y_move rfl) rfl rfl rfl rfl ?_
  refine s_tr (t_call rfl rfl ent_24 (fun w h => Lift_none w _ g (hOo1.rd fun p hp => h.at_ p (mem_al mo1 hp)) b hp1 hA)) rfl rfl rfl rfl (fun _ _ => ?_)
  refine s_y (y_move rfl) rfl rfl rfl rfl ?_
  refine s_y (y_extract rfl rfl) rfl rfl rfl rfl ?_
  refine s_y (y_extract rfl rfl) rfl rfl rfl rfl ?_
  refine s_y (y_assign rfl) rfl rfl rfl rfl ?_
  refine s_y (y_assign rfl) rfl rfl rfl rfl ?_
  refine s_nil ?_
  refine g_then ?_
  refine g_seq ?_
  refine g_region ?_
  refine s_y (y_move rfl) rfl rfl rfl rfl ?_
  refine s_tr (t_callm rfl rfl ent_17 (fun w h => list_any w _ s (hs.below h.below))) rfl rfl rfl rfl (fun x5 hx6 => ?_)
  obtain ⟨vo4, mo4⟩ := x5
  obtain ⟨hOo4, hEo4⟩ := hx6
  refine s_y (y_move rfl) rfl rfl rfl rfl ?_
  refine s_tr (t_callm (A := fun c : Int => c = 2 ∨ c = 4) (vf := fun c => .tuple #[.slice none 0 0, .int .i64 c]) (mm := fun _ => []) rfl rfl ent_24 (fun w h => Lift_err w _ (s.take 11) (hOo4.rd fun p hp => h.at_ p (mem_al mo4 hp)) b (by rw [List.length_take]; omega) (not_lift_take hB))) rfl rfl rfl rfl (fun c7 hc7 => ?_)
  refine s_y (y_move rfl) rfl rfl rfl rfl ?_
  refine s_y (y_extract rfl rfl) rfl rfl rfl rfl ?_
  refine s_y (y_extract rfl rfl) rfl rfl rfl rfl ?_
  refine s_y (y_assign rfl) rfl rfl rfl rfl ?_
  refine s_y (y_assign rfl) rfl rfl rfl rfl ?_
  refine s_nil ?_
  refine g_then ?_
  refine g_seq ?_
  refine g_seq ?_
  refine g_region ?_
  refine s_y (y_move rfl) rfl rfl rfl rfl ?_
  refine s_y (y_neq_t rfl rfl (by decide)) rfl rfl rfl rfl ?_
  refine s_y (y_move rfl) rfl rfl rfl rfl ?_
  refine s_no rfl rfl rfl ?_
  refine s_no rfl rfl rfl ?_
  refine s_y (y_pick_t rfl rfl) rfl rfl rfl rfl ?_
  refine s_y (y_move rfl) rfl rfl rfl rfl ?_
  refine s_no rfl rfl rfl ?_
  refine s_no rfl rfl rfl ?_
  refine s_no rfl rfl rfl ?_
  refine s_no rfl rfl rfl ?_
  refine s_y (y_pick_t rfl rfl) rfl rfl rfl rfl ?_
  refine s_nil ?_
  refine g_then ?_
  refine g_cond_t rfl ?_
  refine g_seq ?_
  refine g_region ?_
  refine s_y (y_move rfl) rfl rfl rfl rfl ?_
  refine s_y (y_eql_f rfl rfl (by decide)) rfl rfl rfl rfl ?_
  refine s_y (y_move rfl) rfl rfl rfl rfl ?_
  refine s_y (y_move rfl) rfl rfl rfl rfl ?_
  refine s_y (y_eql_f rfl rfl (by decide)) rfl rfl rfl rfl ?_
  refine s_y (y_pick_f rfl rfl) rfl rfl rfl rfl ?_
  refine s_y (y_move rfl) rfl rfl rfl rfl ?_
  refine s_y (y_move rfl) rfl rfl rfl rfl ?_
  refine s_y (y_eql_t rfl rfl (by decide)) rfl rfl rfl rfl ?_
  refine s_y (y_pick_f rfl rfl) rfl rfl rfl rfl ?_
  refine s_y (y_move rfl) rfl rfl rfl rfl ?_
  refine s_tr (t_call rfl rfl ent_19 (fun w h => awake_t w)) rfl rfl rfl rfl (fun _ _ => ?_)
  refine s_y (y_pick_t rfl rfl) rfl rfl rfl rfl ?_
  refine s_y (y_assign rfl) rfl rfl rfl rfl ?_
  refine s_nil ?_
  refine g_then ?_
  refine g_ret ?_
  refine g_thenr ?_
  exact g_end trivial (fun a w ha hq_ => res1 ha rfl rfl  w) (fun w h => ⟨rfl, h.below⟩)

theorem DuetsLifted_A_n (w : World) (v : Value) (g : List Int) (v' : Value) (s : List Int) (b : Int) (hg : RdV (Value.int .i64) w v g) (hs : RdV (Value.int .i64) w v' s) (hgl : g.length ≤ 9223372036854775807) (hsl : s.length ≤ 9223372036854775807) (hA : LiftOK g b) (hB : ¬ LiftOK s b) :
    Calls Try.prog 13 [v, v', .int .i64 b].toArray w fun e w' => e = .returned (.bool true) ∧ Below w.heap.size w w' := by
  have hg8 := (partB_true.1 hA.1).1
  refine enter (N := 168) Try.func13 rfl rfl rfl ?_
  refine g_seq ?_
  refine g_region ?_
  refine s_y (y_assign rfl) rfl rfl rfl rfl ?_
  refine s_nil ?_
  refine g_then ?_
  refine g_seq ?_
  refine g_region ?_
  refine s_y (y_move rfl) rfl rfl rfl rfl ?_
  refine s_tr (t_callm rfl rfl ent_17 (fun w h => by have h_ := list_any w _ g (hg.below h.below); rw [List.take_of_length_le (by omega)] at h_; exact h_)) rfl rfl rfl rfl (fun x2 hx3 => ?_)
  obtain ⟨vo1, mo1⟩ := x2
  obtain ⟨hOo1, hEo1⟩ := hx3
  refine s_y (y_move rfl) rfl rfl rfl rfl ?_
  refine s_tr (t_callm rfl rfl ent_24 (fun w h => Lift_yes w _ g (hOo1.rd fun p hp => h.at_ p (mem_al mo1 hp)) b hA.1 hA.2.1 hA.2.2)) rfl rfl rfl rfl (fun x5 hx6 => ?_)
  obtain ⟨vo4, mo4⟩ := x5
  obtain ⟨hOo4, hEo4⟩ := hx6
  refine s_y (y_move rfl) rfl rfl rfl rfl ?_
  refine s_y (y_extract rfl rfl) rfl rfl rfl rfl ?_
  refine s_y (y_extract rfl rfl) rfl rfl rfl rfl ?_
  refine s_y (y_assign rfl) rfl rfl rfl rfl ?_
  refine s_y (y_assign rfl) rfl rfl rfl rfl ?_
  refine s_nil ?_
  refine g_then ?_
  refine g_seq ?_
  refine g_region ?_
  refine s_y (y_move rfl) rfl rfl rfl rfl ?_
  refine s_tr (t_callm rfl rfl ent_17 (fun w h => list_any w _ s (hs.below h.below))) rfl rfl rfl rfl (fun x8 hx9 => ?_)
  obtain ⟨vo7, mo7⟩ := x8
  obtain ⟨hOo7, hEo7⟩ := hx9
  refine s_y (y_move rfl) rfl rfl rfl rfl ?_
  refine s_tr (t_callm (A := fun c : Int => c = 2 ∨ c = 4) (vf := fun c => .tuple #[.slice none 0 0, .int .i64 c]) (mm := fun _ => []) rfl rfl ent_24 (fun w h => Lift_err w _ (s.take 11) (hOo7.rd fun p hp => h.at_ p (mem_al mo7 hp)) b (by rw [List.length_take]; omega) (not_lift_take hB))) rfl rfl rfl rfl (fun c10 hc10 => ?_)
  refine s_y (y_move rfl) rfl rfl rfl rfl ?_
  refine s_y (y_extract rfl rfl) rfl rfl rfl rfl ?_
  refine s_y (y_extract rfl rfl) rfl rfl rfl rfl ?_
  refine s_y (y_assign rfl) rfl rfl rfl rfl ?_
  refine s_y (y_assign rfl) rfl rfl rfl rfl ?_
  refine s_nil ?_
  refine g_then ?_
  refine g_seq ?_
  refine g_seq ?_
  refine g_region ?_
  refine s_y (y_move rfl) rfl rfl rfl rfl ?_
  refine s_y (y_neq_f rfl rfl (by decide)) rfl rfl rfl rfl ?_
  refine s_y (y_move rfl) rfl rfl rfl rfl ?_
  refine s_y (y_move rfl) rfl rfl rfl rfl ?_
  refine s_y (y_neq_t rfl rfl (by omega)) rfl rfl rfl rfl ?_
  refine s_y (y_pick_f rfl rfl) rfl rfl rfl rfl ?_
  refine s_y (y_move rfl) rfl rfl rfl rfl ?_
  refine s_no rfl rfl rfl ?_
  refine s_no rfl rfl rfl ?_
  refine s_no rfl rfl rfl ?_
  refine s_no rfl rfl rfl ?_
  refine s_y (y_pick_t rfl rfl) rfl rfl rfl rfl ?_
  refine s_nil ?_
  refine g_then ?_
  refine g_cond_t rfl ?_
  refine g_seq ?_
  refine g_region ?_
  refine s_y (y_move rfl) rfl rfl rfl rfl ?_
  refine s_y (y_eql_t rfl rfl (by decide)) rfl rfl rfl rfl ?_
  refine s_y (y_move rfl) rfl rfl rfl rfl ?_
  refine s_no rfl rfl rfl ?_
  refine s_no rfl rfl rfl ?_
  refine s_y (y_pick_t rfl rfl) rfl rfl rfl rfl ?_
  refine s_y (y_move rfl) rfl rfl rfl rfl ?_
  refine s_no rfl rfl rfl ?_
  refine s_no rfl rfl rfl ?_
  refine s_y (y_pick_t rfl rfl) rfl rfl rfl rfl ?_
  refine s_y (y_move rfl) rfl rfl rfl rfl ?_
  refine s_tr (t_call rfl rfl ent_19 (fun w h => awake_t w)) rfl rfl rfl rfl (fun _ _ => ?_)
  refine s_y (y_pick_t rfl rfl) rfl rfl rfl rfl ?_
  refine s_y (y_assign rfl) rfl rfl rfl rfl ?_
  refine s_nil ?_
  refine g_then ?_
  refine g_ret ?_
  refine g_thenr ?_
  exact g_end trivial (fun a w ha hq_ => res1 ha rfl rfl  w) (fun w h => ⟨rfl, h.below⟩)

theorem DuetsLifted_A_B (w : World) (v : Value) (g : List Int) (v' : Value) (s : List Int) (b : Int) (hg : RdV (Value.int .i64) w v g) (hs : RdV (Value.int .i64) w v' s) (hgl : g.length ≤ 9223372036854775807) (hsl : s.length ≤ 9223372036854775807) (hA : LiftOK g b) (hB : LiftOK s b) (hp : pairB g s = false) :
    Calls Try.prog 13 [v, v', .int .i64 b].toArray w fun e w' => e = .returned (.bool true) ∧ Below w.heap.size w w' := by
  have hg8 := (partB_true.1 hA.1).1
  have hs8 := (partB_true.1 hB.1).1
  refine enter (N := 168) Try.func13 rfl rfl rfl ?_
  refine g_seq ?_
  refine g_region ?_
  refine s_y (y_assign rfl) rfl rfl rfl rfl ?_
  refine s_nil ?_
  refine g_then ?_
  refine g_seq ?_
  refine g_region ?_
  refine s_y (y_move rfl) rfl rfl rfl rfl ?_
  refine s_tr (t_callm rfl rfl ent_17 (fun w h => by have h_ := list_any w _ g (hg.below h.below); rw [List.take_of_length_le (by omega)] at h_; exact h_)) rfl rfl rfl rfl (fun x2 hx3 => ?_)
  obtain ⟨vo1, mo1⟩ := x2
  obtain ⟨hOo1, hEo1⟩ := hx3
  refine s_y (y_move rfl) rfl rfl rfl rfl ?_
  refine s_tr (t_callm rfl rfl ent_24 (fun w h => Lift_yes w _ g (hOo1.rd fun p hp => h.at_ p (mem_al mo1 hp)) b hA.1 hA.2.1 hA.2.2)) rfl rfl rfl rfl (fun x5 hx6 => ?_)
  obtain ⟨vo4, mo4⟩ := x5
  obtain ⟨hOo4, hEo4⟩ := hx6
  refine s_y (y_move rfl) rfl rfl rfl rfl ?_
  refine s_y (y_extract rfl rfl) rfl rfl rfl rfl ?_
  refine s_y (y_extract rfl rfl) rfl rfl rfl rfl ?_
  refine s_y (y_assign rfl) rfl rfl rfl rfl ?_
  refine s_y (y_assign rfl) rfl rfl rfl rfl ?_
  refine s_nil ?_
  refine g_then ?_
  refine g_seq ?_
  refine g_region ?_
  refine s_y (y_move rfl) rfl rfl rfl rfl ?_
  refine s_tr (t_callm rfl rfl ent_17 (fun w h => by have h_ := list_any w _ s (hs.below h.below); rw [List.take_of_length_le (by omega)] at h_; exact h_)) rfl rfl rfl rfl (fun x8 hx9 => ?_)
  obtain ⟨vo7, mo7⟩ := x8
  obtain ⟨hOo7, hEo7⟩ := hx9
  refine s_y (y_move rfl) rfl rfl rfl rfl ?_
  refine s_tr (t_callm rfl rfl ent_24 (fun w h => Lift_yes w _ s (hOo7.rd fun p hp => h.at_ p (mem_al mo7 hp)) b hB.1 hB.2.1 hB.2.2)) rfl rfl rfl rfl (fun x11 hx12 => ?_)
  obtain ⟨vo10, mo10⟩ := x11
  obtain ⟨hOo10, hEo10⟩ := hx12
  refine s_y (y_move rfl) rfl rfl rfl rfl ?_
  refine s_y (y_extract rfl rfl) rfl rfl rfl rfl ?_
  refine s_y (y_extract rfl rfl) rfl rfl rfl rfl ?_
  refine s_y (y_assign rfl) rfl rfl rfl rfl ?_
  refine s_y (y_assign rfl) rfl rfl rfl rfl ?_
  refine s_nil ?_
  refine g_then ?_
  refine g_seq ?_
  refine g_seq ?_
  refine g_region ?_
  refine s_y (y_move rfl) rfl rfl rfl rfl ?_
  refine s_y (y_neq_f rfl rfl (by decide)) rfl rfl rfl rfl ?_
  refine s_y (y_move rfl) rfl rfl rfl rfl ?_
  refine s_y (y_move rfl) rfl rfl rfl rfl ?_
  refine s_y (y_neq_f rfl rfl (by decide)) rfl rfl rfl rfl ?_
  refine s_y (y_pick_f rfl rfl) rfl rfl rfl rfl ?_
  refine s_y (y_move rfl) rfl rfl rfl rfl ?_
  refine s_y (y_move rfl) rfl rfl rfl rfl ?_
  refine s_y (y_move rfl) rfl rfl rfl rfl ?_
  refine s_tr (t_call rfl rfl ent_22 (fun w h => by have h_ := pair_any w _ _ g s (hg.below h.below) (hs.below h.below) hgl hsl; rwa [hp] at h_)) rfl rfl rfl rfl (fun _ _ => ?_)
  refine s_y (y_not_f rfl) rfl rfl rfl rfl ?_
  refine s_y (y_pick_f rfl rfl) rfl rfl rfl rfl ?_
  refine s_nil ?_
  refine g_then ?_
  refine g_cond_t rfl ?_
  refine g_seq ?_
  refine g_region ?_
  refine s_y (y_move rfl) rfl rfl rfl rfl ?_
  refine s_y (y_eql_t rfl rfl (by decide)) rfl rfl rfl rfl ?_
  refine s_y (y_move rfl) rfl rfl rfl rfl ?_
  refine s_no rfl rfl rfl ?_
  refine s_no rfl rfl rfl ?_
  refine s_y (y_pick_t rfl rfl) rfl rfl rfl rfl ?_
  refine s_y (y_move rfl) rfl rfl rfl rfl ?_
  refine s_no rfl rfl rfl ?_
  refine s_no rfl rfl rfl ?_
  refine s_y (y_pick_t rfl rfl) rfl rfl rfl rfl ?_
  refine s_y (y_move rfl) rfl rfl rfl rfl ?_
  refine s_tr (t_call rfl rfl ent_19 (fun w h => awake_t w)) rfl rfl rfl rfl (fun _ _ => ?_)
  refine s_y (y_pick_t rfl rfl) rfl rfl rfl rfl ?_
  refine s_y (y_assign rfl) rfl rfl rfl rfl ?_
  refine s_nil ?_
  refine g_then ?_
  refine g_ret ?_
  refine g_thenr ?_
  exact g_end trivial (fun a w ha hq_ => res1 ha rfl rfl  w) (fun w h => ⟨rfl, h.below⟩)

theorem DuetsLifted_yes (w : World) (v : Value) (g : List Int) (v' : Value) (s : List Int) (b : Int) (hg : RdV (Value.int .i64) w v g) (hs : RdV (Value.int .i64) w v' s) (hA : LiftOK g b) (hB : LiftOK s b) (hp : pairB g s = true) :
    Calls Try.prog 13 [v, v', .int .i64 b].toArray w fun e w' => e = .returned (.bool true) ∧ Below w.heap.size w w' := by
  obtain ⟨⟨hgl, hgn⟩, hsn, hln⟩ := pair_facts hp
  have hb20 := hA.2.1
  have hl7 := liftL_len g b
  have hl8 := liftL_len s b
  have hpl : pairB (liftL g b) (liftL s b) = true := by unfold pairB; rw [hA.2.2, hB.2.2, hl7, hl8, decide_eq_true hln]; rfl
  refine enter (N := 168) Try.func13 rfl rfl rfl ?_
  refine g_seq ?_
  refine g_region ?_
  refine s_y (y_assign rfl) rfl rfl rfl rfl ?_
  refine s_nil ?_
  refine g_then ?_
  refine g_seq ?_
  refine g_region ?_
  refine s_y (y_move rfl) rfl rfl rfl rfl ?_
  refine s_tr (t_callm rfl rfl ent_17 (fun w h => by have h_ := list_any w _ g (hg.below h.below); rw [List.take_of_length_le (by omega)] at h_; exact h_)) rfl rfl rfl rfl (fun x2 hx3 => ?_)
  obtain ⟨vo1, mo1⟩ := x2
  obtain ⟨hOo1, hEo1⟩ := hx3
  refine s_y (y_move rfl) rfl rfl rfl rfl ?_
  refine s_tr (t_callm rfl rfl ent_24 (fun w h => Lift_yes w _ g (hOo1.rd fun p hp => h.at_ p (mem_al mo1 hp)) b hA.1 hA.2.1 hA.2.2)) rfl rfl rfl rfl (fun x5 hx6 => ?_)
  obtain ⟨vo4, mo4⟩ := x5
  obtain ⟨hOo4, hEo4⟩ := hx6
  refine s_y (y_move rfl) rfl rfl rfl rfl ?_
  refine s_y (y_extract rfl rfl) rfl rfl rfl rfl ?_
  refine s_y (y_extract rfl rfl) rfl rfl rfl rfl ?_
  refine s_y (y_assign rfl) rfl rfl rfl rfl ?_
  refine s_y (y_assign rfl) rfl rfl rfl rfl ?_
  refine s_nil ?_
  refine g_then ?_
  refine g_seq ?_
  refine g_region ?_
  refine s_y (y_move rfl) rfl rfl rfl rfl ?_
  refine s_tr (t_callm rfl rfl ent_17 (fun w h => by have h_ := list_any w _ s (hs.below h.below); rw [List.take_of_length_le (by omega)] at h_; exact h_)) rfl rfl rfl rfl (fun x8 hx9 => ?_)
  obtain ⟨vo7, mo7⟩ := x8
  obtain ⟨hOo7, hEo7⟩ := hx9
  refine s_y (y_move rfl) rfl rfl rfl rfl ?_
  refine s_tr (t_callm rfl rfl ent_24 (fun w h => Lift_yes w _ s (hOo7.rd fun p hp => h.at_ p (mem_al mo7 hp)) b hB.1 hB.2.1 hB.2.2)) rfl rfl rfl rfl (fun x11 hx12 => ?_)
  obtain ⟨vo10, mo10⟩ := x11
  obtain ⟨hOo10, hEo10⟩ := hx12
  refine s_y (y_move rfl) rfl rfl rfl rfl ?_
  refine s_y (y_extract rfl rfl) rfl rfl rfl rfl ?_
  refine s_y (y_extract rfl rfl) rfl rfl rfl rfl ?_
  refine s_y (y_assign rfl) rfl rfl rfl rfl ?_
  refine s_y (y_assign rfl) rfl rfl rfl rfl ?_
  refine s_nil ?_
  refine g_then ?_
  refine g_seq ?_
  refine g_seq ?_
  refine g_region ?_
  refine s_y (y_move rfl) rfl rfl rfl rfl ?_
  refine s_y (y_neq_f rfl rfl (by decide)) rfl rfl rfl rfl ?_
  refine s_y (y_move rfl) rfl rfl rfl rfl ?_
  refine s_y (y_move rfl) rfl rfl rfl rfl ?_
  refine s_y (y_neq_f rfl rfl (by decide)) rfl rfl rfl rfl ?_
  refine s_y (y_pick_f rfl rfl) rfl rfl rfl rfl ?_
  refine s_y (y_move rfl) rfl rfl rfl rfl ?_
  refine s_y (y_move rfl) rfl rfl rfl rfl ?_
  refine s_y (y_move rfl) rfl rfl rfl rfl ?_
  refine s_tr (t_call rfl rfl ent_22 (fun w h => by have h_ := pair_any w _ _ g s (hg.below h.below) (hs.below h.below) (by omega) (by omega); rwa [hp] at h_)) rfl rfl rfl rfl (fun _ _ => ?_)
  refine s_y (y_not_t rfl) rfl rfl rfl rfl ?_
  refine s_y (y_pick_f rfl rfl) rfl rfl rfl rfl ?_
  refine s_nil ?_
  refine g_then ?_
  refine g_cond_f rfl ?_
  refine g_skip ?_
  refine g_then ?_
  refine g_seq ?_
  refine g_region ?_
  refine s_y (y_move rfl) rfl rfl rfl rfl ?_
  refine s_tr (t_callm rfl rfl ent_17 (fun w h => by have h_ := list_any w _ g (hg.below h.below); rw [List.take_of_length_le (by omega)] at h_; exact h_)) rfl rfl rfl rfl (fun x14 hx15 => ?_)
  obtain ⟨vo13, mo13⟩ := x14
  obtain ⟨hOo13, hEo13⟩ := hx15
  refine s_y (y_move rfl) rfl rfl rfl rfl ?_
  refine s_tr (t_callm rfl rfl ent_17 (fun w h => by have h_ := list_any w _ s (hs.below h.below); rw [List.take_of_length_le (by omega)] at h_; exact h_)) rfl rfl rfl rfl (fun x17 hx18 => ?_)
  obtain ⟨vo16, mo16⟩ := x17
  obtain ⟨hOo16, hEo16⟩ := hx18
  refine s_tr (t_call rfl rfl ent_21 (fun w h => Check_ok w _ _ g s (hOo13.rd fun p hp => h.at_ p (mem_ar mo16 (mem_al mo13 hp))) (hOo16.rd fun p hp => h.at_ p (mem_al mo16 hp)) hp)) rfl rfl rfl rfl (fun _ _ => ?_)
  refine s_y (y_move rfl) rfl rfl rfl rfl ?_
  refine s_y (y_extract rfl rfl) rfl rfl rfl rfl ?_
  refine s_y (y_extract rfl rfl) rfl rfl rfl rfl ?_
  refine s_y (y_extract rfl rfl) rfl rfl rfl rfl ?_
  refine s_y (y_assign rfl) rfl rfl rfl rfl ?_
  refine s_y (y_assign rfl) rfl rfl rfl rfl ?_
  refine s_y (y_assign rfl) rfl rfl rfl rfl ?_
  refine s_nil ?_
  refine g_then ?_
  refine g_seq ?_
  refine g_region ?_
  refine s_y (y_move rfl) rfl rfl rfl rfl ?_
  refine s_tr (t_callm rfl rfl ent_44 (fun w h => Clone_any w _ (liftL g b) (hOo4.rd fun p hp => h.at_ p (mem_ar mo16 (mem_ar mo13 (mem_ar mo10 (mem_ar mo7 (mem_al mo4 hp)))))) (by first | omega | (rw [liftL_len]; omega) | simp))) rfl rfl rfl rfl (fun x20 hx21 => ?_)
  obtain ⟨vo19, mo19⟩ := x20
  obtain ⟨hOo19, hEo19⟩ := hx21
  refine s_y (y_move rfl) rfl rfl rfl rfl ?_
  refine s_tr (t_callm rfl rfl ent_44 (fun w h => Clone_any w _ (liftL s b) (hOo10.rd fun p hp => h.at_ p (mem_ar mo19 (mem_ar mo16 (mem_ar mo13 (mem_al mo10 hp))))) (by first | omega | (rw [liftL_len]; omega) | simp))) rfl rfl rfl rfl (fun x23 hx24 => ?_)
  obtain ⟨vo22, mo22⟩ := x23
  obtain ⟨hOo22, hEo22⟩ := hx24
  refine s_tr (t_call rfl rfl ent_21 (fun w h => by have h_ := Check_ok w _ _ (liftL g b) (liftL s b) (hOo19.rd fun p hp => h.at_ p (mem_ar mo22 (mem_al mo19 hp))) (hOo22.rd fun p hp => h.at_ p (mem_al mo22 hp)) hpl; rw [chkD_lift hln] at h_; exact h_)) rfl rfl rfl rfl (fun _ _ => ?_)
  refine s_y (y_move rfl) rfl rfl rfl rfl ?_
  refine s_y (y_extract rfl rfl) rfl rfl rfl rfl ?_
  refine s_y (y_extract rfl rfl) rfl rfl rfl rfl ?_
  refine s_y (y_extract rfl rfl) rfl rfl rfl rfl ?_
  refine s_y (y_assign rfl) rfl rfl rfl rfl ?_
  refine s_y (y_assign rfl) rfl rfl rfl rfl ?_
  refine s_y (y_assign rfl) rfl rfl rfl rfl ?_
  refine s_nil ?_
  refine g_then ?_
  refine g_seq ?_
  refine g_region ?_
  refine s_y (y_move rfl) rfl rfl rfl rfl ?_
  refine s_tr (t_callm rfl rfl ent_17 (fun w h => by have h_ := list_any w _ g (hg.below h.below); rw [List.take_of_length_le (by omega)] at h_; exact h_)) rfl rfl rfl rfl (fun x26 hx27 => ?_)
  obtain ⟨vo25, mo25⟩ := x26
  obtain ⟨hOo25, hEo25⟩ := hx27
  refine s_y (y_move rfl) rfl rfl rfl rfl ?_
  refine s_tr (t_callm rfl rfl ent_17 (fun w h => by have h_ := list_any w _ s (hs.below h.below); rw [List.take_of_length_le (by omega)] at h_; exact h_)) rfl rfl rfl rfl (fun x29 hx30 => ?_)
  obtain ⟨vo28, mo28⟩ := x29
  obtain ⟨hOo28, hEo28⟩ := hx30
  refine s_tr (t_call rfl rfl ent_40 (fun w h => Worth_ok w _ _ g s (hOo25.rd fun p hp => h.at_ p (mem_ar mo28 (mem_al mo25 hp))) (hOo28.rd fun p hp => h.at_ p (mem_al mo28 hp)) hp)) rfl rfl rfl rfl (fun _ _ => ?_)
  refine s_y (y_move rfl) rfl rfl rfl rfl ?_
  refine s_y (y_extract rfl rfl) rfl rfl rfl rfl ?_
  refine s_y (y_extract rfl rfl) rfl rfl rfl rfl ?_
  refine s_y (y_assign rfl) rfl rfl rfl rfl ?_
  refine s_y (y_assign rfl) rfl rfl rfl rfl ?_
  refine s_nil ?_
  refine g_then ?_
  refine g_seq ?_
  refine g_region ?_
  refine s_y (y_move rfl) rfl rfl rfl rfl ?_
  refine s_tr (t_callm rfl rfl ent_44 (fun w h => Clone_any w _ (liftL g b) (hOo4.rd fun p hp => h.at_ p (mem_ar mo28 (mem_ar mo25 (mem_ar mo22 (mem_ar mo19 (mem_ar mo16 (mem_ar mo13 (mem_ar mo10 (mem_ar mo7 (mem_al mo4 hp)))))))))) (by first | omega | (rw [liftL_len]; omega) | simp))) rfl rfl rfl rfl (fun x32 hx33 => ?_)
  obtain ⟨vo31, mo31⟩ := x32
  obtain ⟨hOo31, hEo31⟩ := hx33
  refine s_y (y_move rfl) rfl rfl rfl rfl ?_
  refine s_tr (t_callm rfl rfl ent_44 (fun w h => Clone_any w _ (liftL s b) (hOo10.rd fun p hp => h.at_ p (mem_ar mo31 (mem_ar mo28 (mem_ar mo25 (mem_ar mo22 (mem_ar mo19 (mem_ar mo16 (mem_ar mo13 (mem_al mo10 hp))))))))) (by first | omega | (rw [liftL_len]; omega) | simp))) rfl rfl rfl rfl (fun x35 hx36 => ?_)
  obtain ⟨vo34, mo34⟩ := x35
  obtain ⟨hOo34, hEo34⟩ := hx36
  refine s_tr (t_call rfl rfl ent_40 (fun w h => by have h_ := Worth_ok w _ _ (liftL g b) (liftL s b) (hOo31.rd fun p hp => h.at_ p (mem_ar mo34 (mem_al mo31 hp))) (hOo34.rd fun p hp => h.at_ p (mem_al mo34 hp)) hpl; rw [wthD_lift hln] at h_; exact h_)) rfl rfl rfl rfl (fun _ _ => ?_)
  refine s_y (y_move rfl) rfl rfl rfl rfl ?_
  refine s_y (y_extract rfl rfl) rfl rfl rfl rfl ?_
  refine s_y (y_extract rfl rfl) rfl rfl rfl rfl ?_
  refine s_y (y_assign rfl) rfl rfl rfl rfl ?_
  refine s_y (y_assign rfl) rfl rfl rfl rfl ?_
  refine s_nil ?_
  refine g_then ?_
  refine g_seq ?_
  refine g_seq ?_
  refine g_region ?_
  refine s_y (y_move rfl) rfl rfl rfl rfl ?_
  refine s_y (y_move rfl) rfl rfl rfl rfl ?_
  refine s_y (y_neq_f rfl rfl (rfl)) rfl rfl rfl rfl ?_
  refine s_y (y_move rfl) rfl rfl rfl rfl ?_
  refine s_y (y_move rfl) rfl rfl rfl rfl ?_
  refine s_y (y_move rfl) rfl rfl rfl rfl ?_
  refine s_y (y_neq_f rfl rfl (rfl)) rfl rfl rfl rfl ?_
  refine s_y (y_pick_f rfl rfl) rfl rfl rfl rfl ?_
  refine s_y (y_move rfl) rfl rfl rfl rfl ?_
  refine s_y (y_move rfl) rfl rfl rfl rfl ?_
  refine s_y (y_move rfl) rfl rfl rfl rfl ?_
  refine s_y (y_neq_f rfl rfl (rfl)) rfl rfl rfl rfl ?_
  refine s_y (y_pick_f rfl rfl) rfl rfl rfl rfl ?_
  refine s_y (y_move rfl) rfl rfl rfl rfl ?_
  refine s_y (y_move rfl) rfl rfl rfl rfl ?_
  refine s_y (y_move rfl) rfl rfl rfl rfl ?_
  refine s_y (y_neq_f rfl rfl (rfl)) rfl rfl rfl rfl ?_
  refine s_y (y_pick_f rfl rfl) rfl rfl rfl rfl ?_
  refine s_y (y_move rfl) rfl rfl rfl rfl ?_
  refine s_y (y_move rfl) rfl rfl rfl rfl ?_
  refine s_y (y_move rfl) rfl rfl rfl rfl ?_
  refine s_y (y_neq_f rfl rfl (rfl)) rfl rfl rfl rfl ?_
  refine s_y (y_pick_f rfl rfl) rfl rfl rfl rfl ?_
  refine s_y (y_move rfl) rfl rfl rfl rfl ?_
  refine s_y (y_move rfl) rfl rfl rfl rfl ?_
  refine s_y (y_lenV (n := ((liftL g b).length)) rfl hOo4.1 sle_22) rfl rfl rfl rfl ?_
  refine s_y (y_move rfl) rfl rfl rfl rfl ?_
  refine s_y (y_lenV (n := g.length) rfl (by obtain ⟨A, c, h1, _⟩ := hg; exact ⟨A, c, h1⟩) sle_22) rfl rfl rfl rfl ?_
  refine s_y (y_neq_f rfl rfl (by first | omega | (rw [liftL_len]; omega) | simp [liftL_len])) rfl rfl rfl rfl ?_
  refine s_y (y_pick_f rfl rfl) rfl rfl rfl rfl ?_
  refine s_y (y_move rfl) rfl rfl rfl rfl ?_
  refine s_y (y_move rfl) rfl rfl rfl rfl ?_
  refine s_y (y_lss_f rfl rfl (by first | omega | (rw [liftL_len]; omega) | simp [liftL_len])) rfl rfl rfl rfl ?_
  refine s_y (y_pick_f rfl rfl) rfl rfl rfl rfl ?_
  refine s_y (y_move rfl) rfl rfl rfl rfl ?_
  refine s_y (y_move rfl) rfl rfl rfl rfl ?_
  refine s_y (y_gtr_f rfl rfl (by first | omega | (rw [liftL_len]; omega) | simp [liftL_len])) rfl rfl rfl rfl ?_
  refine s_y (y_pick_f rfl rfl) rfl rfl rfl rfl ?_
  refine s_nil ?_
  refine g_then ?_
  refine g_cond_f rfl ?_
  refine g_skip ?_
  refine g_then ?_
  refine g_seq ?_
  refine g_seq ?_
  refine g_region ?_
  refine s_y (y_move rfl) rfl rfl rfl rfl ?_
  refine s_y (y_lenV (n := ((liftL g b).length)) rfl hOo4.1 sle_22) rfl rfl rfl rfl ?_
  refine s_y (y_move rfl) rfl rfl rfl rfl ?_
  refine s_nil ?_
  refine g_then ?_
  refine g_block ?_
  refine g_loop (fun (i : Nat) act W => i ≤ g.length ∧ ∃ (w1 : World), Has 168 [] [(0, v), (2, .int .i64 b), (7, vo4), (13, .int .i64 ((chkD g s).2.2)), (135, .int .i64 ((liftL g b).length : Nat)), (136, .int .i64 (i : Int))] act ∧ Hp w w1 ((mo34 ++ ((mo31 ++ ((mo28 ++ ((mo25 ++ ((mo22 ++ ((mo19 ++ ((mo16 ++ ((mo13 ++ ((mo10 ++ ((mo7 ++ ((mo4 ++ ((mo1 ++ ([]))))))))))))))))))))))))) W) (fun i => g.length - i) 0 (fun act W ha hw => ⟨by omega, W, ha.weak (sub_get ⟨rfl, rfl, rfl, rfl, rfl, rfl, trivial⟩), hw.toHq.lookSub (List.Sublist.refl _)⟩) ?_
  intro i act W ⟨hb_i, w1, ha, hw⟩
  refine g_go ha hw ?_
  clear ha hw act W
  refine g_seq ?_
  refine g_region ?_
  refine s_y (y_lss rfl rfl) rfl rfl rfl rfl ?_
  refine s_nil ?_
  refine g_then ?_
  refine g_seq ?_
  refine g_cond rfl (fun cq37 => ?_) (fun cq37 => ?_)
  · (try simp at cq37)
    refine g_skip ?_
    refine g_then ?_
    refine g_seq ?_
    refine g_block ?_
    refine g_seq ?_
    refine g_region ?_
    refine s_y (y_move rfl) rfl rfl rfl rfl ?_
    refine s_y (y_assign rfl) rfl rfl rfl rfl ?_
    refine s_nil ?_
    refine g_then ?_
    refine g_seq ?_
    have g0 := notes_at hgn (i := (i : Int)) (by omega) (by omega)
    have l0 := notes_at (partB_true.1 hA.2.2).2 (i := (i : Int)) (by omega) (by rw [liftL_len]; omega)
    have l1 := liftL_at (xs := g) (b := b) (i := i) (by omega)
    refine g_draw 11 (by kernel_rfl) ?_
    refine j_p (i := 0) rfl (y_move rfl) (by kernel_rfl) (by kernel_rfl) (by kernel_rfl) rfl rfl rfl rfl rfl (.inr (fun _ h => h)) ?_
    refine j_p (i := 1) rfl (y_move rfl) (by kernel_rfl) (by kernel_rfl) (by kernel_rfl) rfl rfl rfl rfl rfl (.inr (fun _ h => h)) ?_
    refine j_p (i := 2) rfl (y_idxO (enc := (Value.int .i64)) rfl rfl hOo4 hEo4 Try.underlying22 size_3 (by omega) (by omega)) (by kernel_rfl) (by kernel_rfl) (by kernel_rfl) rfl rfl rfl rfl rfl (.inr (fun _ h => h)) ?_
    refine j_l (i := 3) rfl (y_ldV (enc := (Value.int .i64)) (xs := liftL g b) (fun w h => (hOo4.rd fun p hp => h.at_ p (mem_ar mo34 (mem_ar mo31 (mem_ar mo28 (mem_ar mo25 (mem_ar mo22 (mem_ar mo19 (mem_ar mo16 (mem_ar mo13 (mem_ar mo10 (mem_ar mo7 (mem_al mo4 hp)))))))))))).rdl) rfl agg_3 (rdI_at (by omega) (by omega))) (by kernel_rfl) (by kernel_rfl) (by kernel_rfl) (by kernel_rfl) rfl rfl rfl rfl rfl (.inr (fun _ h => h)) ?_
    refine j_p (i := 4) rfl (y_move rfl) (by kernel_rfl) (by kernel_rfl) (by kernel_rfl) rfl rfl rfl rfl rfl (.inr (fun _ h => h)) ?_
    refine j_p (i := 5) rfl (y_move rfl) (by kernel_rfl) (by kernel_rfl) (by kernel_rfl) rfl rfl rfl rfl rfl (.inr (fun _ h => h)) ?_
    refine j_p (i := 6) rfl (y_idxV (enc := (Value.int .i64)) rfl rfl hg Try.underlying22 size_3 (by omega) (by omega)) (by kernel_rfl) (by kernel_rfl) (by kernel_rfl) rfl rfl rfl rfl rfl (.inr (fun _ h => h)) ?_
    refine j_l (i := 7) rfl (y_ldV (enc := (Value.int .i64)) (xs := g) (fun w h => hg.rdl.below h.below) rfl agg_3 (rdI_at (by omega) (by omega))) (by kernel_rfl) (by kernel_rfl) (by kernel_rfl) (by kernel_rfl) rfl rfl rfl rfl rfl (.inr (fun _ h => h)) ?_
    refine j_p (i := 8) rfl (y_sub rfl rfl (by omega) (by omega)) (by kernel_rfl) (by kernel_rfl) (by kernel_rfl) rfl rfl rfl rfl rfl (.inr (fun _ h => h)) ?_
    refine j_p (i := 9) rfl (y_move rfl) (by kernel_rfl) (by kernel_rfl) (by kernel_rfl) rfl rfl rfl rfl rfl (.inr (fun _ h => h)) ?_
    refine j_p (i := 10) rfl (y_neq_f rfl rfl (by first | omega | (rw [liftL_len]; omega) | simp [liftL_len])) (by kernel_rfl) (by kernel_rfl) (by kernel_rfl) rfl rfl rfl rfl rfl (.inr (fun _ h => h)) ?_
    refine j_nil (by kernel_rfl) ?_
    refine g_then ?_
    refine g_cond_f rfl ?_
    refine g_skip ?_
    refine g_inb ?_
    refine g_then ?_
    refine g_region ?_
    refine s_y (y_add rfl rfl (by omega) (by omega)) rfl rfl rfl rfl ?_
    refine s_y (y_move rfl) rfl rfl rfl rfl ?_
    refine s_nil ?_
    refine g_then ?_
    exact fun act W ha hw => ⟨i + 1, by omega, by omega, W, ha.weak (sub_get ⟨rfl, rfl, rfl, rfl, rfl, rfl, trivial⟩), hw.toHq.lookSub (List.Sublist.refl _)⟩
  · (try simp at cq37)
    refine g_exit ?_
    refine g_thenx ?_
    refine g_thenx ?_
    refine g_inbx ?_
    refine g_then ?_
    refine g_seq ?_
    refine g_region ?_
    refine s_y (y_move rfl) rfl rfl rfl rfl ?_
    refine s_y (y_move rfl) rfl rfl rfl rfl ?_
    refine s_y (y_neg rfl (by omega) (by omega)) rfl rfl rfl rfl ?_
    refine s_tr (t_callm rfl rfl ent_24 (fun w h => Lift_yes w _ (liftL g b) (hOo4.rd fun p hp => h.at_ p (mem_ar mo34 (mem_ar mo31 (mem_ar mo28 (mem_ar mo25 (mem_ar mo22 (mem_ar mo19 (mem_ar mo16 (mem_ar mo13 (mem_ar mo10 (mem_ar mo7 (mem_al mo4 hp)))))))))))) (0 - b) hA.2.2 (by omega) (by rw [liftL_back]; exact hA.1))) rfl rfl rfl rfl (fun x39 hx40 => ?_)
    obtain ⟨vo38, mo38⟩ := x39
    obtain ⟨hOo38, hEo38⟩ := hx40
    refine s_y (y_move rfl) rfl rfl rfl rfl ?_
    refine s_y (y_extract rfl rfl) rfl rfl rfl rfl ?_
    refine s_y (y_extract rfl rfl) rfl rfl rfl rfl ?_
    refine s_y (y_assign rfl) rfl rfl rfl rfl ?_
    refine s_y (y_assign rfl) rfl rfl rfl rfl ?_
    refine s_nil ?_
    refine g_then ?_
    refine g_seq ?_
    refine g_region ?_
    refine s_y (y_move rfl) rfl rfl rfl rfl ?_
    refine s_y (y_eql_t rfl rfl (by decide)) rfl rfl rfl rfl ?_
    refine s_y (y_move rfl) rfl rfl rfl rfl ?_
    refine s_y (y_move rfl) rfl rfl rfl rfl ?_
    refine s_y (y_move rfl) rfl rfl rfl rfl ?_
    refine s_tr (t_call rfl rfl ent_26 (fun w h => by have h_ := Equal_any w _ _ (liftL (liftL g b) (0 - b)) g (hOo38.rd fun p hp => h.at_ p (mem_al mo38 hp)) (hg.below h.below) (by first | omega | (rw [liftL_len]; omega) | simp); rw [decide_eq_true (liftL_back g b)] at h_; exact h_)) rfl rfl rfl rfl (fun _ _ => ?_)
    refine s_y (y_pick_t rfl rfl) rfl rfl rfl rfl ?_
    refine s_y (y_move rfl) rfl rfl rfl rfl ?_
    refine s_tr (t_call rfl rfl ent_19 (fun w h => awake_t w)) rfl rfl rfl rfl (fun _ _ => ?_)
    refine s_y (y_pick_t rfl rfl) rfl rfl rfl rfl ?_
    refine s_y (y_assign rfl) rfl rfl rfl rfl ?_
    refine s_nil ?_
    refine g_then ?_
    refine g_ret ?_
    exact g_end trivial (fun a w ha hq_ => res1 ha rfl rfl  w) (fun w h => ⟨rfl, h.below⟩)

theorem DuetsLifted_law (w : World) (v : Value) (g : List Int) (v' : Value) (s : List Int) (b : Int) (hg : RdV (Value.int .i64) w v g) (hgl : g.length ≤ maxLen) (wg : ∀ x ∈ g, (Lit.int .i64 x).wf = true) (hs : RdV (Value.int .i64) w v' s) (hsl : s.length ≤ maxLen) (ws : ∀ x ∈ s, (Lit.int .i64 x).wf = true) (wb : (Lit.int .i64 b).wf = true) : Calls Try.prog 13 [v, v', .int .i64 b].toArray w fun e w' => e = .returned (.bool true) ∧ Below w.heap.size w w' := by
  have hmx : (maxLen : Nat) = 9223372036854775807 := rfl
  cases hp1 : partB g with
  | false =>
    by_cases hB : LiftOK s b
    · exact DuetsLifted_bad_B w v g v' s b hg hs (by omega) (by omega) hp1 hB
    · exact DuetsLifted_bad_n w v g v' s b hg hs (by omega) (by omega) hp1 hB
  | true =>
    by_cases hA : LiftOK g b
    · by_cases hB : LiftOK s b
      · cases hp : pairB g s with
        | true => exact DuetsLifted_yes w v g v' s b hg hs hA hB hp
        | false => exact DuetsLifted_A_B w v g v' s b hg hs (by omega) (by omega) hA hB hp
      · exact DuetsLifted_A_n w v g v' s b hg hs (by omega) (by omega) hA hB
    · by_cases hB : LiftOK s b
      · exact DuetsLifted_none_B w v g v' s b hg hs (by omega) (by omega) hp1 hA hB
      · exact DuetsLifted_none_n w v g v' s b hg hs (by omega) (by omega) hp1 hA hB

end Go.Proofs.Ytolalckejnijkaa
