/- Over, and what it calls. -/
import Derived.Test.YtnnpdgegejklpaaProg
import Derived.Test.YtnnpdgegejklpaaOvMath
import Derived.Test.YtnnpdgegejklpaaSxLookS
namespace Go.Proofs.Ytnnpdgegejklpaa
open Go.RowKit Go.Sx Go.WideMaps
set_option linter.unusedVariables false
set_option linter.unusedSimpArgs false
set_option maxRecDepth 100000
set_option maxHeartbeats 4000000

private theorem sle_46 : Try.prog.underlying 46 = some (.slice (Try.prog.elem 46)) := by kernel_rfl
private theorem size_3 : (Try.prog.info? 3).map (·.size) = some 1 := by kernel_rfl
private theorem agg_3 : isAggB Try.prog 3 = some false := by kernel_rfl
private theorem ent_92 : Enters Try.prog 92 := enters_of Try.func92 (by kernel_rfl) rfl
private theorem ent_91 : Enters Try.prog 91 := enters_of Try.func91 (by kernel_rfl) rfl
private theorem bld_79_0_1 (x0 : Int) (x1 : Int) (w : World) : (Instr.build 79 #[(0, (.int .i64 x0)), (1, (.int .i64 x1))]).run Try.prog w = .ok (.agg #[(.int .i64 x0), (.int .i64 x1)]) w := by kernel_rfl
private theorem inf_79 : ∃ ie, Try.prog.info? 79 = some ie ∧ ie.zero = some (.agg #[(.int .i64 0), (.int .i64 0)]) ∧ ie.size = 2 ∧ ie.bytes = 16 := info_of (by kernel_rfl) (by kernel_rfl)
private theorem ent_84 : Enters Try.prog 84 := enters_of Try.func84 (by kernel_rfl) rfl
private theorem sle_74 : Try.prog.underlying 74 = some (.slice (Try.prog.elem 74)) := by kernel_rfl
private theorem size_79 : (Try.prog.info? 79).map (·.size) = some 2 := by kernel_rfl
private theorem agg_79 : isAggB Try.prog 79 = some true := by kernel_rfl
private theorem zero_79 : (Try.prog.info? 79).bind (·.zero) = some (.agg #[(.int .i64 0), (.int .i64 0)]) := by kernel_rfl
private theorem ent_82 : Enters Try.prog 82 := enters_of Try.func82 (by kernel_rfl) rfl
private theorem ent_83 : Enters Try.prog 83 := enters_of Try.func83 (by kernel_rfl) rfl

theorem pair_map : KeyG Try.prog 93 79 3 kvp okp (.int .i64 0) :=
  ⟨Try.underlying93, deep_law_gate (by kernel_rfl) (of_decide_eq_true (by kernel_rfl)) (of_decide_eq_true (by kernel_rfl)) (by kernel_rfl) (by kernel_rfl), fun k hk => key_pair Try.underlying79 Try.underlying3 (by kernel_rfl) (by kernel_rfl) (by kernel_rfl) (by kernel_rfl) (fun _ _ => by kernel_rfl) hk.1 hk.2, fun u => by kernel_rfl, kvp_inj⟩
theorem wf_i64 {z : Int} (h0 : -9223372036854775808 ≤ z) (h1 : z ≤ 9223372036854775807) : (Lit.int .i64 z).wf = true := by
  have e1 : IntKind.i64.min = -9223372036854775808 := rfl
  have e2 : IntKind.i64.max = 9223372036854775807 := rfl
  unfold Lit.wf
  simp
  omega
theorem okp_of {p : Int × Int} (h0 : -100 ≤ p.1 ∧ p.1 ≤ 100) (h1 : -100 ≤ p.2 ∧ p.2 ≤ 100) : okp p := ⟨wf_i64 (by omega) (by omega), wf_i64 (by omega) (by omega)⟩
theorem stL_ok {i j : Int} {k : Nat} (h : k < 3) (h0 : -1 ≤ i ∧ i ≤ 50) (h1 : -1 ≤ j ∧ j ≤ 50) : okp (rdP (stL i j) (k : Int)) := by
  rcases stL_at (i := i) (j := j) h with e | e | e <;> rw [e] <;> exact okp_of (by simp only; omega) (by simp only; omega)
def ml1 (x : Int) : Bool := decide (-1000 ≤ x) && decide (x ≤ 1000)
theorem mel_t {xs : List Int} (h1 : 1 ≤ xs.length) (h2 : xs.length ≤ 12) : melB xs = xs.all ml1 := by
  unfold melB; rw [decide_eq_true h1, decide_eq_true h2]; rfl
theorem mel_f1 {xs : List Int} (h : ¬ 1 ≤ xs.length) : melB xs = false := by unfold melB; rw [decide_eq_false h]; rfl
theorem mel_f2 {xs : List Int} (h : ¬ xs.length ≤ 12) : melB xs = false := by unfold melB; rw [decide_eq_false h, Bool.and_false]; rfl

theorem mel1_any (w : World) (x : Int) :
    Calls Try.prog 92 [.int .i64 x].toArray w fun e w' => e = .returned (.bool (ml1 x)) ∧ Below w.heap.size w w' := by
  refine enter (N := 9) Try.func92 rfl rfl rfl ?_
  refine g_seq ?_
  refine g_region ?_
  refine s_y (y_assign rfl) rfl rfl rfl rfl ?_
  refine s_nil ?_
  refine g_then ?_
  refine g_seq ?_
  refine g_region ?_
  refine s_y (y_move rfl) rfl rfl rfl rfl ?_
  refine s_y (y_geq rfl rfl) rfl rfl rfl rfl ?_
  refine s_y (y_move rfl) rfl rfl rfl rfl ?_
  refine g_bool 5 rfl (fun cq1 => ?_) (fun cq1 => ?_)
  · (try simp at cq1)
    refine s_y (y_move rfl) rfl rfl rfl rfl ?_
    refine s_y (y_leq rfl rfl) rfl rfl rfl rfl ?_
    refine s_y (y_pick_t rfl rfl) rfl rfl rfl rfl ?_
    refine s_y (y_assign rfl) rfl rfl rfl rfl ?_
    refine s_nil ?_
    refine g_then ?_
    refine g_ret ?_
    rw [show ml1 x = decide (x ≤ 1000) from by unfold ml1; first | rfl | (simp [decide_eq_true_eq] at *; omega) | (rw [decide_eq_true (show -1000 ≤ x by simp at *; omega)]; rfl) | (rw [decide_eq_false (show ¬ -1000 ≤ x by simp at *; omega)]; rfl)]
    exact g_end trivial (fun a w ha hq_ => res1 ha rfl rfl  w) (fun w h => ⟨rfl, h.below⟩)
  · (try simp at cq1)
    refine s_no rfl rfl rfl ?_
    refine s_no rfl rfl rfl ?_
    refine s_y (y_pick_f rfl rfl) rfl rfl rfl rfl ?_
    refine s_y (y_assign rfl) rfl rfl rfl rfl ?_
    refine s_nil ?_
    refine g_then ?_
    refine g_ret ?_
    rw [show ml1 x = false from by unfold ml1; first | rfl | (simp [decide_eq_true_eq] at *; omega) | (rw [decide_eq_true (show -1000 ≤ x by simp at *; omega)]; rfl) | (rw [decide_eq_false (show ¬ -1000 ≤ x by simp at *; omega)]; rfl)]
    exact g_end trivial (fun a w ha hq_ => res1 ha rfl rfl  w) (fun w h => ⟨rfl, h.below⟩)

theorem every_any (w : World) (v : Value) (xs : List Int) (hv : RdV (Value.int .i64) w v xs) (hl : xs.length ≤ 1000000) :
    Calls Try.prog 91 [v, (.func (.func 92) #[] #[])].toArray w fun e w' => e = .returned (.bool (xs.all ml1)) ∧ Below w.heap.size w w' := by
  refine enter (N := 18) Try.func91 rfl rfl rfl ?_
  refine g_seq ?_
  refine g_region ?_
  refine s_y (y_assign rfl) rfl rfl rfl rfl ?_
  refine s_nil ?_
  refine g_then ?_
  refine g_seq ?_
  refine g_seq ?_
  refine g_region ?_
  refine s_y (y_move rfl) rfl rfl rfl rfl ?_
  refine s_y (y_lenV (n := xs.length) rfl (by obtain ⟨A, c, h1, _⟩ := hv; exact ⟨A, c, h1⟩) sle_46) rfl rfl rfl rfl ?_
  refine s_y (y_move rfl) rfl rfl rfl rfl ?_
  refine s_nil ?_
  refine g_then ?_
  refine g_block ?_
  refine g_loop (fun (i : Nat) act W => i ≤ xs.length ∧ ∃ (w1 : World), ((xs.take i).all ml1 = true) ∧ Has 18 [] [(1, (.func (.func 92) #[] #[])), (7, v), (8, .int .i64 (xs.length : Nat)), (9, .int .i64 (i : Int))] act ∧ Hp w w1 ([]) W) (fun i => xs.length - i) 0 (fun act W ha hw => ⟨by omega, W, (by rfl), ha.weak (sub_get ⟨rfl, rfl, rfl, rfl, trivial⟩), hw.toHq.lookSub (List.Sublist.refl _)⟩) ?_
  intro i act W ⟨hb_i, w1, hall, ha, hw⟩
  refine g_go ha hw ?_
  clear ha hw act W
  refine g_seq ?_
  refine g_region ?_
  refine s_y (y_lss rfl rfl) rfl rfl rfl rfl ?_
  refine s_nil ?_
  refine g_then ?_
  refine g_seq ?_
  refine g_cond rfl (fun cq1 => ?_) (fun cq1 => ?_)
  · (try simp at cq1)
    refine g_skip ?_
    refine g_then ?_
    refine g_seq ?_
    refine g_block ?_
    refine g_seq ?_
    refine g_region ?_
    refine s_y (y_idxV (enc := (Value.int .i64)) rfl rfl hv Try.underlying46 size_3 (by omega) (by omega)) rfl rfl rfl rfl ?_
    refine s_y (y_ldV (enc := (Value.int .i64)) (xs := xs) (fun w h => hv.rdl.below h.below) rfl agg_3 (rdI_at (by omega) (by omega))) rfl rfl rfl rfl ?_
    refine s_y (y_assign rfl) rfl rfl rfl rfl ?_
    refine s_nil ?_
    refine g_then ?_
    refine g_seq ?_
    refine g_region ?_
    refine s_y (y_move rfl) rfl rfl rfl rfl ?_
    refine s_y (y_move rfl) rfl rfl rfl rfl ?_
    refine s_tr (t_call rfl rfl ent_92 (fun w h => mel1_any w (rdI xs (i : Int)))) rfl rfl rfl rfl (fun _ _ => ?_)
    refine s_y (y_not rfl) rfl rfl rfl rfl ?_
    refine s_nil ?_
    refine g_then ?_
    refine g_cond rfl (fun cq2 => ?_) (fun cq2 => ?_)
    · (try simp at cq2)
      have hml : ml1 (rdI xs (i : Int)) = false := by simpa using cq2
      refine g_seq ?_
      refine g_region ?_
      refine s_y (y_assign rfl) rfl rfl rfl rfl ?_
      refine s_nil ?_
      refine g_then ?_
      refine g_ret ?_
      refine g_inbr ?_
      refine g_thenr ?_
      refine g_thenr ?_
      refine g_inbr ?_
      refine g_thenr ?_
      rw [show xs.all ml1 = false from by rw [List.all_eq_false]; exact ⟨rdI xs (i : Int), List.mem_of_getElem? (rdI_at (by omega) (by omega)), by simp [hml]⟩]
      exact g_end trivial (fun a w ha hq_ => res1 ha rfl rfl  w) (fun w h => ⟨rfl, h.below⟩)
    · (try simp at cq2)
      have hml : ml1 (rdI xs (i : Int)) = true := by simpa using cq2
      refine g_skip ?_
      refine g_inb ?_
      refine g_then ?_
      refine g_region ?_
      refine s_y (y_add rfl rfl (by omega) (by omega)) rfl rfl rfl rfl ?_
      refine s_y (y_move rfl) rfl rfl rfl rfl ?_
      refine s_nil ?_
      refine g_then ?_
      exact fun act W ha hw => ⟨i + 1, by omega, by omega, W, (by rw [List.take_add_one, show xs[i]? = some (rdI xs (i : Int)) from by rw [rdI_nat, List.getD_eq_getElem?_getD, List.getElem?_eq_getElem (by omega)]; rfl, List.all_append, hall]; simpa using hml), ha.weak (sub_get ⟨rfl, rfl, rfl, rfl, trivial⟩), hw.toHq.lookSub (List.Sublist.refl _)⟩
  · (try simp at cq1)
    refine g_exit ?_
    refine g_thenx ?_
    refine g_thenx ?_
    refine g_inbx ?_
    refine g_then ?_
    refine g_seq ?_
    refine g_region ?_
    refine s_y (y_assign rfl) rfl rfl rfl rfl ?_
    refine s_nil ?_
    refine g_then ?_
    refine g_ret ?_
    have hi_ : i = xs.length := by omega
    rw [hi_, List.take_length] at hall
    rw [hall]
    exact g_end trivial (fun a w ha hq_ => res1 ha rfl rfl  w) (fun w h => ⟨rfl, h.below⟩)

theorem isMelody_any (w : World) (v : Value) (xs : List Int) (hv : RdV (Value.int .i64) w v xs) (hl : xs.length ≤ 9223372036854775807) :
    Calls Try.prog 82 [v].toArray w fun e w' => e = .returned (.bool (melB xs)) ∧ Below w.heap.size w w' := by
  refine enter (N := 15) Try.func82 rfl rfl rfl ?_
  refine g_seq ?_
  refine g_region ?_
  refine s_y (y_assign rfl) rfl rfl rfl rfl ?_
  refine s_nil ?_
  refine g_then ?_
  refine g_seq ?_
  refine g_region ?_
  refine s_y (y_move rfl) rfl rfl rfl rfl ?_
  refine s_y (y_lenV (n := xs.length) rfl (by obtain ⟨A, c, h1, _⟩ := hv; exact ⟨A, c, h1⟩) sle_46) rfl rfl rfl rfl ?_
  refine s_y (y_geq rfl rfl) rfl rfl rfl rfl ?_
  refine s_y (y_move rfl) rfl rfl rfl rfl ?_
  refine g_bool 6 rfl (fun cq1 => ?_) (fun cq1 => ?_)
  · (try simp at cq1)
    refine s_y (y_move rfl) rfl rfl rfl rfl ?_
    refine s_y (y_lenV (n := xs.length) rfl (by obtain ⟨A, c, h1, _⟩ := hv; exact ⟨A, c, h1⟩) sle_46) rfl rfl rfl rfl ?_
    refine s_y (y_leq rfl rfl) rfl rfl rfl rfl ?_
    refine s_y (y_pick_t rfl rfl) rfl rfl rfl rfl ?_
    refine s_y (y_move rfl) rfl rfl rfl rfl ?_
    refine g_bool 11 rfl (fun cq2 => ?_) (fun cq2 => ?_)
    · (try simp at cq2)
      refine s_y (y_move rfl) rfl rfl rfl rfl ?_
      refine s_tr (t_call rfl rfl ent_91 (fun w h => every_any w v xs (hv.below h.below) (by omega))) rfl rfl rfl rfl (fun _ _ => ?_)
      refine s_y (y_pick_t rfl rfl) rfl rfl rfl rfl ?_
      refine s_y (y_assign rfl) rfl rfl rfl rfl ?_
      refine s_nil ?_
      refine g_then ?_
      refine g_ret ?_
      rw [show melB xs = xs.all ml1 from by first | exact mel_t (by omega) (by omega) | exact mel_f1 (by omega) | exact mel_f2 (by omega)]
      exact g_end trivial (fun a w ha hq_ => res1 ha rfl rfl  w) (fun w h => ⟨rfl, h.below⟩)
    · (try simp at cq2)
      refine s_no rfl rfl rfl ?_
      refine s_no rfl rfl rfl ?_
      refine s_y (y_pick_f rfl rfl) rfl rfl rfl rfl ?_
      refine s_y (y_assign rfl) rfl rfl rfl rfl ?_
      refine s_nil ?_
      refine g_then ?_
      refine g_ret ?_
      rw [show melB xs = false from by first | exact mel_t (by omega) (by omega) | exact mel_f1 (by omega) | exact mel_f2 (by omega)]
      exact g_end trivial (fun a w ha hq_ => res1 ha rfl rfl  w) (fun w h => ⟨rfl, h.below⟩)
  · (try simp at cq1)
    refine s_no rfl rfl rfl ?_
    refine s_no rfl rfl rfl ?_
    refine s_no rfl rfl rfl ?_
    refine s_y (y_pick_f rfl rfl) rfl rfl rfl rfl ?_
    refine s_y (y_move rfl) rfl rfl rfl rfl ?_
    refine s_no rfl rfl rfl ?_
    refine s_no rfl rfl rfl ?_
    refine s_y (y_pick_f rfl rfl) rfl rfl rfl rfl ?_
    refine s_y (y_assign rfl) rfl rfl rfl rfl ?_
    refine s_nil ?_
    refine g_then ?_
    refine g_ret ?_
    rw [show melB xs = false from by first | exact mel_t (by omega) (by omega) | exact mel_f1 (by omega) | exact mel_f2 (by omega)]
    exact g_end trivial (fun a w ha hq_ => res1 ha rfl rfl  w) (fun w h => ⟨rfl, h.below⟩)

theorem steps_any (w : World) (i j : Int) (hi : -100 ≤ i ∧ i ≤ 100) (hj : -100 ≤ j ∧ j ≤ 100) :
    Calls Try.prog 84 [.int .i64 i, .int .i64 j].toArray w fun e w' => ∃ b : Nat, e = .returned (.slice (some ⟨b, 0, none⟩) 3 3) ∧ Hq w w [(b, .cells (cellsP (stL i j) ++ []).toArray 79 (0, 0))] w' := by
  obtain ⟨ie79, hi79⟩ := inf_79
  refine enter (N := 19) Try.func84 rfl rfl rfl ?_
  refine g_seq ?_
  refine g_region ?_
  refine s_y (y_assign rfl) rfl rfl rfl rfl ?_
  refine s_nil ?_
  refine g_then ?_
  refine g_seq ?_
  refine g_region ?_
  refine s_y (y_move rfl) rfl rfl rfl rfl ?_
  refine s_y (y_move rfl) rfl rfl rfl rfl ?_
  refine s_y (y_add rfl rfl (by omega) (by omega)) rfl rfl rfl rfl ?_
  refine s_y (y_build (vs := [(0, _), (1, _)]) rfl rfl (fun w => bld_79_0_1 _ _ w)) rfl rfl rfl rfl ?_
  refine s_y (y_move rfl) rfl rfl rfl rfl ?_
  refine s_y (y_add rfl rfl (by omega) (by omega)) rfl rfl rfl rfl ?_
  refine s_y (y_move rfl) rfl rfl rfl rfl ?_
  refine s_y (y_build (vs := [(0, _), (1, _)]) rfl rfl (fun w => bld_79_0_1 _ _ w)) rfl rfl rfl rfl ?_
  refine s_y (y_move rfl) rfl rfl rfl rfl ?_
  refine s_y (y_add rfl rfl (by omega) (by omega)) rfl rfl rfl rfl ?_
  refine s_y (y_move rfl) rfl rfl rfl rfl ?_
  refine s_y (y_add rfl rfl (by omega) (by omega)) rfl rfl rfl rfl ?_
  refine s_y (y_build (vs := [(0, _), (1, _)]) rfl rfl (fun w => bld_79_0_1 _ _ w)) rfl rfl rfl rfl ?_
  refine s_tr (t_build (vs := [(0, .agg #[.int .i64 i, .int .i64 (j + 1)]), (1, .agg #[.int .i64 (i + 1), .int .i64 j]), (2, .agg #[.int .i64 (i + 1), .int .i64 (j + 1)])]) (cells := [.int .i64 i, .int .i64 (j + 1), .int .i64 (i + 1), .int .i64 j, .int .i64 (i + 1), .int .i64 (j + 1)]) rfl rfl Try.underlying74 hi79.1 hi79.2.1 (by rw [hi79.2.2.1]; rfl) (by rw [hi79.2.2.1]; rfl) (by rw [hi79.2.2.1]; kernel_rfl)) rfl rfl rfl rfl (fun bs hbs => ?_)
  refine s_y (y_assign rfl) rfl rfl rfl rfl ?_
  refine s_nil ?_
  refine g_then ?_
  refine g_ret ?_
  exact g_end trivial (fun a w ha hq_ => res1 ha rfl rfl  w) (fun w h => ⟨bs, rfl, h.hand (List.Sublist.refl _)⟩)

theorem over_any (w : World) (v v' : Value) (a b : List Int) (ha : RdV (Value.int .i64) w v a) (hb : RdV (Value.int .i64) w v' b) (hma : melB a = true) (hmb_ : melB b = true) :
    Calls Try.prog 83 [v, v'].toArray w fun e w' => ∃ y : Nat × Array MapEntry × Nat, MapG kvp okp y.2.1 (Fd a b (-1) ((b.length : Int) - 1)) ∧ e = .returned (.map (some y.1)) ∧ Hq w w [(y.1, .map y.2.1 y.2.2)] w' := by
  obtain ⟨hal, hxa⟩ := melB_true.1 hma
  obtain ⟨hbl, hxb⟩ := melB_true.1 hmb_
  refine enter (N := 81) Try.func83 rfl rfl rfl ?_
  refine g_seq ?_
  refine g_region ?_
  refine s_y (y_assign rfl) rfl rfl rfl rfl ?_
  refine s_nil ?_
  refine g_then ?_
  refine g_seq ?_
  refine g_region ?_
  refine s_tr (t_makeMap) rfl rfl rfl rfl (fun mb hmb => ?_)
  refine s_y (y_assign rfl) rfl rfl rfl rfl ?_
  refine s_nil ?_
  refine g_then ?_
  refine g_seq ?_
  refine g_seq ?_
  refine g_region ?_
  refine s_y (y_move rfl) rfl rfl rfl rfl ?_
  refine s_y (y_lenV (n := a.length) rfl (by obtain ⟨A, c, h1, _⟩ := ha; exact ⟨A, c, h1⟩) sle_46) rfl rfl rfl rfl ?_
  refine s_y (y_sub rfl rfl (by omega) (by omega)) rfl rfl rfl rfl ?_
  refine s_y (y_assign rfl) rfl rfl rfl rfl ?_
  refine s_nil ?_
  refine g_then ?_
  refine g_block ?_
  refine g_loop (fun (u : Nat) act W => u ≤ a.length ∧ ∃ (zi : Int) (es : Array MapEntry) (clock : Nat) (w1 : World), (zi = (a.length : Int) - 1 - (u : Int)) ∧ (MapG kvp okp es (Fd a b zi ((b.length : Int) - 1))) ∧ Has 81 [] [(0, v), (1, v'), (4, .map none), (5, .map (some mb)), (6, .int .i64 zi)] act ∧ Hp w w1 ((mb, .map es clock) :: []) W) (fun u => a.length - u) 0 (fun act W ha hw => ⟨by omega, (a.length : Int) - 1, #[], 0, W, (by simp), (by rw [Fd_start]; exact MapG.empty), ha.weak (sub_get ⟨rfl, rfl, rfl, rfl, rfl, trivial⟩), hw.toHq.lookSub (List.Sublist.refl _)⟩) ?_
  intro u act W ⟨hb_u, zi, es, clock, w1, hzi, hM, ha, hw⟩
  refine g_go ha hw ?_
  clear ha hw act W
  refine g_seq ?_
  refine g_seq ?_
  refine g_region ?_
  refine s_y (y_move rfl) rfl rfl rfl rfl ?_
  refine s_y (y_geq rfl rfl) rfl rfl rfl rfl ?_
  refine s_nil ?_
  refine g_then ?_
  refine g_cond rfl (fun cq1 => ?_) (fun cq1 => ?_)
  · (try simp at cq1)
    refine g_skip ?_
    refine g_then ?_
    refine g_seq ?_
    refine g_block ?_
    refine g_seq ?_
    refine g_region ?_
    refine s_y (y_move rfl) rfl rfl rfl rfl ?_
    refine s_y (y_lenV (n := b.length) rfl (by obtain ⟨A, c, h1, _⟩ := hb; exact ⟨A, c, h1⟩) sle_46) rfl rfl rfl rfl ?_
    refine s_y (y_sub rfl rfl (by omega) (by omega)) rfl rfl rfl rfl ?_
    refine s_y (y_assign rfl) rfl rfl rfl rfl ?_
    refine s_nil ?_
    refine g_then ?_
    refine g_block ?_
    refine g_loop (fun (v_ : Nat) act W => v_ ≤ b.length ∧ ∃ (zj : Int) (es' : Array MapEntry) (clock' : Nat) (w1 : World), (zj = (b.length : Int) - 1 - (v_ : Int)) ∧ (MapG kvp okp es' (Fd a b zi zj)) ∧ Has 81 [] [(0, v), (1, v'), (4, .map none), (5, .map (some mb)), (6, .int .i64 zi), (7, .int .i64 zj), (17, .int .i64 zi), (18, .bool (decide (zi ≥ 0))), (21, v'), (22, .int .i64 (b.length : Nat)), (23, .int .i64 ((b.length : Nat) - 1))] act ∧ Hp w w1 ((mb, .map es' clock') :: []) W) (fun v_ => b.length - v_) 0 (fun act W ha hw => ⟨by omega, (b.length : Int) - 1, es, clock, W, (by simp), (by exact hM), ha.weak (sub_get ⟨rfl, rfl, rfl, rfl, rfl, rfl, rfl, rfl, rfl, rfl, rfl, trivial⟩), hw.toHq.lookSub (List.Sublist.refl _)⟩) ?_
    intro v_ act W ⟨hb_v_, zj, es', clock', w1, hzj, hM2, ha, hw⟩
    refine g_go ha hw ?_
    clear ha hw act W
    refine g_seq ?_
    refine g_seq ?_
    refine g_region ?_
    refine s_y (y_move rfl) rfl rfl rfl rfl ?_
    refine s_y (y_geq rfl rfl) rfl rfl rfl rfl ?_
    refine s_nil ?_
    refine g_then ?_
    refine g_cond rfl (fun cq2 => ?_) (fun cq2 => ?_)
    · (try simp at cq2)
      refine g_skip ?_
      refine g_then ?_
      refine g_seq ?_
      refine g_block ?_
      refine g_seq ?_
      refine g_region ?_
      refine s_y (y_assign rfl) rfl rfl rfl rfl ?_
      refine s_nil ?_
      refine g_then ?_
      refine g_seq ?_
      refine g_seq ?_
      refine g_region ?_
      refine s_y (y_move rfl) rfl rfl rfl rfl ?_
      refine s_y (y_move rfl) rfl rfl rfl rfl ?_
      refine s_tr (t_callm (A := New _ _) rfl rfl ent_84 (fun w h => (steps_any w zi zj (by omega) (by omega)).mono fun e w' ⟨b, h1, h2⟩ => ⟨b, ⟨Nat.le_trans h.below.size (h2.ge _ (List.mem_cons_self ..)), Nat.le_trans h.size (h2.ge _ (List.mem_cons_self ..))⟩, h1, h2⟩)) rfl rfl rfl rfl (fun bs hbs => ?_)
      refine s_y (y_lensl rfl sle_74) rfl rfl rfl rfl ?_
      refine s_y (y_move rfl) rfl rfl rfl rfl ?_
      refine s_nil ?_
      refine g_then ?_
      refine g_block ?_
      refine g_loop (fun (k : Nat) act W => k ≤ 3 ∧ ∃ (best : Int) (w1 : World), (best = bK a b zi zj k) ∧ Has 81 [] [(0, v), (1, v'), (4, .map none), (5, .map (some mb)), (6, .int .i64 zi), (7, .int .i64 zj), (8, .int .i64 best), (17, .int .i64 zi), (18, .bool (decide (zi ≥ 0))), (21, v'), (22, .int .i64 (b.length : Nat)), (23, .int .i64 ((b.length : Nat) - 1)), (24, .int .i64 zj), (25, .bool (decide (zj ≥ 0))), (28, .int .i64 zi), (29, .int .i64 zj), (30, .slice (some ⟨bs, 0, none⟩) 3 3), (31, .int .i64 3), (32, .int .i64 (k : Int))] act ∧ Hp w w1 ((bs, .cells ((cellsP (stL zi zj)) ++ []).toArray 79 (0, 0)) :: (mb, .map es' clock') :: []) W) (fun k => 3 - k) 0 (fun act W ha hw => ⟨by omega, (-1), W, (by rfl), ha.weak (sub_get ⟨rfl, rfl, rfl, rfl, rfl, rfl, rfl, rfl, rfl, rfl, rfl, rfl, rfl, rfl, rfl, rfl, rfl, rfl, rfl, trivial⟩), hw.toHq.lookSub (List.Sublist.refl _)⟩) ?_
      intro k act W ⟨hb_k, best, w1, hbest, ha, hw⟩
      refine g_go ha hw ?_
      clear ha hw act W
      have hsl : (stL zi zj).length = 3 := rfl
      refine g_seq ?_
      refine g_region ?_
      refine s_y (y_lss rfl rfl) rfl rfl rfl rfl ?_
      refine s_nil ?_
      refine g_then ?_
      refine g_seq ?_
      refine g_cond rfl (fun cq3 => ?_) (fun cq3 => ?_)
      · (try simp at cq3)
        refine g_skip ?_
        refine g_then ?_
        refine g_seq ?_
        refine g_block ?_
        refine g_seq ?_
        refine g_region ?_
        refine s_y (y_idxb rfl rfl Try.underlying74 size_79 (by omega) (by omega)) rfl rfl rfl rfl ?_
        refine s_y (y_ldLP (xs := stL zi zj) (jk := []) 0 rfl rfl agg_79 size_79 (rdP_at (by omega) (by omega))) rfl rfl rfl rfl ?_
        refine s_tr (t_alloc zero_79 rfl) rfl rfl rfl rfl (fun b10 hb10 => ?_)
        refine s_tr0 (t_store 0 rfl rfl rfl rfl size_79 rfl rfl) rfl rfl rfl (fun _ _ => ?_)
        refine s_nil ?_
        refine g_then ?_
        refine g_seq ?_
        refine g_region ?_
        refine s_y (y_move rfl) rfl rfl rfl rfl ?_
        refine s_y (y_ldn 0 rfl rfl agg_79 size_79 rfl rfl) rfl rfl rfl rfl ?_
        by_cases hd : Done a b zi zj (rdP (stL zi zj) (k : Int))
        · skip
          refine s_y (y_lookS (k := (rdP (stL zi zj) (k : Int))) (show Fd a b zi zj (rdP (stL zi zj) (k : Int)) = some (.int .i64 (ovP a b (rdP (stL zi zj) (k : Int)).1 (rdP (stL zi zj) (k : Int)).2)) from if_pos hd) pair_map hM2 (fun w h => h.at_ _ (List.mem_cons_of_mem _ (List.mem_cons_of_mem _ (List.mem_cons_self ..)))) rfl rfl rfl (stL_ok (by omega) (by omega) (by omega))) rfl rfl rfl rfl ?_
          refine s_y (y_move rfl) rfl rfl rfl rfl ?_
          refine s_y (y_extract rfl rfl) rfl rfl rfl rfl ?_
          refine s_y (y_extract rfl rfl) rfl rfl rfl rfl ?_
          refine s_y (y_assign rfl) rfl rfl rfl rfl ?_
          refine s_y (y_assign rfl) rfl rfl rfl rfl ?_
          refine s_nil ?_
          refine g_then ?_
          refine g_seq ?_
          refine g_region ?_
          refine s_y (y_move rfl) rfl rfl rfl rfl ?_
          refine s_y (y_move rfl) rfl rfl rfl rfl ?_
          refine s_y (y_move rfl) rfl rfl rfl rfl ?_
          refine s_y (y_lss rfl rfl) rfl rfl rfl rfl ?_
          refine s_y (y_move rfl) rfl rfl rfl rfl ?_
          refine g_bool 46 rfl (fun cq4 => ?_) (fun cq4 => ?_)
          · (try simp at cq4)
            refine s_no rfl rfl rfl ?_
            refine s_no rfl rfl rfl ?_
            refine s_no rfl rfl rfl ?_
            refine s_y (y_pick_t rfl rfl) rfl rfl rfl rfl ?_
            refine s_y (y_pick_t rfl rfl) rfl rfl rfl rfl ?_
            refine s_nil ?_
            refine g_then ?_
            refine g_cond_t rfl ?_
            refine g_region ?_
            refine s_y (y_move rfl) rfl rfl rfl rfl ?_
            refine s_y (y_assign rfl) rfl rfl rfl rfl ?_
            refine s_nil ?_
            refine g_inb ?_
            refine g_then ?_
            refine g_region ?_
            refine s_y (y_add rfl rfl (by omega) (by omega)) rfl rfl rfl rfl ?_
            refine s_y (y_move rfl) rfl rfl rfl rfl ?_
            refine s_nil ?_
            refine g_then ?_
            exact fun act W ha hw => ⟨k + 1, by omega, by omega, (ovP a b (rdP (stL zi zj) (k : Int)).1 (rdP (stL zi zj) (k : Int)).2), W, (by show _ = stp a b zi zj (rdP (stL zi zj) (k : Int)) (bK a b zi zj k); unfold stp; rw [← hbest]; first | exact (if_pos ⟨hd, by omega⟩).symm | exact (if_neg (fun h_ => absurd h_.2 (by omega))).symm | exact (if_neg (fun h_ => hd h_.1)).symm), ha.weak (sub_get ⟨rfl, rfl, rfl, rfl, rfl, rfl, rfl, rfl, rfl, rfl, rfl, rfl, rfl, rfl, rfl, rfl, rfl, rfl, rfl, trivial⟩), hw.toHq.lookSub (List.Sublist.cons _ (List.Sublist.refl _))⟩
          · (try simp at cq4)
            refine s_y (y_move rfl) rfl rfl rfl rfl ?_
            refine s_y (y_move rfl) rfl rfl rfl rfl ?_
            refine s_y (y_lss rfl rfl) rfl rfl rfl rfl ?_
            refine s_y (y_pick_f rfl rfl) rfl rfl rfl rfl ?_
            refine s_y (y_pick_t rfl rfl) rfl rfl rfl rfl ?_
            refine s_nil ?_
            refine g_then ?_
            refine g_cond rfl (fun cq5 => ?_) (fun cq5 => ?_)
            · (try simp at cq5)
              refine g_region ?_
              refine s_y (y_move rfl) rfl rfl rfl rfl ?_
              refine s_y (y_assign rfl) rfl rfl rfl rfl ?_
              refine s_nil ?_
              refine g_inb ?_
              refine g_then ?_
              refine g_region ?_
              refine s_y (y_add rfl rfl (by omega) (by omega)) rfl rfl rfl rfl ?_
              refine s_y (y_move rfl) rfl rfl rfl rfl ?_
              refine s_nil ?_
              refine g_then ?_
              exact fun act W ha hw => ⟨k + 1, by omega, by omega, (ovP a b (rdP (stL zi zj) (k : Int)).1 (rdP (stL zi zj) (k : Int)).2), W, (by show _ = stp a b zi zj (rdP (stL zi zj) (k : Int)) (bK a b zi zj k); unfold stp; rw [← hbest]; first | exact (if_pos ⟨hd, by omega⟩).symm | exact (if_neg (fun h_ => absurd h_.2 (by omega))).symm | exact (if_neg (fun h_ => hd h_.1)).symm), ha.weak (sub_get ⟨rfl, rfl, rfl, rfl, rfl, rfl, rfl, rfl, rfl, rfl, rfl, rfl, rfl, rfl, rfl, rfl, rfl, rfl, rfl, trivial⟩), hw.toHq.lookSub (List.Sublist.cons _ (List.Sublist.refl _))⟩
            · (try simp at cq5)
              refine g_skip ?_
              refine g_inb ?_
              refine g_then ?_
              refine g_region ?_
              refine s_y (y_add rfl rfl (by omega) (by omega)) rfl rfl rfl rfl ?_
              refine s_y (y_move rfl) rfl rfl rfl rfl ?_
              refine s_nil ?_
              refine g_then ?_
              exact fun act W ha hw => ⟨k + 1, by omega, by omega, best, W, (by show _ = stp a b zi zj (rdP (stL zi zj) (k : Int)) (bK a b zi zj k); unfold stp; rw [← hbest]; first | exact (if_pos ⟨hd, by omega⟩).symm | exact (if_neg (fun h_ => absurd h_.2 (by omega))).symm | exact (if_neg (fun h_ => hd h_.1)).symm), ha.weak (sub_get ⟨rfl, rfl, rfl, rfl, rfl, rfl, rfl, rfl, rfl, rfl, rfl, rfl, rfl, rfl, rfl, rfl, rfl, rfl, rfl, trivial⟩), hw.toHq.lookSub (List.Sublist.cons _ (List.Sublist.refl _))⟩
        · skip
          refine s_y (y_lookN (k := (rdP (stL zi zj) (k : Int))) (show Fd a b zi zj (rdP (stL zi zj) (k : Int)) = none from if_neg hd) pair_map hM2 (fun w h => h.at_ _ (List.mem_cons_of_mem _ (List.mem_cons_of_mem _ (List.mem_cons_self ..)))) rfl rfl rfl (stL_ok (by omega) (by omega) (by omega))) rfl rfl rfl rfl ?_
          refine s_y (y_move rfl) rfl rfl rfl rfl ?_
          refine s_y (y_extract rfl rfl) rfl rfl rfl rfl ?_
          refine s_y (y_extract rfl rfl) rfl rfl rfl rfl ?_
          refine s_y (y_assign rfl) rfl rfl rfl rfl ?_
          refine s_y (y_assign rfl) rfl rfl rfl rfl ?_
          refine s_nil ?_
          refine g_then ?_
          refine g_seq ?_
          refine g_region ?_
          refine s_y (y_move rfl) rfl rfl rfl rfl ?_
          refine s_y (y_move rfl) rfl rfl rfl rfl ?_
          refine s_no rfl rfl rfl ?_
          refine s_no rfl rfl rfl ?_
          refine s_no rfl rfl rfl ?_
          refine s_noU rfl rfl rfl rfl rfl ?_
          refine s_noU rfl rfl rfl rfl rfl ?_
          refine s_noU rfl rfl rfl rfl rfl ?_
          refine s_no rfl rfl rfl ?_
          refine s_y (y_pick_f rfl rfl) rfl rfl rfl rfl ?_
          refine s_nil ?_
          refine g_then ?_
          refine g_cond_f rfl ?_
          refine g_skip ?_
          refine g_inb ?_
          refine g_then ?_
          refine g_region ?_
          refine s_y (y_add rfl rfl (by omega) (by omega)) rfl rfl rfl rfl ?_
          refine s_y (y_move rfl) rfl rfl rfl rfl ?_
          refine s_nil ?_
          refine g_then ?_
          exact fun act W ha hw => ⟨k + 1, by omega, by omega, best, W, (by show _ = stp a b zi zj (rdP (stL zi zj) (k : Int)) (bK a b zi zj k); unfold stp; rw [← hbest]; first | exact (if_pos ⟨hd, by omega⟩).symm | exact (if_neg (fun h_ => absurd h_.2 (by omega))).symm | exact (if_neg (fun h_ => hd h_.1)).symm), ha.weak (sub_get ⟨rfl, rfl, rfl, rfl, rfl, rfl, rfl, rfl, rfl, rfl, rfl, rfl, rfl, rfl, rfl, rfl, rfl, rfl, rfl, trivial⟩), hw.toHq.lookSub (List.Sublist.cons _ (List.Sublist.refl _))⟩
      · (try simp at cq3)
        refine g_exit ?_
        refine g_thenx ?_
        refine g_thenx ?_
        refine g_inbx ?_
        refine g_then ?_
        obtain rfl : k = 3 := by omega
        have hx1 := mel_rd hxa zi
        have hx2 := mel_rd hxb zj
        have hrec := ovP_rec (a := a) (b := b) (i := zi) (j := zj) (by omega) (by omega) (by omega) (by omega)
        rw [← hbest] at hrec
        have hpl := mel_P hma hmb_ (i := zi) (j := zj) (by omega) (by omega)
        have hcn := ovC_nonneg a b zi zj
        unfold ovC at hrec hcn
        refine g_draw 26 (by kernel_rfl) ?_
        refine j_p (i := 0) rfl (y_move rfl) (by kernel_rfl) (by kernel_rfl) (by kernel_rfl) rfl rfl rfl rfl rfl (.inr (fun _ h => h)) ?_
        refine j_p (i := 1) rfl (y_move rfl) (by kernel_rfl) (by kernel_rfl) (by kernel_rfl) rfl rfl rfl rfl rfl (.inr (fun _ h => h)) ?_
        refine j_p (i := 2) rfl (y_move rfl) (by kernel_rfl) (by kernel_rfl) (by kernel_rfl) rfl rfl rfl rfl rfl (.inr (fun _ h => h)) ?_
        refine j_p (i := 3) rfl (y_build (vs := [(0, _), (1, _)]) rfl rfl (fun w => bld_79_0_1 _ _ w)) (by kernel_rfl) (by kernel_rfl) (by kernel_rfl) rfl rfl rfl rfl rfl (.inr (fun _ h => h)) ?_
        refine j_p (i := 4) rfl (y_move rfl) (by kernel_rfl) (by kernel_rfl) (by kernel_rfl) rfl rfl rfl rfl rfl (.inr (fun _ h => h)) ?_
        refine j_p (i := 5) rfl (y_max rfl rfl) (by kernel_rfl) (by kernel_rfl) (by kernel_rfl) rfl rfl rfl rfl rfl (.inr (fun _ h => h)) ?_
        refine j_p (i := 6) rfl (y_move rfl) (by kernel_rfl) (by kernel_rfl) (by kernel_rfl) rfl rfl rfl rfl rfl (.inr (fun _ h => h)) ?_
        refine j_p (i := 7) rfl (y_move rfl) (by kernel_rfl) (by kernel_rfl) (by kernel_rfl) rfl rfl rfl rfl rfl (.inr (fun _ h => h)) ?_
        refine j_p (i := 8) rfl (y_idxV (enc := (Value.int .i64)) rfl rfl ha Try.underlying46 size_3 (by omega) (by omega)) (by kernel_rfl) (by kernel_rfl) (by kernel_rfl) rfl rfl rfl rfl rfl (.inr (fun _ h => h)) ?_
        refine j_l (i := 9) rfl (y_ldV (enc := (Value.int .i64)) (xs := a) (fun w h => ha.rdl.below h.below) rfl agg_3 (rdI_at (by omega) (by omega))) (by kernel_rfl) (by kernel_rfl) (by kernel_rfl) (by kernel_rfl) rfl rfl rfl rfl rfl (.inr (fun _ h => h)) ?_
        refine j_p (i := 10) rfl (y_move rfl) (by kernel_rfl) (by kernel_rfl) (by kernel_rfl) rfl rfl rfl rfl rfl (.inr (fun _ h => h)) ?_
        refine j_p (i := 11) rfl (y_move rfl) (by kernel_rfl) (by kernel_rfl) (by kernel_rfl) rfl rfl rfl rfl rfl (.inr (fun _ h => h)) ?_
        refine j_p (i := 12) rfl (y_idxV (enc := (Value.int .i64)) rfl rfl hb Try.underlying46 size_3 (by omega) (by omega)) (by kernel_rfl) (by kernel_rfl) (by kernel_rfl) rfl rfl rfl rfl rfl (.inr (fun _ h => h)) ?_
        refine j_l (i := 13) rfl (y_ldV (enc := (Value.int .i64)) (xs := b) (fun w h => hb.rdl.below h.below) rfl agg_3 (rdI_at (by omega) (by omega))) (by kernel_rfl) (by kernel_rfl) (by kernel_rfl) (by kernel_rfl) rfl rfl rfl rfl rfl (.inr (fun _ h => h)) ?_
        refine j_p (i := 14) rfl (y_sub rfl rfl (by omega) (by omega)) (by kernel_rfl) (by kernel_rfl) (by kernel_rfl) rfl rfl rfl rfl rfl (.inr (fun _ h => h)) ?_
        refine j_p (i := 15) rfl (y_move rfl) (by kernel_rfl) (by kernel_rfl) (by kernel_rfl) rfl rfl rfl rfl rfl (.inr (fun _ h => h)) ?_
        refine j_p (i := 16) rfl (y_move rfl) (by kernel_rfl) (by kernel_rfl) (by kernel_rfl) rfl rfl rfl rfl rfl (.inr (fun _ h => h)) ?_
        refine j_p (i := 17) rfl (y_idxV (enc := (Value.int .i64)) rfl rfl hb Try.underlying46 size_3 (by omega) (by omega)) (by kernel_rfl) (by kernel_rfl) (by kernel_rfl) rfl rfl rfl rfl rfl (.inr (fun _ h => h)) ?_
        refine j_l (i := 18) rfl (y_ldV (enc := (Value.int .i64)) (xs := b) (fun w h => hb.rdl.below h.below) rfl agg_3 (rdI_at (by omega) (by omega))) (by kernel_rfl) (by kernel_rfl) (by kernel_rfl) (by kernel_rfl) rfl rfl rfl rfl rfl (.inr (fun _ h => h)) ?_
        refine j_p (i := 19) rfl (y_move rfl) (by kernel_rfl) (by kernel_rfl) (by kernel_rfl) rfl rfl rfl rfl rfl (.inr (fun _ h => h)) ?_
        refine j_p (i := 20) rfl (y_move rfl) (by kernel_rfl) (by kernel_rfl) (by kernel_rfl) rfl rfl rfl rfl rfl (.inr (fun _ h => h)) ?_
        refine j_p (i := 21) rfl (y_idxV (enc := (Value.int .i64)) rfl rfl ha Try.underlying46 size_3 (by omega) (by omega)) (by kernel_rfl) (by kernel_rfl) (by kernel_rfl) rfl rfl rfl rfl rfl (.inr (fun _ h => h)) ?_
        refine j_l (i := 22) rfl (y_ldV (enc := (Value.int .i64)) (xs := a) (fun w h => ha.rdl.below h.below) rfl agg_3 (rdI_at (by omega) (by omega))) (by kernel_rfl) (by kernel_rfl) (by kernel_rfl) (by kernel_rfl) rfl rfl rfl rfl rfl (.inr (fun _ h => h)) ?_
        refine j_p (i := 23) rfl (y_sub rfl rfl (by omega) (by omega)) (by kernel_rfl) (by kernel_rfl) (by kernel_rfl) rfl rfl rfl rfl rfl (.inr (fun _ h => h)) ?_
        refine j_p (i := 24) rfl (y_max rfl rfl) (by kernel_rfl) (by kernel_rfl) (by kernel_rfl) rfl rfl rfl rfl rfl (.inr (fun _ h => h)) ?_
        refine j_p (i := 25) rfl (y_add rfl rfl (by omega) (by omega)) (by kernel_rfl) (by kernel_rfl) (by kernel_rfl) rfl rfl rfl rfl rfl (.inr (fun _ h => h)) ?_
        have hval : (if 0 > best then 0 else best) + (if ((rdI b zj) - (rdI a zi)) > ((rdI a zi) - (rdI b zj)) then ((rdI b zj) - (rdI a zi)) else ((rdI a zi) - (rdI b zj))) = ovP a b zi zj := by rw [hrec]
        refine j_tr0 (i := 26) rfl (t_putG (k := (zi, zj)) (v := .int .i64 ((if 0 > best then 0 else best) + (if ((rdI b zj) - (rdI a zi)) > ((rdI a zi) - (rdI b zj)) then ((rdI b zj) - (rdI a zi)) else ((rdI a zi) - (rdI b zj))))) 1 pair_map hM2 rfl rfl rfl rfl rfl (okp_of (by simp only; omega) (by simp only; omega))) (by kernel_rfl) rfl rfl rfl (.inl rfl) (fun y hy => ?_)
        refine j_nil (by kernel_rfl) ?_
        refine g_inb ?_
        refine g_then ?_
        refine g_region ?_
        refine s_y (y_move rfl) rfl rfl rfl rfl ?_
        refine s_y (y_sub rfl rfl (by omega) (by omega)) rfl rfl rfl rfl ?_
        refine s_y (y_assign rfl) rfl rfl rfl rfl ?_
        refine s_nil ?_
        refine g_then ?_
        exact fun act W ha hw => ⟨v_ + 1, by omega, by omega, (zj - 1), y.1, y.2, W, (by omega), (by rw [← Fd_put (by omega) (by omega) (by omega) (by omega) hval]; exact hy), ha.weak (sub_get ⟨rfl, rfl, rfl, rfl, rfl, rfl, rfl, rfl, rfl, rfl, rfl, trivial⟩), hw.toHq.lookSub (List.Sublist.cons _ (List.Sublist.refl _))⟩
    · (try simp at cq2)
      refine g_exit ?_
      refine g_thenx ?_
      refine g_thenx ?_
      refine g_inbx ?_
      refine g_inb ?_
      refine g_then ?_
      refine g_region ?_
      refine s_y (y_move rfl) rfl rfl rfl rfl ?_
      refine s_y (y_sub rfl rfl (by omega) (by omega)) rfl rfl rfl rfl ?_
      refine s_y (y_assign rfl) rfl rfl rfl rfl ?_
      refine s_nil ?_
      refine g_then ?_
      exact fun act W ha hw => ⟨u + 1, by omega, by omega, (zi - 1), es', clock', W, (by omega), (by rw [← Fd_row (j := zj) (by omega)]; exact hM2), ha.weak (sub_get ⟨rfl, rfl, rfl, rfl, rfl, trivial⟩), hw.toHq.lookSub (List.Sublist.refl _)⟩
  · (try simp at cq1)
    refine g_exit ?_
    refine g_thenx ?_
    refine g_thenx ?_
    refine g_inbx ?_
    refine g_then ?_
    refine g_seq ?_
    refine g_region ?_
    refine s_y (y_move rfl) rfl rfl rfl rfl ?_
    refine s_y (y_assign rfl) rfl rfl rfl rfl ?_
    refine s_nil ?_
    refine g_then ?_
    refine g_ret ?_
    have hu : u = a.length := by omega
    subst hu
    exact g_end trivial (fun a_ w ha_ hq_ => res1 ha_ rfl rfl  w) (fun w h => ⟨(mb, es, clock), (by rw [show (-1 : Int) = zi by omega]; exact hM), rfl, h.hand (List.Sublist.refl _)⟩)

theorem Fd_00 {a b : List Int} (ha : 1 ≤ a.length) (hb : 1 ≤ b.length) : Fd a b (-1) ((b.length : Int) - 1) (0, 0) = some (.int .i64 (ovP a b 0 0)) := if_pos ⟨⟨by decide, by simp only; omega, by decide, by simp only; omega⟩, .inl (by decide)⟩

theorem y_look00 {N : Nat} {ds : List Deferred} {l : List (Nat × Value)} {w0 w1 : World} {m : List (Nat × Obj)} {dst : Option Tmp} {ty : TypeId} {pos : String} {aft : Array Edge} {gd : Option (Nat × Bool)} {mb clock : Nat} {es : Array MapEntry} {a b : List Int} {xm xk : Operand} (ha : 1 ≤ a.length) (hb : 1 ≤ b.length) (hM : MapG kvp okp es (Fd a b (-1) ((b.length : Int) - 1))) (hm : ∀ w, Hp w0 w1 m w → w.heap[mb]? = some (.map es clock)) (hx : ev l xm = some (.map (some mb))) (hk : ev l xk = some (.agg #[.int .i64 0, .int .i64 0])) :
    Yv Try.prog N ds l (Hp w0 w1 m) ⟨dst, .lookup 93 xm xk false, ty, pos, aft, gd⟩ (.int .i64 (ovP a b 0 0)) := by
  have h_ := y_lookG (P := Try.prog) (N := N) (ds := ds) (l := l) (dst := dst) (ty := ty) (pos := pos) (aft := aft) (gd := gd) (k := (0, 0)) pair_map hM hm hx hk rfl (okp_of (by decide) (by decide))
  rw [Fd_00 ha hb] at h_; exact h_

theorem Over_ok (w : World) (v v' : Value) (a b : List Int) (ha : RdV (Value.int .i64) w v a) (hb : RdV (Value.int .i64) w v' b) (hma : melB a = true) (hmb_ : melB b = true) :
    Calls Try.prog 50 [v, v'].toArray w fun e w' => e = .returned (.tuple #[.int .i64 (ovP a b 0 0), .int .i64 0]) ∧ Below w.heap.size w w' := by
  obtain ⟨hal, hxa⟩ := melB_true.1 hma
  obtain ⟨hbl, hxb⟩ := melB_true.1 hmb_
  refine enter (N := 19) Try.func50 rfl rfl rfl ?_
  refine g_seq ?_
  refine g_region ?_
  refine s_y (y_assign rfl) rfl rfl rfl rfl ?_
  refine s_y (y_assign rfl) rfl rfl rfl rfl ?_
  refine s_nil ?_
  refine g_then ?_
  refine g_seq ?_
  refine g_seq ?_
  refine g_region ?_
  refine s_y (y_move rfl) rfl rfl rfl rfl ?_
  refine s_tr (t_call rfl rfl ent_82 (fun w h => by have h_ := isMelody_any w _ a (ha.below h.below) (by omega); rw [hma] at h_; exact h_)) rfl rfl rfl rfl (fun _ _ => ?_)
  refine s_y (y_not_t rfl) rfl rfl rfl rfl ?_
  refine s_y (y_move rfl) rfl rfl rfl rfl ?_
  refine s_y (y_move rfl) rfl rfl rfl rfl ?_
  refine s_tr (t_call rfl rfl ent_82 (fun w h => by have h_ := isMelody_any w _ b (hb.below h.below) (by omega); rw [hmb_] at h_; exact h_)) rfl rfl rfl rfl (fun _ _ => ?_)
  refine s_y (y_not_t rfl) rfl rfl rfl rfl ?_
  refine s_y (y_pick_f rfl rfl) rfl rfl rfl rfl ?_
  refine s_nil ?_
  refine g_then ?_
  refine g_cond_f rfl ?_
  refine g_skip ?_
  refine g_then ?_
  refine g_seq ?_
  refine g_region ?_
  refine s_y (y_move rfl) rfl rfl rfl rfl ?_
  refine s_y (y_move rfl) rfl rfl rfl rfl ?_
  refine s_tr (t_callm (A := fun y : Nat × Array MapEntry × Nat => MapG kvp okp y.2.1 (Fd a b (-1) ((b.length : Int) - 1))) (vf := fun y => .map (some y.1)) (mm := fun y => [(y.1, .map y.2.1 y.2.2)]) rfl rfl ent_83 (fun w h => over_any w v v' a b (ha.below h.below) (hb.below h.below) hma hmb_)) rfl rfl rfl rfl (fun ym hM => ?_)
  obtain ⟨mb, es, clock⟩ := ym
  simp only at hM
  refine s_y (y_build (vs := [(0, _), (1, _)]) rfl rfl (fun w => bld_79_0_1 _ _ w)) rfl rfl rfl rfl ?_
  refine s_y (y_look00 (by omega) (by omega) hM (fun w h => h.at_ _ (List.mem_cons_self ..)) rfl rfl) rfl rfl rfl rfl ?_
  refine s_y (y_assign rfl) rfl rfl rfl rfl ?_
  refine s_y (y_assign rfl) rfl rfl rfl rfl ?_
  refine s_nil ?_
  refine g_then ?_
  refine g_ret ?_
  exact g_end trivial (fun a w ha hq_ => res2 ha rfl rfl rfl  w) (fun w h => ⟨rfl, h.below⟩)

theorem Over_bad1 (w : World) (v v' : Value) (a b : List Int) (ha : RdV (Value.int .i64) w v a) (hb : RdV (Value.int .i64) w v' b) (hal : a.length ≤ 9223372036854775807) (hbl : b.length ≤ 9223372036854775807) (hma : melB a = false) :
    Calls Try.prog 50 [v, v'].toArray w fun e w' => e = .returned (.tuple #[.int .i64 0, .int .i64 2]) ∧ Below w.heap.size w w' := by
  refine enter (N := 19) Try.func50 rfl rfl rfl ?_
  refine g_seq ?_
  refine g_region ?_
  refine s_y (y_assign rfl) rfl rfl rfl rfl ?_
  refine s_y (y_assign rfl) rfl rfl rfl rfl ?_
  refine s_nil ?_
  refine g_then ?_
  refine g_seq ?_
  refine g_seq ?_
  refine g_region ?_
  refine s_y (y_move rfl) rfl rfl rfl rfl ?_
  refine s_tr (t_call rfl rfl ent_82 (fun w h => by have h_ := isMelody_any w _ a (ha.below h.below) (by omega); rw [hma] at h_; exact h_)) rfl rfl rfl rfl (fun _ _ => ?_)
  refine s_y (y_not_f rfl) rfl rfl rfl rfl ?_
  refine s_y (y_move rfl) rfl rfl rfl rfl ?_
  refine s_no rfl rfl rfl ?_
  refine s_no rfl rfl rfl ?_
  refine s_no rfl rfl rfl ?_
  refine s_y (y_pick_t rfl rfl) rfl rfl rfl rfl ?_
  refine s_nil ?_
  refine g_then ?_
  refine g_cond_t rfl ?_
  refine g_seq ?_
  refine g_region ?_
  refine s_y (y_assign rfl) rfl rfl rfl rfl ?_
  refine s_y (y_assign rfl) rfl rfl rfl rfl ?_
  refine s_nil ?_
  refine g_then ?_
  refine g_ret ?_
  refine g_thenr ?_
  exact g_end trivial (fun a w ha hq_ => res2 ha rfl rfl rfl  w) (fun w h => ⟨rfl, h.below⟩)

theorem Over_bad2 (w : World) (v v' : Value) (a b : List Int) (ha : RdV (Value.int .i64) w v a) (hb : RdV (Value.int .i64) w v' b) (hal : a.length ≤ 9223372036854775807) (hbl : b.length ≤ 9223372036854775807) (hma : melB a = true) (hmb_ : melB b = false) :
    Calls Try.prog 50 [v, v'].toArray w fun e w' => e = .returned (.tuple #[.int .i64 0, .int .i64 2]) ∧ Below w.heap.size w w' := by
  refine enter (N := 19) Try.func50 rfl rfl rfl ?_
  refine g_seq ?_
  refine g_region ?_
  refine s_y (y_assign rfl) rfl rfl rfl rfl ?_
  refine s_y (y_assign rfl) rfl rfl rfl rfl ?_
  refine s_nil ?_
  refine g_then ?_
  refine g_seq ?_
  refine g_seq ?_
  refine g_region ?_
  refine s_y (y_move rfl) rfl rfl rfl rfl ?_
  refine s_tr (t_call rfl rfl ent_82 (fun w h => by have h_ := isMelody_any w _ a (ha.below h.below) (by omega); rw [hma] at h_; exact h_)) rfl rfl rfl rfl (fun _ _ => ?_)
  refine s_y (y_not_t rfl) rfl rfl rfl rfl ?_
  refine s_y (y_move rfl) rfl rfl rfl rfl ?_
  refine s_y (y_move rfl) rfl rfl rfl rfl ?_
  refine s_tr (t_call rfl rfl ent_82 (fun w h => by have h_ := isMelody_any w _ b (hb.below h.below) (by omega); rw [hmb_] at h_; exact h_)) rfl rfl rfl rfl (fun _ _ => ?_)
  refine s_y (y_not_f rfl) rfl rfl rfl rfl ?_
  refine s_y (y_pick_f rfl rfl) rfl rfl rfl rfl ?_
  refine s_nil ?_
  refine g_then ?_
  refine g_cond_t rfl ?_
  refine g_seq ?_
  refine g_region ?_
  refine s_y (y_assign rfl) rfl rfl rfl rfl ?_
  refine s_y (y_assign rfl) rfl rfl rfl rfl ?_
  refine s_nil ?_
  refine g_then ?_
  refine g_ret ?_
  refine g_thenr ?_
  exact g_end trivial (fun a w ha hq_ => res2 ha rfl rfl rfl  w) (fun w h => ⟨rfl, h.below⟩)

theorem Over_bad (w : World) (v v' : Value) (a b : List Int) (ha : RdV (Value.int .i64) w v a) (hb : RdV (Value.int .i64) w v' b) (hal : a.length ≤ 9223372036854775807) (hbl : b.length ≤ 9223372036854775807) (h : ¬ (melB a = true ∧ melB b = true)) : Calls Try.prog 50 [v, v'].toArray w fun e w' => e = .returned (.tuple #[.int .i64 0, .int .i64 2]) ∧ Below w.heap.size w w' := by
  cases hma : melB a with
  | false => exact Over_bad1 w v v' a b ha hb hal hbl hma
  | true =>
    cases hmb_ : melB b with
    | false => exact Over_bad2 w v v' a b ha hb hal hbl hma hmb_
    | true => exact absurd ⟨hma, hmb_⟩ h

end Go.Proofs.Ytnnpdgegejklpaa
