/- edits: Clone, list, script, apply, Check, Apply. -/
import Derived.Test.YtnnpdgegejklpaaEdHgt
import Derived.Test.YtnnpdgegejklpaaEdM
namespace Go.Proofs.Ytnnpdgegejklpaa
open Go.RowKit Go.Sx 
set_option linter.unusedVariables false
set_option linter.unusedSimpArgs false
set_option maxRecDepth 100000
set_option maxHeartbeats 4000000

private theorem sle_46 : Try.prog.underlying 46 = some (.slice (Try.prog.elem 46)) := by kernel_rfl
private theorem inf_3 : ∃ ie, Try.prog.info? 3 = some ie ∧ ie.zero = some (.int .i64 0) ∧ ie.size = 1 ∧ ie.bytes = 8 := info_of (by kernel_rfl) (by kernel_rfl)
private theorem ent_59 : Enters Try.prog 59 := enters_of Try.func59 (by kernel_rfl) rfl
private theorem sle_38 : Try.prog.underlying 38 = some (.slice (Try.prog.elem 38)) := by kernel_rfl
private theorem inf_88 : ∃ ie, Try.prog.info? 88 = some ie ∧ ie.zero = some (.agg #[(.int .i64 0), (.int .i64 0)]) ∧ ie.size = 2 ∧ ie.bytes = 16 := info_of (by kernel_rfl) (by kernel_rfl)
private theorem sle_43 : Try.prog.underlying 43 = some (.slice (Try.prog.elem 43)) := by kernel_rfl
private theorem size_104 : (Try.prog.info? 104).map (·.size) = some 2 := by kernel_rfl
private theorem agg_104 : isAggB Try.prog 104 = some true := by kernel_rfl
private theorem zero_104 : (Try.prog.info? 104).bind (·.zero) = some (.agg #[(.int .i64 0), (.int .i64 0)]) := by kernel_rfl
private theorem fld_104_0 (b off : Nat) (w : World) : (Instr.fieldAt 104 (.pointer (some ⟨b, off, none⟩)) 0).run Try.prog w = .ok (.pointer (some ⟨b, off, none⟩)) w := by kernel_rfl
private theorem agg_3 : isAggB Try.prog 3 = some false := by kernel_rfl
private theorem fld_104_1 (b off : Nat) (w : World) : (Instr.fieldAt 104 (.pointer (some ⟨b, off, none⟩)) 1).run Try.prog w = .ok (.pointer (some ⟨b, off + 1, none⟩)) w := by kernel_rfl
private theorem bld_88_0_1 (x0 : Int) (x1 : Int) (w : World) : (Instr.build 88 #[(0, (.int .i64 x0)), (1, (.int .i64 x1))]).run Try.prog w = .ok (.agg #[(.int .i64 x0), (.int .i64 x1)]) w := by kernel_rfl
private theorem size_88 : (Try.prog.info? 88).map (·.size) = some 2 := by kernel_rfl
private theorem agg_88 : isAggB Try.prog 88 = some true := by kernel_rfl
private theorem zero_88 : (Try.prog.info? 88).bind (·.zero) = some (.agg #[(.int .i64 0), (.int .i64 0)]) := by kernel_rfl
private theorem fld_88_0 (b off : Nat) (w : World) : (Instr.fieldAt 88 (.pointer (some ⟨b, off, none⟩)) 0).run Try.prog w = .ok (.pointer (some ⟨b, off, none⟩)) w := by kernel_rfl
private theorem fld_88_1 (b off : Nat) (w : World) : (Instr.fieldAt 88 (.pointer (some ⟨b, off, none⟩)) 1).run Try.prog w = .ok (.pointer (some ⟨b, off + 1, none⟩)) w := by kernel_rfl
private theorem inf_5 : ∃ ie, Try.prog.info? 5 = some ie ∧ ie.zero = some (.int .u8 0) ∧ ie.size = 1 ∧ ie.bytes = 1 := info_of (by kernel_rfl) (by kernel_rfl)
private theorem ent_68 : Enters Try.prog 68 := enters_of Try.func68 (by kernel_rfl) rfl
private theorem agg_28 : isAggB Try.prog 28 = some true := by kernel_rfl
private theorem size_28 : (Try.prog.info? 28).map (·.size) = some 3 := by kernel_rfl
private theorem ent_69 : Enters Try.prog 69 := enters_of Try.func69 (by kernel_rfl) rfl
private theorem ent_71 : Enters Try.prog 71 := enters_of Try.func71 (by kernel_rfl) rfl
private theorem ent_72 : Enters Try.prog 72 := enters_of Try.func72 (by kernel_rfl) rfl

theorem Clone_nil (w : World) (n c : Nat) :
    Calls Try.prog 59 [.slice none n c].toArray w fun e w' => ∃ x : Value × List (Nat × Obj), (OwnV (Value.int .i64) x.1 ([] : List Int) x.2 ∧ ∃ W : World, ∀ p ∈ x.2, W.heap[p.1]? = some p.2) ∧ e = .returned (x.1) ∧ Hq w w x.2 w' := by
  refine enter (N := 8) Try.func59 rfl rfl rfl ?_
  refine g_seq ?_
  refine g_region ?_
  refine s_y (y_assign rfl) rfl rfl rfl rfl ?_
  refine s_nil ?_
  refine g_then ?_
  refine g_seq ?_
  refine g_seq ?_
  refine g_region ?_
  refine s_y (y_move rfl) rfl rfl rfl rfl ?_
  refine s_y (y_eqnil rfl rfl sle_46 (fun w => by kernel_rfl)) rfl rfl rfl rfl ?_
  refine s_nil ?_
  refine g_then ?_
  refine g_cond_t rfl ?_
  refine g_seq ?_
  refine g_region ?_
  refine s_y (y_assign rfl) rfl rfl rfl rfl ?_
  refine s_nil ?_
  refine g_then ?_
  refine g_ret ?_
  refine g_thenr ?_
  exact g_end trivial (fun a w ha hq_ => res1 ha rfl rfl  w) (fun w h => ⟨(_, []), ⟨OwnV.nil, w, (h.hand (List.nil_sublist _)).at_⟩, rfl, h.hand (List.nil_sublist _)⟩)

theorem Clone_some (w : World) (a : Addr) (n c : Nat) (xs : List Int) (hv : RdV (Value.int .i64) w (.slice (some a) n c) xs) (hl : xs.length ≤ 1000000) :
    Calls Try.prog 59 [.slice (some a) n c].toArray w fun e w' => ∃ x : Value × List (Nat × Obj), (OwnV (Value.int .i64) x.1 xs x.2 ∧ ∃ W : World, ∀ p ∈ x.2, W.heap[p.1]? = some p.2) ∧ e = .returned (x.1) ∧ Hq w w x.2 w' := by
  obtain ⟨ie3, hi3⟩ := inf_3
  refine enter (N := 8) Try.func59 rfl rfl rfl ?_
  refine g_seq ?_
  refine g_region ?_
  refine s_y (y_assign rfl) rfl rfl rfl rfl ?_
  refine s_nil ?_
  refine g_then ?_
  refine g_seq ?_
  refine g_seq ?_
  refine g_region ?_
  refine s_y (y_move rfl) rfl rfl rfl rfl ?_
  refine s_y (y_eqnil rfl rfl sle_46 (fun w => by kernel_rfl)) rfl rfl rfl rfl ?_
  refine s_nil ?_
  refine g_then ?_
  refine g_cond_f rfl ?_
  refine g_skip ?_
  refine g_then ?_
  refine g_seq ?_
  refine g_region ?_
  refine s_tr (t_build0 (enc := (Value.int .i64)) Try.underlying46 hi3.1) rfl rfl rfl rfl (fun be hbe => ?_)
  have hok1 : (SV.own be 0 []).ok 1 0 (List.map (Value.int .i64) []) := ⟨Nat.le_refl _, Nat.zero_le _, rfl, rfl⟩
  refine s_y (y_move rfl) rfl rfl rfl rfl ?_
  refine s_tr (t_appendR0 (enc := (Value.int .i64)) (sv := (SV.own be 0 [])) (xs := []) (ys := xs) (n := 0)  _ rfl rfl rfl hok1 Try.underlying46 hi3.1 hi3.2.1 hi3.2.2.1 hi3.2.2.2 rfl (fun w h => (hv.below h.below)) (fun _ => rfl) (by omega) (by unfold maxLen; omega)) rfl rfl rfl rfl (fun y5 hok4 => ?_)
  obtain ⟨sv2, gs3⟩ := y5
  refine s_y (y_assign rfl) rfl rfl rfl rfl ?_
  refine s_nil ?_
  refine g_then ?_
  refine g_ret ?_
  exact g_end trivial (fun a w ha hq_ => res1 ha rfl rfl  w) (fun w h => ⟨(_, sv2.mem 3 ((([]) ++ xs).map (Value.int .i64))), ⟨(OwnV.sv hok4), w, (h.hand (sub_here (sv2.mem 3 ((([]) ++ xs).map (Value.int .i64))) _)).at_⟩, rfl, h.hand (sub_here (sv2.mem 3 ((([]) ++ xs).map (Value.int .i64))) _)⟩)

theorem Clone_any (w : World) (v : Value) (xs : List Int) (hv : RdV (Value.int .i64) w v xs) (hl : xs.length ≤ 1000000) : Calls Try.prog 59 [v].toArray w fun e w' => ∃ x : Value × List (Nat × Obj), (OwnV (Value.int .i64) x.1 xs x.2 ∧ ∃ W : World, ∀ p ∈ x.2, W.heap[p.1]? = some p.2) ∧ e = .returned (x.1) ∧ Hq w w x.2 w' := by
  obtain ⟨A, c, rfl, hc, hr⟩ := id hv
  cases A with
  | none =>
    have : xs = [] := by
      cases xs with
      | nil => rfl
      | cons x xs => obtain ⟨ad, h, _⟩ := hr 0 x rfl; cases h
    subst this
    exact Clone_nil w _ c
  | some a => exact Clone_some w a _ c xs hv hl

theorem list_any (w : World) (v : Value) (xs : List Int) (hv : RdV (Value.int .i64) w v xs) :
    Calls Try.prog 51 [v].toArray w fun e w' => ∃ x : Value × List (Nat × Obj), (OwnV (Value.int .i64) x.1 (xs.take 16) x.2 ∧ ∃ W : World, ∀ p ∈ x.2, W.heap[p.1]? = some p.2) ∧ e = .returned (x.1) ∧ Hq w w x.2 w' := by
  have e16 : (if (16 : Int) < ((xs.length : Nat) : Int) then (16 : Int) else ((xs.length : Nat) : Int)) = ((min xs.length 16 : Nat) : Int) := by split <;> omega
  obtain ⟨ie3_, hi3_⟩ := inf_3
  obtain ⟨v7, hc7, hr7⟩ := run_cut_hi (P := Try.prog) hv Try.underlying46 hi3_.1 hi3_.2.2.1 (min xs.length 16) (by omega)
  refine enter (N := 9) Try.func51 rfl rfl rfl ?_
  refine g_seq ?_
  refine g_region ?_
  refine s_y (y_assign rfl) rfl rfl rfl rfl ?_
  refine s_nil ?_
  refine g_then ?_
  refine g_seq ?_
  refine g_region ?_
  refine s_y (y_move rfl) rfl rfl rfl rfl ?_
  refine s_y (y_move rfl) rfl rfl rfl rfl ?_
  refine s_y (y_lenV (n := xs.length) rfl (by obtain ⟨A, c, h1, _⟩ := hv; exact ⟨A, c, h1⟩) sle_46) rfl rfl rfl rfl ?_
  refine s_y (y_min rfl rfl) rfl rfl rfl rfl ?_
  rw [e16]
  refine s_y (y_slice rfl none_ev (some_ev rfl) hc7 sle_46) rfl rfl rfl rfl ?_
  refine s_tr (t_callm rfl rfl ent_59 (fun w h => Clone_any w v7 (xs.take (min xs.length 16)) (hr7 w (hv.below h.below)) (by rw [List.length_take]; omega))) rfl rfl rfl rfl (fun x2 hx3 => ?_)
  obtain ⟨vo1, mo1⟩ := x2
  obtain ⟨hOo1, hEo1⟩ := hx3
  refine s_y (y_assign rfl) rfl rfl rfl rfl ?_
  refine s_nil ?_
  refine g_then ?_
  refine g_ret ?_
  rw [show xs.take 16 = xs.take (min xs.length 16) from by rcases Nat.le_total xs.length 16 with h | h; rw [Nat.min_eq_left h, List.take_length, List.take_of_length_le h]; rw [Nat.min_eq_right h]]
  exact g_end trivial (fun a w ha hq_ => res1 ha rfl rfl  w) (fun w h => ⟨(_, mo1), ⟨hOo1, w, (h.hand (sub_here mo1 _)).at_⟩, rfl, h.hand (sub_here mo1 _)⟩)

theorem CloneE_nil (w : World) (n c : Nat) :
    Calls Try.prog 61 [.slice none n c].toArray w fun e w' => ∃ x : Value × List (Nat × Obj), (OwnP x.1 ([] : List (Int × Int)) x.2 ∧ ∃ W : World, ∀ p ∈ x.2, W.heap[p.1]? = some p.2) ∧ e = .returned (x.1) ∧ Hq w w x.2 w' := by
  refine enter (N := 8) Try.func61 rfl rfl rfl ?_
  refine g_seq ?_
  refine g_region ?_
  refine s_y (y_assign rfl) rfl rfl rfl rfl ?_
  refine s_nil ?_
  refine g_then ?_
  refine g_seq ?_
  refine g_seq ?_
  refine g_region ?_
  refine s_y (y_move rfl) rfl rfl rfl rfl ?_
  refine s_y (y_eqnil rfl rfl sle_38 (fun w => by kernel_rfl)) rfl rfl rfl rfl ?_
  refine s_nil ?_
  refine g_then ?_
  refine g_cond_t rfl ?_
  refine g_seq ?_
  refine g_region ?_
  refine s_y (y_assign rfl) rfl rfl rfl rfl ?_
  refine s_nil ?_
  refine g_then ?_
  refine g_ret ?_
  refine g_thenr ?_
  exact g_end trivial (fun a w ha hq_ => res1 ha rfl rfl  w) (fun w h => ⟨(_, []), ⟨OwnP.nil, w, (h.hand (List.nil_sublist _)).at_⟩, rfl, h.hand (List.nil_sublist _)⟩)

theorem CloneE_some (w : World) (a : Addr) (n c : Nat) (xs : List (Int × Int)) (hv : RdP w (.slice (some a) n c) xs) (hl : xs.length ≤ 1000000) :
    Calls Try.prog 61 [.slice (some a) n c].toArray w fun e w' => ∃ x : Value × List (Nat × Obj), (OwnP x.1 xs x.2 ∧ ∃ W : World, ∀ p ∈ x.2, W.heap[p.1]? = some p.2) ∧ e = .returned (x.1) ∧ Hq w w x.2 w' := by
  obtain ⟨ie88, hi88⟩ := inf_88
  refine enter (N := 8) Try.func61 rfl rfl rfl ?_
  refine g_seq ?_
  refine g_region ?_
  refine s_y (y_assign rfl) rfl rfl rfl rfl ?_
  refine s_nil ?_
  refine g_then ?_
  refine g_seq ?_
  refine g_seq ?_
  refine g_region ?_
  refine s_y (y_move rfl) rfl rfl rfl rfl ?_
  refine s_y (y_eqnil rfl rfl sle_38 (fun w => by kernel_rfl)) rfl rfl rfl rfl ?_
  refine s_nil ?_
  refine g_then ?_
  refine g_cond_f rfl ?_
  refine g_skip ?_
  refine g_then ?_
  refine g_seq ?_
  refine g_region ?_
  refine s_tr (t_build0 (enc := (Value.int .i64)) Try.underlying38 hi88.1) rfl rfl rfl rfl (fun be hbe => ?_)
  have hok1 : (SV.own be 0 []).ok 2 0 (cellsP []) := ⟨Nat.le_refl _, Nat.zero_le _, rfl, rfl⟩
  refine s_y (y_move rfl) rfl rfl rfl rfl ?_
  refine s_tr (t_appendRP0 (sv := (SV.own be 0 [])) (xs := []) (ys := xs) (n := 0)  _ rfl rfl rfl hok1 Try.underlying38 hi88.1 hi88.2.1 hi88.2.2.1 hi88.2.2.2 rfl (fun w h => (hv.below h.below)) (by omega) (by unfold maxLen; omega)) rfl rfl rfl rfl (fun y5 hok4 => ?_)
  obtain ⟨sv2, gs3⟩ := y5
  refine s_y (y_assign rfl) rfl rfl rfl rfl ?_
  refine s_nil ?_
  refine g_then ?_
  refine g_ret ?_
  exact g_end trivial (fun a w ha hq_ => res1 ha rfl rfl  w) (fun w h => ⟨(_, sv2.mem 88 (cellsP (([]) ++ xs))), ⟨(OwnP.sv hok4), w, (h.hand (sub_here (sv2.mem 88 (cellsP (([]) ++ xs))) _)).at_⟩, rfl, h.hand (sub_here (sv2.mem 88 (cellsP (([]) ++ xs))) _)⟩)

theorem CloneE_any (w : World) (v : Value) (xs : List (Int × Int)) (hv : RdP w v xs) (hl : xs.length ≤ 1000000) : Calls Try.prog 61 [v].toArray w fun e w' => ∃ x : Value × List (Nat × Obj), (OwnP x.1 xs x.2 ∧ ∃ W : World, ∀ p ∈ x.2, W.heap[p.1]? = some p.2) ∧ e = .returned (x.1) ∧ Hq w w x.2 w' := by
  obtain ⟨A, c, rfl, hc, hr⟩ := id hv
  cases A with
  | none =>
    have : xs = [] := by
      cases xs with
      | nil => rfl
      | cons x xs => obtain ⟨ad, h, _⟩ := hr 0 x rfl; cases h
    subst this
    exact CloneE_nil w _ c
  | some a => exact CloneE_some w a _ c xs hv hl

theorem cutE_app {xs : List (Int × Int)} {i : Nat} (h : i < xs.length) (h2 : (i : Int) < 40) : xs.take (min i 40) ++ [((rdP xs (i : Int)).1, (rdP xs (i : Int)).2)] = xs.take (min (i + 1) 40) := by
  rw [Nat.min_eq_left (by omega), Nat.min_eq_left (by omega), rdP_take h]
theorem cutE_skip {xs : List (Int × Int)} {i : Nat} (h2 : ¬ (i : Int) < 40) : xs.take (min i 40) = xs.take (min (i + 1) 40) := by
  rw [Nat.min_eq_right (by omega), Nat.min_eq_right (by omega)]

theorem script_any (w : World) (v : Value) (xs : List (Int × Int)) (hv : RdP w v xs) (hl : xs.length ≤ 9223372036854775807) :
    Calls Try.prog 36 [v].toArray w fun e w' => ∃ x : Value × List (Nat × Obj), (OwnP x.1 (xs.take 40) x.2 ∧ ∃ W : World, ∀ p ∈ x.2, W.heap[p.1]? = some p.2) ∧ e = .returned (x.1) ∧ Hq w w x.2 w' := by
  obtain ⟨ie88, hi88⟩ := inf_88
  refine enter (N := 25) Try.func36 rfl rfl rfl ?_
  refine g_seq ?_
  refine g_region ?_
  refine s_y (y_assign rfl) rfl rfl rfl rfl ?_
  refine s_nil ?_
  refine g_then ?_
  refine g_seq ?_
  refine g_region ?_
  refine s_y (y_assign rfl) rfl rfl rfl rfl ?_
  refine s_nil ?_
  refine g_then ?_
  refine g_seq ?_
  refine g_seq ?_
  refine g_region ?_
  refine s_y (y_move rfl) rfl rfl rfl rfl ?_
  refine s_y (y_lenV (n := xs.length) rfl (by obtain ⟨A, c, h1, _⟩ := hv; exact ⟨A, c, h1⟩) sle_43) rfl rfl rfl rfl ?_
  refine s_y (y_move rfl) rfl rfl rfl rfl ?_
  refine s_nil ?_
  refine g_then ?_
  refine g_block ?_
  refine g_loop (fun (i : Nat) act W => i ≤ xs.length ∧ ∃ (sv : SV) (m : Nat) (zs : List (Int × Int)) (w1 : World), (sv.ok 2 m (cellsP zs)) ∧ (m ≤ i) ∧ (zs = xs.take (min i 40)) ∧ Has 25 [] [(2, .slice none 0 0), (3, sv.val m), (6, v), (7, .int .i64 (xs.length : Nat)), (8, .int .i64 (i : Int))] act ∧ Hp w w1 ((sv.mem 88 (cellsP zs) ++ ([]))) W) (fun i => xs.length - i) 0 (fun act W ha hw => ⟨by omega, SV.nil, 0, [], W, (by exact ⟨rfl, rfl⟩), (by omega), (by simp), ha.weak (sub_get ⟨rfl, rfl, rfl, rfl, rfl, trivial⟩), hw.toHq.lookSub (List.Sublist.refl _)⟩) ?_
  intro i act W ⟨hb_i, sv, m, zs, w1, hokz, hmi, hzs, ha, hw⟩
  refine g_go ha hw ?_
  clear ha hw act W
  refine g_seq ?_
  refine g_region ?_
  refine s_y (y_lss rfl rfl) rfl rfl rfl rfl ?_
  refine s_nil ?_
  refine g_then ?_
  refine g_seq ?_
  refine g_cond rfl (fun cq1 => ?_) (fun cq1 => ?_)
  · (try simp at cq1)
    refine g_skip ?_
    refine g_then ?_
    refine g_seq ?_
    refine g_block ?_
    refine g_seq ?_
    refine g_region ?_
    refine s_y (y_move rfl) rfl rfl rfl rfl ?_
    refine s_y (y_idxP rfl rfl hv Try.underlying43 size_104 (by omega) (by omega)) rfl rfl rfl rfl ?_
    refine s_y (y_ldP (xs := xs) (fun w h => hv.rdl.below h.below) rfl agg_104 size_104 (rdP_at (by omega) (by omega))) rfl rfl rfl rfl ?_
    refine s_tr (t_alloc zero_104 rfl) rfl rfl rfl rfl (fun b2 hb2 => ?_)
    refine s_y (y_assign rfl) rfl rfl rfl rfl ?_
    refine s_tr0 (t_store 0 rfl rfl rfl rfl size_104 rfl rfl) rfl rfl rfl (fun _ _ => ?_)
    refine s_nil ?_
    refine g_then ?_
    refine g_seq ?_
    refine g_region ?_
    refine s_y (y_move rfl) rfl rfl rfl rfl ?_
    refine s_y (y_lss rfl rfl) rfl rfl rfl rfl ?_
    refine s_nil ?_
    refine g_then ?_
    refine g_cond rfl (fun cq3 => ?_) (fun cq3 => ?_)
    · (try simp at cq3)
      have hlt : (i : Int) < 40 := by omega
      refine g_region ?_
      refine s_y (y_move rfl) rfl rfl rfl rfl ?_
      refine s_y (y_fld rfl (fun w => fld_104_0 _ _ w)) rfl rfl rfl rfl ?_
      refine s_y (y_ld1 0 rfl rfl agg_3 rfl) rfl rfl rfl rfl ?_
      refine s_y (y_fld rfl (fun w => fld_104_1 _ _ w)) rfl rfl rfl rfl ?_
      refine s_y (y_ld1 0 rfl rfl agg_3 rfl) rfl rfl rfl rfl ?_
      refine s_y (y_build (vs := [(0, _), (1, _)]) rfl rfl (fun w => bld_88_0_1 _ _ w)) rfl rfl rfl rfl ?_
      refine s_tr (t_build (vs := [(0, .agg #[.int .i64 ((rdP xs (i : Int)).1), .int .i64 ((rdP xs (i : Int)).2)])]) (cells := [.int .i64 ((rdP xs (i : Int)).1), .int .i64 ((rdP xs (i : Int)).2)]) rfl rfl Try.underlying38 hi88.1 hi88.2.1 (by rw [hi88.2.2.1]; rfl) (by rw [hi88.2.2.1]; rfl) (by rw [hi88.2.2.1]; kernel_rfl)) rfl rfl rfl rfl (fun b4 hb4 => ?_)
      refine s_tr (t_appendP (sv := sv) (xs := zs) (n := m) (p := ((rdP xs (i : Int)).1, (rdP xs (i : Int)).2)) [_, _] _ rfl rfl rfl hokz Try.underlying38 hi88.1 hi88.2.1 hi88.2.2.1 hi88.2.2.2 rfl (fun w h => pair_new (i := 0) (p := ((rdP xs (i : Int)).1, (rdP xs (i : Int)).2)) h rfl) (by omega) (by unfold maxLen; omega)) rfl rfl rfl rfl (fun y8 hy9 => ?_)
      obtain ⟨sv5, gs6⟩ := y8
      obtain ⟨⟨hok7, hok7b, hok7c, hok7j, hok7e⟩, hok7n⟩ := hy9
      refine s_y (y_assign rfl) rfl rfl rfl rfl ?_
      refine s_nil ?_
      refine g_inb ?_
      refine g_then ?_
      refine g_region ?_
      refine s_y (y_add rfl rfl (by omega) (by omega)) rfl rfl rfl rfl ?_
      refine s_y (y_move rfl) rfl rfl rfl rfl ?_
      refine s_nil ?_
      refine g_then ?_
      exact fun act W ha hw => ⟨i + 1, by omega, by omega, sv5, (m + 1), (zs ++ [((rdP xs (i : Int)).1, (rdP xs (i : Int)).2)]), W, (by exact hok7), (by omega), (by rw [hzs]; first | exact cutE_app (by omega) hlt | exact cutE_skip hlt), ha.weak (sub_get ⟨rfl, rfl, rfl, rfl, rfl, trivial⟩), hw.toHq.lookSub (List.Sublist.cons _ (List.Sublist.cons _ (sub_app (sv5.mem 88 (cellsP (zs ++ [((rdP xs (i : Int)).1, (rdP xs (i : Int)).2)]))) (List.nil_sublist _))))⟩
    · (try simp at cq3)
      have hlt : ¬ (i : Int) < 40 := by omega
      refine g_skip ?_
      refine g_inb ?_
      refine g_then ?_
      refine g_region ?_
      refine s_y (y_add rfl rfl (by omega) (by omega)) rfl rfl rfl rfl ?_
      refine s_y (y_move rfl) rfl rfl rfl rfl ?_
      refine s_nil ?_
      refine g_then ?_
      exact fun act W ha hw => ⟨i + 1, by omega, by omega, sv, m, zs, W, (by exact hokz), (by omega), (by rw [hzs]; first | exact cutE_app (by omega) hlt | exact cutE_skip hlt), ha.weak (sub_get ⟨rfl, rfl, rfl, rfl, rfl, trivial⟩), hw.toHq.lookSub (List.Sublist.cons _ (List.Sublist.refl _))⟩
  · (try simp at cq1)
    refine g_exit ?_
    refine g_thenx ?_
    refine g_thenx ?_
    refine g_inbx ?_
    refine g_then ?_
    refine g_seq ?_
    refine g_region ?_
    refine s_y (y_move rfl) rfl rfl rfl rfl ?_
    refine s_y (y_assign rfl) rfl rfl rfl rfl ?_
    refine s_nil ?_
    refine g_then ?_
    refine g_ret ?_
    obtain rfl : i = xs.length := by omega
    rw [show xs.take 40 = zs from by rw [hzs]; rcases Nat.le_total xs.length 40 with h | h; rw [Nat.min_eq_left h, List.take_length, List.take_of_length_le h]; rw [Nat.min_eq_right h]]
    exact g_end trivial (fun a w ha hq_ => res1 ha rfl rfl  w) (fun w h => ⟨(_, sv.mem 88 (cellsP zs)), ⟨(OwnP.sv hokz), w, (h.hand (sub_here (sv.mem 88 (cellsP zs)) _)).at_⟩, rfl, h.hand (sub_here (sv.mem 88 (cellsP zs)) _)⟩)

theorem kinds (k : Int) : k < 0 ∨ k = 0 ∨ k = 1 ∨ k = 2 ∨ k = 3 ∨ 3 < k := by omega

theorem apply_aux (w : World) (a s : ByteArray) (pi po ps : Int) (v : Value) (xs : List (Int × Int)) (hs : s = sufx a 0) (hp : okP pi po ps) (hv : RdP w v xs) (hl : xs.length ≤ 1000) (ha : a.size ≤ 140737488351232) :
    Calls Try.prog 71 [.string s, v].toArray w fun e w' => e = .returned (.tuple #[.string (applyR a (runE a pi po ps st0 xs)).1, .bool (applyR a (runE a pi po ps st0 xs)).2]) ∧ Below w.heap.size w w' := by
  subst hs
  obtain ⟨hp1, hp2, hp3⟩ := id hp
  obtain ⟨ie5, hi5⟩ := inf_5
  refine enter (N := 106) Try.func71 rfl rfl rfl ?_
  refine g_seq ?_
  refine g_region ?_
  refine s_y (y_assign rfl) rfl rfl rfl rfl ?_
  refine s_y (y_assign rfl) rfl rfl rfl rfl ?_
  refine s_nil ?_
  refine g_then ?_
  refine g_seq ?_
  refine g_region ?_
  refine s_y (y_assign rfl) rfl rfl rfl rfl ?_
  refine s_nil ?_
  refine g_then ?_
  refine g_seq ?_
  refine g_seq ?_
  refine g_region ?_
  refine s_y (y_move rfl) rfl rfl rfl rfl ?_
  refine s_y (y_lenV (n := xs.length) rfl (by obtain ⟨A, c, h1, _⟩ := hv; exact ⟨A, c, h1⟩) sle_38) rfl rfl rfl rfl ?_
  refine s_y (y_move rfl) rfl rfl rfl rfl ?_
  refine s_nil ?_
  refine g_then ?_
  refine g_block ?_
  refine g_loop (fun (i : Nat) act W => i ≤ xs.length ∧ ∃ (sv : SV) (m : Nat) (os : List Int) (c : Int) (t : Nat) (w1 : World), (sv.ok 1 m (os.map (Value.int .u8))) ∧ (m ≤ i) ∧ (runE a pi po ps st0 (xs.take i) = some (os, c, t)) ∧ Has 106 [] [(0, .string (sufx a t)), (6, sv.val m), (10, v), (11, .int .i64 (xs.length : Nat)), (12, .int .i64 (i : Int))] act ∧ Hp w w1 ((sv.mem 5 (os.map (Value.int .u8)) ++ ([]))) W) (fun i => xs.length - i) 0 (fun act W ha hw => ⟨by omega, SV.nil, 0, [], 0, 0, W, (by exact ⟨rfl, rfl⟩), (by omega), (by simp [runE]), ha.weak (sub_get ⟨rfl, rfl, rfl, rfl, rfl, trivial⟩), hw.toHq.lookSub (List.Sublist.refl _)⟩) ?_
  intro i act W ⟨hb_i, sv, m, os, c, t, w1, hokz, hmi, hrun, ha, hw⟩
  refine g_go ha hw ?_
  clear ha hw act W
  obtain ⟨hb1, hb2, hb3, hb4, hb5, hb6⟩ := runE_bounds hp _ _ _ _ hrun
  rw [List.length_take] at hb1 hb3 hb5
  have hsz := sufx_size a t
  refine g_seq ?_
  refine g_region ?_
  refine s_y (y_lss rfl rfl) rfl rfl rfl rfl ?_
  refine s_nil ?_
  refine g_then ?_
  refine g_seq ?_
  refine g_cond rfl (fun cq1 => ?_) (fun cq1 => ?_)
  · (try simp at cq1)
    refine g_skip ?_
    refine g_then ?_
    refine g_seq ?_
    refine g_block ?_
    refine g_seq ?_
    refine g_region ?_
    refine s_y (y_idxP rfl rfl hv Try.underlying38 size_88 (by omega) (by omega)) rfl rfl rfl rfl ?_
    refine s_y (y_ldP (xs := xs) (fun w h => hv.rdl.below h.below) rfl agg_88 size_88 (rdP_at (by omega) (by omega))) rfl rfl rfl rfl ?_
    refine s_tr (t_alloc zero_88 rfl) rfl rfl rfl rfl (fun b2 hb2 => ?_)
    refine s_tr0 (t_store 0 rfl rfl rfl rfl size_88 rfl rfl) rfl rfl rfl (fun _ _ => ?_)
    refine s_nil ?_
    refine g_then ?_
    refine g_seq ?_
    rcases kinds (rdP xs (i : Int)).1 with e1 | e1 | e1 | e1 | e1 | e1
    · skip
      refine g_region ?_
      refine s_y (y_fld rfl (fun w => fld_88_0 _ _ w)) rfl rfl rfl rfl ?_
      refine s_y (y_ld1 0 rfl rfl agg_3 rfl) rfl rfl rfl rfl ?_
      refine s_y (y_eql_f rfl rfl (by omega)) rfl rfl rfl rfl ?_
      refine s_y (y_move rfl) rfl rfl rfl rfl ?_
      refine s_y (y_fld rfl (fun w => fld_88_0 _ _ w)) rfl rfl rfl rfl ?_
      refine s_y (y_ld1 0 rfl rfl agg_3 rfl) rfl rfl rfl rfl ?_
      refine s_y (y_eql_f rfl rfl (by omega)) rfl rfl rfl rfl ?_
      refine s_y (y_pick_f rfl rfl) rfl rfl rfl rfl ?_
      refine s_y (y_move rfl) rfl rfl rfl rfl ?_
      refine s_y (y_fld rfl (fun w => fld_88_0 _ _ w)) rfl rfl rfl rfl ?_
      refine s_y (y_ld1 0 rfl rfl agg_3 rfl) rfl rfl rfl rfl ?_
      refine s_y (y_eql_f rfl rfl (by omega)) rfl rfl rfl rfl ?_
      refine s_y (y_pick_f rfl rfl) rfl rfl rfl rfl ?_
      refine s_y (y_assign rfl) rfl rfl rfl rfl ?_
      refine s_nil ?_
      refine g_then ?_
      refine g_seq ?_
      refine g_block ?_
      refine g_seq ?_
      refine g_region ?_
      refine s_y (y_fld rfl (fun w => fld_88_0 _ _ w)) rfl rfl rfl rfl ?_
      refine s_y (y_ld1 0 rfl rfl agg_3 rfl) rfl rfl rfl rfl ?_
      refine s_y (y_lss_t rfl rfl (by omega)) rfl rfl rfl rfl ?_
      refine s_y (y_move rfl) rfl rfl rfl rfl ?_
      refine s_no rfl rfl rfl ?_
      refine s_no rfl rfl rfl ?_
      refine s_no rfl rfl rfl ?_
      refine s_y (y_pick_t rfl rfl) rfl rfl rfl rfl ?_
      refine s_y (y_move rfl) rfl rfl rfl rfl ?_
      refine s_no rfl rfl rfl ?_
      refine s_no rfl rfl rfl ?_
      refine s_no rfl rfl rfl ?_
      refine s_y (y_pick_t rfl rfl) rfl rfl rfl rfl ?_
      refine s_y (y_move rfl) rfl rfl rfl rfl ?_
      refine s_no rfl rfl rfl ?_
      refine s_no rfl rfl rfl ?_
      refine s_no rfl rfl rfl ?_
      refine s_y (y_pick_t rfl rfl) rfl rfl rfl rfl ?_
      refine s_y (y_move rfl) rfl rfl rfl rfl ?_
      refine s_no rfl rfl rfl ?_
      refine s_no rfl rfl rfl ?_
      refine s_noU rfl rfl rfl rfl rfl ?_
      refine s_noU rfl rfl rfl rfl rfl ?_
      refine s_no rfl rfl rfl ?_
      refine s_y (y_pick_t rfl rfl) rfl rfl rfl rfl ?_
      refine s_y (y_assign rfl) rfl rfl rfl rfl ?_
      refine s_nil ?_
      refine g_then ?_
      refine g_cond_t rfl ?_
      refine g_seq ?_
      refine g_region ?_
      refine s_y (y_assign rfl) rfl rfl rfl rfl ?_
      refine s_y (y_assign rfl) rfl rfl rfl rfl ?_
      refine s_nil ?_
      refine g_then ?_
      refine g_ret ?_
      refine g_inbr ?_
      refine g_thenr ?_
      refine g_inbr ?_
      refine g_thenr ?_
      refine g_thenr ?_
      refine g_inbr ?_
      refine g_thenr ?_
      have hnone : runE a pi po ps st0 xs = none := runE_cut (n := i + 1) (by
        rw [rdP_take (by omega), runE_snoc, hrun]; exact if_neg (by
          rintro ⟨g1, g2, g3, g4, g5, g6, g7⟩
          omega))
      rw [hnone]
      exact g_end trivial (fun a w ha hq_ => res2 ha rfl rfl rfl  w) (fun w h => ⟨rfl, h.below⟩)
    · skip
      refine g_region ?_
      refine s_y (y_fld rfl (fun w => fld_88_0 _ _ w)) rfl rfl rfl rfl ?_
      refine s_y (y_ld1 0 rfl rfl agg_3 rfl) rfl rfl rfl rfl ?_
      refine s_y (y_eql_t rfl rfl (by omega)) rfl rfl rfl rfl ?_
      refine s_y (y_move rfl) rfl rfl rfl rfl ?_
      refine s_no rfl rfl rfl ?_
      refine s_no rfl rfl rfl ?_
      refine s_no rfl rfl rfl ?_
      refine s_y (y_pick_t rfl rfl) rfl rfl rfl rfl ?_
      refine s_y (y_move rfl) rfl rfl rfl rfl ?_
      refine s_no rfl rfl rfl ?_
      refine s_no rfl rfl rfl ?_
      refine s_no rfl rfl rfl ?_
      refine s_y (y_pick_t rfl rfl) rfl rfl rfl rfl ?_
      refine s_y (y_assign rfl) rfl rfl rfl rfl ?_
      refine s_nil ?_
      refine g_then ?_
      refine g_seq ?_
      refine g_block ?_
      refine g_seq ?_
      refine g_region ?_
      refine s_y (y_fld rfl (fun w => fld_88_0 _ _ w)) rfl rfl rfl rfl ?_
      refine s_y (y_ld1 0 rfl rfl agg_3 rfl) rfl rfl rfl rfl ?_
      refine s_y (y_lss_f rfl rfl (by omega)) rfl rfl rfl rfl ?_
      refine s_y (y_move rfl) rfl rfl rfl rfl ?_
      refine s_y (y_fld rfl (fun w => fld_88_0 _ _ w)) rfl rfl rfl rfl ?_
      refine s_y (y_ld1 0 rfl rfl agg_3 rfl) rfl rfl rfl rfl ?_
      refine s_y (y_gtr_f rfl rfl (by omega)) rfl rfl rfl rfl ?_
      refine s_y (y_pick_f rfl rfl) rfl rfl rfl rfl ?_
      refine s_y (y_move rfl) rfl rfl rfl rfl ?_
      refine s_y (y_fld rfl (fun w => fld_88_1 _ _ w)) rfl rfl rfl rfl ?_
      refine s_y (y_ld1 0 rfl rfl agg_3 rfl) rfl rfl rfl rfl ?_
      refine s_y (y_lss rfl rfl) rfl rfl rfl rfl ?_
      refine s_y (y_pick_f rfl rfl) rfl rfl rfl rfl ?_
      refine s_y (y_move rfl) rfl rfl rfl rfl ?_
      refine g_bool 43 rfl (fun cq3 => ?_) (fun cq3 => ?_)
      · (try simp at cq3)
        refine s_no rfl rfl rfl ?_
        refine s_no rfl rfl rfl ?_
        refine s_no rfl rfl rfl ?_
        refine s_y (y_pick_t rfl rfl) rfl rfl rfl rfl ?_
        refine s_y (y_move rfl) rfl rfl rfl rfl ?_
        refine s_no rfl rfl rfl ?_
        refine s_no rfl rfl rfl ?_
        refine s_noU rfl rfl rfl rfl rfl ?_
        refine s_noU rfl rfl rfl rfl rfl ?_
        refine s_no rfl rfl rfl ?_
        refine s_y (y_pick_t rfl rfl) rfl rfl rfl rfl ?_
        refine s_y (y_assign rfl) rfl rfl rfl rfl ?_
        refine s_nil ?_
        refine g_then ?_
        refine g_cond_t rfl ?_
        refine g_seq ?_
        refine g_region ?_
        refine s_y (y_assign rfl) rfl rfl rfl rfl ?_
        refine s_y (y_assign rfl) rfl rfl rfl rfl ?_
        refine s_nil ?_
        refine g_then ?_
        refine g_ret ?_
        refine g_inbr ?_
        refine g_thenr ?_
        refine g_inbr ?_
        refine g_thenr ?_
        refine g_thenr ?_
        refine g_inbr ?_
        refine g_thenr ?_
        have hnone : runE a pi po ps st0 xs = none := runE_cut (n := i + 1) (by
          rw [rdP_take (by omega), runE_snoc, hrun]; exact if_neg (by
            rintro ⟨g1, g2, g3, g4, g5, g6, g7⟩
            omega))
        rw [hnone]
        exact g_end trivial (fun a w ha hq_ => res2 ha rfl rfl rfl  w) (fun w h => ⟨rfl, h.below⟩)
      · (try simp at cq3)
        refine s_y (y_fld rfl (fun w => fld_88_1 _ _ w)) rfl rfl rfl rfl ?_
        refine s_y (y_ld1 0 rfl rfl agg_3 rfl) rfl rfl rfl rfl ?_
        refine s_y (y_gtr rfl rfl) rfl rfl rfl rfl ?_
        refine s_y (y_pick_f rfl rfl) rfl rfl rfl rfl ?_
        refine s_y (y_move rfl) rfl rfl rfl rfl ?_
        refine g_bool 48 rfl (fun cq4 => ?_) (fun cq4 => ?_)
        · (try simp at cq4)
          refine s_no rfl rfl rfl ?_
          refine s_no rfl rfl rfl ?_
          refine s_noU rfl rfl rfl rfl rfl ?_
          refine s_noU rfl rfl rfl rfl rfl ?_
          refine s_no rfl rfl rfl ?_
          refine s_y (y_pick_t rfl rfl) rfl rfl rfl rfl ?_
          refine s_y (y_assign rfl) rfl rfl rfl rfl ?_
          refine s_nil ?_
          refine g_then ?_
          refine g_cond_t rfl ?_
          refine g_seq ?_
          refine g_region ?_
          refine s_y (y_assign rfl) rfl rfl rfl rfl ?_
          refine s_y (y_assign rfl) rfl rfl rfl rfl ?_
          refine s_nil ?_
          refine g_then ?_
          refine g_ret ?_
          refine g_inbr ?_
          refine g_thenr ?_
          refine g_inbr ?_
          refine g_thenr ?_
          refine g_thenr ?_
          refine g_inbr ?_
          refine g_thenr ?_
          have hnone : runE a pi po ps st0 xs = none := runE_cut (n := i + 1) (by
            rw [rdP_take (by omega), runE_snoc, hrun]; exact if_neg (by
              rintro ⟨g1, g2, g3, g4, g5, g6, g7⟩
              omega))
          rw [hnone]
          exact g_end trivial (fun a w ha hq_ => res2 ha rfl rfl rfl  w) (fun w h => ⟨rfl, h.below⟩)
        · (try simp at cq4)
          refine s_y (y_move rfl) rfl rfl rfl rfl ?_
          refine s_y (y_move rfl) rfl rfl rfl rfl ?_
          refine s_y (y_move rfl) rfl rfl rfl rfl ?_
          refine s_y (y_seql rfl rfl) rfl rfl rfl rfl ?_
          rw [show ((sufx a t).toList == (⟨#[]⟩ : ByteArray).toList) = decide (t = a.size) from sufx_nil (by omega)]
          refine s_y (y_pick_t rfl rfl) rfl rfl rfl rfl ?_
          refine s_y (y_pick_f rfl rfl) rfl rfl rfl rfl ?_
          refine s_y (y_assign rfl) rfl rfl rfl rfl ?_
          refine s_nil ?_
          refine g_then ?_
          refine g_cond rfl (fun cq5 => ?_) (fun cq5 => ?_)
          · (try simp at cq5)
            refine g_seq ?_
            refine g_region ?_
            refine s_y (y_assign rfl) rfl rfl rfl rfl ?_
            refine s_y (y_assign rfl) rfl rfl rfl rfl ?_
            refine s_nil ?_
            refine g_then ?_
            refine g_ret ?_
            refine g_inbr ?_
            refine g_thenr ?_
            refine g_inbr ?_
            refine g_thenr ?_
            refine g_thenr ?_
            refine g_inbr ?_
            refine g_thenr ?_
            have hnone : runE a pi po ps st0 xs = none := runE_cut (n := i + 1) (by
              rw [rdP_take (by omega), runE_snoc, hrun]; exact if_neg (by
                rintro ⟨g1, g2, g3, g4, g5, g6, g7⟩
                omega))
            rw [hnone]
            exact g_end trivial (fun a w ha hq_ => res2 ha rfl rfl rfl  w) (fun w h => ⟨rfl, h.below⟩)
          · (try simp at cq5)
            refine g_seq ?_
            refine g_seq ?_
            refine g_region ?_
            refine s_y (y_fld rfl (fun w => fld_88_0 _ _ w)) rfl rfl rfl rfl ?_
            refine s_y (y_ld1 0 rfl rfl agg_3 rfl) rfl rfl rfl rfl ?_
            refine s_y (y_eql_t rfl rfl (by omega)) rfl rfl rfl rfl ?_
            refine s_y (y_move rfl) rfl rfl rfl rfl ?_
            refine s_no rfl rfl rfl ?_
            refine s_no rfl rfl rfl ?_
            refine s_no rfl rfl rfl ?_
            refine s_y (y_pick_t rfl rfl) rfl rfl rfl rfl ?_
            refine s_y (y_move rfl) rfl rfl rfl rfl ?_
            refine s_y (y_fld rfl (fun w => fld_88_1 _ _ w)) rfl rfl rfl rfl ?_
            refine s_y (y_ld1 0 rfl rfl agg_3 rfl) rfl rfl rfl rfl ?_
            refine s_y (y_neq rfl rfl) rfl rfl rfl rfl ?_
            refine s_y (y_pick_t rfl rfl) rfl rfl rfl rfl ?_
            refine s_y (y_assign rfl) rfl rfl rfl rfl ?_
            refine s_nil ?_
            refine g_then ?_
            refine g_cond rfl (fun cq6 => ?_) (fun cq6 => ?_)
            · (try simp at cq6)
              refine g_skip ?_
              refine g_then ?_
              refine g_cond rfl (fun cq7 => ?_) (fun cq7 => ?_)
              · (try simp at cq7)
                refine g_seq ?_
                refine g_region ?_
                refine s_y (y_assign rfl) rfl rfl rfl rfl ?_
                refine s_y (y_assign rfl) rfl rfl rfl rfl ?_
                refine s_nil ?_
                refine g_then ?_
                refine g_ret ?_
                refine g_inbr ?_
                refine g_thenr ?_
                refine g_inbr ?_
                refine g_thenr ?_
                refine g_thenr ?_
                refine g_inbr ?_
                refine g_thenr ?_
                have hnone : runE a pi po ps st0 xs = none := runE_cut (n := i + 1) (by
                  rw [rdP_take (by omega), runE_snoc, hrun]; exact if_neg (by
                    rintro ⟨g1, g2, g3, g4, g5, g6, g7⟩
                    omega))
                rw [hnone]
                exact g_end trivial (fun a w ha hq_ => res2 ha rfl rfl rfl  w) (fun w h => ⟨rfl, h.below⟩)
              · (try simp at cq7)
                refine g_skip ?_
                refine g_inb ?_
                refine g_then ?_
                refine g_seq ?_
                refine g_seq ?_
                refine g_region ?_
                refine s_y (y_fld rfl (fun w => fld_88_0 _ _ w)) rfl rfl rfl rfl ?_
                refine s_y (y_ld1 0 rfl rfl agg_3 rfl) rfl rfl rfl rfl ?_
                refine s_nil ?_
                refine g_then ?_
                refine g_block ?_
                refine g_seq ?_
                refine g_region ?_
                refine s_y (y_eql_t rfl rfl (by omega)) rfl rfl rfl rfl ?_
                refine s_y (y_assign rfl) rfl rfl rfl rfl ?_
                refine s_nil ?_
                refine g_then ?_
                refine g_cond_t rfl ?_
                refine g_region ?_
                refine s_y (y_move rfl) rfl rfl rfl rfl ?_
                refine s_y (y_move rfl) rfl rfl rfl rfl ?_
                refine s_y (y_idxs rfl rfl Try.underlying9 (by omega) (by omega)) rfl rfl rfl rfl ?_
                rw [show bt (sufx a t) 0 = bt a t from sufx_bt (by omega)]
                refine s_tr (t_build (vs := [(0, .int .u8 (bt a (t : Int)))]) (cells := [.int .u8 (bt a (t : Int))]) rfl rfl Try.underlying103 hi5.1 hi5.2.1 (by rw [hi5.2.2.1]; rfl) (by rw [hi5.2.2.1]; rfl) (by rw [hi5.2.2.1]; kernel_rfl)) rfl rfl rfl rfl (fun b8 hb8 => ?_)
                refine s_tr (t_appendL (enc := (Value.int .u8)) (sv := sv) (xs := os) (n := m) (v := bt a (t : Int)) [_, _] _ rfl rfl rfl hokz Try.underlying103 hi5.1 hi5.2.1 hi5.2.2.1 hi5.2.2.2 rfl (fun w h => h.toHq.cell (i := 0) rfl rfl) rfl (by omega) (by unfold maxLen; omega)) rfl rfl rfl rfl (fun y12 hy13 => ?_)
                obtain ⟨sv9, gs10⟩ := y12
                obtain ⟨hok11, hok11b, hok11c, hok11j, hok11e⟩ := hy13
                refine s_y (y_assign rfl) rfl rfl rfl rfl ?_
                refine s_nil ?_
                refine g_inb ?_
                refine g_then ?_
                refine g_seq ?_
                refine g_region ?_
                refine s_y (y_move rfl) rfl rfl rfl rfl ?_
                refine s_nil ?_
                refine g_then ?_
                refine g_cond_t rfl ?_
                refine g_region ?_
                refine s_y (y_move rfl) rfl rfl rfl rfl ?_
                refine s_y (y_strl rfl rfl Try.underlying9 (by omega) (by omega)) rfl rfl rfl rfl ?_
                rw [show (sufx a t).extract (1 : Int).toNat (sufx a t).size = sufx a (t + 1) from sufx_next a t]
                refine s_y (y_assign rfl) rfl rfl rfl rfl ?_
                refine s_nil ?_
                refine g_inb ?_
                refine g_then ?_
                refine g_region ?_
                refine s_y (y_add rfl rfl (by omega) (by omega)) rfl rfl rfl rfl ?_
                refine s_y (y_move rfl) rfl rfl rfl rfl ?_
                refine s_nil ?_
                refine g_then ?_
                have hg : okE a t (rdP xs (i : Int)) := by unfold okE; refine ⟨by omega, by omega, by omega, by omega, by omega, by omega, by omega⟩
                exact fun act W ha hw => ⟨i + 1, by omega, by omega, sv9, (m + 1), (os ++ [bt a (t : Int)]), (c + priceOf pi po ps (rdP xs (i : Int)).1), (t + 1), W, (by exact hok11), (by omega), (by rw [rdP_take (by omega), runE_snoc, hrun]; simp only [stepE]; rw [if_pos hg]; simp [e1]), ha.weak (sub_get ⟨rfl, rfl, rfl, rfl, rfl, trivial⟩), hw.toHq.lookSub (List.Sublist.cons _ (List.Sublist.cons _ (sub_app (sv9.mem 5 ((os ++ [bt a (t : Int)]).map (Value.int .u8))) (List.nil_sublist _))))⟩
            · (try simp at cq6)
              refine g_draw 12 (by kernel_rfl) ?_
              refine j_p (i := 0) rfl (y_fld rfl (fun w => fld_88_0 _ _ w)) (by kernel_rfl) (by kernel_rfl) (by kernel_rfl) rfl rfl rfl rfl rfl (.inr (fun _ h => h)) ?_
              refine j_l (i := 1) rfl (y_ld1 0 rfl rfl agg_3 rfl) (by kernel_rfl) (by kernel_rfl) (by kernel_rfl) (by kernel_rfl) rfl rfl rfl rfl rfl (.inr (fun _ h => h)) ?_
              refine j_p (i := 2) rfl (y_eql_f rfl rfl (by omega)) (by kernel_rfl) (by kernel_rfl) (by kernel_rfl) rfl rfl rfl rfl rfl (.inr (fun _ h => h)) ?_
              refine j_p (i := 3) rfl (y_move rfl) (by kernel_rfl) (by kernel_rfl) (by kernel_rfl) rfl rfl rfl rfl rfl (.inr (fun _ h => h)) ?_
              refine j_no (i := 4) rfl (by kernel_rfl) (by kernel_rfl) (by kernel_rfl) rfl rfl rfl rfl rfl (.inr (fun _ h => h)) ?_
              refine j_no (i := 5) rfl (by kernel_rfl) (by kernel_rfl) (by kernel_rfl) rfl rfl rfl rfl rfl (.inr (fun _ h => h)) ?_
              refine j_no (i := 6) rfl (by kernel_rfl) (by kernel_rfl) (by kernel_rfl) rfl rfl rfl rfl rfl (.inr (fun _ h => h)) ?_
              refine j_no (i := 7) rfl (by kernel_rfl) (by kernel_rfl) (by kernel_rfl) rfl rfl rfl rfl rfl (.inr (fun _ h => h)) ?_
              refine j_no (i := 8) rfl (by kernel_rfl) (by kernel_rfl) (by kernel_rfl) rfl rfl rfl rfl rfl (.inr (fun _ h => h)) ?_
              refine j_no (i := 9) rfl (by kernel_rfl) (by kernel_rfl) (by kernel_rfl) rfl rfl rfl rfl rfl (.inr (fun _ h => h)) ?_
              refine j_p (i := 10) rfl (y_pick_f rfl rfl) (by kernel_rfl) (by kernel_rfl) (by kernel_rfl) rfl rfl rfl rfl rfl (.inr (fun _ h => h)) ?_
              refine j_p (i := 11) rfl (y_assign rfl) (by kernel_rfl) (by kernel_rfl) (by kernel_rfl) rfl rfl rfl rfl rfl (.inr (fun _ h => h)) ?_
              refine j_nil (by kernel_rfl) ?_
              refine g_then ?_
              refine g_cond_f rfl ?_
              refine g_skip ?_
              refine g_inb ?_
              refine g_then ?_
              refine g_seq ?_
              refine g_seq ?_
              refine g_region ?_
              refine s_y (y_fld rfl (fun w => fld_88_0 _ _ w)) rfl rfl rfl rfl ?_
              refine s_y (y_ld1 0 rfl rfl agg_3 rfl) rfl rfl rfl rfl ?_
              refine s_nil ?_
              refine g_then ?_
              refine g_block ?_
              refine g_seq ?_
              refine g_region ?_
              refine s_y (y_eql_t rfl rfl (by omega)) rfl rfl rfl rfl ?_
              refine s_y (y_assign rfl) rfl rfl rfl rfl ?_
              refine s_nil ?_
              refine g_then ?_
              refine g_cond_t rfl ?_
              refine g_region ?_
              refine s_y (y_move rfl) rfl rfl rfl rfl ?_
              refine s_y (y_move rfl) rfl rfl rfl rfl ?_
              refine s_y (y_idxs rfl rfl Try.underlying9 (by omega) (by omega)) rfl rfl rfl rfl ?_
              rw [show bt (sufx a t) 0 = bt a t from sufx_bt (by omega)]
              refine s_tr (t_build (vs := [(0, .int .u8 (bt a (t : Int)))]) (cells := [.int .u8 (bt a (t : Int))]) rfl rfl Try.underlying103 hi5.1 hi5.2.1 (by rw [hi5.2.2.1]; rfl) (by rw [hi5.2.2.1]; rfl) (by rw [hi5.2.2.1]; kernel_rfl)) rfl rfl rfl rfl (fun b14 hb14 => ?_)
              refine s_tr (t_appendL (enc := (Value.int .u8)) (sv := sv) (xs := os) (n := m) (v := bt a (t : Int)) [_, _] _ rfl rfl rfl hokz Try.underlying103 hi5.1 hi5.2.1 hi5.2.2.1 hi5.2.2.2 rfl (fun w h => h.toHq.cell (i := 0) rfl rfl) rfl (by omega) (by unfold maxLen; omega)) rfl rfl rfl rfl (fun y18 hy19 => ?_)
              obtain ⟨sv15, gs16⟩ := y18
              obtain ⟨hok17, hok17b, hok17c, hok17j, hok17e⟩ := hy19
              refine s_y (y_assign rfl) rfl rfl rfl rfl ?_
              refine s_nil ?_
              refine g_inb ?_
              refine g_then ?_
              refine g_seq ?_
              refine g_region ?_
              refine s_y (y_move rfl) rfl rfl rfl rfl ?_
              refine s_nil ?_
              refine g_then ?_
              refine g_cond_t rfl ?_
              refine g_region ?_
              refine s_y (y_move rfl) rfl rfl rfl rfl ?_
              refine s_y (y_strl rfl rfl Try.underlying9 (by omega) (by omega)) rfl rfl rfl rfl ?_
              rw [show (sufx a t).extract (1 : Int).toNat (sufx a t).size = sufx a (t + 1) from sufx_next a t]
              refine s_y (y_assign rfl) rfl rfl rfl rfl ?_
              refine s_nil ?_
              refine g_inb ?_
              refine g_then ?_
              refine g_region ?_
              refine s_y (y_add rfl rfl (by omega) (by omega)) rfl rfl rfl rfl ?_
              refine s_y (y_move rfl) rfl rfl rfl rfl ?_
              refine s_nil ?_
              refine g_then ?_
              have hg : okE a t (rdP xs (i : Int)) := by unfold okE; refine ⟨by omega, by omega, by omega, by omega, by omega, by omega, by omega⟩
              exact fun act W ha hw => ⟨i + 1, by omega, by omega, sv15, (m + 1), (os ++ [bt a (t : Int)]), (c + priceOf pi po ps (rdP xs (i : Int)).1), (t + 1), W, (by exact hok17), (by omega), (by rw [rdP_take (by omega), runE_snoc, hrun]; simp only [stepE]; rw [if_pos hg]; simp [e1]), ha.weak (sub_get ⟨rfl, rfl, rfl, rfl, rfl, trivial⟩), hw.toHq.lookSub (List.Sublist.cons _ (List.Sublist.cons _ (sub_app (sv15.mem 5 ((os ++ [bt a (t : Int)]).map (Value.int .u8))) (List.nil_sublist _))))⟩
    · skip
      refine g_region ?_
      refine s_y (y_fld rfl (fun w => fld_88_0 _ _ w)) rfl rfl rfl rfl ?_
      refine s_y (y_ld1 0 rfl rfl agg_3 rfl) rfl rfl rfl rfl ?_
      refine s_y (y_eql_f rfl rfl (by omega)) rfl rfl rfl rfl ?_
      refine s_y (y_move rfl) rfl rfl rfl rfl ?_
      refine s_y (y_fld rfl (fun w => fld_88_0 _ _ w)) rfl rfl rfl rfl ?_
      refine s_y (y_ld1 0 rfl rfl agg_3 rfl) rfl rfl rfl rfl ?_
      refine s_y (y_eql_t rfl rfl (by omega)) rfl rfl rfl rfl ?_
      refine s_y (y_pick_f rfl rfl) rfl rfl rfl rfl ?_
      refine s_y (y_move rfl) rfl rfl rfl rfl ?_
      refine s_no rfl rfl rfl ?_
      refine s_no rfl rfl rfl ?_
      refine s_no rfl rfl rfl ?_
      refine s_y (y_pick_t rfl rfl) rfl rfl rfl rfl ?_
      refine s_y (y_assign rfl) rfl rfl rfl rfl ?_
      refine s_nil ?_
      refine g_then ?_
      refine g_seq ?_
      refine g_block ?_
      refine g_seq ?_
      refine g_region ?_
      refine s_y (y_fld rfl (fun w => fld_88_0 _ _ w)) rfl rfl rfl rfl ?_
      refine s_y (y_ld1 0 rfl rfl agg_3 rfl) rfl rfl rfl rfl ?_
      refine s_y (y_lss_f rfl rfl (by omega)) rfl rfl rfl rfl ?_
      refine s_y (y_move rfl) rfl rfl rfl rfl ?_
      refine s_y (y_fld rfl (fun w => fld_88_0 _ _ w)) rfl rfl rfl rfl ?_
      refine s_y (y_ld1 0 rfl rfl agg_3 rfl) rfl rfl rfl rfl ?_
      refine s_y (y_gtr_f rfl rfl (by omega)) rfl rfl rfl rfl ?_
      refine s_y (y_pick_f rfl rfl) rfl rfl rfl rfl ?_
      refine s_y (y_move rfl) rfl rfl rfl rfl ?_
      refine s_y (y_fld rfl (fun w => fld_88_1 _ _ w)) rfl rfl rfl rfl ?_
      refine s_y (y_ld1 0 rfl rfl agg_3 rfl) rfl rfl rfl rfl ?_
      refine s_y (y_lss rfl rfl) rfl rfl rfl rfl ?_
      refine s_y (y_pick_f rfl rfl) rfl rfl rfl rfl ?_
      refine s_y (y_move rfl) rfl rfl rfl rfl ?_
      refine g_bool 43 rfl (fun cq20 => ?_) (fun cq20 => ?_)
      · (try simp at cq20)
        refine s_no rfl rfl rfl ?_
        refine s_no rfl rfl rfl ?_
        refine s_no rfl rfl rfl ?_
        refine s_y (y_pick_t rfl rfl) rfl rfl rfl rfl ?_
        refine s_y (y_move rfl) rfl rfl rfl rfl ?_
        refine s_no rfl rfl rfl ?_
        refine s_no rfl rfl rfl ?_
        refine s_noU rfl rfl rfl rfl rfl ?_
        refine s_noU rfl rfl rfl rfl rfl ?_
        refine s_no rfl rfl rfl ?_
        refine s_y (y_pick_t rfl rfl) rfl rfl rfl rfl ?_
        refine s_y (y_assign rfl) rfl rfl rfl rfl ?_
        refine s_nil ?_
        refine g_then ?_
        refine g_cond_t rfl ?_
        refine g_seq ?_
        refine g_region ?_
        refine s_y (y_assign rfl) rfl rfl rfl rfl ?_
        refine s_y (y_assign rfl) rfl rfl rfl rfl ?_
        refine s_nil ?_
        refine g_then ?_
        refine g_ret ?_
        refine g_inbr ?_
        refine g_thenr ?_
        refine g_inbr ?_
        refine g_thenr ?_
        refine g_thenr ?_
        refine g_inbr ?_
        refine g_thenr ?_
        have hnone : runE a pi po ps st0 xs = none := runE_cut (n := i + 1) (by
          rw [rdP_take (by omega), runE_snoc, hrun]; exact if_neg (by
            rintro ⟨g1, g2, g3, g4, g5, g6, g7⟩
            omega))
        rw [hnone]
        exact g_end trivial (fun a w ha hq_ => res2 ha rfl rfl rfl  w) (fun w h => ⟨rfl, h.below⟩)
      · (try simp at cq20)
        refine s_y (y_fld rfl (fun w => fld_88_1 _ _ w)) rfl rfl rfl rfl ?_
        refine s_y (y_ld1 0 rfl rfl agg_3 rfl) rfl rfl rfl rfl ?_
        refine s_y (y_gtr rfl rfl) rfl rfl rfl rfl ?_
        refine s_y (y_pick_f rfl rfl) rfl rfl rfl rfl ?_
        refine s_y (y_move rfl) rfl rfl rfl rfl ?_
        refine g_bool 48 rfl (fun cq21 => ?_) (fun cq21 => ?_)
        · (try simp at cq21)
          refine s_no rfl rfl rfl ?_
          refine s_no rfl rfl rfl ?_
          refine s_noU rfl rfl rfl rfl rfl ?_
          refine s_noU rfl rfl rfl rfl rfl ?_
          refine s_no rfl rfl rfl ?_
          refine s_y (y_pick_t rfl rfl) rfl rfl rfl rfl ?_
          refine s_y (y_assign rfl) rfl rfl rfl rfl ?_
          refine s_nil ?_
          refine g_then ?_
          refine g_cond_t rfl ?_
          refine g_seq ?_
          refine g_region ?_
          refine s_y (y_assign rfl) rfl rfl rfl rfl ?_
          refine s_y (y_assign rfl) rfl rfl rfl rfl ?_
          refine s_nil ?_
          refine g_then ?_
          refine g_ret ?_
          refine g_inbr ?_
          refine g_thenr ?_
          refine g_inbr ?_
          refine g_thenr ?_
          refine g_thenr ?_
          refine g_inbr ?_
          refine g_thenr ?_
          have hnone : runE a pi po ps st0 xs = none := runE_cut (n := i + 1) (by
            rw [rdP_take (by omega), runE_snoc, hrun]; exact if_neg (by
              rintro ⟨g1, g2, g3, g4, g5, g6, g7⟩
              omega))
          rw [hnone]
          exact g_end trivial (fun a w ha hq_ => res2 ha rfl rfl rfl  w) (fun w h => ⟨rfl, h.below⟩)
        · (try simp at cq21)
          refine s_y (y_move rfl) rfl rfl rfl rfl ?_
          refine s_y (y_move rfl) rfl rfl rfl rfl ?_
          refine s_y (y_move rfl) rfl rfl rfl rfl ?_
          refine s_y (y_seql rfl rfl) rfl rfl rfl rfl ?_
          rw [show ((sufx a t).toList == (⟨#[]⟩ : ByteArray).toList) = decide (t = a.size) from sufx_nil (by omega)]
          refine s_y (y_pick_t rfl rfl) rfl rfl rfl rfl ?_
          refine s_y (y_pick_f rfl rfl) rfl rfl rfl rfl ?_
          refine s_y (y_assign rfl) rfl rfl rfl rfl ?_
          refine s_nil ?_
          refine g_then ?_
          refine g_cond rfl (fun cq22 => ?_) (fun cq22 => ?_)
          · (try simp at cq22)
            refine g_seq ?_
            refine g_region ?_
            refine s_y (y_assign rfl) rfl rfl rfl rfl ?_
            refine s_y (y_assign rfl) rfl rfl rfl rfl ?_
            refine s_nil ?_
            refine g_then ?_
            refine g_ret ?_
            refine g_inbr ?_
            refine g_thenr ?_
            refine g_inbr ?_
            refine g_thenr ?_
            refine g_thenr ?_
            refine g_inbr ?_
            refine g_thenr ?_
            have hnone : runE a pi po ps st0 xs = none := runE_cut (n := i + 1) (by
              rw [rdP_take (by omega), runE_snoc, hrun]; exact if_neg (by
                rintro ⟨g1, g2, g3, g4, g5, g6, g7⟩
                omega))
            rw [hnone]
            exact g_end trivial (fun a w ha hq_ => res2 ha rfl rfl rfl  w) (fun w h => ⟨rfl, h.below⟩)
          · (try simp at cq22)
            refine g_seq ?_
            refine g_seq ?_
            refine g_region ?_
            refine s_y (y_fld rfl (fun w => fld_88_0 _ _ w)) rfl rfl rfl rfl ?_
            refine s_y (y_ld1 0 rfl rfl agg_3 rfl) rfl rfl rfl rfl ?_
            refine s_y (y_eql_f rfl rfl (by omega)) rfl rfl rfl rfl ?_
            refine s_y (y_move rfl) rfl rfl rfl rfl ?_
            refine s_y (y_fld rfl (fun w => fld_88_0 _ _ w)) rfl rfl rfl rfl ?_
            refine s_y (y_ld1 0 rfl rfl agg_3 rfl) rfl rfl rfl rfl ?_
            refine s_y (y_eql_f rfl rfl (by omega)) rfl rfl rfl rfl ?_
            refine s_y (y_pick_f rfl rfl) rfl rfl rfl rfl ?_
            refine s_y (y_move rfl) rfl rfl rfl rfl ?_
            refine s_no rfl rfl rfl ?_
            refine s_no rfl rfl rfl ?_
            refine s_no rfl rfl rfl ?_
            refine s_y (y_pick_f rfl rfl) rfl rfl rfl rfl ?_
            refine s_y (y_assign rfl) rfl rfl rfl rfl ?_
            refine s_nil ?_
            refine g_then ?_
            refine g_cond_f rfl ?_
            refine g_draw 12 (by kernel_rfl) ?_
            refine j_p (i := 0) rfl (y_fld rfl (fun w => fld_88_0 _ _ w)) (by kernel_rfl) (by kernel_rfl) (by kernel_rfl) rfl rfl rfl rfl rfl (.inr (fun _ h => h)) ?_
            refine j_l (i := 1) rfl (y_ld1 0 rfl rfl agg_3 rfl) (by kernel_rfl) (by kernel_rfl) (by kernel_rfl) (by kernel_rfl) rfl rfl rfl rfl rfl (.inr (fun _ h => h)) ?_
            refine j_p (i := 2) rfl (y_eql_t rfl rfl (by omega)) (by kernel_rfl) (by kernel_rfl) (by kernel_rfl) rfl rfl rfl rfl rfl (.inr (fun _ h => h)) ?_
            refine j_p (i := 3) rfl (y_move rfl) (by kernel_rfl) (by kernel_rfl) (by kernel_rfl) rfl rfl rfl rfl rfl (.inr (fun _ h => h)) ?_
            refine j_p (i := 4) rfl (y_move rfl) (by kernel_rfl) (by kernel_rfl) (by kernel_rfl) rfl rfl rfl rfl rfl (.inr (fun _ h => h)) ?_
            refine j_p (i := 5) rfl (y_idxs rfl rfl Try.underlying9 (by omega) (by omega)) (by kernel_rfl) (by kernel_rfl) (by kernel_rfl) rfl rfl rfl rfl rfl (.inr (fun _ h => h)) ?_
            rw [show bt (sufx a t) 0 = bt a t from sufx_bt (by omega)]
            refine j_p (i := 6) rfl (y_convb rfl (by kernel_rfl) Try.underlying3) (by kernel_rfl) (by kernel_rfl) (by kernel_rfl) rfl rfl rfl rfl rfl (.inr (fun _ h => h)) ?_
            refine j_p (i := 7) rfl (y_fld rfl (fun w => fld_88_1 _ _ w)) (by kernel_rfl) (by kernel_rfl) (by kernel_rfl) rfl rfl rfl rfl rfl (.inr (fun _ h => h)) ?_
            refine j_l (i := 8) rfl (y_ld1 0 rfl rfl agg_3 rfl) (by kernel_rfl) (by kernel_rfl) (by kernel_rfl) (by kernel_rfl) rfl rfl rfl rfl rfl (.inr (fun _ h => h)) ?_
            refine j_p (i := 9) rfl (y_eql rfl rfl) (by kernel_rfl) (by kernel_rfl) (by kernel_rfl) rfl rfl rfl rfl rfl (.inr (fun _ h => h)) ?_
            refine j_p (i := 10) rfl (y_pick_t rfl rfl) (by kernel_rfl) (by kernel_rfl) (by kernel_rfl) rfl rfl rfl rfl rfl (.inr (fun _ h => h)) ?_
            refine j_p (i := 11) rfl (y_assign rfl) (by kernel_rfl) (by kernel_rfl) (by kernel_rfl) rfl rfl rfl rfl rfl (.inr (fun _ h => h)) ?_
            refine j_nil (by kernel_rfl) ?_
            refine g_then ?_
            refine g_cond rfl (fun cq23 => ?_) (fun cq23 => ?_)
            · (try simp at cq23)
              refine g_seq ?_
              refine g_region ?_
              refine s_y (y_assign rfl) rfl rfl rfl rfl ?_
              refine s_y (y_assign rfl) rfl rfl rfl rfl ?_
              refine s_nil ?_
              refine g_then ?_
              refine g_ret ?_
              refine g_inbr ?_
              refine g_thenr ?_
              refine g_inbr ?_
              refine g_thenr ?_
              refine g_thenr ?_
              refine g_inbr ?_
              refine g_thenr ?_
              have hnone : runE a pi po ps st0 xs = none := runE_cut (n := i + 1) (by
                rw [rdP_take (by omega), runE_snoc, hrun]; exact if_neg (by
                  rintro ⟨g1, g2, g3, g4, g5, g6, g7⟩
                  omega))
              rw [hnone]
              exact g_end trivial (fun a w ha hq_ => res2 ha rfl rfl rfl  w) (fun w h => ⟨rfl, h.below⟩)
            · (try simp at cq23)
              refine g_skip ?_
              refine g_inb ?_
              refine g_then ?_
              refine g_seq ?_
              refine g_seq ?_
              refine g_region ?_
              refine s_y (y_fld rfl (fun w => fld_88_0 _ _ w)) rfl rfl rfl rfl ?_
              refine s_y (y_ld1 0 rfl rfl agg_3 rfl) rfl rfl rfl rfl ?_
              refine s_nil ?_
              refine g_then ?_
              refine g_block ?_
              refine g_seq ?_
              refine g_region ?_
              refine s_y (y_eql_f rfl rfl (by omega)) rfl rfl rfl rfl ?_
              refine s_y (y_assign rfl) rfl rfl rfl rfl ?_
              refine s_nil ?_
              refine g_then ?_
              refine g_cond_f rfl ?_
              refine g_seq ?_
              refine g_seq ?_
              refine g_region ?_
              refine s_y (y_eql_t rfl rfl (by omega)) rfl rfl rfl rfl ?_
              refine s_y (y_assign rfl) rfl rfl rfl rfl ?_
              refine s_nil ?_
              refine g_then ?_
              refine g_cond_t rfl ?_
              refine g_skip ?_
              refine g_then ?_
              refine g_cond_t rfl ?_
              refine g_region ?_
              refine s_y (y_move rfl) rfl rfl rfl rfl ?_
              refine s_y (y_fld rfl (fun w => fld_88_1 _ _ w)) rfl rfl rfl rfl ?_
              refine s_y (y_ld1 0 rfl rfl agg_3 rfl) rfl rfl rfl rfl ?_
              refine s_y (y_conv rfl (by kernel_rfl) Try.underlying5 (u8_eq (by omega) (by omega))) rfl rfl rfl rfl ?_
              refine s_tr (t_build (vs := [(0, .int .u8 ((rdP xs (i : Int)).2))]) (cells := [.int .u8 ((rdP xs (i : Int)).2)]) rfl rfl Try.underlying103 hi5.1 hi5.2.1 (by rw [hi5.2.2.1]; rfl) (by rw [hi5.2.2.1]; rfl) (by rw [hi5.2.2.1]; kernel_rfl)) rfl rfl rfl rfl (fun b24 hb24 => ?_)
              refine s_tr (t_appendL (enc := (Value.int .u8)) (sv := sv) (xs := os) (n := m) (v := (rdP xs (i : Int)).2) [_, _] _ rfl rfl rfl hokz Try.underlying103 hi5.1 hi5.2.1 hi5.2.2.1 hi5.2.2.2 rfl (fun w h => h.toHq.cell (i := 0) rfl rfl) rfl (by omega) (by unfold maxLen; omega)) rfl rfl rfl rfl (fun y28 hy29 => ?_)
              obtain ⟨sv25, gs26⟩ := y28
              obtain ⟨hok27, hok27b, hok27c, hok27j, hok27e⟩ := hy29
              refine s_y (y_assign rfl) rfl rfl rfl rfl ?_
              refine s_nil ?_
              refine g_inb ?_
              refine g_then ?_
              refine g_seq ?_
              refine g_region ?_
              refine s_y (y_move rfl) rfl rfl rfl rfl ?_
              refine s_nil ?_
              refine g_then ?_
              refine g_cond_t rfl ?_
              refine g_region ?_
              refine s_y (y_move rfl) rfl rfl rfl rfl ?_
              refine s_y (y_strl rfl rfl Try.underlying9 (by omega) (by omega)) rfl rfl rfl rfl ?_
              rw [show (sufx a t).extract (1 : Int).toNat (sufx a t).size = sufx a (t + 1) from sufx_next a t]
              refine s_y (y_assign rfl) rfl rfl rfl rfl ?_
              refine s_nil ?_
              refine g_inb ?_
              refine g_then ?_
              refine g_region ?_
              refine s_y (y_add rfl rfl (by omega) (by omega)) rfl rfl rfl rfl ?_
              refine s_y (y_move rfl) rfl rfl rfl rfl ?_
              refine s_nil ?_
              refine g_then ?_
              have hg : okE a t (rdP xs (i : Int)) := by unfold okE; refine ⟨by omega, by omega, by omega, by omega, by omega, by omega, by omega⟩
              exact fun act W ha hw => ⟨i + 1, by omega, by omega, sv25, (m + 1), (os ++ [(rdP xs (i : Int)).2]), (c + priceOf pi po ps (rdP xs (i : Int)).1), (t + 1), W, (by exact hok27), (by omega), (by rw [rdP_take (by omega), runE_snoc, hrun]; simp only [stepE]; rw [if_pos hg]; simp [e1]), ha.weak (sub_get ⟨rfl, rfl, rfl, rfl, rfl, trivial⟩), hw.toHq.lookSub (List.Sublist.cons _ (List.Sublist.cons _ (sub_app (sv25.mem 5 ((os ++ [(rdP xs (i : Int)).2]).map (Value.int .u8))) (List.nil_sublist _))))⟩
    · skip
      refine g_region ?_
      refine s_y (y_fld rfl (fun w => fld_88_0 _ _ w)) rfl rfl rfl rfl ?_
      refine s_y (y_ld1 0 rfl rfl agg_3 rfl) rfl rfl rfl rfl ?_
      refine s_y (y_eql_f rfl rfl (by omega)) rfl rfl rfl rfl ?_
      refine s_y (y_move rfl) rfl rfl rfl rfl ?_
      refine s_y (y_fld rfl (fun w => fld_88_0 _ _ w)) rfl rfl rfl rfl ?_
      refine s_y (y_ld1 0 rfl rfl agg_3 rfl) rfl rfl rfl rfl ?_
      refine s_y (y_eql_f rfl rfl (by omega)) rfl rfl rfl rfl ?_
      refine s_y (y_pick_f rfl rfl) rfl rfl rfl rfl ?_
      refine s_y (y_move rfl) rfl rfl rfl rfl ?_
      refine s_y (y_fld rfl (fun w => fld_88_0 _ _ w)) rfl rfl rfl rfl ?_
      refine s_y (y_ld1 0 rfl rfl agg_3 rfl) rfl rfl rfl rfl ?_
      refine s_y (y_eql_t rfl rfl (by omega)) rfl rfl rfl rfl ?_
      refine s_y (y_pick_f rfl rfl) rfl rfl rfl rfl ?_
      refine s_y (y_assign rfl) rfl rfl rfl rfl ?_
      refine s_nil ?_
      refine g_then ?_
      refine g_seq ?_
      refine g_block ?_
      refine g_seq ?_
      refine g_region ?_
      refine s_y (y_fld rfl (fun w => fld_88_0 _ _ w)) rfl rfl rfl rfl ?_
      refine s_y (y_ld1 0 rfl rfl agg_3 rfl) rfl rfl rfl rfl ?_
      refine s_y (y_lss_f rfl rfl (by omega)) rfl rfl rfl rfl ?_
      refine s_y (y_move rfl) rfl rfl rfl rfl ?_
      refine s_y (y_fld rfl (fun w => fld_88_0 _ _ w)) rfl rfl rfl rfl ?_
      refine s_y (y_ld1 0 rfl rfl agg_3 rfl) rfl rfl rfl rfl ?_
      refine s_y (y_gtr_f rfl rfl (by omega)) rfl rfl rfl rfl ?_
      refine s_y (y_pick_f rfl rfl) rfl rfl rfl rfl ?_
      refine s_y (y_move rfl) rfl rfl rfl rfl ?_
      refine s_y (y_fld rfl (fun w => fld_88_1 _ _ w)) rfl rfl rfl rfl ?_
      refine s_y (y_ld1 0 rfl rfl agg_3 rfl) rfl rfl rfl rfl ?_
      refine s_y (y_lss rfl rfl) rfl rfl rfl rfl ?_
      refine s_y (y_pick_f rfl rfl) rfl rfl rfl rfl ?_
      refine s_y (y_move rfl) rfl rfl rfl rfl ?_
      refine g_bool 43 rfl (fun cq30 => ?_) (fun cq30 => ?_)
      · (try simp at cq30)
        refine s_no rfl rfl rfl ?_
        refine s_no rfl rfl rfl ?_
        refine s_no rfl rfl rfl ?_
        refine s_y (y_pick_t rfl rfl) rfl rfl rfl rfl ?_
        refine s_y (y_move rfl) rfl rfl rfl rfl ?_
        refine s_no rfl rfl rfl ?_
        refine s_no rfl rfl rfl ?_
        refine s_noU rfl rfl rfl rfl rfl ?_
        refine s_noU rfl rfl rfl rfl rfl ?_
        refine s_no rfl rfl rfl ?_
        refine s_y (y_pick_t rfl rfl) rfl rfl rfl rfl ?_
        refine s_y (y_assign rfl) rfl rfl rfl rfl ?_
        refine s_nil ?_
        refine g_then ?_
        refine g_cond_t rfl ?_
        refine g_seq ?_
        refine g_region ?_
        refine s_y (y_assign rfl) rfl rfl rfl rfl ?_
        refine s_y (y_assign rfl) rfl rfl rfl rfl ?_
        refine s_nil ?_
        refine g_then ?_
        refine g_ret ?_
        refine g_inbr ?_
        refine g_thenr ?_
        refine g_inbr ?_
        refine g_thenr ?_
        refine g_thenr ?_
        refine g_inbr ?_
        refine g_thenr ?_
        have hnone : runE a pi po ps st0 xs = none := runE_cut (n := i + 1) (by
          rw [rdP_take (by omega), runE_snoc, hrun]; exact if_neg (by
            rintro ⟨g1, g2, g3, g4, g5, g6, g7⟩
            omega))
        rw [hnone]
        exact g_end trivial (fun a w ha hq_ => res2 ha rfl rfl rfl  w) (fun w h => ⟨rfl, h.below⟩)
      · (try simp at cq30)
        refine s_y (y_fld rfl (fun w => fld_88_1 _ _ w)) rfl rfl rfl rfl ?_
        refine s_y (y_ld1 0 rfl rfl agg_3 rfl) rfl rfl rfl rfl ?_
        refine s_y (y_gtr rfl rfl) rfl rfl rfl rfl ?_
        refine s_y (y_pick_f rfl rfl) rfl rfl rfl rfl ?_
        refine s_y (y_move rfl) rfl rfl rfl rfl ?_
        refine g_bool 48 rfl (fun cq31 => ?_) (fun cq31 => ?_)
        · (try simp at cq31)
          refine s_no rfl rfl rfl ?_
          refine s_no rfl rfl rfl ?_
          refine s_noU rfl rfl rfl rfl rfl ?_
          refine s_noU rfl rfl rfl rfl rfl ?_
          refine s_no rfl rfl rfl ?_
          refine s_y (y_pick_t rfl rfl) rfl rfl rfl rfl ?_
          refine s_y (y_assign rfl) rfl rfl rfl rfl ?_
          refine s_nil ?_
          refine g_then ?_
          refine g_cond_t rfl ?_
          refine g_seq ?_
          refine g_region ?_
          refine s_y (y_assign rfl) rfl rfl rfl rfl ?_
          refine s_y (y_assign rfl) rfl rfl rfl rfl ?_
          refine s_nil ?_
          refine g_then ?_
          refine g_ret ?_
          refine g_inbr ?_
          refine g_thenr ?_
          refine g_inbr ?_
          refine g_thenr ?_
          refine g_thenr ?_
          refine g_inbr ?_
          refine g_thenr ?_
          have hnone : runE a pi po ps st0 xs = none := runE_cut (n := i + 1) (by
            rw [rdP_take (by omega), runE_snoc, hrun]; exact if_neg (by
              rintro ⟨g1, g2, g3, g4, g5, g6, g7⟩
              omega))
          rw [hnone]
          exact g_end trivial (fun a w ha hq_ => res2 ha rfl rfl rfl  w) (fun w h => ⟨rfl, h.below⟩)
        · (try simp at cq31)
          refine s_y (y_move rfl) rfl rfl rfl rfl ?_
          refine s_y (y_move rfl) rfl rfl rfl rfl ?_
          refine s_y (y_move rfl) rfl rfl rfl rfl ?_
          refine s_y (y_seql rfl rfl) rfl rfl rfl rfl ?_
          rw [show ((sufx a t).toList == (⟨#[]⟩ : ByteArray).toList) = decide (t = a.size) from sufx_nil (by omega)]
          refine s_y (y_pick_t rfl rfl) rfl rfl rfl rfl ?_
          refine s_y (y_pick_f rfl rfl) rfl rfl rfl rfl ?_
          refine s_y (y_assign rfl) rfl rfl rfl rfl ?_
          refine s_nil ?_
          refine g_then ?_
          refine g_cond rfl (fun cq32 => ?_) (fun cq32 => ?_)
          · (try simp at cq32)
            refine g_seq ?_
            refine g_region ?_
            refine s_y (y_assign rfl) rfl rfl rfl rfl ?_
            refine s_y (y_assign rfl) rfl rfl rfl rfl ?_
            refine s_nil ?_
            refine g_then ?_
            refine g_ret ?_
            refine g_inbr ?_
            refine g_thenr ?_
            refine g_inbr ?_
            refine g_thenr ?_
            refine g_thenr ?_
            refine g_inbr ?_
            refine g_thenr ?_
            have hnone : runE a pi po ps st0 xs = none := runE_cut (n := i + 1) (by
              rw [rdP_take (by omega), runE_snoc, hrun]; exact if_neg (by
                rintro ⟨g1, g2, g3, g4, g5, g6, g7⟩
                omega))
            rw [hnone]
            exact g_end trivial (fun a w ha hq_ => res2 ha rfl rfl rfl  w) (fun w h => ⟨rfl, h.below⟩)
          · (try simp at cq32)
            refine g_seq ?_
            refine g_seq ?_
            refine g_region ?_
            refine s_y (y_fld rfl (fun w => fld_88_0 _ _ w)) rfl rfl rfl rfl ?_
            refine s_y (y_ld1 0 rfl rfl agg_3 rfl) rfl rfl rfl rfl ?_
            refine s_y (y_eql_f rfl rfl (by omega)) rfl rfl rfl rfl ?_
            refine s_y (y_move rfl) rfl rfl rfl rfl ?_
            refine s_y (y_fld rfl (fun w => fld_88_0 _ _ w)) rfl rfl rfl rfl ?_
            refine s_y (y_ld1 0 rfl rfl agg_3 rfl) rfl rfl rfl rfl ?_
            refine s_y (y_eql_t rfl rfl (by omega)) rfl rfl rfl rfl ?_
            refine s_y (y_pick_f rfl rfl) rfl rfl rfl rfl ?_
            refine s_y (y_move rfl) rfl rfl rfl rfl ?_
            refine s_y (y_fld rfl (fun w => fld_88_1 _ _ w)) rfl rfl rfl rfl ?_
            refine s_y (y_ld1 0 rfl rfl agg_3 rfl) rfl rfl rfl rfl ?_
            refine s_y (y_neq rfl rfl) rfl rfl rfl rfl ?_
            refine s_y (y_pick_t rfl rfl) rfl rfl rfl rfl ?_
            refine s_y (y_assign rfl) rfl rfl rfl rfl ?_
            refine s_nil ?_
            refine g_then ?_
            refine g_cond rfl (fun cq33 => ?_) (fun cq33 => ?_)
            · (try simp at cq33)
              refine g_skip ?_
              refine g_then ?_
              refine g_cond rfl (fun cq34 => ?_) (fun cq34 => ?_)
              · (try simp at cq34)
                refine g_seq ?_
                refine g_region ?_
                refine s_y (y_assign rfl) rfl rfl rfl rfl ?_
                refine s_y (y_assign rfl) rfl rfl rfl rfl ?_
                refine s_nil ?_
                refine g_then ?_
                refine g_ret ?_
                refine g_inbr ?_
                refine g_thenr ?_
                refine g_inbr ?_
                refine g_thenr ?_
                refine g_thenr ?_
                refine g_inbr ?_
                refine g_thenr ?_
                have hnone : runE a pi po ps st0 xs = none := runE_cut (n := i + 1) (by
                  rw [rdP_take (by omega), runE_snoc, hrun]; exact if_neg (by
                    rintro ⟨g1, g2, g3, g4, g5, g6, g7⟩
                    omega))
                rw [hnone]
                exact g_end trivial (fun a w ha hq_ => res2 ha rfl rfl rfl  w) (fun w h => ⟨rfl, h.below⟩)
              · (try simp at cq34)
                refine g_skip ?_
                refine g_inb ?_
                refine g_then ?_
                refine g_seq ?_
                refine g_seq ?_
                refine g_region ?_
                refine s_y (y_fld rfl (fun w => fld_88_0 _ _ w)) rfl rfl rfl rfl ?_
                refine s_y (y_ld1 0 rfl rfl agg_3 rfl) rfl rfl rfl rfl ?_
                refine s_nil ?_
                refine g_then ?_
                refine g_block ?_
                refine g_seq ?_
                refine g_region ?_
                refine s_y (y_eql_f rfl rfl (by omega)) rfl rfl rfl rfl ?_
                refine s_y (y_assign rfl) rfl rfl rfl rfl ?_
                refine s_nil ?_
                refine g_then ?_
                refine g_cond_f rfl ?_
                refine g_seq ?_
                refine g_seq ?_
                refine g_region ?_
                refine s_y (y_eql_f rfl rfl (by omega)) rfl rfl rfl rfl ?_
                refine s_y (y_assign rfl) rfl rfl rfl rfl ?_
                refine s_nil ?_
                refine g_then ?_
                refine g_cond_f rfl ?_
                refine g_region ?_
                refine s_y (y_eql_f rfl rfl (by omega)) rfl rfl rfl rfl ?_
                refine s_y (y_assign rfl) rfl rfl rfl rfl ?_
                refine s_nil ?_
                refine g_then ?_
                refine g_cond_f rfl ?_
                refine g_skip ?_
                refine g_inb ?_
                refine g_then ?_
                refine g_seq ?_
                refine g_region ?_
                refine s_y (y_move rfl) rfl rfl rfl rfl ?_
                refine s_nil ?_
                refine g_then ?_
                refine g_cond_t rfl ?_
                refine g_region ?_
                refine s_y (y_move rfl) rfl rfl rfl rfl ?_
                refine s_y (y_strl rfl rfl Try.underlying9 (by omega) (by omega)) rfl rfl rfl rfl ?_
                rw [show (sufx a t).extract (1 : Int).toNat (sufx a t).size = sufx a (t + 1) from sufx_next a t]
                refine s_y (y_assign rfl) rfl rfl rfl rfl ?_
                refine s_nil ?_
                refine g_inb ?_
                refine g_then ?_
                refine g_region ?_
                refine s_y (y_add rfl rfl (by omega) (by omega)) rfl rfl rfl rfl ?_
                refine s_y (y_move rfl) rfl rfl rfl rfl ?_
                refine s_nil ?_
                refine g_then ?_
                have hg : okE a t (rdP xs (i : Int)) := by unfold okE; refine ⟨by omega, by omega, by omega, by omega, by omega, by omega, by omega⟩
                exact fun act W ha hw => ⟨i + 1, by omega, by omega, sv, m, os, (c + priceOf pi po ps (rdP xs (i : Int)).1), (t + 1), W, (by exact hokz), (by omega), (by rw [rdP_take (by omega), runE_snoc, hrun]; simp only [stepE]; rw [if_pos hg]; simp [e1]), ha.weak (sub_get ⟨rfl, rfl, rfl, rfl, rfl, trivial⟩), hw.toHq.lookSub (List.Sublist.cons _ (List.Sublist.refl _))⟩
            · (try simp at cq33)
              refine g_draw 12 (by kernel_rfl) ?_
              refine j_p (i := 0) rfl (y_fld rfl (fun w => fld_88_0 _ _ w)) (by kernel_rfl) (by kernel_rfl) (by kernel_rfl) rfl rfl rfl rfl rfl (.inr (fun _ h => h)) ?_
              refine j_l (i := 1) rfl (y_ld1 0 rfl rfl agg_3 rfl) (by kernel_rfl) (by kernel_rfl) (by kernel_rfl) (by kernel_rfl) rfl rfl rfl rfl rfl (.inr (fun _ h => h)) ?_
              refine j_p (i := 2) rfl (y_eql_f rfl rfl (by omega)) (by kernel_rfl) (by kernel_rfl) (by kernel_rfl) rfl rfl rfl rfl rfl (.inr (fun _ h => h)) ?_
              refine j_p (i := 3) rfl (y_move rfl) (by kernel_rfl) (by kernel_rfl) (by kernel_rfl) rfl rfl rfl rfl rfl (.inr (fun _ h => h)) ?_
              refine j_no (i := 4) rfl (by kernel_rfl) (by kernel_rfl) (by kernel_rfl) rfl rfl rfl rfl rfl (.inr (fun _ h => h)) ?_
              refine j_no (i := 5) rfl (by kernel_rfl) (by kernel_rfl) (by kernel_rfl) rfl rfl rfl rfl rfl (.inr (fun _ h => h)) ?_
              refine j_no (i := 6) rfl (by kernel_rfl) (by kernel_rfl) (by kernel_rfl) rfl rfl rfl rfl rfl (.inr (fun _ h => h)) ?_
              refine j_no (i := 7) rfl (by kernel_rfl) (by kernel_rfl) (by kernel_rfl) rfl rfl rfl rfl rfl (.inr (fun _ h => h)) ?_
              refine j_no (i := 8) rfl (by kernel_rfl) (by kernel_rfl) (by kernel_rfl) rfl rfl rfl rfl rfl (.inr (fun _ h => h)) ?_
              refine j_no (i := 9) rfl (by kernel_rfl) (by kernel_rfl) (by kernel_rfl) rfl rfl rfl rfl rfl (.inr (fun _ h => h)) ?_
              refine j_p (i := 10) rfl (y_pick_f rfl rfl) (by kernel_rfl) (by kernel_rfl) (by kernel_rfl) rfl rfl rfl rfl rfl (.inr (fun _ h => h)) ?_
              refine j_p (i := 11) rfl (y_assign rfl) (by kernel_rfl) (by kernel_rfl) (by kernel_rfl) rfl rfl rfl rfl rfl (.inr (fun _ h => h)) ?_
              refine j_nil (by kernel_rfl) ?_
              refine g_then ?_
              refine g_cond_f rfl ?_
              refine g_skip ?_
              refine g_inb ?_
              refine g_then ?_
              refine g_seq ?_
              refine g_seq ?_
              refine g_region ?_
              refine s_y (y_fld rfl (fun w => fld_88_0 _ _ w)) rfl rfl rfl rfl ?_
              refine s_y (y_ld1 0 rfl rfl agg_3 rfl) rfl rfl rfl rfl ?_
              refine s_nil ?_
              refine g_then ?_
              refine g_block ?_
              refine g_seq ?_
              refine g_region ?_
              refine s_y (y_eql_f rfl rfl (by omega)) rfl rfl rfl rfl ?_
              refine s_y (y_assign rfl) rfl rfl rfl rfl ?_
              refine s_nil ?_
              refine g_then ?_
              refine g_cond_f rfl ?_
              refine g_seq ?_
              refine g_seq ?_
              refine g_region ?_
              refine s_y (y_eql_f rfl rfl (by omega)) rfl rfl rfl rfl ?_
              refine s_y (y_assign rfl) rfl rfl rfl rfl ?_
              refine s_nil ?_
              refine g_then ?_
              refine g_cond_f rfl ?_
              refine g_region ?_
              refine s_y (y_eql_f rfl rfl (by omega)) rfl rfl rfl rfl ?_
              refine s_y (y_assign rfl) rfl rfl rfl rfl ?_
              refine s_nil ?_
              refine g_then ?_
              refine g_cond_f rfl ?_
              refine g_skip ?_
              refine g_inb ?_
              refine g_then ?_
              refine g_seq ?_
              refine g_region ?_
              refine s_y (y_move rfl) rfl rfl rfl rfl ?_
              refine s_nil ?_
              refine g_then ?_
              refine g_cond_t rfl ?_
              refine g_region ?_
              refine s_y (y_move rfl) rfl rfl rfl rfl ?_
              refine s_y (y_strl rfl rfl Try.underlying9 (by omega) (by omega)) rfl rfl rfl rfl ?_
              rw [show (sufx a t).extract (1 : Int).toNat (sufx a t).size = sufx a (t + 1) from sufx_next a t]
              refine s_y (y_assign rfl) rfl rfl rfl rfl ?_
              refine s_nil ?_
              refine g_inb ?_
              refine g_then ?_
              refine g_region ?_
              refine s_y (y_add rfl rfl (by omega) (by omega)) rfl rfl rfl rfl ?_
              refine s_y (y_move rfl) rfl rfl rfl rfl ?_
              refine s_nil ?_
              refine g_then ?_
              have hg : okE a t (rdP xs (i : Int)) := by unfold okE; refine ⟨by omega, by omega, by omega, by omega, by omega, by omega, by omega⟩
              exact fun act W ha hw => ⟨i + 1, by omega, by omega, sv, m, os, (c + priceOf pi po ps (rdP xs (i : Int)).1), (t + 1), W, (by exact hokz), (by omega), (by rw [rdP_take (by omega), runE_snoc, hrun]; simp only [stepE]; rw [if_pos hg]; simp [e1]), ha.weak (sub_get ⟨rfl, rfl, rfl, rfl, rfl, trivial⟩), hw.toHq.lookSub (List.Sublist.cons _ (List.Sublist.refl _))⟩
    · skip
      refine g_region ?_
      refine s_y (y_fld rfl (fun w => fld_88_0 _ _ w)) rfl rfl rfl rfl ?_
      refine s_y (y_ld1 0 rfl rfl agg_3 rfl) rfl rfl rfl rfl ?_
      refine s_y (y_eql_f rfl rfl (by omega)) rfl rfl rfl rfl ?_
      refine s_y (y_move rfl) rfl rfl rfl rfl ?_
      refine s_y (y_fld rfl (fun w => fld_88_0 _ _ w)) rfl rfl rfl rfl ?_
      refine s_y (y_ld1 0 rfl rfl agg_3 rfl) rfl rfl rfl rfl ?_
      refine s_y (y_eql_f rfl rfl (by omega)) rfl rfl rfl rfl ?_
      refine s_y (y_pick_f rfl rfl) rfl rfl rfl rfl ?_
      refine s_y (y_move rfl) rfl rfl rfl rfl ?_
      refine s_y (y_fld rfl (fun w => fld_88_0 _ _ w)) rfl rfl rfl rfl ?_
      refine s_y (y_ld1 0 rfl rfl agg_3 rfl) rfl rfl rfl rfl ?_
      refine s_y (y_eql_f rfl rfl (by omega)) rfl rfl rfl rfl ?_
      refine s_y (y_pick_f rfl rfl) rfl rfl rfl rfl ?_
      refine s_y (y_assign rfl) rfl rfl rfl rfl ?_
      refine s_nil ?_
      refine g_then ?_
      refine g_seq ?_
      refine g_block ?_
      refine g_seq ?_
      refine g_region ?_
      refine s_y (y_fld rfl (fun w => fld_88_0 _ _ w)) rfl rfl rfl rfl ?_
      refine s_y (y_ld1 0 rfl rfl agg_3 rfl) rfl rfl rfl rfl ?_
      refine s_y (y_lss_f rfl rfl (by omega)) rfl rfl rfl rfl ?_
      refine s_y (y_move rfl) rfl rfl rfl rfl ?_
      refine s_y (y_fld rfl (fun w => fld_88_0 _ _ w)) rfl rfl rfl rfl ?_
      refine s_y (y_ld1 0 rfl rfl agg_3 rfl) rfl rfl rfl rfl ?_
      refine s_y (y_gtr_f rfl rfl (by omega)) rfl rfl rfl rfl ?_
      refine s_y (y_pick_f rfl rfl) rfl rfl rfl rfl ?_
      refine s_y (y_move rfl) rfl rfl rfl rfl ?_
      refine s_y (y_fld rfl (fun w => fld_88_1 _ _ w)) rfl rfl rfl rfl ?_
      refine s_y (y_ld1 0 rfl rfl agg_3 rfl) rfl rfl rfl rfl ?_
      refine s_y (y_lss rfl rfl) rfl rfl rfl rfl ?_
      refine s_y (y_pick_f rfl rfl) rfl rfl rfl rfl ?_
      refine s_y (y_move rfl) rfl rfl rfl rfl ?_
      refine g_bool 43 rfl (fun cq35 => ?_) (fun cq35 => ?_)
      · (try simp at cq35)
        refine s_no rfl rfl rfl ?_
        refine s_no rfl rfl rfl ?_
        refine s_no rfl rfl rfl ?_
        refine s_y (y_pick_t rfl rfl) rfl rfl rfl rfl ?_
        refine s_y (y_move rfl) rfl rfl rfl rfl ?_
        refine s_no rfl rfl rfl ?_
        refine s_no rfl rfl rfl ?_
        refine s_noU rfl rfl rfl rfl rfl ?_
        refine s_noU rfl rfl rfl rfl rfl ?_
        refine s_no rfl rfl rfl ?_
        refine s_y (y_pick_t rfl rfl) rfl rfl rfl rfl ?_
        refine s_y (y_assign rfl) rfl rfl rfl rfl ?_
        refine s_nil ?_
        refine g_then ?_
        refine g_cond_t rfl ?_
        refine g_seq ?_
        refine g_region ?_
        refine s_y (y_assign rfl) rfl rfl rfl rfl ?_
        refine s_y (y_assign rfl) rfl rfl rfl rfl ?_
        refine s_nil ?_
        refine g_then ?_
        refine g_ret ?_
        refine g_inbr ?_
        refine g_thenr ?_
        refine g_inbr ?_
        refine g_thenr ?_
        refine g_thenr ?_
        refine g_inbr ?_
        refine g_thenr ?_
        have hnone : runE a pi po ps st0 xs = none := runE_cut (n := i + 1) (by
          rw [rdP_take (by omega), runE_snoc, hrun]; exact if_neg (by
            rintro ⟨g1, g2, g3, g4, g5, g6, g7⟩
            omega))
        rw [hnone]
        exact g_end trivial (fun a w ha hq_ => res2 ha rfl rfl rfl  w) (fun w h => ⟨rfl, h.below⟩)
      · (try simp at cq35)
        refine s_y (y_fld rfl (fun w => fld_88_1 _ _ w)) rfl rfl rfl rfl ?_
        refine s_y (y_ld1 0 rfl rfl agg_3 rfl) rfl rfl rfl rfl ?_
        refine s_y (y_gtr rfl rfl) rfl rfl rfl rfl ?_
        refine s_y (y_pick_f rfl rfl) rfl rfl rfl rfl ?_
        refine s_y (y_move rfl) rfl rfl rfl rfl ?_
        refine g_bool 48 rfl (fun cq36 => ?_) (fun cq36 => ?_)
        · (try simp at cq36)
          refine s_no rfl rfl rfl ?_
          refine s_no rfl rfl rfl ?_
          refine s_noU rfl rfl rfl rfl rfl ?_
          refine s_noU rfl rfl rfl rfl rfl ?_
          refine s_no rfl rfl rfl ?_
          refine s_y (y_pick_t rfl rfl) rfl rfl rfl rfl ?_
          refine s_y (y_assign rfl) rfl rfl rfl rfl ?_
          refine s_nil ?_
          refine g_then ?_
          refine g_cond_t rfl ?_
          refine g_seq ?_
          refine g_region ?_
          refine s_y (y_assign rfl) rfl rfl rfl rfl ?_
          refine s_y (y_assign rfl) rfl rfl rfl rfl ?_
          refine s_nil ?_
          refine g_then ?_
          refine g_ret ?_
          refine g_inbr ?_
          refine g_thenr ?_
          refine g_inbr ?_
          refine g_thenr ?_
          refine g_thenr ?_
          refine g_inbr ?_
          refine g_thenr ?_
          have hnone : runE a pi po ps st0 xs = none := runE_cut (n := i + 1) (by
            rw [rdP_take (by omega), runE_snoc, hrun]; exact if_neg (by
              rintro ⟨g1, g2, g3, g4, g5, g6, g7⟩
              omega))
          rw [hnone]
          exact g_end trivial (fun a w ha hq_ => res2 ha rfl rfl rfl  w) (fun w h => ⟨rfl, h.below⟩)
        · (try simp at cq36)
          refine s_y (y_move rfl) rfl rfl rfl rfl ?_
          refine s_y (y_move rfl) rfl rfl rfl rfl ?_
          refine s_no rfl rfl rfl ?_
          refine s_no rfl rfl rfl ?_
          refine s_y (y_pick_f rfl rfl) rfl rfl rfl rfl ?_
          refine s_y (y_pick_f rfl rfl) rfl rfl rfl rfl ?_
          refine s_y (y_assign rfl) rfl rfl rfl rfl ?_
          refine s_nil ?_
          refine g_then ?_
          refine g_cond_f rfl ?_
          refine g_seq ?_
          refine g_seq ?_
          refine g_region ?_
          refine s_y (y_fld rfl (fun w => fld_88_0 _ _ w)) rfl rfl rfl rfl ?_
          refine s_y (y_ld1 0 rfl rfl agg_3 rfl) rfl rfl rfl rfl ?_
          refine s_y (y_eql_f rfl rfl (by omega)) rfl rfl rfl rfl ?_
          refine s_y (y_move rfl) rfl rfl rfl rfl ?_
          refine s_y (y_fld rfl (fun w => fld_88_0 _ _ w)) rfl rfl rfl rfl ?_
          refine s_y (y_ld1 0 rfl rfl agg_3 rfl) rfl rfl rfl rfl ?_
          refine s_y (y_eql_f rfl rfl (by omega)) rfl rfl rfl rfl ?_
          refine s_y (y_pick_f rfl rfl) rfl rfl rfl rfl ?_
          refine s_y (y_move rfl) rfl rfl rfl rfl ?_
          refine s_no rfl rfl rfl ?_
          refine s_no rfl rfl rfl ?_
          refine s_no rfl rfl rfl ?_
          refine s_y (y_pick_f rfl rfl) rfl rfl rfl rfl ?_
          refine s_y (y_assign rfl) rfl rfl rfl rfl ?_
          refine s_nil ?_
          refine g_then ?_
          refine g_cond_f rfl ?_
          refine g_draw 12 (by kernel_rfl) ?_
          refine j_p (i := 0) rfl (y_fld rfl (fun w => fld_88_0 _ _ w)) (by kernel_rfl) (by kernel_rfl) (by kernel_rfl) rfl rfl rfl rfl rfl (.inr (fun _ h => h)) ?_
          refine j_l (i := 1) rfl (y_ld1 0 rfl rfl agg_3 rfl) (by kernel_rfl) (by kernel_rfl) (by kernel_rfl) (by kernel_rfl) rfl rfl rfl rfl rfl (.inr (fun _ h => h)) ?_
          refine j_p (i := 2) rfl (y_eql_f rfl rfl (by omega)) (by kernel_rfl) (by kernel_rfl) (by kernel_rfl) rfl rfl rfl rfl rfl (.inr (fun _ h => h)) ?_
          refine j_p (i := 3) rfl (y_move rfl) (by kernel_rfl) (by kernel_rfl) (by kernel_rfl) rfl rfl rfl rfl rfl (.inr (fun _ h => h)) ?_
          refine j_no (i := 4) rfl (by kernel_rfl) (by kernel_rfl) (by kernel_rfl) rfl rfl rfl rfl rfl (.inr (fun _ h => h)) ?_
          refine j_no (i := 5) rfl (by kernel_rfl) (by kernel_rfl) (by kernel_rfl) rfl rfl rfl rfl rfl (.inr (fun _ h => h)) ?_
          refine j_no (i := 6) rfl (by kernel_rfl) (by kernel_rfl) (by kernel_rfl) rfl rfl rfl rfl rfl (.inr (fun _ h => h)) ?_
          refine j_no (i := 7) rfl (by kernel_rfl) (by kernel_rfl) (by kernel_rfl) rfl rfl rfl rfl rfl (.inr (fun _ h => h)) ?_
          refine j_no (i := 8) rfl (by kernel_rfl) (by kernel_rfl) (by kernel_rfl) rfl rfl rfl rfl rfl (.inr (fun _ h => h)) ?_
          refine j_no (i := 9) rfl (by kernel_rfl) (by kernel_rfl) (by kernel_rfl) rfl rfl rfl rfl rfl (.inr (fun _ h => h)) ?_
          refine j_p (i := 10) rfl (y_pick_f rfl rfl) (by kernel_rfl) (by kernel_rfl) (by kernel_rfl) rfl rfl rfl rfl rfl (.inr (fun _ h => h)) ?_
          refine j_p (i := 11) rfl (y_assign rfl) (by kernel_rfl) (by kernel_rfl) (by kernel_rfl) rfl rfl rfl rfl rfl (.inr (fun _ h => h)) ?_
          refine j_nil (by kernel_rfl) ?_
          refine g_then ?_
          refine g_cond_f rfl ?_
          refine g_skip ?_
          refine g_inb ?_
          refine g_then ?_
          refine g_seq ?_
          refine g_seq ?_
          refine g_region ?_
          refine s_y (y_fld rfl (fun w => fld_88_0 _ _ w)) rfl rfl rfl rfl ?_
          refine s_y (y_ld1 0 rfl rfl agg_3 rfl) rfl rfl rfl rfl ?_
          refine s_nil ?_
          refine g_then ?_
          refine g_block ?_
          refine g_seq ?_
          refine g_region ?_
          refine s_y (y_eql_f rfl rfl (by omega)) rfl rfl rfl rfl ?_
          refine s_y (y_assign rfl) rfl rfl rfl rfl ?_
          refine s_nil ?_
          refine g_then ?_
          refine g_cond_f rfl ?_
          refine g_seq ?_
          refine g_seq ?_
          refine g_region ?_
          refine s_y (y_eql_f rfl rfl (by omega)) rfl rfl rfl rfl ?_
          refine s_y (y_assign rfl) rfl rfl rfl rfl ?_
          refine s_nil ?_
          refine g_then ?_
          refine g_cond_f rfl ?_
          refine g_region ?_
          refine s_y (y_eql_t rfl rfl (by omega)) rfl rfl rfl rfl ?_
          refine s_y (y_assign rfl) rfl rfl rfl rfl ?_
          refine s_nil ?_
          refine g_then ?_
          refine g_cond_t rfl ?_
          refine g_region ?_
          refine s_y (y_move rfl) rfl rfl rfl rfl ?_
          refine s_y (y_fld rfl (fun w => fld_88_1 _ _ w)) rfl rfl rfl rfl ?_
          refine s_y (y_ld1 0 rfl rfl agg_3 rfl) rfl rfl rfl rfl ?_
          refine s_y (y_conv rfl (by kernel_rfl) Try.underlying5 (u8_eq (by omega) (by omega))) rfl rfl rfl rfl ?_
          refine s_tr (t_build (vs := [(0, .int .u8 ((rdP xs (i : Int)).2))]) (cells := [.int .u8 ((rdP xs (i : Int)).2)]) rfl rfl Try.underlying103 hi5.1 hi5.2.1 (by rw [hi5.2.2.1]; rfl) (by rw [hi5.2.2.1]; rfl) (by rw [hi5.2.2.1]; kernel_rfl)) rfl rfl rfl rfl (fun b37 hb37 => ?_)
          refine s_tr (t_appendL (enc := (Value.int .u8)) (sv := sv) (xs := os) (n := m) (v := (rdP xs (i : Int)).2) [_, _] _ rfl rfl rfl hokz Try.underlying103 hi5.1 hi5.2.1 hi5.2.2.1 hi5.2.2.2 rfl (fun w h => h.toHq.cell (i := 0) rfl rfl) rfl (by omega) (by unfold maxLen; omega)) rfl rfl rfl rfl (fun y41 hy42 => ?_)
          obtain ⟨sv38, gs39⟩ := y41
          obtain ⟨hok40, hok40b, hok40c, hok40j, hok40e⟩ := hy42
          refine s_y (y_assign rfl) rfl rfl rfl rfl ?_
          refine s_nil ?_
          refine g_inb ?_
          refine g_then ?_
          refine g_seq ?_
          refine g_region ?_
          refine s_y (y_move rfl) rfl rfl rfl rfl ?_
          refine s_nil ?_
          refine g_then ?_
          refine g_cond_f rfl ?_
          refine g_skip ?_
          refine g_inb ?_
          refine g_then ?_
          refine g_region ?_
          refine s_y (y_add rfl rfl (by omega) (by omega)) rfl rfl rfl rfl ?_
          refine s_y (y_move rfl) rfl rfl rfl rfl ?_
          refine s_nil ?_
          refine g_then ?_
          have hg : okE a t (rdP xs (i : Int)) := by unfold okE; refine ⟨by omega, by omega, by omega, by omega, by omega, by omega, by omega⟩
          exact fun act W ha hw => ⟨i + 1, by omega, by omega, sv38, (m + 1), (os ++ [(rdP xs (i : Int)).2]), (c + priceOf pi po ps (rdP xs (i : Int)).1), t, W, (by exact hok40), (by omega), (by rw [rdP_take (by omega), runE_snoc, hrun]; simp only [stepE]; rw [if_pos hg]; simp [e1]), ha.weak (sub_get ⟨rfl, rfl, rfl, rfl, rfl, trivial⟩), hw.toHq.lookSub (List.Sublist.cons _ (List.Sublist.cons _ (sub_app (sv38.mem 5 ((os ++ [(rdP xs (i : Int)).2]).map (Value.int .u8))) (List.nil_sublist _))))⟩
    · skip
      refine g_region ?_
      refine s_y (y_fld rfl (fun w => fld_88_0 _ _ w)) rfl rfl rfl rfl ?_
      refine s_y (y_ld1 0 rfl rfl agg_3 rfl) rfl rfl rfl rfl ?_
      refine s_y (y_eql_f rfl rfl (by omega)) rfl rfl rfl rfl ?_
      refine s_y (y_move rfl) rfl rfl rfl rfl ?_
      refine s_y (y_fld rfl (fun w => fld_88_0 _ _ w)) rfl rfl rfl rfl ?_
      refine s_y (y_ld1 0 rfl rfl agg_3 rfl) rfl rfl rfl rfl ?_
      refine s_y (y_eql_f rfl rfl (by omega)) rfl rfl rfl rfl ?_
      refine s_y (y_pick_f rfl rfl) rfl rfl rfl rfl ?_
      refine s_y (y_move rfl) rfl rfl rfl rfl ?_
      refine s_y (y_fld rfl (fun w => fld_88_0 _ _ w)) rfl rfl rfl rfl ?_
      refine s_y (y_ld1 0 rfl rfl agg_3 rfl) rfl rfl rfl rfl ?_
      refine s_y (y_eql_f rfl rfl (by omega)) rfl rfl rfl rfl ?_
      refine s_y (y_pick_f rfl rfl) rfl rfl rfl rfl ?_
      refine s_y (y_assign rfl) rfl rfl rfl rfl ?_
      refine s_nil ?_
      refine g_then ?_
      refine g_seq ?_
      refine g_block ?_
      refine g_seq ?_
      refine g_region ?_
      refine s_y (y_fld rfl (fun w => fld_88_0 _ _ w)) rfl rfl rfl rfl ?_
      refine s_y (y_ld1 0 rfl rfl agg_3 rfl) rfl rfl rfl rfl ?_
      refine s_y (y_lss_f rfl rfl (by omega)) rfl rfl rfl rfl ?_
      refine s_y (y_move rfl) rfl rfl rfl rfl ?_
      refine s_y (y_fld rfl (fun w => fld_88_0 _ _ w)) rfl rfl rfl rfl ?_
      refine s_y (y_ld1 0 rfl rfl agg_3 rfl) rfl rfl rfl rfl ?_
      refine s_y (y_gtr_t rfl rfl (by omega)) rfl rfl rfl rfl ?_
      refine s_y (y_pick_f rfl rfl) rfl rfl rfl rfl ?_
      refine s_y (y_move rfl) rfl rfl rfl rfl ?_
      refine s_no rfl rfl rfl ?_
      refine s_no rfl rfl rfl ?_
      refine s_no rfl rfl rfl ?_
      refine s_y (y_pick_t rfl rfl) rfl rfl rfl rfl ?_
      refine s_y (y_move rfl) rfl rfl rfl rfl ?_
      refine s_no rfl rfl rfl ?_
      refine s_no rfl rfl rfl ?_
      refine s_no rfl rfl rfl ?_
      refine s_y (y_pick_t rfl rfl) rfl rfl rfl rfl ?_
      refine s_y (y_move rfl) rfl rfl rfl rfl ?_
      refine s_no rfl rfl rfl ?_
      refine s_no rfl rfl rfl ?_
      refine s_noU rfl rfl rfl rfl rfl ?_
      refine s_noU rfl rfl rfl rfl rfl ?_
      refine s_no rfl rfl rfl ?_
      refine s_y (y_pick_t rfl rfl) rfl rfl rfl rfl ?_
      refine s_y (y_assign rfl) rfl rfl rfl rfl ?_
      refine s_nil ?_
      refine g_then ?_
      refine g_cond_t rfl ?_
      refine g_seq ?_
      refine g_region ?_
      refine s_y (y_assign rfl) rfl rfl rfl rfl ?_
      refine s_y (y_assign rfl) rfl rfl rfl rfl ?_
      refine s_nil ?_
      refine g_then ?_
      refine g_ret ?_
      refine g_inbr ?_
      refine g_thenr ?_
      refine g_inbr ?_
      refine g_thenr ?_
      refine g_thenr ?_
      refine g_inbr ?_
      refine g_thenr ?_
      have hnone : runE a pi po ps st0 xs = none := runE_cut (n := i + 1) (by
        rw [rdP_take (by omega), runE_snoc, hrun]; exact if_neg (by
          rintro ⟨g1, g2, g3, g4, g5, g6, g7⟩
          omega))
      rw [hnone]
      exact g_end trivial (fun a w ha hq_ => res2 ha rfl rfl rfl  w) (fun w h => ⟨rfl, h.below⟩)
  · (try simp at cq1)
    refine g_exit ?_
    refine g_thenx ?_
    refine g_thenx ?_
    refine g_inbx ?_
    refine g_then ?_
    refine g_seq ?_
    refine g_region ?_
    refine s_y (y_move rfl) rfl rfl rfl rfl ?_
    refine s_y (y_convs (ns := os) rfl Try.underlying103 Try.underlying5 Try.underlying9 hokz (fun w h p hp => h.at_ p (mem_al (sv.mem 5 (os.map (Value.int .u8))) hp))) rfl rfl rfl rfl ?_
    refine s_y (y_move rfl) rfl rfl rfl rfl ?_
    refine s_y (y_seql rfl rfl) rfl rfl rfl rfl ?_
    rw [show ((sufx a t).toList == (⟨#[]⟩ : ByteArray).toList) = decide (t = a.size) from sufx_nil (by omega)]
    refine s_y (y_assign rfl) rfl rfl rfl rfl ?_
    refine s_y (y_assign rfl) rfl rfl rfl rfl ?_
    refine s_nil ?_
    refine g_then ?_
    refine g_ret ?_
    obtain rfl : i = xs.length := by omega
    rw [List.take_length] at hrun
    rw [hrun]
    exact g_end trivial (fun a w ha hq_ => res2 ha rfl rfl rfl  w) (fun w h => ⟨rfl, h.below⟩)

theorem apply_any (w : World) (a : ByteArray) (pi po ps : Int) (v : Value) (xs : List (Int × Int)) (hp : okP pi po ps) (hv : RdP w v xs) (hl : xs.length ≤ 1000) (ha : a.size ≤ 140737488351232) :
    Calls Try.prog 71 [.string a, v].toArray w fun e w' => e = .returned (.tuple #[.string (applyR a (runE a pi po ps st0 xs)).1, .bool (applyR a (runE a pi po ps st0 xs)).2]) ∧ Below w.heap.size w w' := apply_aux w a a pi po ps v xs (sufx_zero a).symm hp hv hl ha

theorem Check_any (w : World) (a b : ByteArray) (pi po ps : Int) (v : Value) (xs : List (Int × Int)) (ha : a.size ≤ 12) (hb : b.size ≤ 12) (hp : okP pi po ps) (hv : RdP w v xs) (hl : xs.length ≤ 1000) :
    Calls Try.prog 35 [.string a, .string b, .agg #[.int .i64 pi, .int .i64 po, .int .i64 ps], v].toArray w fun e w' => e = .returned (.tuple #[.int .i64 (chkR a b (runE a pi po ps st0 xs)).1, .bool (chkR a b (runE a pi po ps st0 xs)).2, .int .i64 0]) ∧ Below w.heap.size w w' := by
  obtain ⟨hp1, hp2, hp3⟩ := id hp
  refine enter (N := 55) Try.func35 rfl rfl rfl ?_
  refine g_seq ?_
  refine g_region ?_
  refine s_tr (t_box rfl rfl) rfl rfl rfl rfl (fun b1 hb1 => ?_)
  refine s_y (y_assign rfl) rfl rfl rfl rfl ?_
  refine s_y (y_assign rfl) rfl rfl rfl rfl ?_
  refine s_y (y_assign rfl) rfl rfl rfl rfl ?_
  refine s_nil ?_
  refine g_then ?_
  refine g_seq ?_
  refine g_seq ?_
  refine g_region ?_
  refine s_y (y_move rfl) rfl rfl rfl rfl ?_
  refine s_tr (t_call rfl rfl ent_68 (fun w h => isLine_ok w a (by omega))) rfl rfl rfl rfl (fun _ _ => ?_)
  refine s_y (y_not_t rfl) rfl rfl rfl rfl ?_
  refine s_y (y_move rfl) rfl rfl rfl rfl ?_
  refine s_y (y_move rfl) rfl rfl rfl rfl ?_
  refine s_tr (t_call rfl rfl ent_68 (fun w h => isLine_ok w b (by omega))) rfl rfl rfl rfl (fun _ _ => ?_)
  refine s_y (y_not_t rfl) rfl rfl rfl rfl ?_
  refine s_y (y_pick_f rfl rfl) rfl rfl rfl rfl ?_
  refine s_y (y_move rfl) rfl rfl rfl rfl ?_
  refine s_y (y_ldn 0 rfl rfl agg_28 size_28 rfl rfl) rfl rfl rfl rfl ?_
  refine s_tr (t_call rfl rfl ent_69 (fun w h => valid_ok w pi po ps hp)) rfl rfl rfl rfl (fun _ _ => ?_)
  refine s_y (y_not_t rfl) rfl rfl rfl rfl ?_
  refine s_y (y_pick_f rfl rfl) rfl rfl rfl rfl ?_
  refine s_nil ?_
  refine g_then ?_
  refine g_cond_f rfl ?_
  refine g_skip ?_
  refine g_then ?_
  refine g_seq ?_
  refine g_seq ?_
  refine g_region ?_
  refine s_y (y_move rfl) rfl rfl rfl rfl ?_
  refine s_y (y_move rfl) rfl rfl rfl rfl ?_
  refine s_tr (t_call rfl rfl ent_71 (fun w h => apply_any w a pi po ps v xs hp (hv.below h.below) hl (by omega))) rfl rfl rfl rfl (fun _ _ => ?_)
  refine s_y (y_move rfl) rfl rfl rfl rfl ?_
  refine s_y (y_extract rfl rfl) rfl rfl rfl rfl ?_
  refine s_y (y_extract rfl rfl) rfl rfl rfl rfl ?_
  refine s_y (y_assign rfl) rfl rfl rfl rfl ?_
  refine s_y (y_assign rfl) rfl rfl rfl rfl ?_
  refine s_nil ?_
  refine g_then ?_
  refine g_seq ?_
  refine g_region ?_
  refine s_y (y_move rfl) rfl rfl rfl rfl ?_
  refine s_y (y_not rfl) rfl rfl rfl rfl ?_
  refine s_y (y_move rfl) rfl rfl rfl rfl ?_
  refine g_bool 37 rfl (fun cq2 => ?_) (fun cq2 => ?_)
  · (try simp at cq2)
    refine s_no rfl rfl rfl ?_
    refine s_no rfl rfl rfl ?_
    refine s_no rfl rfl rfl ?_
    refine s_y (y_pick_t rfl rfl) rfl rfl rfl rfl ?_
    refine s_nil ?_
    refine g_then ?_
    refine g_cond_t rfl ?_
    refine g_seq ?_
    refine g_region ?_
    refine s_y (y_assign rfl) rfl rfl rfl rfl ?_
    refine s_y (y_assign rfl) rfl rfl rfl rfl ?_
    refine s_y (y_assign rfl) rfl rfl rfl rfl ?_
    refine s_nil ?_
    refine g_then ?_
    refine g_ret ?_
    refine g_thenr ?_
    rw [show chkR a b (runE a pi po ps st0 xs) = (0, false) from by
      cases hr : runE a pi po ps st0 xs with
      | none => rfl
      | some z =>
        obtain ⟨o, c, t⟩ := z
        simp only [hr, applyR] at *
        unfold chkR
        simp only
        rw [if_neg]
        rintro ⟨h1, h2⟩
        simp_all]
    exact g_end trivial (fun a w ha hq_ => res3 ha rfl rfl rfl rfl  w) (fun w h => ⟨rfl, h.below⟩)
  · (try simp at cq2)
    have hok2 : (applyR a (runE a pi po ps st0 xs)).2 = true := by simpa using cq2
    refine s_y (y_move rfl) rfl rfl rfl rfl ?_
    refine s_y (y_move rfl) rfl rfl rfl rfl ?_
    refine s_y (y_sneq rfl rfl) rfl rfl rfl rfl ?_
    rw [toList_eq]
    refine s_y (y_pick_f rfl rfl) rfl rfl rfl rfl ?_
    refine s_nil ?_
    refine g_then ?_
    refine g_cond rfl (fun cq3 => ?_) (fun cq3 => ?_)
    · (try simp at cq3)
      refine g_seq ?_
      refine g_region ?_
      refine s_y (y_assign rfl) rfl rfl rfl rfl ?_
      refine s_y (y_assign rfl) rfl rfl rfl rfl ?_
      refine s_y (y_assign rfl) rfl rfl rfl rfl ?_
      refine s_nil ?_
      refine g_then ?_
      refine g_ret ?_
      refine g_thenr ?_
      rw [show chkR a b (runE a pi po ps st0 xs) = (0, false) from by
        cases hr : runE a pi po ps st0 xs with
        | none => rfl
        | some z =>
          obtain ⟨o, c, t⟩ := z
          simp only [hr, applyR] at *
          unfold chkR
          simp only
          rw [if_neg]
          rintro ⟨h1, h2⟩
          simp_all]
      exact g_end trivial (fun a w ha hq_ => res3 ha rfl rfl rfl rfl  w) (fun w h => ⟨rfl, h.below⟩)
    · (try simp at cq3)
      have heq2 : (applyR a (runE a pi po ps st0 xs)).1 = b := by simpa using cq3
      refine g_skip ?_
      refine g_then ?_
      refine g_seq ?_
      refine g_region ?_
      refine s_y (y_assign rfl) rfl rfl rfl rfl ?_
      refine s_nil ?_
      refine g_then ?_
      refine g_seq ?_
      refine g_seq ?_
      refine g_region ?_
      refine s_y (y_move rfl) rfl rfl rfl rfl ?_
      refine s_y (y_lenV (n := xs.length) rfl (by obtain ⟨A, c, h1, _⟩ := hv; exact ⟨A, c, h1⟩) sle_38) rfl rfl rfl rfl ?_
      refine s_y (y_move rfl) rfl rfl rfl rfl ?_
      refine s_nil ?_
      refine g_then ?_
      refine g_block ?_
      refine g_loop (fun (i : Nat) act W => i ≤ xs.length ∧ ∃ (c : Int) (w1 : World), (∃ o t, runE a pi po ps st0 (xs.take i) = some (o, c, t)) ∧ Has 55 [] [(6, .pointer (some ⟨b1, 0, none⟩)), (8, .int .i64 0), (9, .bool false), (10, .int .i64 0), (13, .int .i64 c), (42, v), (43, .int .i64 (xs.length : Nat)), (44, .int .i64 (i : Int))] act ∧ Hp w w1 ((b1, .cells [.int .i64 pi, .int .i64 po, .int .i64 ps].toArray 28 (0, 0)) :: []) W) (fun i => xs.length - i) 0 (fun act W ha hw => ⟨by omega, 0, W, (by exact ⟨[], 0, by simp [runE]⟩), ha.weak (sub_get ⟨rfl, rfl, rfl, rfl, rfl, rfl, rfl, rfl, trivial⟩), hw.toHq.lookSub (List.Sublist.refl _)⟩) ?_
      intro i act W ⟨hb_i, c, w1, hc, ha, hw⟩
      refine g_go ha hw ?_
      clear ha hw act W
      refine g_seq ?_
      refine g_region ?_
      refine s_y (y_lss rfl rfl) rfl rfl rfl rfl ?_
      refine s_nil ?_
      refine g_then ?_
      refine g_seq ?_
      refine g_cond rfl (fun cq4 => ?_) (fun cq4 => ?_)
      · (try simp at cq4)
        refine g_skip ?_
        refine g_then ?_
        refine g_seq ?_
        refine g_block ?_
        refine g_seq ?_
        obtain ⟨o, t, hrun⟩ := hc
        obtain ⟨hb1, hb2, hb3, hb4, hb5, hb6⟩ := runE_bounds hp _ _ _ _ hrun
        rw [List.length_take] at hb1 hb3 hb5
        have hg : okE a t (rdP xs (i : Int)) := Decidable.byContradiction fun hn => by
          have h_ : runE a pi po ps st0 xs = none := runE_cut (n := i + 1) (by rw [rdP_take (by omega), runE_snoc, hrun]; exact if_neg hn)
          rw [h_] at hok2; cases hok2
        obtain ⟨g1, g2, g3, g4, g5, g6, g7⟩ := id hg
        have hpr := price_range (k := (rdP xs (i : Int)).1) hp.1 hp.2.1 hp.2.2
        refine g_region ?_
        refine s_y (y_idxP rfl rfl hv Try.underlying38 size_88 (by omega) (by omega)) rfl rfl rfl rfl ?_
        refine s_y (y_ldP (xs := xs) (fun w h => hv.rdl.below h.below) rfl agg_88 size_88 (rdP_at (by omega) (by omega))) rfl rfl rfl rfl ?_
        refine s_tr (t_alloc zero_88 rfl) rfl rfl rfl rfl (fun b5 hb5 => ?_)
        refine s_tr0 (t_store 0 rfl rfl rfl rfl size_88 rfl rfl) rfl rfl rfl (fun _ _ => ?_)
        refine s_nil ?_
        refine g_then ?_
        refine g_region ?_
        refine s_y (y_move rfl) rfl rfl rfl rfl ?_
        refine s_y (y_ldn 1 rfl rfl agg_28 size_28 rfl rfl) rfl rfl rfl rfl ?_
        refine s_y (y_ldn 0 rfl rfl agg_88 size_88 rfl rfl) rfl rfl rfl rfl ?_
        refine s_tr (t_call rfl rfl ent_72 (fun w h => of_any w pi po ps _ _ (by omega) (by omega))) rfl rfl rfl rfl (fun _ _ => ?_)
        refine s_y (y_add rfl rfl (by omega) (by omega)) rfl rfl rfl rfl ?_
        refine s_y (y_assign rfl) rfl rfl rfl rfl ?_
        refine s_nil ?_
        refine g_inb ?_
        refine g_then ?_
        refine g_region ?_
        refine s_y (y_add rfl rfl (by omega) (by omega)) rfl rfl rfl rfl ?_
        refine s_y (y_move rfl) rfl rfl rfl rfl ?_
        refine s_nil ?_
        refine g_then ?_
        exact fun act W ha hw => ⟨i + 1, by omega, by omega, (c + (priceOf pi po ps ((rdP xs (i : Int)).1))), W, (by have h_ : runE a pi po ps st0 (xs.take (i + 1)) = some _ := by { rw [rdP_take (by omega), runE_snoc, hrun]; simp only [stepE]; rw [if_pos hg] }; exact ⟨_, _, h_⟩), ha.weak (sub_get ⟨rfl, rfl, rfl, rfl, rfl, rfl, rfl, rfl, trivial⟩), hw.toHq.lookSub (List.Sublist.cons _ (List.Sublist.refl _))⟩
      · (try simp at cq4)
        refine g_exit ?_
        refine g_thenx ?_
        refine g_thenx ?_
        refine g_inbx ?_
        refine g_then ?_
        refine g_seq ?_
        refine g_region ?_
        refine s_y (y_move rfl) rfl rfl rfl rfl ?_
        refine s_y (y_assign rfl) rfl rfl rfl rfl ?_
        refine s_y (y_assign rfl) rfl rfl rfl rfl ?_
        refine s_y (y_assign rfl) rfl rfl rfl rfl ?_
        refine s_nil ?_
        refine g_then ?_
        refine g_ret ?_
        obtain rfl : i = xs.length := by omega
        rw [List.take_length] at hc
        obtain ⟨o, t, hrun⟩ := hc
        rw [show chkR a b (runE a pi po ps st0 xs) = (c, true) from by
          rw [hrun] at hok2 heq2 ⊢
          simp only [applyR, decide_eq_true_eq] at hok2 heq2
          unfold chkR
          simp only
          rw [if_pos ⟨hok2, heq2⟩]]
        exact g_end trivial (fun a w ha hq_ => res3 ha rfl rfl rfl rfl  w) (fun w h => ⟨rfl, h.below⟩)

theorem Apply_ok (w : World) (a b : ByteArray) (pi po ps : Int) (v : Value) (xs : List (Int × Int)) (c : Int) (ha : a.size ≤ 12) (hp : okP pi po ps) (hv : RdP w v xs) (hl : xs.length ≤ 24) (hs : runE a pi po ps st0 xs = some (firstB b b.size, c, a.size)) :
    Calls Try.prog 37 [.string a, v].toArray w fun e w' => e = .returned (.tuple #[.string b, .int .i64 0]) ∧ Below w.heap.size w w' := by
  refine enter (N := 25) Try.func37 rfl rfl rfl ?_
  refine g_seq ?_
  refine g_region ?_
  refine s_y (y_assign rfl) rfl rfl rfl rfl ?_
  refine s_y (y_assign rfl) rfl rfl rfl rfl ?_
  refine s_nil ?_
  refine g_then ?_
  refine g_seq ?_
  refine g_seq ?_
  refine g_region ?_
  refine s_y (y_move rfl) rfl rfl rfl rfl ?_
  refine s_tr (t_call rfl rfl ent_68 (fun w h => isLine_ok w a (by omega))) rfl rfl rfl rfl (fun _ _ => ?_)
  refine s_y (y_not_t rfl) rfl rfl rfl rfl ?_
  refine s_y (y_move rfl) rfl rfl rfl rfl ?_
  refine s_y (y_move rfl) rfl rfl rfl rfl ?_
  refine s_y (y_lenV (n := xs.length) rfl (by obtain ⟨A, c, h1, _⟩ := hv; exact ⟨A, c, h1⟩) sle_38) rfl rfl rfl rfl ?_
  refine s_y (y_gtr_f rfl rfl (by omega)) rfl rfl rfl rfl ?_
  refine s_y (y_pick_f rfl rfl) rfl rfl rfl rfl ?_
  refine s_nil ?_
  refine g_then ?_
  refine g_cond_f rfl ?_
  refine g_skip ?_
  refine g_then ?_
  refine g_seq ?_
  refine g_region ?_
  refine s_y (y_move rfl) rfl rfl rfl rfl ?_
  refine s_y (y_move rfl) rfl rfl rfl rfl ?_
  refine s_tr (t_call rfl rfl ent_71 (fun w h => by have h_ := apply_any w a pi po ps v xs hp (hv.below h.below) (by omega) (by omega); rw [hs] at h_; simp only [applyR, strOf_first, decide_true] at h_; exact h_)) rfl rfl rfl rfl (fun _ _ => ?_)
  refine s_y (y_move rfl) rfl rfl rfl rfl ?_
  refine s_y (y_extract rfl rfl) rfl rfl rfl rfl ?_
  refine s_y (y_extract rfl rfl) rfl rfl rfl rfl ?_
  refine s_y (y_assign rfl) rfl rfl rfl rfl ?_
  refine s_y (y_assign rfl) rfl rfl rfl rfl ?_
  refine s_nil ?_
  refine g_then ?_
  refine g_seq ?_
  refine g_seq ?_
  refine g_region ?_
  refine s_y (y_move rfl) rfl rfl rfl rfl ?_
  refine s_y (y_not_t rfl) rfl rfl rfl rfl ?_
  refine s_nil ?_
  refine g_then ?_
  refine g_cond_f rfl ?_
  refine g_skip ?_
  refine g_then ?_
  refine g_seq ?_
  refine g_region ?_
  refine s_y (y_move rfl) rfl rfl rfl rfl ?_
  refine s_y (y_assign rfl) rfl rfl rfl rfl ?_
  refine s_y (y_assign rfl) rfl rfl rfl rfl ?_
  refine s_nil ?_
  refine g_then ?_
  refine g_ret ?_
  exact g_end trivial (fun a w ha hq_ => res2 ha rfl rfl rfl  w) (fun w h => ⟨rfl, h.below⟩)

end Go.Proofs.Ytnnpdgegejklpaa
