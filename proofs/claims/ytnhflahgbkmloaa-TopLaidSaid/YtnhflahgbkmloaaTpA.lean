/- top: parts, Lift, changes; the law TopLaid. -/
import Derived.Test.YtnhflahgbkmloaaEdE
import Derived.Test.YtnhflahgbkmloaaEdU
import Derived.Test.YtnhflahgbkmloaaDuMath
import Derived.Test.YtnhflahgbkmloaaSxApp
namespace Go.Proofs.Ytnhflahgbkmloaa
open Go.RowKit Go.Sx Go.WideMaps
set_option linter.unusedVariables false
set_option linter.unusedSimpArgs false
set_option maxRecDepth 100000
set_option maxHeartbeats 4000000

private theorem sle_27 : Try.prog.underlying 27 = some (.slice (Try.prog.elem 27)) := by kernel_rfl
private theorem inf_3 : ∃ ie, Try.prog.info? 3 = some ie ∧ ie.zero = some (.int .i64 0) ∧ ie.size = 1 ∧ ie.bytes = 8 := info_of (by kernel_rfl) (by kernel_rfl)
private theorem size_3 : (Try.prog.info? 3).map (·.size) = some 1 := by kernel_rfl
private theorem agg_3 : isAggB Try.prog 3 = some false := by kernel_rfl
private theorem ent_66 : Enters Try.prog 66 := enters_of Try.func66 (by kernel_rfl) rfl
private theorem ent_67 : Enters Try.prog 67 := enters_of Try.func67 (by kernel_rfl) rfl
private theorem ent_40 : Enters Try.prog 40 := enters_of Try.func40 (by kernel_rfl) rfl
private theorem ent_44 : Enters Try.prog 44 := enters_of Try.func44 (by kernel_rfl) rfl
private theorem ent_45 : Enters Try.prog 45 := enters_of Try.func45 (by kernel_rfl) rfl
private theorem bld_61_0_1_2 (x0 : Int) (x1 : Int) (x2 : Int) (w : World) : (Instr.build 61 #[(0, (.int .i64 x0)), (1, (.int .i64 x1)), (2, (.int .i64 x2))]).run Try.prog w = .ok (.agg #[(.int .i64 x0), (.int .i64 x1), (.int .i64 x2)]) w := by kernel_rfl
private theorem ent_41 : Enters Try.prog 41 := enters_of Try.func41 (by kernel_rfl) rfl
private theorem ent_17 : Enters Try.prog 17 := enters_of Try.func17 (by kernel_rfl) rfl
private theorem ent_20 : Enters Try.prog 20 := enters_of Try.func20 (by kernel_rfl) rfl
private theorem ent_19 : Enters Try.prog 19 := enters_of Try.func19 (by kernel_rfl) rfl
private theorem ent_21 : Enters Try.prog 21 := enters_of Try.func21 (by kernel_rfl) rfl
private theorem ent_18 : Enters Try.prog 18 := enters_of Try.func18 (by kernel_rfl) rfl

theorem Clone_nil (w : World) (n c : Nat) :
    Calls Try.prog 20 [.slice none n c].toArray w fun e w' => ∃ x : Value × List (Nat × Obj), (OwnV (Value.int .i64) x.1 ([] : List Int) x.2 ∧ ∃ W : World, ∀ p ∈ x.2, W.heap[p.1]? = some p.2) ∧ e = .returned (x.1) ∧ Hq w w x.2 w' := by
  refine enter (N := 8) Try.func20 rfl rfl rfl ?_
  refine g_seq ?_
  refine g_region ?_
  refine s_y (y_assign rfl) rfl rfl rfl rfl ?_
  refine s_nil ?_
  refine g_then ?_
  refine g_seq ?_
  refine g_seq ?_
  refine g_region ?_
  refine s_y (y_move rfl) rfl rfl rfl rfl ?_
  refine s_y (y_eqnil rfl rfl sle_27 (fun w => by kernel_rfl)) rfl rfl rfl rfl ?_
  refine s_nil ?_
  refine g_then ?_
  refine g_cond_t rfl ?_
  refine g_seq ?_
  refine g_region ?_
  refine s_y (y_assign rfl) rfl rfl rfl rfl ?_
  refine s_nil ?_
  refine g_then ?_
  refine g_ret ?_
  refine g_thenr ?_
  exact g_end trivial (fun a w ha hq_ => res1 ha rfl rfl  w) (fun w h => ⟨(_, []), ⟨OwnV.nil, w, (h.hand (List.nil_sublist _)).at_⟩, rfl, h.hand (List.nil_sublist _)⟩)

theorem Clone_some (w : World) (a : Addr) (n c : Nat) (xs : List Int) (hv : RdV (Value.int .i64) w (.slice (some a) n c) xs) (hl : xs.length ≤ 1000000) :
    Calls Try.prog 20 [.slice (some a) n c].toArray w fun e w' => ∃ x : Value × List (Nat × Obj), (OwnV (Value.int .i64) x.1 xs x.2 ∧ ∃ W : World, ∀ p ∈ x.2, W.heap[p.1]? = some p.2) ∧ e = .returned (x.1) ∧ Hq w w x.2 w' := by
  obtain ⟨ie3, hi3⟩ := inf_3
  refine enter (N := 8) Try.func20 rfl rfl rfl ?_
  refine g_seq ?_
  refine g_region ?_
  refine s_y (y_assign rfl) rfl rfl rfl rfl ?_
  refine s_nil ?_
  refine g_then ?_
  refine g_seq ?_
  refine g_seq ?_
  refine g_region ?_
  refine s_y (y_move rfl) rfl rfl rfl rfl ?_
  refine s_y (y_eqnil rfl rfl sle_27 (fun w => by kernel_rfl)) rfl rfl rfl rfl ?_
  refine s_nil ?_
  refine g_then ?_
  refine g_cond_f rfl ?_
  refine g_skip ?_
  refine g_then ?_
  refine g_seq ?_
  refine g_region ?_
  refine s_tr (t_build0 (enc := (Value.int .i64)) Try.underlying27 hi3.1) rfl rfl rfl rfl (fun be hbe => ?_)
  have hok1 : (SV.own be 0 []).ok 1 0 (List.map (Value.int .i64) []) := ⟨Nat.le_refl _, Nat.zero_le _, rfl, rfl⟩
  refine s_y (y_move rfl) rfl rfl rfl rfl ?_
  refine s_tr (t_appendR0 (enc := (Value.int .i64)) (sv := (SV.own be 0 [])) (xs := []) (ys := xs) (n := 0)  _ rfl rfl rfl hok1 Try.underlying27 hi3.1 hi3.2.1 hi3.2.2.1 hi3.2.2.2 rfl (fun w h => (hv.below h.below)) (fun _ => rfl) (by omega) (by unfold maxLen; omega)) rfl rfl rfl rfl (fun y5 hok4 => ?_)
  obtain ⟨sv2, gs3⟩ := y5
  refine s_y (y_assign rfl) rfl rfl rfl rfl ?_
  refine s_nil ?_
  refine g_then ?_
  refine g_ret ?_
  exact g_end trivial (fun a w ha hq_ => res1 ha rfl rfl  w) (fun w h => ⟨(_, sv2.mem 3 ((([]) ++ xs).map (Value.int .i64))), ⟨(OwnV.sv hok4), w, (h.hand (sub_here (sv2.mem 3 ((([]) ++ xs).map (Value.int .i64))) _)).at_⟩, rfl, h.hand (sub_here (sv2.mem 3 ((([]) ++ xs).map (Value.int .i64))) _)⟩)

theorem Clone_any (w : World) (v : Value) (xs : List Int) (hv : RdV (Value.int .i64) w v xs) (hl : xs.length ≤ 1000000) : Calls Try.prog 20 [v].toArray w fun e w' => ∃ x : Value × List (Nat × Obj), (OwnV (Value.int .i64) x.1 xs x.2 ∧ ∃ W : World, ∀ p ∈ x.2, W.heap[p.1]? = some p.2) ∧ e = .returned (x.1) ∧ Hq w w x.2 w' := by
  obtain ⟨A, c, rfl, hc, hr⟩ := id hv
  cases A with
  | none =>
    have : xs = [] := by
      cases xs with
      | nil => rfl
      | cons x xs => obtain ⟨ad, h, _⟩ := hr 0 x rfl; cases h
    subst this
    exact Clone_nil w _ c
  | some a => exact Clone_some w a _ c xs hv hl

theorem rdI_take {xs : List Int} {k : Nat} (h : k < xs.length) : xs.take (k + 1) = xs.take k ++ [rdI xs (k : Int)] := by
  rw [List.take_succ_eq_append_getElem h]
  simp [rdI_nat, List.getD_eq_getElem?_getD, h]
theorem first_take {xs : List Int} (h : 1 ≤ xs.length) : rdI xs 0 ∈ xs.take 1 ∧ xs.take 1 = [rdI xs 0] := by
  have := rdI_take (xs := xs) (k := 0) (by omega)
  rw [List.take_zero, List.nil_append] at this
  exact ⟨by rw [this]; simp, this⟩
theorem take_min {xs : List Int} {i : Nat} {z : Int} (h : i + 1 < xs.length) (hz : z ∈ xs.take (i + 1) ∧ ∀ x ∈ xs.take (i + 1), z ≤ x) :
    (if rdI xs ((i + 1 : Nat) : Int) < z then rdI xs ((i + 1 : Nat) : Int) else z) ∈ xs.take (i + 1 + 1) ∧ ∀ x ∈ xs.take (i + 1 + 1), (if rdI xs ((i + 1 : Nat) : Int) < z then rdI xs ((i + 1 : Nat) : Int) else z) ≤ x := by
  rw [rdI_take h]
  refine ⟨?_, fun x hx => ?_⟩
  · split
    · simp
    · exact List.mem_append_left _ hz.1
  · rcases List.mem_append.1 hx with hx | hx
    · have := hz.2 x hx; split <;> omega
    · rw [List.mem_singleton] at hx; subst hx; split <;> omega
theorem take_max {xs : List Int} {i : Nat} {z : Int} (h : i + 1 < xs.length) (hz : z ∈ xs.take (i + 1) ∧ ∀ x ∈ xs.take (i + 1), x ≤ z) :
    (if rdI xs ((i + 1 : Nat) : Int) > z then rdI xs ((i + 1 : Nat) : Int) else z) ∈ xs.take (i + 1 + 1) ∧ ∀ x ∈ xs.take (i + 1 + 1), x ≤ (if rdI xs ((i + 1 : Nat) : Int) > z then rdI xs ((i + 1 : Nat) : Int) else z) := by
  rw [rdI_take h]
  refine ⟨?_, fun x hx => ?_⟩
  · split
    · simp
    · exact List.mem_append_left _ hz.1
  · rcases List.mem_append.1 hx with hx | hx
    · have := hz.2 x hx; split <;> omega
    · rw [List.mem_singleton] at hx; subst hx; split <;> omega


theorem Min_any (w : World) (v : Value) (xs : List Int) (hv : RdV (Value.int .i64) w v xs) (hl : xs.length ≤ 1000000) (h0 : 1 ≤ xs.length) :
    Calls Try.prog 66 [v].toArray w fun e w' => ∃ z : Int, (z ∈ xs ∧ ∀ x ∈ xs, z ≤ x) ∧ e = .returned (.int .i64 z) ∧ Below w.heap.size w w' := by
  refine enter (N := 25) Try.func66 rfl rfl rfl ?_
  refine g_seq ?_
  refine g_region ?_
  refine s_y (y_assign rfl) rfl rfl rfl rfl ?_
  refine s_nil ?_
  refine g_then ?_
  refine g_seq ?_
  refine g_seq ?_
  refine g_region ?_
  refine s_y (y_move rfl) rfl rfl rfl rfl ?_
  refine s_y (y_lenV (n := xs.length) rfl (by obtain ⟨A, c, h1, _⟩ := hv; exact ⟨A, c, h1⟩) sle_27) rfl rfl rfl rfl ?_
  refine s_y (y_lss_f rfl rfl (by omega)) rfl rfl rfl rfl ?_
  refine s_nil ?_
  refine g_then ?_
  refine g_cond_f rfl ?_
  refine g_skip ?_
  refine g_then ?_
  refine g_seq ?_
  refine g_region ?_
  refine s_y (y_move rfl) rfl rfl rfl rfl ?_
  refine s_y (y_idxV (enc := (Value.int .i64)) rfl rfl hv Try.underlying27 size_3 (by omega) (by omega)) rfl rfl rfl rfl ?_
  refine s_y (y_ldV (enc := (Value.int .i64)) (xs := xs) (fun w h => hv.rdl.below h.below) rfl agg_3 (rdI_at (by omega) (by omega))) rfl rfl rfl rfl ?_
  refine s_y (y_assign rfl) rfl rfl rfl rfl ?_
  refine s_nil ?_
  refine g_then ?_
  refine g_seq ?_
  refine g_seq ?_
  refine g_region ?_
  refine s_y (y_assign rfl) rfl rfl rfl rfl ?_
  refine s_nil ?_
  refine g_then ?_
  refine g_block ?_
  refine g_loop (fun (i : Nat) act W => i + 1 ≤ xs.length ∧ ∃ (z : Int) (w1 : World), (z ∈ xs.take (i + 1) ∧ ∀ x ∈ xs.take (i + 1), z ≤ x) ∧ Has 25 [] [(0, v), (2, .int .i64 0), (3, .int .i64 z), (4, .int .i64 ((i + 1 : Nat) : Int))] act ∧ Hp w w1 ([]) W) (fun i => xs.length - i) 0 (fun act W ha hw => ⟨by omega, rdI xs 0, W, (by obtain ⟨h1, h2⟩ := first_take h0; exact ⟨h1, fun x hx => by rw [h2] at hx; simp at hx; omega⟩), ha.weak (sub_get ⟨rfl, rfl, rfl, rfl, trivial⟩), hw.toHq.lookSub (List.Sublist.refl _)⟩) ?_
  intro i act W ⟨hb_i, z, w1, hz, ha, hw⟩
  refine g_go ha hw ?_
  clear ha hw act W
  refine g_seq ?_
  refine g_seq ?_
  refine g_region ?_
  refine s_y (y_move rfl) rfl rfl rfl rfl ?_
  refine s_y (y_move rfl) rfl rfl rfl rfl ?_
  refine s_y (y_lenV (n := xs.length) rfl (by obtain ⟨A, c, h1, _⟩ := hv; exact ⟨A, c, h1⟩) sle_27) rfl rfl rfl rfl ?_
  refine s_y (y_lss rfl rfl) rfl rfl rfl rfl ?_
  refine s_nil ?_
  refine g_then ?_
  refine g_cond rfl (fun cq1 => ?_) (fun cq1 => ?_)
  · (try simp at cq1)
    refine g_skip ?_
    refine g_then ?_
    refine g_seq ?_
    refine g_block ?_
    refine g_region ?_
    refine s_y (y_move rfl) rfl rfl rfl rfl ?_
    refine s_y (y_move rfl) rfl rfl rfl rfl ?_
    refine s_y (y_move rfl) rfl rfl rfl rfl ?_
    refine s_y (y_idxV (enc := (Value.int .i64)) rfl rfl hv Try.underlying27 size_3 (by omega) (by omega)) rfl rfl rfl rfl ?_
    refine s_y (y_ldV (enc := (Value.int .i64)) (xs := xs) (fun w h => hv.rdl.below h.below) rfl agg_3 (rdI_at (by omega) (by omega))) rfl rfl rfl rfl ?_
    refine s_y (y_min rfl rfl) rfl rfl rfl rfl ?_
    refine s_y (y_assign rfl) rfl rfl rfl rfl ?_
    refine s_nil ?_
    refine g_inb ?_
    refine g_then ?_
    refine g_region ?_
    refine s_y (y_move rfl) rfl rfl rfl rfl ?_
    refine s_y (y_add rfl rfl (by omega) (by omega)) rfl rfl rfl rfl ?_
    refine s_y (y_assign rfl) rfl rfl rfl rfl ?_
    refine s_nil ?_
    refine g_then ?_
    exact fun act W ha hw => ⟨i + 1, by omega, by omega, (if (rdI xs ((i + 1 : Nat) : Int)) < z then (rdI xs ((i + 1 : Nat) : Int)) else z), W, (by exact take_min (by omega) hz), ha.weak (sub_get ⟨rfl, rfl, rfl, rfl, trivial⟩), hw.toHq.lookSub (List.Sublist.refl _)⟩
  · (try simp at cq1)
    refine g_exit ?_
    refine g_thenx ?_
    refine g_thenx ?_
    refine g_inbx ?_
    refine g_then ?_
    refine g_seq ?_
    refine g_region ?_
    refine s_y (y_move rfl) rfl rfl rfl rfl ?_
    refine s_y (y_assign rfl) rfl rfl rfl rfl ?_
    refine s_nil ?_
    refine g_then ?_
    refine g_ret ?_
    have hi1 : i + 1 = xs.length := by omega
    rw [hi1, List.take_length] at hz
    exact g_end trivial (fun a w ha hq_ => res1 ha rfl rfl  w) (fun w h => ⟨_, hz, rfl, h.below⟩)

theorem Max_any (w : World) (v : Value) (xs : List Int) (hv : RdV (Value.int .i64) w v xs) (hl : xs.length ≤ 1000000) (h0 : 1 ≤ xs.length) :
    Calls Try.prog 67 [v].toArray w fun e w' => ∃ z : Int, (z ∈ xs ∧ ∀ x ∈ xs, x ≤ z) ∧ e = .returned (.int .i64 z) ∧ Below w.heap.size w w' := by
  refine enter (N := 25) Try.func67 rfl rfl rfl ?_
  refine g_seq ?_
  refine g_region ?_
  refine s_y (y_assign rfl) rfl rfl rfl rfl ?_
  refine s_nil ?_
  refine g_then ?_
  refine g_seq ?_
  refine g_seq ?_
  refine g_region ?_
  refine s_y (y_move rfl) rfl rfl rfl rfl ?_
  refine s_y (y_lenV (n := xs.length) rfl (by obtain ⟨A, c, h1, _⟩ := hv; exact ⟨A, c, h1⟩) sle_27) rfl rfl rfl rfl ?_
  refine s_y (y_lss_f rfl rfl (by omega)) rfl rfl rfl rfl ?_
  refine s_nil ?_
  refine g_then ?_
  refine g_cond_f rfl ?_
  refine g_skip ?_
  refine g_then ?_
  refine g_seq ?_
  refine g_region ?_
  refine s_y (y_move rfl) rfl rfl rfl rfl ?_
  refine s_y (y_idxV (enc := (Value.int .i64)) rfl rfl hv Try.underlying27 size_3 (by omega) (by omega)) rfl rfl rfl rfl ?_
  refine s_y (y_ldV (enc := (Value.int .i64)) (xs := xs) (fun w h => hv.rdl.below h.below) rfl agg_3 (rdI_at (by omega) (by omega))) rfl rfl rfl rfl ?_
  refine s_y (y_assign rfl) rfl rfl rfl rfl ?_
  refine s_nil ?_
  refine g_then ?_
  refine g_seq ?_
  refine g_seq ?_
  refine g_region ?_
  refine s_y (y_assign rfl) rfl rfl rfl rfl ?_
  refine s_nil ?_
  refine g_then ?_
  refine g_block ?_
  refine g_loop (fun (i : Nat) act W => i + 1 ≤ xs.length ∧ ∃ (z : Int) (w1 : World), (z ∈ xs.take (i + 1) ∧ ∀ x ∈ xs.take (i + 1), x ≤ z) ∧ Has 25 [] [(0, v), (2, .int .i64 0), (3, .int .i64 z), (4, .int .i64 ((i + 1 : Nat) : Int))] act ∧ Hp w w1 ([]) W) (fun i => xs.length - i) 0 (fun act W ha hw => ⟨by omega, rdI xs 0, W, (by obtain ⟨h1, h2⟩ := first_take h0; exact ⟨h1, fun x hx => by rw [h2] at hx; simp at hx; omega⟩), ha.weak (sub_get ⟨rfl, rfl, rfl, rfl, trivial⟩), hw.toHq.lookSub (List.Sublist.refl _)⟩) ?_
  intro i act W ⟨hb_i, z, w1, hz, ha, hw⟩
  refine g_go ha hw ?_
  clear ha hw act W
  refine g_seq ?_
  refine g_seq ?_
  refine g_region ?_
  refine s_y (y_move rfl) rfl rfl rfl rfl ?_
  refine s_y (y_move rfl) rfl rfl rfl rfl ?_
  refine s_y (y_lenV (n := xs.length) rfl (by obtain ⟨A, c, h1, _⟩ := hv; exact ⟨A, c, h1⟩) sle_27) rfl rfl rfl rfl ?_
  refine s_y (y_lss rfl rfl) rfl rfl rfl rfl ?_
  refine s_nil ?_
  refine g_then ?_
  refine g_cond rfl (fun cq1 => ?_) (fun cq1 => ?_)
  · (try simp at cq1)
    refine g_skip ?_
    refine g_then ?_
    refine g_seq ?_
    refine g_block ?_
    refine g_region ?_
    refine s_y (y_move rfl) rfl rfl rfl rfl ?_
    refine s_y (y_move rfl) rfl rfl rfl rfl ?_
    refine s_y (y_move rfl) rfl rfl rfl rfl ?_
    refine s_y (y_idxV (enc := (Value.int .i64)) rfl rfl hv Try.underlying27 size_3 (by omega) (by omega)) rfl rfl rfl rfl ?_
    refine s_y (y_ldV (enc := (Value.int .i64)) (xs := xs) (fun w h => hv.rdl.below h.below) rfl agg_3 (rdI_at (by omega) (by omega))) rfl rfl rfl rfl ?_
    refine s_y (y_max rfl rfl) rfl rfl rfl rfl ?_
    refine s_y (y_assign rfl) rfl rfl rfl rfl ?_
    refine s_nil ?_
    refine g_inb ?_
    refine g_then ?_
    refine g_region ?_
    refine s_y (y_move rfl) rfl rfl rfl rfl ?_
    refine s_y (y_add rfl rfl (by omega) (by omega)) rfl rfl rfl rfl ?_
    refine s_y (y_assign rfl) rfl rfl rfl rfl ?_
    refine s_nil ?_
    refine g_then ?_
    exact fun act W ha hw => ⟨i + 1, by omega, by omega, (if (rdI xs ((i + 1 : Nat) : Int)) > z then (rdI xs ((i + 1 : Nat) : Int)) else z), W, (by exact take_max (by omega) hz), ha.weak (sub_get ⟨rfl, rfl, rfl, rfl, trivial⟩), hw.toHq.lookSub (List.Sublist.refl _)⟩
  · (try simp at cq1)
    refine g_exit ?_
    refine g_thenx ?_
    refine g_thenx ?_
    refine g_inbx ?_
    refine g_then ?_
    refine g_seq ?_
    refine g_region ?_
    refine s_y (y_move rfl) rfl rfl rfl rfl ?_
    refine s_y (y_assign rfl) rfl rfl rfl rfl ?_
    refine s_nil ?_
    refine g_then ?_
    refine g_ret ?_
    have hi1 : i + 1 = xs.length := by omega
    rw [hi1, List.take_length] at hz
    exact g_end trivial (fun a w ha hq_ => res1 ha rfl rfl  w) (fun w h => ⟨_, hz, rfl, h.below⟩)

theorem isPart_any (w : World) (v : Value) (xs : List Int) (hv : RdV (Value.int .i64) w v xs) (hl : xs.length ≤ 9223372036854775807) :
    Calls Try.prog 44 [v].toArray w fun e w' => e = .returned (.bool (partB xs)) ∧ Below w.heap.size w w' := by
  refine enter (N := 21) Try.func44 rfl rfl rfl ?_
  refine g_seq ?_
  refine g_region ?_
  refine s_y (y_assign rfl) rfl rfl rfl rfl ?_
  refine s_nil ?_
  refine g_then ?_
  refine g_seq ?_
  refine g_region ?_
  refine s_y (y_move rfl) rfl rfl rfl rfl ?_
  refine s_y (y_lenV (n := xs.length) rfl (by obtain ⟨A, c, h1, _⟩ := hv; exact ⟨A, c, h1⟩) sle_27) rfl rfl rfl rfl ?_
  refine s_y (y_geq rfl rfl) rfl rfl rfl rfl ?_
  refine s_y (y_move rfl) rfl rfl rfl rfl ?_
  refine g_bool 6 rfl (fun cq1 => ?_) (fun cq1 => ?_)
  · (try simp at cq1)
    refine s_y (y_move rfl) rfl rfl rfl rfl ?_
    refine s_y (y_lenV (n := xs.length) rfl (by obtain ⟨A, c, h1, _⟩ := hv; exact ⟨A, c, h1⟩) sle_27) rfl rfl rfl rfl ?_
    refine s_y (y_leq rfl rfl) rfl rfl rfl rfl ?_
    refine s_y (y_pick_t rfl rfl) rfl rfl rfl rfl ?_
    refine s_y (y_move rfl) rfl rfl rfl rfl ?_
    refine g_bool 11 rfl (fun cq2 => ?_) (fun cq2 => ?_)
    · (try simp at cq2)
      refine s_y (y_move rfl) rfl rfl rfl rfl ?_
      refine s_tr (t_callm (A := fun z : Int => z ∈ xs ∧ ∀ x ∈ xs, z ≤ x) (vf := fun z => .int .i64 z) (mm := fun _ => []) rfl rfl ent_66 (fun w h => (Min_any w _ xs (hv.below h.below) (by omega) (by omega)).mono fun e w' ⟨z, h1, h2, h3⟩ => ⟨z, h1, h2, Hq.of_below h3⟩)) rfl rfl rfl rfl (fun zmin hmn => ?_)
      refine s_y (y_geq rfl rfl) rfl rfl rfl rfl ?_
      refine s_y (y_pick_t rfl rfl) rfl rfl rfl rfl ?_
      refine s_y (y_move rfl) rfl rfl rfl rfl ?_
      refine g_bool 16 rfl (fun cq3 => ?_) (fun cq3 => ?_)
      · (try simp at cq3)
        refine s_y (y_move rfl) rfl rfl rfl rfl ?_
        refine s_tr (t_callm (A := fun z : Int => z ∈ xs ∧ ∀ x ∈ xs, x ≤ z) (vf := fun z => .int .i64 z) (mm := fun _ => []) rfl rfl ent_67 (fun w h => (Max_any w _ xs (hv.below h.below) (by omega) (by omega)).mono fun e w' ⟨z, h1, h2, h3⟩ => ⟨z, h1, h2, Hq.of_below h3⟩)) rfl rfl rfl rfl (fun zmax hmx => ?_)
        refine s_y (y_leq rfl rfl) rfl rfl rfl rfl ?_
        refine s_y (y_pick_t rfl rfl) rfl rfl rfl rfl ?_
        refine s_y (y_assign rfl) rfl rfl rfl rfl ?_
        refine s_nil ?_
        refine g_then ?_
        refine g_ret ?_
        rw [show partB xs = decide (zmax ≤ 20) from by rw [Bool.eq_iff_iff, partB_true, decide_eq_true_iff]; exact ⟨fun h => (h.2 _ hmx.1).2, fun h => ⟨by omega, fun x hx => ⟨by have := hmn.2 x hx; omega, by have := hmx.2 x hx; omega⟩⟩⟩]
        exact g_end trivial (fun a w ha hq_ => res1 ha rfl rfl  w) (fun w h => ⟨rfl, h.below⟩)
      · (try simp at cq3)
        refine s_no rfl rfl rfl ?_
        refine s_no rfl rfl rfl ?_
        refine s_no rfl rfl rfl ?_
        refine s_y (y_pick_f rfl rfl) rfl rfl rfl rfl ?_
        refine s_y (y_assign rfl) rfl rfl rfl rfl ?_
        refine s_nil ?_
        refine g_then ?_
        refine g_ret ?_
        rw [show partB xs = false from Bool.eq_false_iff.2 (fun hc => by obtain ⟨⟨h1, h2⟩, h3⟩ := partB_true.1 hc; first | omega | (have := h3 _ hmn.1; omega))]
        exact g_end trivial (fun a w ha hq_ => res1 ha rfl rfl  w) (fun w h => ⟨rfl, h.below⟩)
    · (try simp at cq2)
      refine s_no rfl rfl rfl ?_
      refine s_no rfl rfl rfl ?_
      refine s_no rfl rfl rfl ?_
      refine s_y (y_pick_f rfl rfl) rfl rfl rfl rfl ?_
      refine s_y (y_move rfl) rfl rfl rfl rfl ?_
      refine s_no rfl rfl rfl ?_
      refine s_no rfl rfl rfl ?_
      refine s_no rfl rfl rfl ?_
      refine s_y (y_pick_f rfl rfl) rfl rfl rfl rfl ?_
      refine s_y (y_assign rfl) rfl rfl rfl rfl ?_
      refine s_nil ?_
      refine g_then ?_
      refine g_ret ?_
      rw [show partB xs = false from Bool.eq_false_iff.2 (fun hc => by obtain ⟨⟨h1, h2⟩, h3⟩ := partB_true.1 hc; first | omega | (have := h3 _ hmn.1; omega))]
      exact g_end trivial (fun a w ha hq_ => res1 ha rfl rfl  w) (fun w h => ⟨rfl, h.below⟩)
  · (try simp at cq1)
    refine s_no rfl rfl rfl ?_
    refine s_no rfl rfl rfl ?_
    refine s_no rfl rfl rfl ?_
    refine s_y (y_pick_f rfl rfl) rfl rfl rfl rfl ?_
    refine s_y (y_move rfl) rfl rfl rfl rfl ?_
    refine s_no rfl rfl rfl ?_
    refine s_no rfl rfl rfl ?_
    refine s_no rfl rfl rfl ?_
    refine s_y (y_pick_f rfl rfl) rfl rfl rfl rfl ?_
    refine s_y (y_move rfl) rfl rfl rfl rfl ?_
    refine s_no rfl rfl rfl ?_
    refine s_no rfl rfl rfl ?_
    refine s_no rfl rfl rfl ?_
    refine s_y (y_pick_f rfl rfl) rfl rfl rfl rfl ?_
    refine s_y (y_assign rfl) rfl rfl rfl rfl ?_
    refine s_nil ?_
    refine g_then ?_
    refine g_ret ?_
    rw [show partB xs = false from Bool.eq_false_iff.2 (fun hc => by obtain ⟨⟨h1, h2⟩, h3⟩ := partB_true.1 hc; first | omega | (have := h3 _ hmn.1; omega))]
    exact g_end trivial (fun a w ha hq_ => res1 ha rfl rfl  w) (fun w h => ⟨rfl, h.below⟩)

theorem Notes_any (w : World) (v : Value) (xs : List Int) (hv : RdV (Value.int .i64) w v xs) (hl : xs.length ≤ 9223372036854775807) :
    Calls Try.prog 40 [v].toArray w fun e w' => e = .returned (.bool (notesB xs)) ∧ Below w.heap.size w w' := by
  refine enter (N := 21) Try.func40 rfl rfl rfl ?_
  refine g_seq ?_
  refine g_region ?_
  refine s_y (y_assign rfl) rfl rfl rfl rfl ?_
  refine s_nil ?_
  refine g_then ?_
  refine g_seq ?_
  refine g_seq ?_
  refine g_region ?_
  refine s_y (y_move rfl) rfl rfl rfl rfl ?_
  refine s_y (y_lenV (n := xs.length) rfl (by obtain ⟨A, c, h1, _⟩ := hv; exact ⟨A, c, h1⟩) sle_27) rfl rfl rfl rfl ?_
  refine s_y (y_move rfl) rfl rfl rfl rfl ?_
  refine s_nil ?_
  refine g_then ?_
  refine g_block ?_
  refine g_loop (fun (i : Nat) act W => i ≤ xs.length ∧ ∃ (w1 : World), (∀ k : Nat, k < i → 0 ≤ rdI xs (k : Int) ∧ rdI xs (k : Int) ≤ 20) ∧ Has 21 [] [(0, v), (5, v), (6, .int .i64 (xs.length : Nat)), (7, .int .i64 (i : Int))] act ∧ Hp w w1 ([]) W) (fun i => xs.length - i) 0 (fun act W ha hw => ⟨by omega, W, (by intro k hk; omega), ha.weak (sub_get ⟨rfl, rfl, rfl, rfl, trivial⟩), hw.toHq.lookSub (List.Sublist.refl _)⟩) ?_
  intro i act W ⟨hb_i, w1, hall, ha, hw⟩
  refine g_go ha hw ?_
  clear ha hw act W
  refine g_seq ?_
  refine g_region ?_
  refine s_y (y_lss rfl rfl) rfl rfl rfl rfl ?_
  refine s_nil ?_
  refine g_then ?_
  refine g_seq ?_
  refine g_cond rfl (fun cq1 => ?_) (fun cq1 => ?_)
  · (try simp at cq1)
    refine g_skip ?_
    refine g_then ?_
    refine g_seq ?_
    refine g_block ?_
    refine g_seq ?_
    refine g_region ?_
    refine s_y (y_idxV (enc := (Value.int .i64)) rfl rfl hv Try.underlying27 size_3 (by omega) (by omega)) rfl rfl rfl rfl ?_
    refine s_y (y_ldV (enc := (Value.int .i64)) (xs := xs) (fun w h => hv.rdl.below h.below) rfl agg_3 (rdI_at (by omega) (by omega))) rfl rfl rfl rfl ?_
    refine s_y (y_assign rfl) rfl rfl rfl rfl ?_
    refine s_nil ?_
    refine g_then ?_
    refine g_seq ?_
    refine g_region ?_
    refine s_y (y_move rfl) rfl rfl rfl rfl ?_
    refine s_y (y_lss rfl rfl) rfl rfl rfl rfl ?_
    refine s_y (y_move rfl) rfl rfl rfl rfl ?_
    refine g_bool 13 rfl (fun cq2 => ?_) (fun cq2 => ?_)
    · (try simp at cq2)
      refine s_no rfl rfl rfl ?_
      refine s_no rfl rfl rfl ?_
      refine s_y (y_pick_t rfl rfl) rfl rfl rfl rfl ?_
      refine s_nil ?_
      refine g_then ?_
      refine g_cond_t rfl ?_
      refine g_seq ?_
      refine g_region ?_
      refine s_y (y_assign rfl) rfl rfl rfl rfl ?_
      refine s_nil ?_
      refine g_then ?_
      refine g_ret ?_
      refine g_inbr ?_
      refine g_thenr ?_
      refine g_thenr ?_
      refine g_inbr ?_
      refine g_thenr ?_
      rw [show notesB xs = false from notes_not (i := i) (by omega) (by omega)]
      exact g_end trivial (fun a w ha hq_ => res1 ha rfl rfl  w) (fun w h => ⟨rfl, h.below⟩)
    · (try simp at cq2)
      refine s_y (y_move rfl) rfl rfl rfl rfl ?_
      refine s_y (y_gtr rfl rfl) rfl rfl rfl rfl ?_
      refine s_y (y_pick_f rfl rfl) rfl rfl rfl rfl ?_
      refine s_nil ?_
      refine g_then ?_
      refine g_cond rfl (fun cq3 => ?_) (fun cq3 => ?_)
      · (try simp at cq3)
        refine g_seq ?_
        refine g_region ?_
        refine s_y (y_assign rfl) rfl rfl rfl rfl ?_
        refine s_nil ?_
        refine g_then ?_
        refine g_ret ?_
        refine g_inbr ?_
        refine g_thenr ?_
        refine g_thenr ?_
        refine g_inbr ?_
        refine g_thenr ?_
        rw [show notesB xs = false from notes_not (i := i) (by omega) (by omega)]
        exact g_end trivial (fun a w ha hq_ => res1 ha rfl rfl  w) (fun w h => ⟨rfl, h.below⟩)
      · (try simp at cq3)
        refine g_skip ?_
        refine g_inb ?_
        refine g_then ?_
        refine g_region ?_
        refine s_y (y_add rfl rfl (by omega) (by omega)) rfl rfl rfl rfl ?_
        refine s_y (y_move rfl) rfl rfl rfl rfl ?_
        refine s_nil ?_
        refine g_then ?_
        exact fun act W ha hw => ⟨i + 1, by omega, by omega, W, (by intro k hk; rcases Nat.lt_or_ge k i with c | c; exact hall k c; rw [show k = i by omega]; omega), ha.weak (sub_get ⟨rfl, rfl, rfl, rfl, trivial⟩), hw.toHq.lookSub (List.Sublist.refl _)⟩
  · (try simp at cq1)
    refine g_exit ?_
    refine g_thenx ?_
    refine g_thenx ?_
    refine g_inbx ?_
    refine g_then ?_
    refine g_seq ?_
    refine g_region ?_
    refine s_y (y_move rfl) rfl rfl rfl rfl ?_
    refine s_y (y_lenV (n := xs.length) rfl (by obtain ⟨A, c, h1, _⟩ := hv; exact ⟨A, c, h1⟩) sle_27) rfl rfl rfl rfl ?_
    refine s_y (y_leq rfl rfl) rfl rfl rfl rfl ?_
    refine s_y (y_assign rfl) rfl rfl rfl rfl ?_
    refine s_nil ?_
    refine g_then ?_
    refine g_ret ?_
    rw [show notesB xs = decide (((xs.length : Nat) : Int) ≤ 8) from by rw [Bool.eq_iff_iff, notesB_true, decide_eq_true_iff]; exact ⟨fun h => by omega, fun h => ⟨by omega, notes_of fun k hk => hall k (by omega)⟩⟩]
    exact g_end trivial (fun a w ha hq_ => res1 ha rfl rfl  w) (fun w h => ⟨rfl, h.below⟩)

theorem Part_any (w : World) (v : Value) (xs : List Int) (hv : RdV (Value.int .i64) w v xs) (hl : xs.length ≤ 9223372036854775807) :
    Calls Try.prog 17 [v].toArray w fun e w' => e = .returned (.bool (partB xs)) ∧ Below w.heap.size w w' := by
  refine enter (N := 10) Try.func17 rfl rfl rfl ?_
  refine g_seq ?_
  refine g_region ?_
  refine s_y (y_assign rfl) rfl rfl rfl rfl ?_
  refine s_nil ?_
  refine g_then ?_
  refine g_seq ?_
  refine g_region ?_
  refine s_y (y_move rfl) rfl rfl rfl rfl ?_
  refine s_tr (t_call rfl rfl ent_40 (fun w h => Notes_any w v xs (hv.below h.below) hl)) rfl rfl rfl rfl (fun _ _ => ?_)
  refine s_y (y_move rfl) rfl rfl rfl rfl ?_
  refine g_bool 5 rfl (fun cq1 => ?_) (fun cq1 => ?_)
  · (try simp at cq1)
    have hn : notesB xs = true := by simpa using cq1
    refine s_y (y_move rfl) rfl rfl rfl rfl ?_
    refine s_y (y_lenV (n := xs.length) rfl (by obtain ⟨A, c, h1, _⟩ := hv; exact ⟨A, c, h1⟩) sle_27) rfl rfl rfl rfl ?_
    refine s_y (y_gtr rfl rfl) rfl rfl rfl rfl ?_
    refine s_y (y_pick_t rfl rfl) rfl rfl rfl rfl ?_
    refine s_y (y_assign rfl) rfl rfl rfl rfl ?_
    refine s_nil ?_
    refine g_then ?_
    refine g_ret ?_
    rw [show partB xs = decide (((xs.length : Nat) : Int) > 0) from by unfold partB; rw [hn]; first | rfl | (simp only [Bool.true_and]; exact decide_eq_decide.2 (by omega))]
    exact g_end trivial (fun a w ha hq_ => res1 ha rfl rfl  w) (fun w h => ⟨rfl, h.below⟩)
  · (try simp at cq1)
    have hn : notesB xs = false := by simpa using cq1
    refine s_no rfl rfl rfl ?_
    refine s_no rfl rfl rfl ?_
    refine s_no rfl rfl rfl ?_
    refine s_y (y_pick_f rfl rfl) rfl rfl rfl rfl ?_
    refine s_y (y_assign rfl) rfl rfl rfl rfl ?_
    refine s_nil ?_
    refine g_then ?_
    refine g_ret ?_
    rw [show partB xs = false from by unfold partB; rw [hn]; first | rfl | (simp only [Bool.true_and]; exact decide_eq_decide.2 (by omega))]
    exact g_end trivial (fun a w ha hq_ => res1 ha rfl rfl  w) (fun w h => ⟨rfl, h.below⟩)

def liftL (xs : List Int) (by_ : Int) : List Int := xs.map (· + by_)
theorem liftL_len (xs : List Int) (b : Int) : (liftL xs b).length = xs.length := by simp [liftL]
theorem liftL_take {xs : List Int} {b : Int} {i : Nat} (h : i < xs.length) : liftL (xs.take (i + 1)) b = liftL (xs.take i) b ++ [rdI xs (i : Int) + b] := by
  rw [rdI_take h]; simp [liftL]
theorem notes_part {xs : List Int} (h : 1 ≤ xs.length) : partB xs = notesB xs := by
  unfold partB; rw [decide_eq_true h, Bool.and_true]
def liftOk (xs : List Int) (b : Int) : Bool := decide (-20 ≤ b ∧ b ≤ 20) && notesB (liftL xs b)

theorem lifted_ok (w : World) (v : Value) (xs : List Int) (hv : RdV (Value.int .i64) w v xs) (b : Int) (hp : partB xs = true) (hb : -20 ≤ b ∧ b ≤ 20) :
    Calls Try.prog 45 [v, .int .i64 b].toArray w fun e w' => ∃ x : Value × List (Nat × Obj), (OwnV (Value.int .i64) x.1 (liftL xs b) x.2 ∧ ∃ W : World, ∀ p ∈ x.2, W.heap[p.1]? = some p.2) ∧ e = .returned (.tuple #[x.1, .bool (partB (liftL xs b))]) ∧ Hq w w x.2 w' := by
  obtain ⟨hxl, hn⟩ := partB_true.1 hp
  obtain ⟨ie3, hi3⟩ := inf_3
  refine enter (N := 31) Try.func45 rfl rfl rfl ?_
  refine g_seq ?_
  refine g_region ?_
  refine s_y (y_assign rfl) rfl rfl rfl rfl ?_
  refine s_y (y_assign rfl) rfl rfl rfl rfl ?_
  refine s_nil ?_
  refine g_then ?_
  refine g_seq ?_
  refine g_seq ?_
  refine g_region ?_
  refine s_y (y_move rfl) rfl rfl rfl rfl ?_
  refine s_y (y_lss_f rfl rfl (by omega)) rfl rfl rfl rfl ?_
  refine s_y (y_move rfl) rfl rfl rfl rfl ?_
  refine s_y (y_move rfl) rfl rfl rfl rfl ?_
  refine s_y (y_gtr_f rfl rfl (by omega)) rfl rfl rfl rfl ?_
  refine s_y (y_pick_f rfl rfl) rfl rfl rfl rfl ?_
  refine s_nil ?_
  refine g_then ?_
  refine g_cond_f rfl ?_
  refine g_skip ?_
  refine g_then ?_
  refine g_seq ?_
  refine g_region ?_
  refine s_y (y_assign rfl) rfl rfl rfl rfl ?_
  refine s_nil ?_
  refine g_then ?_
  refine g_seq ?_
  refine g_seq ?_
  refine g_region ?_
  refine s_y (y_move rfl) rfl rfl rfl rfl ?_
  refine s_y (y_lenV (n := xs.length) rfl (by obtain ⟨A, c, h1, _⟩ := hv; exact ⟨A, c, h1⟩) sle_27) rfl rfl rfl rfl ?_
  refine s_y (y_move rfl) rfl rfl rfl rfl ?_
  refine s_nil ?_
  refine g_then ?_
  refine g_block ?_
  refine g_loop (fun (i : Nat) act W => i ≤ xs.length ∧ ∃ (sv : SV) (m : Nat) (zs : List Int) (w1 : World), (sv.ok 1 m (zs.map (Value.int .i64))) ∧ (m ≤ i) ∧ (zs = liftL (xs.take i) b) ∧ Has 31 [] [(1, .int .i64 b), (4, .slice none 0 0), (5, .bool false), (6, sv.val m), (15, v), (16, .int .i64 (xs.length : Nat)), (17, .int .i64 (i : Int))] act ∧ Hp w w1 ((sv.mem 3 (zs.map (Value.int .i64)) ++ ([]))) W) (fun i => xs.length - i) 0 (fun act W ha hw => ⟨by omega, SV.nil, 0, [], W, (by exact ⟨rfl, rfl⟩), (by omega), (by simp [liftL]), ha.weak (sub_get ⟨rfl, rfl, rfl, rfl, rfl, rfl, rfl, trivial⟩), hw.toHq.lookSub (List.Sublist.refl _)⟩) ?_
  intro i act W ⟨hb_i, sv, m, zs, w1, hokz, hmi, hzs, ha, hw⟩
  refine g_go ha hw ?_
  clear ha hw act W
  have hxi : i < xs.length → 0 ≤ rdI xs (i : Int) ∧ rdI xs (i : Int) ≤ 20 := fun h => notes_at hn (by omega) (by omega)
  refine g_seq ?_
  refine g_region ?_
  refine s_y (y_lss rfl rfl) rfl rfl rfl rfl ?_
  refine s_nil ?_
  refine g_then ?_
  refine g_seq ?_
  refine g_cond rfl (fun cq1 => ?_) (fun cq1 => ?_)
  · (try simp at cq1)
    refine g_skip ?_
    refine g_then ?_
    refine g_seq ?_
    refine g_block ?_
    refine g_seq ?_
    refine g_region ?_
    refine s_y (y_idxV (enc := (Value.int .i64)) rfl rfl hv Try.underlying27 size_3 (by omega) (by omega)) rfl rfl rfl rfl ?_
    refine s_y (y_ldV (enc := (Value.int .i64)) (xs := xs) (fun w h => hv.rdl.below h.below) rfl agg_3 (rdI_at (by omega) (by omega))) rfl rfl rfl rfl ?_
    refine s_y (y_assign rfl) rfl rfl rfl rfl ?_
    refine s_nil ?_
    refine g_then ?_
    refine g_region ?_
    refine s_y (y_move rfl) rfl rfl rfl rfl ?_
    refine s_y (y_move rfl) rfl rfl rfl rfl ?_
    refine s_y (y_move rfl) rfl rfl rfl rfl ?_
    refine s_y (y_add rfl rfl (by omega) (by omega)) rfl rfl rfl rfl ?_
    refine s_tr (t_build (vs := [(0, .int .i64 ((rdI xs (i : Int)) + b))]) (cells := [.int .i64 ((rdI xs (i : Int)) + b)]) rfl rfl Try.underlying27 hi3.1 hi3.2.1 (by rw [hi3.2.2.1]; rfl) (by rw [hi3.2.2.1]; rfl) (by rw [hi3.2.2.1]; kernel_rfl)) rfl rfl rfl rfl (fun b2 hb2 => ?_)
    refine s_tr (t_appendL (enc := (Value.int .i64)) (sv := sv) (xs := zs) (n := m) (v := (rdI xs (i : Int)) + b) [_] _ rfl rfl rfl hokz Try.underlying27 hi3.1 hi3.2.1 hi3.2.2.1 hi3.2.2.2 rfl (fun w h => h.toHq.cell (i := 0) rfl rfl) rfl (by omega) (by unfold maxLen; omega)) rfl rfl rfl rfl (fun y6 hy7 => ?_)
    obtain ⟨sv3, gs4⟩ := y6
    obtain ⟨hok5, hok5b, hok5c, hok5j, hok5e⟩ := hy7
    refine s_y (y_assign rfl) rfl rfl rfl rfl ?_
    refine s_nil ?_
    refine g_inb ?_
    refine g_then ?_
    refine g_region ?_
    refine s_y (y_add rfl rfl (by omega) (by omega)) rfl rfl rfl rfl ?_
    refine s_y (y_move rfl) rfl rfl rfl rfl ?_
    refine s_nil ?_
    refine g_then ?_
    exact fun act W ha hw => ⟨i + 1, by omega, by omega, sv3, (m + 1), (zs ++ [(rdI xs (i : Int)) + b]), W, (by exact hok5), (by omega), (by rw [liftL_take (by omega), hzs]), ha.weak (sub_get ⟨rfl, rfl, rfl, rfl, rfl, rfl, rfl, trivial⟩), hw.toHq.lookSub (List.Sublist.cons _ (sub_app (sv3.mem 3 ((zs ++ [(rdI xs (i : Int)) + b]).map (Value.int .i64))) (List.nil_sublist _)))⟩
  · (try simp at cq1)
    refine g_exit ?_
    refine g_thenx ?_
    refine g_thenx ?_
    refine g_inbx ?_
    refine g_then ?_
    refine g_seq ?_
    have hi_ : i = xs.length := by omega
    rw [hi_, List.take_length] at hzs
    have hzl : zs.length = xs.length := by rw [hzs, liftL_len]
    refine g_region ?_
    refine s_y (y_move rfl) rfl rfl rfl rfl ?_
    refine s_y (y_move rfl) rfl rfl rfl rfl ?_
    refine s_tr (t_call rfl rfl ent_44 (fun w h => isPart_any w _ zs (RdV.sv (e := 3) hokz fun p hp => h.at_ p (mem_al (sv.mem 3 (zs.map (Value.int .i64))) hp)) (by omega))) rfl rfl rfl rfl (fun _ _ => ?_)
    refine s_y (y_assign rfl) rfl rfl rfl rfl ?_
    refine s_y (y_assign rfl) rfl rfl rfl rfl ?_
    refine s_nil ?_
    refine g_then ?_
    refine g_ret ?_
    rw [show liftL xs b = zs from hzs.symm]
    exact g_end trivial (fun a w ha hq_ => res2 ha rfl rfl rfl  w) (fun w h => ⟨(_, sv.mem 3 (zs.map (Value.int .i64))), ⟨(OwnV.sv hokz), w, (h.hand (sub_here (sv.mem 3 (zs.map (Value.int .i64))) _)).at_⟩, rfl, h.hand (sub_here (sv.mem 3 (zs.map (Value.int .i64))) _)⟩)

theorem lifted_no (w : World) (v : Value) (xs : List Int) (hv : RdV (Value.int .i64) w v xs) (b : Int) (hp : partB xs = true) (hb : ¬ (-20 ≤ b ∧ b ≤ 20)) :
    Calls Try.prog 45 [v, .int .i64 b].toArray w fun e w' => e = .returned (.tuple #[.slice none 0 0, .bool false]) ∧ Below w.heap.size w w' := by
  refine enter (N := 31) Try.func45 rfl rfl rfl ?_
  refine g_seq ?_
  refine g_region ?_
  refine s_y (y_assign rfl) rfl rfl rfl rfl ?_
  refine s_y (y_assign rfl) rfl rfl rfl rfl ?_
  refine s_nil ?_
  refine g_then ?_
  refine g_seq ?_
  refine g_seq ?_
  refine g_region ?_
  refine s_y (y_move rfl) rfl rfl rfl rfl ?_
  refine s_y (y_lss rfl rfl) rfl rfl rfl rfl ?_
  refine s_y (y_move rfl) rfl rfl rfl rfl ?_
  refine g_bool 11 rfl (fun cq1 => ?_) (fun cq1 => ?_)
  · (try simp at cq1)
    refine s_no rfl rfl rfl ?_
    refine s_no rfl rfl rfl ?_
    refine s_y (y_pick_t rfl rfl) rfl rfl rfl rfl ?_
    refine s_nil ?_
    refine g_then ?_
    refine g_cond_t rfl ?_
    refine g_seq ?_
    refine g_region ?_
    refine s_y (y_assign rfl) rfl rfl rfl rfl ?_
    refine s_y (y_assign rfl) rfl rfl rfl rfl ?_
    refine s_nil ?_
    refine g_then ?_
    refine g_ret ?_
    refine g_thenr ?_
    exact g_end trivial (fun a w ha hq_ => res2 ha rfl rfl rfl  w) (fun w h => ⟨rfl, h.below⟩)
  · (try simp at cq1)
    refine s_y (y_move rfl) rfl rfl rfl rfl ?_
    refine s_y (y_gtr rfl rfl) rfl rfl rfl rfl ?_
    refine s_y (y_pick_f rfl rfl) rfl rfl rfl rfl ?_
    refine s_nil ?_
    refine g_then ?_
    refine g_cond rfl (fun cq2 => ?_) (fun cq2 => ?_)
    · (try simp at cq2)
      refine g_seq ?_
      refine g_region ?_
      refine s_y (y_assign rfl) rfl rfl rfl rfl ?_
      refine s_y (y_assign rfl) rfl rfl rfl rfl ?_
      refine s_nil ?_
      refine g_then ?_
      refine g_ret ?_
      refine g_thenr ?_
      exact g_end trivial (fun a w ha hq_ => res2 ha rfl rfl rfl  w) (fun w h => ⟨rfl, h.below⟩)
    · (try simp at cq2)
      omega

theorem Lift_yes (w : World) (v : Value) (xs : List Int) (hv : RdV (Value.int .i64) w v xs) (b : Int) (hp : partB xs = true) (hb : -20 ≤ b ∧ b ≤ 20) (hq : partB (liftL xs b) = true) :
    Calls Try.prog 21 [v, .int .i64 b].toArray w fun e w' => ∃ x : Value × List (Nat × Obj), (OwnV (Value.int .i64) x.1 (liftL xs b) x.2 ∧ ∃ W : World, ∀ p ∈ x.2, W.heap[p.1]? = some p.2) ∧ e = .returned (.tuple #[x.1, .int .i64 0]) ∧ Hq w w x.2 w' := by
  obtain ⟨hxl, hn⟩ := partB_true.1 hp
  refine enter (N := 20) Try.func21 rfl rfl rfl ?_
  refine g_seq ?_
  refine g_region ?_
  refine s_y (y_assign rfl) rfl rfl rfl rfl ?_
  refine s_y (y_assign rfl) rfl rfl rfl rfl ?_
  refine s_nil ?_
  refine g_then ?_
  refine g_seq ?_
  refine g_seq ?_
  refine g_region ?_
  refine s_y (y_move rfl) rfl rfl rfl rfl ?_
  refine s_tr (t_call rfl rfl ent_44 (fun w h => by have h_ := isPart_any w v xs (hv.below h.below) (by omega); rwa [hp] at h_)) rfl rfl rfl rfl (fun _ _ => ?_)
  refine s_y (y_not_t rfl) rfl rfl rfl rfl ?_
  refine s_nil ?_
  refine g_then ?_
  refine g_cond_f rfl ?_
  refine g_skip ?_
  refine g_then ?_
  refine g_seq ?_
  refine g_region ?_
  refine s_y (y_move rfl) rfl rfl rfl rfl ?_
  refine s_y (y_move rfl) rfl rfl rfl rfl ?_
  refine s_tr (t_callm rfl rfl ent_45 (fun w h => by have h_ := lifted_ok w v xs (hv.below h.below) b hp hb; rw [hq] at h_; exact h_)) rfl rfl rfl rfl (fun x2 hx3 => ?_)
  obtain ⟨vo1, mo1⟩ := x2
  obtain ⟨hOo1, hEo1⟩ := hx3
  refine s_y (y_move rfl) rfl rfl rfl rfl ?_
  refine s_y (y_extract rfl rfl) rfl rfl rfl rfl ?_
  refine s_y (y_extract rfl rfl) rfl rfl rfl rfl ?_
  refine s_y (y_assign rfl) rfl rfl rfl rfl ?_
  refine s_y (y_assign rfl) rfl rfl rfl rfl ?_
  refine s_nil ?_
  refine g_then ?_
  refine g_seq ?_
  refine g_seq ?_
  refine g_region ?_
  refine s_y (y_move rfl) rfl rfl rfl rfl ?_
  refine s_y (y_not_t rfl) rfl rfl rfl rfl ?_
  refine s_nil ?_
  refine g_then ?_
  refine g_cond_f rfl ?_
  refine g_skip ?_
  refine g_then ?_
  refine g_seq ?_
  refine g_region ?_
  refine s_y (y_move rfl) rfl rfl rfl rfl ?_
  refine s_y (y_assign rfl) rfl rfl rfl rfl ?_
  refine s_y (y_assign rfl) rfl rfl rfl rfl ?_
  refine s_nil ?_
  refine g_then ?_
  refine g_ret ?_
  exact g_end trivial (fun a w ha hq_ => res2 ha rfl rfl rfl  w) (fun w h => ⟨(_, mo1), ⟨hOo1, w, (h.hand (sub_here mo1 _)).at_⟩, rfl, h.hand (sub_here mo1 _)⟩)

theorem Lift_none1 (w : World) (v : Value) (xs : List Int) (hv : RdV (Value.int .i64) w v xs) (b : Int) (hp : partB xs = true) (hb : -20 ≤ b ∧ b ≤ 20) (hq : partB (liftL xs b) = false) :
    Calls Try.prog 21 [v, .int .i64 b].toArray w fun e w' => e = .returned (.tuple #[.slice none 0 0, .int .i64 4]) ∧ Below w.heap.size w w' := by
  obtain ⟨hxl, hn⟩ := partB_true.1 hp
  refine enter (N := 20) Try.func21 rfl rfl rfl ?_
  refine g_seq ?_
  refine g_region ?_
  refine s_y (y_assign rfl) rfl rfl rfl rfl ?_
  refine s_y (y_assign rfl) rfl rfl rfl rfl ?_
  refine s_nil ?_
  refine g_then ?_
  refine g_seq ?_
  refine g_seq ?_
  refine g_region ?_
  refine s_y (y_move rfl) rfl rfl rfl rfl ?_
  refine s_tr (t_call rfl rfl ent_44 (fun w h => by have h_ := isPart_any w v xs (hv.below h.below) (by omega); rwa [hp] at h_)) rfl rfl rfl rfl (fun _ _ => ?_)
  refine s_y (y_not_t rfl) rfl rfl rfl rfl ?_
  refine s_nil ?_
  refine g_then ?_
  refine g_cond_f rfl ?_
  refine g_skip ?_
  refine g_then ?_
  refine g_seq ?_
  refine g_region ?_
  refine s_y (y_move rfl) rfl rfl rfl rfl ?_
  refine s_y (y_move rfl) rfl rfl rfl rfl ?_
  refine s_tr (t_callm rfl rfl ent_45 (fun w h => by have h_ := lifted_ok w v xs (hv.below h.below) b hp hb; rw [hq] at h_; exact h_)) rfl rfl rfl rfl (fun x2 hx3 => ?_)
  obtain ⟨vo1, mo1⟩ := x2
  obtain ⟨hOo1, hEo1⟩ := hx3
  refine s_y (y_move rfl) rfl rfl rfl rfl ?_
  refine s_y (y_extract rfl rfl) rfl rfl rfl rfl ?_
  refine s_y (y_extract rfl rfl) rfl rfl rfl rfl ?_
  refine s_y (y_assign rfl) rfl rfl rfl rfl ?_
  refine s_y (y_assign rfl) rfl rfl rfl rfl ?_
  refine s_nil ?_
  refine g_then ?_
  refine g_seq ?_
  refine g_seq ?_
  refine g_region ?_
  refine s_y (y_move rfl) rfl rfl rfl rfl ?_
  refine s_y (y_not_f rfl) rfl rfl rfl rfl ?_
  refine s_nil ?_
  refine g_then ?_
  refine g_cond_t rfl ?_
  refine g_seq ?_
  refine g_region ?_
  refine s_y (y_assign rfl) rfl rfl rfl rfl ?_
  refine s_y (y_assign rfl) rfl rfl rfl rfl ?_
  refine s_nil ?_
  refine g_then ?_
  refine g_ret ?_
  refine g_thenr ?_
  exact g_end trivial (fun a w ha hq_ => res2 ha rfl rfl rfl  w) (fun w h => ⟨rfl, h.below⟩)

theorem Lift_none2 (w : World) (v : Value) (xs : List Int) (hv : RdV (Value.int .i64) w v xs) (b : Int) (hp : partB xs = true) (hb : ¬ (-20 ≤ b ∧ b ≤ 20)) :
    Calls Try.prog 21 [v, .int .i64 b].toArray w fun e w' => e = .returned (.tuple #[.slice none 0 0, .int .i64 4]) ∧ Below w.heap.size w w' := by
  obtain ⟨hxl, hn⟩ := partB_true.1 hp
  refine enter (N := 20) Try.func21 rfl rfl rfl ?_
  refine g_seq ?_
  refine g_region ?_
  refine s_y (y_assign rfl) rfl rfl rfl rfl ?_
  refine s_y (y_assign rfl) rfl rfl rfl rfl ?_
  refine s_nil ?_
  refine g_then ?_
  refine g_seq ?_
  refine g_seq ?_
  refine g_region ?_
  refine s_y (y_move rfl) rfl rfl rfl rfl ?_
  refine s_tr (t_call rfl rfl ent_44 (fun w h => by have h_ := isPart_any w v xs (hv.below h.below) (by omega); rwa [hp] at h_)) rfl rfl rfl rfl (fun _ _ => ?_)
  refine s_y (y_not_t rfl) rfl rfl rfl rfl ?_
  refine s_nil ?_
  refine g_then ?_
  refine g_cond_f rfl ?_
  refine g_skip ?_
  refine g_then ?_
  refine g_seq ?_
  refine g_region ?_
  refine s_y (y_move rfl) rfl rfl rfl rfl ?_
  refine s_y (y_move rfl) rfl rfl rfl rfl ?_
  refine s_tr (t_call rfl rfl ent_45 (fun w h => lifted_no w v xs (hv.below h.below) b hp hb)) rfl rfl rfl rfl (fun _ _ => ?_)
  refine s_y (y_move rfl) rfl rfl rfl rfl ?_
  refine s_y (y_extract rfl rfl) rfl rfl rfl rfl ?_
  refine s_y (y_extract rfl rfl) rfl rfl rfl rfl ?_
  refine s_y (y_assign rfl) rfl rfl rfl rfl ?_
  refine s_y (y_assign rfl) rfl rfl rfl rfl ?_
  refine s_nil ?_
  refine g_then ?_
  refine g_seq ?_
  refine g_seq ?_
  refine g_region ?_
  refine s_y (y_move rfl) rfl rfl rfl rfl ?_
  refine s_y (y_not_f rfl) rfl rfl rfl rfl ?_
  refine s_nil ?_
  refine g_then ?_
  refine g_cond_t rfl ?_
  refine g_seq ?_
  refine g_region ?_
  refine s_y (y_assign rfl) rfl rfl rfl rfl ?_
  refine s_y (y_assign rfl) rfl rfl rfl rfl ?_
  refine s_nil ?_
  refine g_then ?_
  refine g_ret ?_
  refine g_thenr ?_
  exact g_end trivial (fun a w ha hq_ => res2 ha rfl rfl rfl  w) (fun w h => ⟨rfl, h.below⟩)

theorem Lift_bad (w : World) (v : Value) (xs : List Int) (hv : RdV (Value.int .i64) w v xs) (b : Int) (hl : xs.length ≤ 9223372036854775807) (hp : partB xs = false) :
    Calls Try.prog 21 [v, .int .i64 b].toArray w fun e w' => e = .returned (.tuple #[.slice none 0 0, .int .i64 2]) ∧ Below w.heap.size w w' := by
  refine enter (N := 20) Try.func21 rfl rfl rfl ?_
  refine g_seq ?_
  refine g_region ?_
  refine s_y (y_assign rfl) rfl rfl rfl rfl ?_
  refine s_y (y_assign rfl) rfl rfl rfl rfl ?_
  refine s_nil ?_
  refine g_then ?_
  refine g_seq ?_
  refine g_seq ?_
  refine g_region ?_
  refine s_y (y_move rfl) rfl rfl rfl rfl ?_
  refine s_tr (t_call rfl rfl ent_44 (fun w h => by have h_ := isPart_any w v xs (hv.below h.below) hl; rwa [hp] at h_)) rfl rfl rfl rfl (fun _ _ => ?_)
  refine s_y (y_not_f rfl) rfl rfl rfl rfl ?_
  refine s_nil ?_
  refine g_then ?_
  refine g_cond_t rfl ?_
  refine g_seq ?_
  refine g_region ?_
  refine s_y (y_assign rfl) rfl rfl rfl rfl ?_
  refine s_y (y_assign rfl) rfl rfl rfl rfl ?_
  refine s_nil ?_
  refine g_then ?_
  refine g_ret ?_
  refine g_thenr ?_
  exact g_end trivial (fun a w ha hq_ => res2 ha rfl rfl rfl  w) (fun w h => ⟨rfl, h.below⟩)

theorem costR_ok {a b : ByteArray} {pi po ps : Int} (ha : a.size ≤ 12) (hb : b.size ≤ 12) (hp : okP pi po ps) : costR a b pi po ps = (D a b pi po ps a.size b.size, 0) := if_pos ⟨ha, hb, hp⟩
theorem costR_no {a b : ByteArray} {pi po ps : Int} (h : ¬ (a.size ≤ 12 ∧ b.size ≤ 12 ∧ okP pi po ps)) : costR a b pi po ps = (0, 2) := if_neg h
theorem costR_err {a b : ByteArray} {pi po ps : Int} : (costR a b pi po ps).2 = 0 ↔ (a.size ≤ 12 ∧ b.size ≤ 12 ∧ okP pi po ps) := by
  unfold costR; split <;> simp [*]
theorem bt_nat {s : ByteArray} {i : Nat} (h : i < s.size) : bt s i = ((s.data.toList[i]'(by simpa using h)).toNat : Int) := by
  unfold bt
  rw [Int.toNat_natCast, dif_pos h]
  rfl
theorem costR_awake : costR (⟨#[97]⟩ : ByteArray) (⟨#[97, 98]⟩ : ByteArray) 2 3 4 = (2, 0) := by
  rw [costR_ok (by decide) (by decide) (by decide)]
  have e0 : bt (⟨#[97]⟩ : ByteArray) ((0 : Nat) : Int) = 97 := by rw [bt_nat (by decide)]; rfl
  have e1 : bt (⟨#[97, 98]⟩ : ByteArray) ((0 : Nat) : Int) = 97 := by rw [bt_nat (by decide)]; rfl
  have e2 : bt (⟨#[97, 98]⟩ : ByteArray) ((1 : Nat) : Int) = 98 := by rw [bt_nat (by decide)]; rfl
  have e : D (⟨#[97]⟩ : ByteArray) (⟨#[97, 98]⟩ : ByteArray) 2 3 4 1 2 = 2 := by
    unfold D
    generalize hx : (fun k : Nat => bt (⟨#[97]⟩ : ByteArray) k) = x
    generalize hy : (fun k : Nat => bt (⟨#[97, 98]⟩ : ByteArray) k) = y
    have x0 : x 0 = 97 := by rw [← hx]; exact e0
    have y0 : y 0 = 97 := by rw [← hy]; exact e1
    have y1 : y 1 = 98 := by rw [← hy]; exact e2
    have h00 := EM.C_00 x y 2 3 4
    have h01 := EM.C_0s x y 2 3 4 0
    have h02 := EM.C_0s x y 2 3 4 1
    have h10 := EM.C_s0 x y 2 3 4 0
    have h11 := EM.C_ss x y 2 3 4 0 0
    have h12 := EM.C_ss x y 2 3 4 0 1
    simp only [x0, y0, y1, Nat.zero_add, Nat.reduceAdd] at h01 h02 h10 h11 h12
    rw [if_pos trivial] at h11
    rw [if_neg (by decide)] at h12
    omega
  exact congrArg (fun z => (z, (0 : Int))) e

theorem changes_t (w : World) :
    Calls Try.prog 18 [].toArray w fun e w' => e = .returned (.bool (true)) ∧ Below w.heap.size w w' := by
  refine enter (N := 14) Try.func18 rfl rfl rfl ?_
  refine g_seq ?_
  refine g_region ?_
  refine s_y (y_assign rfl) rfl rfl rfl rfl ?_
  refine s_nil ?_
  refine g_then ?_
  refine g_seq ?_
  refine g_region ?_
  refine s_y (y_build (vs := [(0, _), (1, _), (2, _)]) rfl rfl (fun w => bld_61_0_1_2 _ _ _ w)) rfl rfl rfl rfl ?_
  refine s_tr (t_call rfl rfl ent_41 (fun w h => by have h_ := Cost_any w (⟨#[97]⟩ : ByteArray) (⟨#[97, 98]⟩ : ByteArray) 2 3 4; rwa [costR_awake] at h_)) rfl rfl rfl rfl (fun _ _ => ?_)
  refine s_y (y_move rfl) rfl rfl rfl rfl ?_
  refine s_y (y_extract rfl rfl) rfl rfl rfl rfl ?_
  refine s_y (y_extract rfl rfl) rfl rfl rfl rfl ?_
  refine s_y (y_assign rfl) rfl rfl rfl rfl ?_
  refine s_y (y_assign rfl) rfl rfl rfl rfl ?_
  refine s_nil ?_
  refine g_then ?_
  refine g_seq ?_
  refine g_region ?_
  refine s_y (y_move rfl) rfl rfl rfl rfl ?_
  refine s_y (y_eql_t rfl rfl (by decide)) rfl rfl rfl rfl ?_
  refine s_y (y_move rfl) rfl rfl rfl rfl ?_
  refine s_y (y_move rfl) rfl rfl rfl rfl ?_
  refine s_y (y_eql_t rfl rfl (by decide)) rfl rfl rfl rfl ?_
  refine s_y (y_pick_t rfl rfl) rfl rfl rfl rfl ?_
  refine s_y (y_assign rfl) rfl rfl rfl rfl ?_
  refine s_nil ?_
  refine g_then ?_
  refine g_ret ?_
  exact g_end trivial (fun a w ha hq_ => res1 ha rfl rfl  w) (fun w h => ⟨rfl, h.below⟩)

theorem part_mel {xs : List Int} (h : partB xs = true) : melB xs = true := by
  obtain ⟨⟨h1, h2⟩, h3⟩ := partB_true.1 h
  exact melB_true.2 ⟨⟨h1, by omega⟩, fun x hx => by have := h3 x hx; omega⟩
theorem liftL_map (xs : List Int) (b : Int) : liftL xs b = xs.map (· + b) := rfl

theorem TopLaid_yy (w : World) (v v' : Value) (xs ys : List Int) (b : Int) (hv : RdV (Value.int .i64) w v xs) (hv' : RdV (Value.int .i64) w v' ys) (hp : partB xs = true) (hp' : partB ys = true) (hlen : xs.length = ys.length) (hb : -20 ≤ b ∧ b ≤ 20) (hq : partB (liftL xs b) = true) (hq' : partB (liftL ys b) = true) :
    Calls Try.prog 5 [v, v', .int .i64 b].toArray w fun e w' => e = .returned (.bool (true)) ∧ Below w.heap.size w w' := by
  obtain ⟨hxl, hxn⟩ := partB_true.1 hp
  obtain ⟨hyl, hyn⟩ := partB_true.1 hp'
  refine enter (N := 127) Try.func5 rfl rfl rfl ?_
  refine g_seq ?_
  refine g_region ?_
  refine s_y (y_assign rfl) rfl rfl rfl rfl ?_
  refine s_nil ?_
  refine g_then ?_
  refine g_seq ?_
  refine g_seq ?_
  refine g_region ?_
  refine s_y (y_move rfl) rfl rfl rfl rfl ?_
  refine s_tr (t_call rfl rfl ent_17 (fun w h => by have h_ := Part_any w _ xs (hv.below h.below) (by omega); rwa [hp] at h_)) rfl rfl rfl rfl (fun _ _ => ?_)
  refine s_y (y_not_t rfl) rfl rfl rfl rfl ?_
  refine s_y (y_move rfl) rfl rfl rfl rfl ?_
  refine s_y (y_move rfl) rfl rfl rfl rfl ?_
  refine s_tr (t_call rfl rfl ent_17 (fun w h => by have h_ := Part_any w _ ys (hv'.below h.below) (by omega); rwa [hp'] at h_)) rfl rfl rfl rfl (fun _ _ => ?_)
  refine s_y (y_not_t rfl) rfl rfl rfl rfl ?_
  refine s_y (y_pick_f rfl rfl) rfl rfl rfl rfl ?_
  refine s_y (y_move rfl) rfl rfl rfl rfl ?_
  refine s_y (y_move rfl) rfl rfl rfl rfl ?_
  refine s_y (y_lenV (n := xs.length) rfl (by obtain ⟨A, c, h1, _⟩ := hv; exact ⟨A, c, h1⟩) sle_27) rfl rfl rfl rfl ?_
  refine s_y (y_move rfl) rfl rfl rfl rfl ?_
  refine s_y (y_lenV (n := ys.length) rfl (by obtain ⟨A, c, h1, _⟩ := hv'; exact ⟨A, c, h1⟩) sle_27) rfl rfl rfl rfl ?_
  refine s_y (y_neq_f rfl rfl (by omega)) rfl rfl rfl rfl ?_
  refine s_y (y_pick_f rfl rfl) rfl rfl rfl rfl ?_
  refine s_nil ?_
  refine g_then ?_
  refine g_cond_f rfl ?_
  refine g_skip ?_
  refine g_then ?_
  refine g_seq ?_
  refine g_region ?_
  refine s_y (y_assign rfl) rfl rfl rfl rfl ?_
  refine s_nil ?_
  refine g_then ?_
  refine g_seq ?_
  refine g_seq ?_
  refine g_region ?_
  refine s_y (y_move rfl) rfl rfl rfl rfl ?_
  refine s_y (y_lenV (n := xs.length) rfl (by obtain ⟨A, c, h1, _⟩ := hv; exact ⟨A, c, h1⟩) sle_27) rfl rfl rfl rfl ?_
  refine s_y (y_move rfl) rfl rfl rfl rfl ?_
  refine s_nil ?_
  refine g_then ?_
  refine g_block ?_
  refine g_loop (fun (i : Nat) act W => i ≤ xs.length ∧ ∃ (sm : Int) (w1 : World), (sm = dgS xs ys i) ∧ (0 ≤ sm ∧ sm ≤ 20 * (i : Int)) ∧ Has 127 [] [(0, v), (1, v'), (2, .int .i64 b), (6, .bool false), (7, .int .i64 sm), (32, v), (33, .int .i64 (xs.length : Nat)), (34, .int .i64 (i : Int))] act ∧ Hp w w1 ([]) W) (fun i => xs.length - i) 0 (fun act W ha hw => ⟨by omega, 0, W, (by rfl), (by simp), ha.weak (sub_get ⟨rfl, rfl, rfl, rfl, rfl, rfl, rfl, rfl, trivial⟩), hw.toHq.lookSub (List.Sublist.refl _)⟩) ?_
  intro i act W ⟨hb_i, sm, w1, hsm, hsb, ha, hw⟩
  refine g_go ha hw ?_
  clear ha hw act W
  have hxi : i < xs.length → 0 ≤ rdI xs (i : Int) ∧ rdI xs (i : Int) ≤ 20 := fun h => notes_at hxn (by omega) (by omega)
  have hyi : i < xs.length → 0 ≤ rdI ys (i : Int) ∧ rdI ys (i : Int) ≤ 20 := fun h => notes_at hyn (by omega) (by omega)
  refine g_seq ?_
  refine g_region ?_
  refine s_y (y_lss rfl rfl) rfl rfl rfl rfl ?_
  refine s_nil ?_
  refine g_then ?_
  refine g_seq ?_
  refine g_cond rfl (fun cq1 => ?_) (fun cq1 => ?_)
  · (try simp at cq1)
    refine g_skip ?_
    refine g_then ?_
    refine g_seq ?_
    refine g_block ?_
    refine g_seq ?_
    refine g_region ?_
    refine s_y (y_move rfl) rfl rfl rfl rfl ?_
    refine s_y (y_idxV (enc := (Value.int .i64)) rfl rfl hv Try.underlying27 size_3 (by omega) (by omega)) rfl rfl rfl rfl ?_
    refine s_y (y_ldV (enc := (Value.int .i64)) (xs := xs) (fun w h => hv.rdl.below h.below) rfl agg_3 (rdI_at (by omega) (by omega))) rfl rfl rfl rfl ?_
    refine s_y (y_assign rfl) rfl rfl rfl rfl ?_
    refine s_y (y_assign rfl) rfl rfl rfl rfl ?_
    refine s_nil ?_
    refine g_then ?_
    refine g_draw 16 (by kernel_rfl) ?_
    refine j_p (i := 0) rfl (y_move rfl) (by kernel_rfl) (by kernel_rfl) (by kernel_rfl) rfl rfl rfl rfl rfl (.inr (fun _ h => h)) ?_
    refine j_p (i := 1) rfl (y_move rfl) (by kernel_rfl) (by kernel_rfl) (by kernel_rfl) rfl rfl rfl rfl rfl (.inr (fun _ h => h)) ?_
    refine j_p (i := 2) rfl (y_move rfl) (by kernel_rfl) (by kernel_rfl) (by kernel_rfl) rfl rfl rfl rfl rfl (.inr (fun _ h => h)) ?_
    refine j_p (i := 3) rfl (y_move rfl) (by kernel_rfl) (by kernel_rfl) (by kernel_rfl) rfl rfl rfl rfl rfl (.inr (fun _ h => h)) ?_
    refine j_p (i := 4) rfl (y_idxV (enc := (Value.int .i64)) rfl rfl hv' Try.underlying27 size_3 (by omega) (by omega)) (by kernel_rfl) (by kernel_rfl) (by kernel_rfl) rfl rfl rfl rfl rfl (.inr (fun _ h => h)) ?_
    refine j_l (i := 5) rfl (y_ldV (enc := (Value.int .i64)) (xs := ys) (fun w h => hv'.rdl.below h.below) rfl agg_3 (rdI_at (by omega) (by omega))) (by kernel_rfl) (by kernel_rfl) (by kernel_rfl) (by kernel_rfl) rfl rfl rfl rfl rfl (.inr (fun _ h => h)) ?_
    refine j_p (i := 6) rfl (y_sub rfl rfl (by omega) (by omega)) (by kernel_rfl) (by kernel_rfl) (by kernel_rfl) rfl rfl rfl rfl rfl (.inr (fun _ h => h)) ?_
    refine j_p (i := 7) rfl (y_move rfl) (by kernel_rfl) (by kernel_rfl) (by kernel_rfl) rfl rfl rfl rfl rfl (.inr (fun _ h => h)) ?_
    refine j_p (i := 8) rfl (y_move rfl) (by kernel_rfl) (by kernel_rfl) (by kernel_rfl) rfl rfl rfl rfl rfl (.inr (fun _ h => h)) ?_
    refine j_p (i := 9) rfl (y_idxV (enc := (Value.int .i64)) rfl rfl hv' Try.underlying27 size_3 (by omega) (by omega)) (by kernel_rfl) (by kernel_rfl) (by kernel_rfl) rfl rfl rfl rfl rfl (.inr (fun _ h => h)) ?_
    refine j_l (i := 10) rfl (y_ldV (enc := (Value.int .i64)) (xs := ys) (fun w h => hv'.rdl.below h.below) rfl agg_3 (rdI_at (by omega) (by omega))) (by kernel_rfl) (by kernel_rfl) (by kernel_rfl) (by kernel_rfl) rfl rfl rfl rfl rfl (.inr (fun _ h => h)) ?_
    refine j_p (i := 11) rfl (y_move rfl) (by kernel_rfl) (by kernel_rfl) (by kernel_rfl) rfl rfl rfl rfl rfl (.inr (fun _ h => h)) ?_
    refine j_p (i := 12) rfl (y_sub rfl rfl (by omega) (by omega)) (by kernel_rfl) (by kernel_rfl) (by kernel_rfl) rfl rfl rfl rfl rfl (.inr (fun _ h => h)) ?_
    refine j_p (i := 13) rfl (y_max rfl rfl) (by kernel_rfl) (by kernel_rfl) (by kernel_rfl) rfl rfl rfl rfl rfl (.inr (fun _ h => h)) ?_
    refine j_p (i := 14) rfl (y_add rfl rfl (by first | omega | (split <;> omega)) (by first | omega | (split <;> omega))) (by kernel_rfl) (by kernel_rfl) (by kernel_rfl) rfl rfl rfl rfl rfl (.inr (fun _ h => h)) ?_
    refine j_p (i := 15) rfl (y_assign rfl) (by kernel_rfl) (by kernel_rfl) (by kernel_rfl) rfl rfl rfl rfl rfl (.inr (fun _ h => h)) ?_
    refine j_nil (by kernel_rfl) ?_
    refine g_inb ?_
    refine g_then ?_
    refine g_region ?_
    refine s_y (y_add rfl rfl (by omega) (by omega)) rfl rfl rfl rfl ?_
    refine s_y (y_move rfl) rfl rfl rfl rfl ?_
    refine s_nil ?_
    refine g_then ?_
    exact fun act W ha hw => ⟨i + 1, by omega, by omega, (sm + (if ((rdI ys (i : Int)) - (rdI xs (i : Int))) > ((rdI xs (i : Int)) - (rdI ys (i : Int))) then ((rdI ys (i : Int)) - (rdI xs (i : Int))) else ((rdI xs (i : Int)) - (rdI ys (i : Int))))), W, (by show _ = dgS xs ys i + ovC xs ys (i : Int) (i : Int); rw [hsm]; rfl), (by first | omega | (split <;> omega)), ha.weak (sub_get ⟨rfl, rfl, rfl, rfl, rfl, rfl, rfl, rfl, trivial⟩), hw.toHq.lookSub (List.Sublist.refl _)⟩
  · (try simp at cq1)
    refine g_exit ?_
    refine g_thenx ?_
    refine g_thenx ?_
    refine g_inbx ?_
    refine g_then ?_
    refine g_seq ?_
    have hi_ : i = xs.length := by omega
    rw [hi_] at hsm hsb
    refine g_region ?_
    refine s_y (y_move rfl) rfl rfl rfl rfl ?_
    refine s_tr (t_callm rfl rfl ent_20 (fun w h => Clone_any w _ xs (hv.below h.below) (by omega))) rfl rfl rfl rfl (fun x3 hx4 => ?_)
    obtain ⟨vo2, mo2⟩ := x3
    obtain ⟨hOo2, hEo2⟩ := hx4
    refine s_y (y_move rfl) rfl rfl rfl rfl ?_
    refine s_tr (t_callm rfl rfl ent_20 (fun w h => Clone_any w _ ys (hv'.below h.below) (by omega))) rfl rfl rfl rfl (fun x6 hx7 => ?_)
    obtain ⟨vo5, mo5⟩ := x6
    obtain ⟨hOo5, hEo5⟩ := hx7
    refine s_tr (t_call rfl rfl ent_19 (fun w h => Over_ok w _ _ xs ys (hOo2.rd fun p hp => h.at_ p (mem_ar mo5 (mem_al mo2 hp))) (hOo5.rd fun p hp => h.at_ p (mem_al mo5 hp)) (part_mel hp) (part_mel hp'))) rfl rfl rfl rfl (fun _ _ => ?_)
    refine s_y (y_move rfl) rfl rfl rfl rfl ?_
    refine s_y (y_extract rfl rfl) rfl rfl rfl rfl ?_
    refine s_y (y_extract rfl rfl) rfl rfl rfl rfl ?_
    refine s_y (y_assign rfl) rfl rfl rfl rfl ?_
    refine s_y (y_assign rfl) rfl rfl rfl rfl ?_
    refine s_nil ?_
    refine g_then ?_
    refine g_seq ?_
    refine g_seq ?_
    refine g_region ?_
    refine s_y (y_move rfl) rfl rfl rfl rfl ?_
    refine s_y (y_neq_f rfl rfl (by decide)) rfl rfl rfl rfl ?_
    refine s_y (y_move rfl) rfl rfl rfl rfl ?_
    refine s_y (y_move rfl) rfl rfl rfl rfl ?_
    refine s_y (y_move rfl) rfl rfl rfl rfl ?_
    refine s_y (y_gtr_f rfl rfl (by have := ovP_diag hlen (by omega); omega)) rfl rfl rfl rfl ?_
    refine s_y (y_pick_f rfl rfl) rfl rfl rfl rfl ?_
    refine s_y (y_move rfl) rfl rfl rfl rfl ?_
    refine s_y (y_move rfl) rfl rfl rfl rfl ?_
    refine s_y (y_lss_f rfl rfl (by have := ovP_nonneg xs ys 0 0; omega)) rfl rfl rfl rfl ?_
    refine s_y (y_pick_f rfl rfl) rfl rfl rfl rfl ?_
    refine s_nil ?_
    refine g_then ?_
    refine g_cond_f rfl ?_
    refine g_skip ?_
    refine g_then ?_
    refine g_seq ?_
    refine g_region ?_
    refine s_y (y_move rfl) rfl rfl rfl rfl ?_
    refine s_tr (t_callm rfl rfl ent_20 (fun w h => Clone_any w _ xs (hv.below h.below) (by omega))) rfl rfl rfl rfl (fun x9 hx10 => ?_)
    obtain ⟨vo8, mo8⟩ := x9
    obtain ⟨hOo8, hEo8⟩ := hx10
    refine s_y (y_move rfl) rfl rfl rfl rfl ?_
    refine s_tr (t_callm rfl rfl ent_21 (fun w h => Lift_yes w _ xs (hOo8.rd fun p hp => h.at_ p (mem_al mo8 hp)) b hp hb hq)) rfl rfl rfl rfl (fun x12 hx13 => ?_)
    obtain ⟨vo11, mo11⟩ := x12
    obtain ⟨hOo11, hEo11⟩ := hx13
    refine s_y (y_move rfl) rfl rfl rfl rfl ?_
    refine s_y (y_extract rfl rfl) rfl rfl rfl rfl ?_
    refine s_y (y_extract rfl rfl) rfl rfl rfl rfl ?_
    refine s_y (y_assign rfl) rfl rfl rfl rfl ?_
    refine s_y (y_assign rfl) rfl rfl rfl rfl ?_
    refine s_nil ?_
    refine g_then ?_
    refine g_seq ?_
    refine g_region ?_
    refine s_y (y_move rfl) rfl rfl rfl rfl ?_
    refine s_tr (t_callm rfl rfl ent_20 (fun w h => Clone_any w _ ys (hv'.below h.below) (by omega))) rfl rfl rfl rfl (fun x15 hx16 => ?_)
    obtain ⟨vo14, mo14⟩ := x15
    obtain ⟨hOo14, hEo14⟩ := hx16
    refine s_y (y_move rfl) rfl rfl rfl rfl ?_
    refine s_tr (t_callm rfl rfl ent_21 (fun w h => Lift_yes w _ ys (hOo14.rd fun p hp => h.at_ p (mem_al mo14 hp)) b hp' hb hq')) rfl rfl rfl rfl (fun x18 hx19 => ?_)
    obtain ⟨vo17, mo17⟩ := x18
    obtain ⟨hOo17, hEo17⟩ := hx19
    refine s_y (y_move rfl) rfl rfl rfl rfl ?_
    refine s_y (y_extract rfl rfl) rfl rfl rfl rfl ?_
    refine s_y (y_extract rfl rfl) rfl rfl rfl rfl ?_
    refine s_y (y_assign rfl) rfl rfl rfl rfl ?_
    refine s_y (y_assign rfl) rfl rfl rfl rfl ?_
    refine s_nil ?_
    refine g_then ?_
    refine g_seq ?_
    refine g_seq ?_
    refine g_region ?_
    refine s_y (y_move rfl) rfl rfl rfl rfl ?_
    refine s_y (y_neq_f rfl rfl (by decide)) rfl rfl rfl rfl ?_
    refine s_y (y_move rfl) rfl rfl rfl rfl ?_
    refine s_y (y_move rfl) rfl rfl rfl rfl ?_
    refine s_y (y_neq_f rfl rfl (by decide)) rfl rfl rfl rfl ?_
    refine s_y (y_pick_f rfl rfl) rfl rfl rfl rfl ?_
    refine s_nil ?_
    refine g_then ?_
    refine g_cond_f rfl ?_
    refine g_skip ?_
    refine g_then ?_
    refine g_seq ?_
    refine g_region ?_
    refine s_y (y_move rfl) rfl rfl rfl rfl ?_
    refine s_y (y_move rfl) rfl rfl rfl rfl ?_
    refine s_tr (t_call rfl rfl ent_19 (fun w h => by have h_ := Over_ok w _ _ (liftL xs b) (liftL ys b) (hOo11.rd fun p hp => h.at_ p (mem_ar mo17 (mem_ar mo14 (mem_al mo11 hp)))) (hOo17.rd fun p hp => h.at_ p (mem_al mo17 hp)) (part_mel hq) (part_mel hq'); rwa [show ovP (liftL xs b) (liftL ys b) 0 0 = ovP xs ys 0 0 from ovP_shift b (by omega) (by omega)] at h_)) rfl rfl rfl rfl (fun _ _ => ?_)
    refine s_y (y_move rfl) rfl rfl rfl rfl ?_
    refine s_y (y_extract rfl rfl) rfl rfl rfl rfl ?_
    refine s_y (y_extract rfl rfl) rfl rfl rfl rfl ?_
    refine s_y (y_assign rfl) rfl rfl rfl rfl ?_
    refine s_y (y_assign rfl) rfl rfl rfl rfl ?_
    refine s_nil ?_
    refine g_then ?_
    refine g_seq ?_
    refine g_region ?_
    refine s_y (y_move rfl) rfl rfl rfl rfl ?_
    refine s_y (y_eql_t rfl rfl (by decide)) rfl rfl rfl rfl ?_
    refine s_y (y_move rfl) rfl rfl rfl rfl ?_
    refine s_y (y_move rfl) rfl rfl rfl rfl ?_
    refine s_y (y_move rfl) rfl rfl rfl rfl ?_
    refine s_y (y_eql_t rfl rfl (rfl)) rfl rfl rfl rfl ?_
    refine s_y (y_pick_t rfl rfl) rfl rfl rfl rfl ?_
    refine s_y (y_move rfl) rfl rfl rfl rfl ?_
    refine s_tr (t_call rfl rfl ent_18 (fun w h => changes_t w)) rfl rfl rfl rfl (fun _ _ => ?_)
    refine s_y (y_pick_t rfl rfl) rfl rfl rfl rfl ?_
    refine s_y (y_assign rfl) rfl rfl rfl rfl ?_
    refine s_nil ?_
    refine g_then ?_
    refine g_ret ?_
    exact g_end trivial (fun a w ha hq_ => res1 ha rfl rfl  w) (fun w h => ⟨rfl, h.below⟩)

theorem TopLaid_yn (w : World) (v v' : Value) (xs ys : List Int) (b : Int) (hv : RdV (Value.int .i64) w v xs) (hv' : RdV (Value.int .i64) w v' ys) (hp : partB xs = true) (hp' : partB ys = true) (hlen : xs.length = ys.length) (hb : -20 ≤ b ∧ b ≤ 20) (hq : partB (liftL xs b) = true) (hq' : partB (liftL ys b) = false) :
    Calls Try.prog 5 [v, v', .int .i64 b].toArray w fun e w' => e = .returned (.bool (true)) ∧ Below w.heap.size w w' := by
  obtain ⟨hxl, hxn⟩ := partB_true.1 hp
  obtain ⟨hyl, hyn⟩ := partB_true.1 hp'
  refine enter (N := 127) Try.func5 rfl rfl rfl ?_
  refine g_seq ?_
  refine g_region ?_
  refine s_y (y_assign rfl) rfl rfl rfl rfl ?_
  refine s_nil ?_
  refine g_then ?_
  refine g_seq ?_
  refine g_seq ?_
  refine g_region ?_
  refine s_y (y_move rfl) rfl rfl rfl rfl ?_
  refine s_tr (t_call rfl rfl ent_17 (fun w h => by have h_ := Part_any w _ xs (hv.below h.below) (by omega); rwa [hp] at h_)) rfl rfl rfl rfl (fun _ _ => ?_)
  refine s_y (y_not_t rfl) rfl rfl rfl rfl ?_
  refine s_y (y_move rfl) rfl rfl rfl rfl ?_
  refine s_y (y_move rfl) rfl rfl rfl rfl ?_
  refine s_tr (t_call rfl rfl ent_17 (fun w h => by have h_ := Part_any w _ ys (hv'.below h.below) (by omega); rwa [hp'] at h_)) rfl rfl rfl rfl (fun _ _ => ?_)
  refine s_y (y_not_t rfl) rfl rfl rfl rfl ?_
  refine s_y (y_pick_f rfl rfl) rfl rfl rfl rfl ?_
  refine s_y (y_move rfl) rfl rfl rfl rfl ?_
  refine s_y (y_move rfl) rfl rfl rfl rfl ?_
  refine s_y (y_lenV (n := xs.length) rfl (by obtain ⟨A, c, h1, _⟩ := hv; exact ⟨A, c, h1⟩) sle_27) rfl rfl rfl rfl ?_
  refine s_y (y_move rfl) rfl rfl rfl rfl ?_
  refine s_y (y_lenV (n := ys.length) rfl (by obtain ⟨A, c, h1, _⟩ := hv'; exact ⟨A, c, h1⟩) sle_27) rfl rfl rfl rfl ?_
  refine s_y (y_neq_f rfl rfl (by omega)) rfl rfl rfl rfl ?_
  refine s_y (y_pick_f rfl rfl) rfl rfl rfl rfl ?_
  refine s_nil ?_
  refine g_then ?_
  refine g_cond_f rfl ?_
  refine g_skip ?_
  refine g_then ?_
  refine g_seq ?_
  refine g_region ?_
  refine s_y (y_assign rfl) rfl rfl rfl rfl ?_
  refine s_nil ?_
  refine g_then ?_
  refine g_seq ?_
  refine g_seq ?_
  refine g_region ?_
  refine s_y (y_move rfl) rfl rfl rfl rfl ?_
  refine s_y (y_lenV (n := xs.length) rfl (by obtain ⟨A, c, h1, _⟩ := hv; exact ⟨A, c, h1⟩) sle_27) rfl rfl rfl rfl ?_
  refine s_y (y_move rfl) rfl rfl rfl rfl ?_
  refine s_nil ?_
  refine g_then ?_
  refine g_block ?_
  refine g_loop (fun (i : Nat) act W => i ≤ xs.length ∧ ∃ (sm : Int) (w1 : World), (sm = dgS xs ys i) ∧ (0 ≤ sm ∧ sm ≤ 20 * (i : Int)) ∧ Has 127 [] [(0, v), (1, v'), (2, .int .i64 b), (6, .bool false), (7, .int .i64 sm), (32, v), (33, .int .i64 (xs.length : Nat)), (34, .int .i64 (i : Int))] act ∧ Hp w w1 ([]) W) (fun i => xs.length - i) 0 (fun act W ha hw => ⟨by omega, 0, W, (by rfl), (by simp), ha.weak (sub_get ⟨rfl, rfl, rfl, rfl, rfl, rfl, rfl, rfl, trivial⟩), hw.toHq.lookSub (List.Sublist.refl _)⟩) ?_
  intro i act W ⟨hb_i, sm, w1, hsm, hsb, ha, hw⟩
  refine g_go ha hw ?_
  clear ha hw act W
  have hxi : i < xs.length → 0 ≤ rdI xs (i : Int) ∧ rdI xs (i : Int) ≤ 20 := fun h => notes_at hxn (by omega) (by omega)
  have hyi : i < xs.length → 0 ≤ rdI ys (i : Int) ∧ rdI ys (i : Int) ≤ 20 := fun h => notes_at hyn (by omega) (by omega)
  refine g_seq ?_
  refine g_region ?_
  refine s_y (y_lss rfl rfl) rfl rfl rfl rfl ?_
  refine s_nil ?_
  refine g_then ?_
  refine g_seq ?_
  refine g_cond rfl (fun cq1 => ?_) (fun cq1 => ?_)
  · (try simp at cq1)
    refine g_skip ?_
    refine g_then ?_
    refine g_seq ?_
    refine g_block ?_
    refine g_seq ?_
    refine g_region ?_
    refine s_y (y_move rfl) rfl rfl rfl rfl ?_
    refine s_y (y_idxV (enc := (Value.int .i64)) rfl rfl hv Try.underlying27 size_3 (by omega) (by omega)) rfl rfl rfl rfl ?_
    refine s_y (y_ldV (enc := (Value.int .i64)) (xs := xs) (fun w h => hv.rdl.below h.below) rfl agg_3 (rdI_at (by omega) (by omega))) rfl rfl rfl rfl ?_
    refine s_y (y_assign rfl) rfl rfl rfl rfl ?_
    refine s_y (y_assign rfl) rfl rfl rfl rfl ?_
    refine s_nil ?_
    refine g_then ?_
    refine g_draw 16 (by kernel_rfl) ?_
    refine j_p (i := 0) rfl (y_move rfl) (by kernel_rfl) (by kernel_rfl) (by kernel_rfl) rfl rfl rfl rfl rfl (.inr (fun _ h => h)) ?_
    refine j_p (i := 1) rfl (y_move rfl) (by kernel_rfl) (by kernel_rfl) (by kernel_rfl) rfl rfl rfl rfl rfl (.inr (fun _ h => h)) ?_
    refine j_p (i := 2) rfl (y_move rfl) (by kernel_rfl) (by kernel_rfl) (by kernel_rfl) rfl rfl rfl rfl rfl (.inr (fun _ h => h)) ?_
    refine j_p (i := 3) rfl (y_move rfl) (by kernel_rfl) (by kernel_rfl) (by kernel_rfl) rfl rfl rfl rfl rfl (.inr (fun _ h => h)) ?_
    refine j_p (i := 4) rfl (y_idxV (enc := (Value.int .i64)) rfl rfl hv' Try.underlying27 size_3 (by omega) (by omega)) (by kernel_rfl) (by kernel_rfl) (by kernel_rfl) rfl rfl rfl rfl rfl (.inr (fun _ h => h)) ?_
    refine j_l (i := 5) rfl (y_ldV (enc := (Value.int .i64)) (xs := ys) (fun w h => hv'.rdl.below h.below) rfl agg_3 (rdI_at (by omega) (by omega))) (by kernel_rfl) (by kernel_rfl) (by kernel_rfl) (by kernel_rfl) rfl rfl rfl rfl rfl (.inr (fun _ h => h)) ?_
    refine j_p (i := 6) rfl (y_sub rfl rfl (by omega) (by omega)) (by kernel_rfl) (by kernel_rfl) (by kernel_rfl) rfl rfl rfl rfl rfl (.inr (fun _ h => h)) ?_
    refine j_p (i := 7) rfl (y_move rfl) (by kernel_rfl) (by kernel_rfl) (by kernel_rfl) rfl rfl rfl rfl rfl (.inr (fun _ h => h)) ?_
    refine j_p (i := 8) rfl (y_move rfl) (by kernel_rfl) (by kernel_rfl) (by kernel_rfl) rfl rfl rfl rfl rfl (.inr (fun _ h => h)) ?_
    refine j_p (i := 9) rfl (y_idxV (enc := (Value.int .i64)) rfl rfl hv' Try.underlying27 size_3 (by omega) (by omega)) (by kernel_rfl) (by kernel_rfl) (by kernel_rfl) rfl rfl rfl rfl rfl (.inr (fun _ h => h)) ?_
    refine j_l (i := 10) rfl (y_ldV (enc := (Value.int .i64)) (xs := ys) (fun w h => hv'.rdl.below h.below) rfl agg_3 (rdI_at (by omega) (by omega))) (by kernel_rfl) (by kernel_rfl) (by kernel_rfl) (by kernel_rfl) rfl rfl rfl rfl rfl (.inr (fun _ h => h)) ?_
    refine j_p (i := 11) rfl (y_move rfl) (by kernel_rfl) (by kernel_rfl) (by kernel_rfl) rfl rfl rfl rfl rfl (.inr (fun _ h => h)) ?_
    refine j_p (i := 12) rfl (y_sub rfl rfl (by omega) (by omega)) (by kernel_rfl) (by kernel_rfl) (by kernel_rfl) rfl rfl rfl rfl rfl (.inr (fun _ h => h)) ?_
    refine j_p (i := 13) rfl (y_max rfl rfl) (by kernel_rfl) (by kernel_rfl) (by kernel_rfl) rfl rfl rfl rfl rfl (.inr (fun _ h => h)) ?_
    refine j_p (i := 14) rfl (y_add rfl rfl (by first | omega | (split <;> omega)) (by first | omega | (split <;> omega))) (by kernel_rfl) (by kernel_rfl) (by kernel_rfl) rfl rfl rfl rfl rfl (.inr (fun _ h => h)) ?_
    refine j_p (i := 15) rfl (y_assign rfl) (by kernel_rfl) (by kernel_rfl) (by kernel_rfl) rfl rfl rfl rfl rfl (.inr (fun _ h => h)) ?_
    refine j_nil (by kernel_rfl) ?_
    refine g_inb ?_
    refine g_then ?_
    refine g_region ?_
    refine s_y (y_add rfl rfl (by omega) (by omega)) rfl rfl rfl rfl ?_
    refine s_y (y_move rfl) rfl rfl rfl rfl ?_
    refine s_nil ?_
    refine g_then ?_
    exact fun act W ha hw => ⟨i + 1, by omega, by omega, (sm + (if ((rdI ys (i : Int)) - (rdI xs (i : Int))) > ((rdI xs (i : Int)) - (rdI ys (i : Int))) then ((rdI ys (i : Int)) - (rdI xs (i : Int))) else ((rdI xs (i : Int)) - (rdI ys (i : Int))))), W, (by show _ = dgS xs ys i + ovC xs ys (i : Int) (i : Int); rw [hsm]; rfl), (by first | omega | (split <;> omega)), ha.weak (sub_get ⟨rfl, rfl, rfl, rfl, rfl, rfl, rfl, rfl, trivial⟩), hw.toHq.lookSub (List.Sublist.refl _)⟩
  · (try simp at cq1)
    refine g_exit ?_
    refine g_thenx ?_
    refine g_thenx ?_
    refine g_inbx ?_
    refine g_then ?_
    refine g_seq ?_
    have hi_ : i = xs.length := by omega
    rw [hi_] at hsm hsb
    refine g_region ?_
    refine s_y (y_move rfl) rfl rfl rfl rfl ?_
    refine s_tr (t_callm rfl rfl ent_20 (fun w h => Clone_any w _ xs (hv.below h.below) (by omega))) rfl rfl rfl rfl (fun x3 hx4 => ?_)
    obtain ⟨vo2, mo2⟩ := x3
    obtain ⟨hOo2, hEo2⟩ := hx4
    refine s_y (y_move rfl) rfl rfl rfl rfl ?_
    refine s_tr (t_callm rfl rfl ent_20 (fun w h => Clone_any w _ ys (hv'.below h.below) (by omega))) rfl rfl rfl rfl (fun x6 hx7 => ?_)
    obtain ⟨vo5, mo5⟩ := x6
    obtain ⟨hOo5, hEo5⟩ := hx7
    refine s_tr (t_call rfl rfl ent_19 (fun w h => Over_ok w _ _ xs ys (hOo2.rd fun p hp => h.at_ p (mem_ar mo5 (mem_al mo2 hp))) (hOo5.rd fun p hp => h.at_ p (mem_al mo5 hp)) (part_mel hp) (part_mel hp'))) rfl rfl rfl rfl (fun _ _ => ?_)
    refine s_y (y_move rfl) rfl rfl rfl rfl ?_
    refine s_y (y_extract rfl rfl) rfl rfl rfl rfl ?_
    refine s_y (y_extract rfl rfl) rfl rfl rfl rfl ?_
    refine s_y (y_assign rfl) rfl rfl rfl rfl ?_
    refine s_y (y_assign rfl) rfl rfl rfl rfl ?_
    refine s_nil ?_
    refine g_then ?_
    refine g_seq ?_
    refine g_seq ?_
    refine g_region ?_
    refine s_y (y_move rfl) rfl rfl rfl rfl ?_
    refine s_y (y_neq_f rfl rfl (by decide)) rfl rfl rfl rfl ?_
    refine s_y (y_move rfl) rfl rfl rfl rfl ?_
    refine s_y (y_move rfl) rfl rfl rfl rfl ?_
    refine s_y (y_move rfl) rfl rfl rfl rfl ?_
    refine s_y (y_gtr_f rfl rfl (by have := ovP_diag hlen (by omega); omega)) rfl rfl rfl rfl ?_
    refine s_y (y_pick_f rfl rfl) rfl rfl rfl rfl ?_
    refine s_y (y_move rfl) rfl rfl rfl rfl ?_
    refine s_y (y_move rfl) rfl rfl rfl rfl ?_
    refine s_y (y_lss_f rfl rfl (by have := ovP_nonneg xs ys 0 0; omega)) rfl rfl rfl rfl ?_
    refine s_y (y_pick_f rfl rfl) rfl rfl rfl rfl ?_
    refine s_nil ?_
    refine g_then ?_
    refine g_cond_f rfl ?_
    refine g_skip ?_
    refine g_then ?_
    refine g_seq ?_
    refine g_region ?_
    refine s_y (y_move rfl) rfl rfl rfl rfl ?_
    refine s_tr (t_callm rfl rfl ent_20 (fun w h => Clone_any w _ xs (hv.below h.below) (by omega))) rfl rfl rfl rfl (fun x9 hx10 => ?_)
    obtain ⟨vo8, mo8⟩ := x9
    obtain ⟨hOo8, hEo8⟩ := hx10
    refine s_y (y_move rfl) rfl rfl rfl rfl ?_
    refine s_tr (t_callm rfl rfl ent_21 (fun w h => Lift_yes w _ xs (hOo8.rd fun p hp => h.at_ p (mem_al mo8 hp)) b hp hb hq)) rfl rfl rfl rfl (fun x12 hx13 => ?_)
    obtain ⟨vo11, mo11⟩ := x12
    obtain ⟨hOo11, hEo11⟩ := hx13
    refine s_y (y_move rfl) rfl rfl rfl rfl ?_
    refine s_y (y_extract rfl rfl) rfl rfl rfl rfl ?_
    refine s_y (y_extract rfl rfl) rfl rfl rfl rfl ?_
    refine s_y (y_assign rfl) rfl rfl rfl rfl ?_
    refine s_y (y_assign rfl) rfl rfl rfl rfl ?_
    refine s_nil ?_
    refine g_then ?_
    refine g_seq ?_
    refine g_region ?_
    refine s_y (y_move rfl) rfl rfl rfl rfl ?_
    refine s_tr (t_callm rfl rfl ent_20 (fun w h => Clone_any w _ ys (hv'.below h.below) (by omega))) rfl rfl rfl rfl (fun x15 hx16 => ?_)
    obtain ⟨vo14, mo14⟩ := x15
    obtain ⟨hOo14, hEo14⟩ := hx16
    refine s_y (y_move rfl) rfl rfl rfl rfl ?_
    refine s_tr (t_call rfl rfl ent_21 (fun w h => Lift_none1 w _ ys (hOo14.rd fun p hp => h.at_ p (mem_al mo14 hp)) b hp' hb hq')) rfl rfl rfl rfl (fun _ _ => ?_)
    refine s_y (y_move rfl) rfl rfl rfl rfl ?_
    refine s_y (y_extract rfl rfl) rfl rfl rfl rfl ?_
    refine s_y (y_extract rfl rfl) rfl rfl rfl rfl ?_
    refine s_y (y_assign rfl) rfl rfl rfl rfl ?_
    refine s_y (y_assign rfl) rfl rfl rfl rfl ?_
    refine s_nil ?_
    refine g_then ?_
    refine g_seq ?_
    refine g_seq ?_
    refine g_region ?_
    refine s_y (y_move rfl) rfl rfl rfl rfl ?_
    refine s_y (y_neq_f rfl rfl (by decide)) rfl rfl rfl rfl ?_
    refine s_y (y_move rfl) rfl rfl rfl rfl ?_
    refine s_y (y_move rfl) rfl rfl rfl rfl ?_
    refine s_y (y_neq_t rfl rfl (by decide)) rfl rfl rfl rfl ?_
    refine s_y (y_pick_f rfl rfl) rfl rfl rfl rfl ?_
    refine s_nil ?_
    refine g_then ?_
    refine g_cond_t rfl ?_
    refine g_seq ?_
    refine g_region ?_
    refine s_y (y_move rfl) rfl rfl rfl rfl ?_
    refine s_y (y_eql_t rfl rfl (by decide)) rfl rfl rfl rfl ?_
    refine s_y (y_move rfl) rfl rfl rfl rfl ?_
    refine s_no rfl rfl rfl ?_
    refine s_no rfl rfl rfl ?_
    refine s_y (y_pick_t rfl rfl) rfl rfl rfl rfl ?_
    refine s_y (y_move rfl) rfl rfl rfl rfl ?_
    refine s_y (y_move rfl) rfl rfl rfl rfl ?_
    refine s_y (y_eql_f rfl rfl (by decide)) rfl rfl rfl rfl ?_
    refine s_y (y_move rfl) rfl rfl rfl rfl ?_
    refine s_y (y_move rfl) rfl rfl rfl rfl ?_
    refine s_y (y_eql_t rfl rfl (by decide)) rfl rfl rfl rfl ?_
    refine s_y (y_pick_f rfl rfl) rfl rfl rfl rfl ?_
    refine s_y (y_pick_t rfl rfl) rfl rfl rfl rfl ?_
    refine s_y (y_move rfl) rfl rfl rfl rfl ?_
    refine s_tr (t_call rfl rfl ent_18 (fun w h => changes_t w)) rfl rfl rfl rfl (fun _ _ => ?_)
    refine s_y (y_pick_t rfl rfl) rfl rfl rfl rfl ?_
    refine s_y (y_assign rfl) rfl rfl rfl rfl ?_
    refine s_nil ?_
    refine g_then ?_
    refine g_ret ?_
    refine g_thenr ?_
    exact g_end trivial (fun a w ha hq_ => res1 ha rfl rfl  w) (fun w h => ⟨rfl, h.below⟩)

theorem TopLaid_ny (w : World) (v v' : Value) (xs ys : List Int) (b : Int) (hv : RdV (Value.int .i64) w v xs) (hv' : RdV (Value.int .i64) w v' ys) (hp : partB xs = true) (hp' : partB ys = true) (hlen : xs.length = ys.length) (hb : -20 ≤ b ∧ b ≤ 20) (hq : partB (liftL xs b) = false) (hq' : partB (liftL ys b) = true) :
    Calls Try.prog 5 [v, v', .int .i64 b].toArray w fun e w' => e = .returned (.bool (true)) ∧ Below w.heap.size w w' := by
  obtain ⟨hxl, hxn⟩ := partB_true.1 hp
  obtain ⟨hyl, hyn⟩ := partB_true.1 hp'
  refine enter (N := 127) Try.func5 rfl rfl rfl ?_
  refine g_seq ?_
  refine g_region ?_
  refine s_y (y_assign rfl) rfl rfl rfl rfl ?_
  refine s_nil ?_
  refine g_then ?_
  refine g_seq ?_
  refine g_seq ?_
  refine g_region ?_
  refine s_y (y_move rfl) rfl rfl rfl rfl ?_
  refine s_tr (t_call rfl rfl ent_17 (fun w h => by have h_ := Part_any w _ xs (hv.below h.below) (by omega); rwa [hp] at h_)) rfl rfl rfl rfl (fun _ _ => ?_)
  refine s_y (y_not_t rfl) rfl rfl rfl rfl ?_
  refine s_y (y_move rfl) rfl rfl rfl rfl ?_
  refine s_y (y_move rfl) rfl rfl rfl rfl ?_
  refine s_tr (t_call rfl rfl ent_17 (fun w h => by have h_ := Part_any w _ ys (hv'.below h.below) (by omega); rwa [hp'] at h_)) rfl rfl rfl rfl (fun _ _ => ?_)
  refine s_y (y_not_t rfl) rfl rfl rfl rfl ?_
  refine s_y (y_pick_f rfl rfl) rfl rfl rfl rfl ?_
  refine s_y (y_move rfl) rfl rfl rfl rfl ?_
  refine s_y (y_move rfl) rfl rfl rfl rfl ?_
  refine s_y (y_lenV (n := xs.length) rfl (by obtain ⟨A, c, h1, _⟩ := hv; exact ⟨A, c, h1⟩) sle_27) rfl rfl rfl rfl ?_
  refine s_y (y_move rfl) rfl rfl rfl rfl ?_
  refine s_y (y_lenV (n := ys.length) rfl (by obtain ⟨A, c, h1, _⟩ := hv'; exact ⟨A, c, h1⟩) sle_27) rfl rfl rfl rfl ?_
  refine s_y (y_neq_f rfl rfl (by omega)) rfl rfl rfl rfl ?_
  refine s_y (y_pick_f rfl rfl) rfl rfl rfl rfl ?_
  refine s_nil ?_
  refine g_then ?_
  refine g_cond_f rfl ?_
  refine g_skip ?_
  refine g_then ?_
  refine g_seq ?_
  refine g_region ?_
  refine s_y (y_assign rfl) rfl rfl rfl rfl ?_
  refine s_nil ?_
  refine g_then ?_
  refine g_seq ?_
  refine g_seq ?_
  refine g_region ?_
  refine s_y (y_move rfl) rfl rfl rfl rfl ?_
  refine s_y (y_lenV (n := xs.length) rfl (by obtain ⟨A, c, h1, _⟩ := hv; exact ⟨A, c, h1⟩) sle_27) rfl rfl rfl rfl ?_
  refine s_y (y_move rfl) rfl rfl rfl rfl ?_
  refine s_nil ?_
  refine g_then ?_
  refine g_block ?_
  refine g_loop (fun (i : Nat) act W => i ≤ xs.length ∧ ∃ (sm : Int) (w1 : World), (sm = dgS xs ys i) ∧ (0 ≤ sm ∧ sm ≤ 20 * (i : Int)) ∧ Has 127 [] [(0, v), (1, v'), (2, .int .i64 b), (6, .bool false), (7, .int .i64 sm), (32, v), (33, .int .i64 (xs.length : Nat)), (34, .int .i64 (i : Int))] act ∧ Hp w w1 ([]) W) (fun i => xs.length - i) 0 (fun act W ha hw => ⟨by omega, 0, W, (by rfl), (by simp), ha.weak (sub_get ⟨rfl, rfl, rfl, rfl, rfl, rfl, rfl, rfl, trivial⟩), hw.toHq.lookSub (List.Sublist.refl _)⟩) ?_
  intro i act W ⟨hb_i, sm, w1, hsm, hsb, ha, hw⟩
  refine g_go ha hw ?_
  clear ha hw act W
  have hxi : i < xs.length → 0 ≤ rdI xs (i : Int) ∧ rdI xs (i : Int) ≤ 20 := fun h => notes_at hxn (by omega) (by omega)
  have hyi : i < xs.length → 0 ≤ rdI ys (i : Int) ∧ rdI ys (i : Int) ≤ 20 := fun h => notes_at hyn (by omega) (by omega)
  refine g_seq ?_
  refine g_region ?_
  refine s_y (y_lss rfl rfl) rfl rfl rfl rfl ?_
  refine s_nil ?_
  refine g_then ?_
  refine g_seq ?_
  refine g_cond rfl (fun cq1 => ?_) (fun cq1 => ?_)
  · (try simp at cq1)
    refine g_skip ?_
    refine g_then ?_
    refine g_seq ?_
    refine g_block ?_
    refine g_seq ?_
    refine g_region ?_
    refine s_y (y_move rfl) rfl rfl rfl rfl ?_
    refine s_y (y_idxV (enc := (Value.int .i64)) rfl rfl hv Try.underlying27 size_3 (by omega) (by omega)) rfl rfl rfl rfl ?_
    refine s_y (y_ldV (enc := (Value.int .i64)) (xs := xs) (fun w h => hv.rdl.below h.below) rfl agg_3 (rdI_at (by omega) (by omega))) rfl rfl rfl rfl ?_
    refine s_y (y_assign rfl) rfl rfl rfl rfl ?_
    refine s_y (y_assign rfl) rfl rfl rfl rfl ?_
    refine s_nil ?_
    refine g_then ?_
    refine g_draw 16 (by kernel_rfl) ?_
    refine j_p (i := 0) rfl (y_move rfl) (by kernel_rfl) (by kernel_rfl) (by kernel_rfl) rfl rfl rfl rfl rfl (.inr (fun _ h => h)) ?_
    refine j_p (i := 1) rfl (y_move rfl) (by kernel_rfl) (by kernel_rfl) (by kernel_rfl) rfl rfl rfl rfl rfl (.inr (fun _ h => h)) ?_
    refine j_p (i := 2) rfl (y_move rfl) (by kernel_rfl) (by kernel_rfl) (by kernel_rfl) rfl rfl rfl rfl rfl (.inr (fun _ h => h)) ?_
    refine j_p (i := 3) rfl (y_move rfl) (by kernel_rfl) (by kernel_rfl) (by kernel_rfl) rfl rfl rfl rfl rfl (.inr (fun _ h => h)) ?_
    refine j_p (i := 4) rfl (y_idxV (enc := (Value.int .i64)) rfl rfl hv' Try.underlying27 size_3 (by omega) (by omega)) (by kernel_rfl) (by kernel_rfl) (by kernel_rfl) rfl rfl rfl rfl rfl (.inr (fun _ h => h)) ?_
    refine j_l (i := 5) rfl (y_ldV (enc := (Value.int .i64)) (xs := ys) (fun w h => hv'.rdl.below h.below) rfl agg_3 (rdI_at (by omega) (by omega))) (by kernel_rfl) (by kernel_rfl) (by kernel_rfl) (by kernel_rfl) rfl rfl rfl rfl rfl (.inr (fun _ h => h)) ?_
    refine j_p (i := 6) rfl (y_sub rfl rfl (by omega) (by omega)) (by kernel_rfl) (by kernel_rfl) (by kernel_rfl) rfl rfl rfl rfl rfl (.inr (fun _ h => h)) ?_
    refine j_p (i := 7) rfl (y_move rfl) (by kernel_rfl) (by kernel_rfl) (by kernel_rfl) rfl rfl rfl rfl rfl (.inr (fun _ h => h)) ?_
    refine j_p (i := 8) rfl (y_move rfl) (by kernel_rfl) (by kernel_rfl) (by kernel_rfl) rfl rfl rfl rfl rfl (.inr (fun _ h => h)) ?_
    refine j_p (i := 9) rfl (y_idxV (enc := (Value.int .i64)) rfl rfl hv' Try.underlying27 size_3 (by omega) (by omega)) (by kernel_rfl) (by kernel_rfl) (by kernel_rfl) rfl rfl rfl rfl rfl (.inr (fun _ h => h)) ?_
    refine j_l (i := 10) rfl (y_ldV (enc := (Value.int .i64)) (xs := ys) (fun w h => hv'.rdl.below h.below) rfl agg_3 (rdI_at (by omega) (by omega))) (by kernel_rfl) (by kernel_rfl) (by kernel_rfl) (by kernel_rfl) rfl rfl rfl rfl rfl (.inr (fun _ h => h)) ?_
    refine j_p (i := 11) rfl (y_move rfl) (by kernel_rfl) (by kernel_rfl) (by kernel_rfl) rfl rfl rfl rfl rfl (.inr (fun _ h => h)) ?_
    refine j_p (i := 12) rfl (y_sub rfl rfl (by omega) (by omega)) (by kernel_rfl) (by kernel_rfl) (by kernel_rfl) rfl rfl rfl rfl rfl (.inr (fun _ h => h)) ?_
    refine j_p (i := 13) rfl (y_max rfl rfl) (by kernel_rfl) (by kernel_rfl) (by kernel_rfl) rfl rfl rfl rfl rfl (.inr (fun _ h => h)) ?_
    refine j_p (i := 14) rfl (y_add rfl rfl (by first | omega | (split <;> omega)) (by first | omega | (split <;> omega))) (by kernel_rfl) (by kernel_rfl) (by kernel_rfl) rfl rfl rfl rfl rfl (.inr (fun _ h => h)) ?_
    refine j_p (i := 15) rfl (y_assign rfl) (by kernel_rfl) (by kernel_rfl) (by kernel_rfl) rfl rfl rfl rfl rfl (.inr (fun _ h => h)) ?_
    refine j_nil (by kernel_rfl) ?_
    refine g_inb ?_
    refine g_then ?_
    refine g_region ?_
    refine s_y (y_add rfl rfl (by omega) (by omega)) rfl rfl rfl rfl ?_
    refine s_y (y_move rfl) rfl rfl rfl rfl ?_
    refine s_nil ?_
    refine g_then ?_
    exact fun act W ha hw => ⟨i + 1, by omega, by omega, (sm + (if ((rdI ys (i : Int)) - (rdI xs (i : Int))) > ((rdI xs (i : Int)) - (rdI ys (i : Int))) then ((rdI ys (i : Int)) - (rdI xs (i : Int))) else ((rdI xs (i : Int)) - (rdI ys (i : Int))))), W, (by show _ = dgS xs ys i + ovC xs ys (i : Int) (i : Int); rw [hsm]; rfl), (by first | omega | (split <;> omega)), ha.weak (sub_get ⟨rfl, rfl, rfl, rfl, rfl, rfl, rfl, rfl, trivial⟩), hw.toHq.lookSub (List.Sublist.refl _)⟩
  · (try simp at cq1)
    refine g_exit ?_
    refine g_thenx ?_
    refine g_thenx ?_
    refine g_inbx ?_
    refine g_then ?_
    refine g_seq ?_
    have hi_ : i = xs.length := by omega
    rw [hi_] at hsm hsb
    refine g_region ?_
    refine s_y (y_move rfl) rfl rfl rfl rfl ?_
    refine s_tr (t_callm rfl rfl ent_20 (fun w h => Clone_any w _ xs (hv.below h.below) (by omega))) rfl rfl rfl rfl (fun x3 hx4 => ?_)
    obtain ⟨vo2, mo2⟩ := x3
    obtain ⟨hOo2, hEo2⟩ := hx4
    refine s_y (y_move rfl) rfl rfl rfl rfl ?_
    refine s_tr (t_callm rfl rfl ent_20 (fun w h => Clone_any w _ ys (hv'.below h.below) (by omega))) rfl rfl rfl rfl (fun x6 hx7 => ?_)
    obtain ⟨vo5, mo5⟩ := x6
    obtain ⟨hOo5, hEo5⟩ := hx7
    refine s_tr (t_call rfl rfl ent_19 (fun w h => Over_ok w _ _ xs ys (hOo2.rd fun p hp => h.at_ p (mem_ar mo5 (mem_al mo2 hp))) (hOo5.rd fun p hp => h.at_ p (mem_al mo5 hp)) (part_mel hp) (part_mel hp'))) rfl rfl rfl rfl (fun _ _ => ?_)
    refine s_y (y_move rfl) rfl rfl rfl rfl ?_
    refine s_y (y_extract rfl rfl) rfl rfl rfl rfl ?_
    refine s_y (y_extract rfl rfl) rfl rfl rfl rfl ?_
    refine s_y (y_assign rfl) rfl rfl rfl rfl ?_
    refine s_y (y_assign rfl) rfl rfl rfl rfl ?_
    refine s_nil ?_
    refine g_then ?_
    refine g_seq ?_
    refine g_seq ?_
    refine g_region ?_
    refine s_y (y_move rfl) rfl rfl rfl rfl ?_
    refine s_y (y_neq_f rfl rfl (by decide)) rfl rfl rfl rfl ?_
    refine s_y (y_move rfl) rfl rfl rfl rfl ?_
    refine s_y (y_move rfl) rfl rfl rfl rfl ?_
    refine s_y (y_move rfl) rfl rfl rfl rfl ?_
    refine s_y (y_gtr_f rfl rfl (by have := ovP_diag hlen (by omega); omega)) rfl rfl rfl rfl ?_
    refine s_y (y_pick_f rfl rfl) rfl rfl rfl rfl ?_
    refine s_y (y_move rfl) rfl rfl rfl rfl ?_
    refine s_y (y_move rfl) rfl rfl rfl rfl ?_
    refine s_y (y_lss_f rfl rfl (by have := ovP_nonneg xs ys 0 0; omega)) rfl rfl rfl rfl ?_
    refine s_y (y_pick_f rfl rfl) rfl rfl rfl rfl ?_
    refine s_nil ?_
    refine g_then ?_
    refine g_cond_f rfl ?_
    refine g_skip ?_
    refine g_then ?_
    refine g_seq ?_
    refine g_region ?_
    refine s_y (y_move rfl) rfl rfl rfl rfl ?_
    refine s_tr (t_callm rfl rfl ent_20 (fun w h => Clone_any w _ xs (hv.below h.below) (by omega))) rfl rfl rfl rfl (fun x9 hx10 => ?_)
    obtain ⟨vo8, mo8⟩ := x9
    obtain ⟨hOo8, hEo8⟩ := hx10
    refine s_y (y_move rfl) rfl rfl rfl rfl ?_
    refine s_tr (t_call rfl rfl ent_21 (fun w h => Lift_none1 w _ xs (hOo8.rd fun p hp => h.at_ p (mem_al mo8 hp)) b hp hb hq)) rfl rfl rfl rfl (fun _ _ => ?_)
    refine s_y (y_move rfl) rfl rfl rfl rfl ?_
    refine s_y (y_extract rfl rfl) rfl rfl rfl rfl ?_
    refine s_y (y_extract rfl rfl) rfl rfl rfl rfl ?_
    refine s_y (y_assign rfl) rfl rfl rfl rfl ?_
    refine s_y (y_assign rfl) rfl rfl rfl rfl ?_
    refine s_nil ?_
    refine g_then ?_
    refine g_seq ?_
    refine g_region ?_
    refine s_y (y_move rfl) rfl rfl rfl rfl ?_
    refine s_tr (t_callm rfl rfl ent_20 (fun w h => Clone_any w _ ys (hv'.below h.below) (by omega))) rfl rfl rfl rfl (fun x12 hx13 => ?_)
    obtain ⟨vo11, mo11⟩ := x12
    obtain ⟨hOo11, hEo11⟩ := hx13
    refine s_y (y_move rfl) rfl rfl rfl rfl ?_
    refine s_tr (t_callm rfl rfl ent_21 (fun w h => Lift_yes w _ ys (hOo11.rd fun p hp => h.at_ p (mem_al mo11 hp)) b hp' hb hq')) rfl rfl rfl rfl (fun x15 hx16 => ?_)
    obtain ⟨vo14, mo14⟩ := x15
    obtain ⟨hOo14, hEo14⟩ := hx16
    refine s_y (y_move rfl) rfl rfl rfl rfl ?_
    refine s_y (y_extract rfl rfl) rfl rfl rfl rfl ?_
    refine s_y (y_extract rfl rfl) rfl rfl rfl rfl ?_
    refine s_y (y_assign rfl) rfl rfl rfl rfl ?_
    refine s_y (y_assign rfl) rfl rfl rfl rfl ?_
    refine s_nil ?_
    refine g_then ?_
    refine g_seq ?_
    refine g_seq ?_
    refine g_region ?_
    refine s_y (y_move rfl) rfl rfl rfl rfl ?_
    refine s_y (y_neq_t rfl rfl (by decide)) rfl rfl rfl rfl ?_
    refine s_y (y_move rfl) rfl rfl rfl rfl ?_
    refine s_no rfl rfl rfl ?_
    refine s_no rfl rfl rfl ?_
    refine s_y (y_pick_t rfl rfl) rfl rfl rfl rfl ?_
    refine s_nil ?_
    refine g_then ?_
    refine g_cond_t rfl ?_
    refine g_seq ?_
    refine g_region ?_
    refine s_y (y_move rfl) rfl rfl rfl rfl ?_
    refine s_y (y_eql_f rfl rfl (by decide)) rfl rfl rfl rfl ?_
    refine s_y (y_move rfl) rfl rfl rfl rfl ?_
    refine s_y (y_move rfl) rfl rfl rfl rfl ?_
    refine s_y (y_eql_t rfl rfl (by decide)) rfl rfl rfl rfl ?_
    refine s_y (y_pick_f rfl rfl) rfl rfl rfl rfl ?_
    refine s_y (y_move rfl) rfl rfl rfl rfl ?_
    refine s_y (y_move rfl) rfl rfl rfl rfl ?_
    refine s_y (y_eql_t rfl rfl (by decide)) rfl rfl rfl rfl ?_
    refine s_y (y_move rfl) rfl rfl rfl rfl ?_
    refine s_no rfl rfl rfl ?_
    refine s_no rfl rfl rfl ?_
    refine s_y (y_pick_t rfl rfl) rfl rfl rfl rfl ?_
    refine s_y (y_pick_t rfl rfl) rfl rfl rfl rfl ?_
    refine s_y (y_move rfl) rfl rfl rfl rfl ?_
    refine s_tr (t_call rfl rfl ent_18 (fun w h => changes_t w)) rfl rfl rfl rfl (fun _ _ => ?_)
    refine s_y (y_pick_t rfl rfl) rfl rfl rfl rfl ?_
    refine s_y (y_assign rfl) rfl rfl rfl rfl ?_
    refine s_nil ?_
    refine g_then ?_
    refine g_ret ?_
    refine g_thenr ?_
    exact g_end trivial (fun a w ha hq_ => res1 ha rfl rfl  w) (fun w h => ⟨rfl, h.below⟩)

theorem TopLaid_nn (w : World) (v v' : Value) (xs ys : List Int) (b : Int) (hv : RdV (Value.int .i64) w v xs) (hv' : RdV (Value.int .i64) w v' ys) (hp : partB xs = true) (hp' : partB ys = true) (hlen : xs.length = ys.length) (hb : -20 ≤ b ∧ b ≤ 20) (hq : partB (liftL xs b) = false) (hq' : partB (liftL ys b) = false) :
    Calls Try.prog 5 [v, v', .int .i64 b].toArray w fun e w' => e = .returned (.bool (true)) ∧ Below w.heap.size w w' := by
  obtain ⟨hxl, hxn⟩ := partB_true.1 hp
  obtain ⟨hyl, hyn⟩ := partB_true.1 hp'
  refine enter (N := 127) Try.func5 rfl rfl rfl ?_
  refine g_seq ?_
  refine g_region ?_
  refine s_y (y_assign rfl) rfl rfl rfl rfl ?_
  refine s_nil ?_
  refine g_then ?_
  refine g_seq ?_
  refine g_seq ?_
  refine g_region ?_
  refine s_y (y_move rfl) rfl rfl rfl rfl ?_
  refine s_tr (t_call rfl rfl ent_17 (fun w h => by have h_ := Part_any w _ xs (hv.below h.below) (by omega); rwa [hp] at h_)) rfl rfl rfl rfl (fun _ _ => ?_)
  refine s_y (y_not_t rfl) rfl rfl rfl rfl ?_
  refine s_y (y_move rfl) rfl rfl rfl rfl ?_
  refine s_y (y_move rfl) rfl rfl rfl rfl ?_
  refine s_tr (t_call rfl rfl ent_17 (fun w h => by have h_ := Part_any w _ ys (hv'.below h.below) (by omega); rwa [hp'] at h_)) rfl rfl rfl rfl (fun _ _ => ?_)
  refine s_y (y_not_t rfl) rfl rfl rfl rfl ?_
  refine s_y (y_pick_f rfl rfl) rfl rfl rfl rfl ?_
  refine s_y (y_move rfl) rfl rfl rfl rfl ?_
  refine s_y (y_move rfl) rfl rfl rfl rfl ?_
  refine s_y (y_lenV (n := xs.length) rfl (by obtain ⟨A, c, h1, _⟩ := hv; exact ⟨A, c, h1⟩) sle_27) rfl rfl rfl rfl ?_
  refine s_y (y_move rfl) rfl rfl rfl rfl ?_
  refine s_y (y_lenV (n := ys.length) rfl (by obtain ⟨A, c, h1, _⟩ := hv'; exact ⟨A, c, h1⟩) sle_27) rfl rfl rfl rfl ?_
  refine s_y (y_neq_f rfl rfl (by omega)) rfl rfl rfl rfl ?_
  refine s_y (y_pick_f rfl rfl) rfl rfl rfl rfl ?_
  refine s_nil ?_
  refine g_then ?_
  refine g_cond_f rfl ?_
  refine g_skip ?_
  refine g_then ?_
  refine g_seq ?_
  refine g_region ?_
  refine s_y (y_assign rfl) rfl rfl rfl rfl ?_
  refine s_nil ?_
  refine g_then ?_
  refine g_seq ?_
  refine g_seq ?_
  refine g_region ?_
  refine s_y (y_move rfl) rfl rfl rfl rfl ?_
  refine s_y (y_lenV (n := xs.length) rfl (by obtain ⟨A, c, h1, _⟩ := hv; exact ⟨A, c, h1⟩) sle_27) rfl rfl rfl rfl ?_
  refine s_y (y_move rfl) rfl rfl rfl rfl ?_
  refine s_nil ?_
  refine g_then ?_
  refine g_block ?_
  refine g_loop (fun (i : Nat) act W => i ≤ xs.length ∧ ∃ (sm : Int) (w1 : World), (sm = dgS xs ys i) ∧ (0 ≤ sm ∧ sm ≤ 20 * (i : Int)) ∧ Has 127 [] [(0, v), (1, v'), (2, .int .i64 b), (6, .bool false), (7, .int .i64 sm), (32, v), (33, .int .i64 (xs.length : Nat)), (34, .int .i64 (i : Int))] act ∧ Hp w w1 ([]) W) (fun i => xs.length - i) 0 (fun act W ha hw => ⟨by omega, 0, W, (by rfl), (by simp), ha.weak (sub_get ⟨rfl, rfl, rfl, rfl, rfl, rfl, rfl, rfl, trivial⟩), hw.toHq.lookSub (List.Sublist.refl _)⟩) ?_
  intro i act W ⟨hb_i, sm, w1, hsm, hsb, ha, hw⟩
  refine g_go ha hw ?_
  clear ha hw act W
  have hxi : i < xs.length → 0 ≤ rdI xs (i : Int) ∧ rdI xs (i : Int) ≤ 20 := fun h => notes_at hxn (by omega) (by omega)
  have hyi : i < xs.length → 0 ≤ rdI ys (i : Int) ∧ rdI ys (i : Int) ≤ 20 := fun h => notes_at hyn (by omega) (by omega)
  refine g_seq ?_
  refine g_region ?_
  refine s_y (y_lss rfl rfl) rfl rfl rfl rfl ?_
  refine s_nil ?_
  refine g_then ?_
  refine g_seq ?_
  refine g_cond rfl (fun cq1 => ?_) (fun cq1 => ?_)
  · (try simp at cq1)
    refine g_skip ?_
    refine g_then ?_
    refine g_seq ?_
    refine g_block ?_
    refine g_seq ?_
    refine g_region ?_
    refine s_y (y_move rfl) rfl rfl rfl rfl ?_
    refine s_y (y_idxV (enc := (Value.int .i64)) rfl rfl hv Try.underlying27 size_3 (by omega) (by omega)) rfl rfl rfl rfl ?_
    refine s_y (y_ldV (enc := (Value.int .i64)) (xs := xs) (fun w h => hv.rdl.below h.below) rfl agg_3 (rdI_at (by omega) (by omega))) rfl rfl rfl rfl ?_
    refine s_y (y_assign rfl) rfl rfl rfl rfl ?_
    refine s_y (y_assign rfl) rfl rfl rfl rfl ?_
    refine s_nil ?_
    refine g_then ?_
    refine g_draw 16 (by kernel_rfl) ?_
    refine j_p (i := 0) rfl (y_move rfl) (by kernel_rfl) (by kernel_rfl) (by kernel_rfl) rfl rfl rfl rfl rfl (.inr (fun _ h => h)) ?_
    refine j_p (i := 1) rfl (y_move rfl) (by kernel_rfl) (by kernel_rfl) (by kernel_rfl) rfl rfl rfl rfl rfl (.inr (fun _ h => h)) ?_
    refine j_p (i := 2) rfl (y_move rfl) (by kernel_rfl) (by kernel_rfl) (by kernel_rfl) rfl rfl rfl rfl rfl (.inr (fun _ h => h)) ?_
    refine j_p (i := 3) rfl (y_move rfl) (by kernel_rfl) (by kernel_rfl) (by kernel_rfl) rfl rfl rfl rfl rfl (.inr (fun _ h => h)) ?_
    refine j_p (i := 4) rfl (y_idxV (enc := (Value.int .i64)) rfl rfl hv' Try.underlying27 size_3 (by omega) (by omega)) (by kernel_rfl) (by kernel_rfl) (by kernel_rfl) rfl rfl rfl rfl rfl (.inr (fun _ h => h)) ?_
    refine j_l (i := 5) rfl (y_ldV (enc := (Value.int .i64)) (xs := ys) (fun w h => hv'.rdl.below h.below) rfl agg_3 (rdI_at (by omega) (by omega))) (by kernel_rfl) (by kernel_rfl) (by kernel_rfl) (by kernel_rfl) rfl rfl rfl rfl rfl (.inr (fun _ h => h)) ?_
    refine j_p (i := 6) rfl (y_sub rfl rfl (by omega) (by omega)) (by kernel_rfl) (by kernel_rfl) (by kernel_rfl) rfl rfl rfl rfl rfl (.inr (fun _ h => h)) ?_
    refine j_p (i := 7) rfl (y_move rfl) (by kernel_rfl) (by kernel_rfl) (by kernel_rfl) rfl rfl rfl rfl rfl (.inr (fun _ h => h)) ?_
    refine j_p (i := 8) rfl (y_move rfl) (by kernel_rfl) (by kernel_rfl) (by kernel_rfl) rfl rfl rfl rfl rfl (.inr (fun _ h => h)) ?_
    refine j_p (i := 9) rfl (y_idxV (enc := (Value.int .i64)) rfl rfl hv' Try.underlying27 size_3 (by omega) (by omega)) (by kernel_rfl) (by kernel_rfl) (by kernel_rfl) rfl rfl rfl rfl rfl (.inr (fun _ h => h)) ?_
    refine j_l (i := 10) rfl (y_ldV (enc := (Value.int .i64)) (xs := ys) (fun w h => hv'.rdl.below h.below) rfl agg_3 (rdI_at (by omega) (by omega))) (by kernel_rfl) (by kernel_rfl) (by kernel_rfl) (by kernel_rfl) rfl rfl rfl rfl rfl (.inr (fun _ h => h)) ?_
    refine j_p (i := 11) rfl (y_move rfl) (by kernel_rfl) (by kernel_rfl) (by kernel_rfl) rfl rfl rfl rfl rfl (.inr (fun _ h => h)) ?_
    refine j_p (i := 12) rfl (y_sub rfl rfl (by omega) (by omega)) (by kernel_rfl) (by kernel_rfl) (by kernel_rfl) rfl rfl rfl rfl rfl (.inr (fun _ h => h)) ?_
    refine j_p (i := 13) rfl (y_max rfl rfl) (by kernel_rfl) (by kernel_rfl) (by kernel_rfl) rfl rfl rfl rfl rfl (.inr (fun _ h => h)) ?_
    refine j_p (i := 14) rfl (y_add rfl rfl (by first | omega | (split <;> omega)) (by first | omega | (split <;> omega))) (by kernel_rfl) (by kernel_rfl) (by kernel_rfl) rfl rfl rfl rfl rfl (.inr (fun _ h => h)) ?_
    refine j_p (i := 15) rfl (y_assign rfl) (by kernel_rfl) (by kernel_rfl) (by kernel_rfl) rfl rfl rfl rfl rfl (.inr (fun _ h => h)) ?_
    refine j_nil (by kernel_rfl) ?_
    refine g_inb ?_
    refine g_then ?_
    refine g_region ?_
    refine s_y (y_add rfl rfl (by omega) (by omega)) rfl rfl rfl rfl ?_
    refine s_y (y_move rfl) rfl rfl rfl rfl ?_
    refine s_nil ?_
    refine g_then ?_
    exact fun act W ha hw => ⟨i + 1, by omega, by omega, (sm + (if ((rdI ys (i : Int)) - (rdI xs (i : Int))) > ((rdI xs (i : Int)) - (rdI ys (i : Int))) then ((rdI ys (i : Int)) - (rdI xs (i : Int))) else ((rdI xs (i : Int)) - (rdI ys (i : Int))))), W, (by show _ = dgS xs ys i + ovC xs ys (i : Int) (i : Int); rw [hsm]; rfl), (by first | omega | (split <;> omega)), ha.weak (sub_get ⟨rfl, rfl, rfl, rfl, rfl, rfl, rfl, rfl, trivial⟩), hw.toHq.lookSub (List.Sublist.refl _)⟩
  · (try simp at cq1)
    refine g_exit ?_
    refine g_thenx ?_
    refine g_thenx ?_
    refine g_inbx ?_
    refine g_then ?_
    refine g_seq ?_
    have hi_ : i = xs.length := by omega
    rw [hi_] at hsm hsb
    refine g_region ?_
    refine s_y (y_move rfl) rfl rfl rfl rfl ?_
    refine s_tr (t_callm rfl rfl ent_20 (fun w h => Clone_any w _ xs (hv.below h.below) (by omega))) rfl rfl rfl rfl (fun x3 hx4 => ?_)
    obtain ⟨vo2, mo2⟩ := x3
    obtain ⟨hOo2, hEo2⟩ := hx4
    refine s_y (y_move rfl) rfl rfl rfl rfl ?_
    refine s_tr (t_callm rfl rfl ent_20 (fun w h => Clone_any w _ ys (hv'.below h.below) (by omega))) rfl rfl rfl rfl (fun x6 hx7 => ?_)
    obtain ⟨vo5, mo5⟩ := x6
    obtain ⟨hOo5, hEo5⟩ := hx7
    refine s_tr (t_call rfl rfl ent_19 (fun w h => Over_ok w _ _ xs ys (hOo2.rd fun p hp => h.at_ p (mem_ar mo5 (mem_al mo2 hp))) (hOo5.rd fun p hp => h.at_ p (mem_al mo5 hp)) (part_mel hp) (part_mel hp'))) rfl rfl rfl rfl (fun _ _ => ?_)
    refine s_y (y_move rfl) rfl rfl rfl rfl ?_
    refine s_y (y_extract rfl rfl) rfl rfl rfl rfl ?_
    refine s_y (y_extract rfl rfl) rfl rfl rfl rfl ?_
    refine s_y (y_assign rfl) rfl rfl rfl rfl ?_
    refine s_y (y_assign rfl) rfl rfl rfl rfl ?_
    refine s_nil ?_
    refine g_then ?_
    refine g_seq ?_
    refine g_seq ?_
    refine g_region ?_
    refine s_y (y_move rfl) rfl rfl rfl rfl ?_
    refine s_y (y_neq_f rfl rfl (by decide)) rfl rfl rfl rfl ?_
    refine s_y (y_move rfl) rfl rfl rfl rfl ?_
    refine s_y (y_move rfl) rfl rfl rfl rfl ?_
    refine s_y (y_move rfl) rfl rfl rfl rfl ?_
    refine s_y (y_gtr_f rfl rfl (by have := ovP_diag hlen (by omega); omega)) rfl rfl rfl rfl ?_
    refine s_y (y_pick_f rfl rfl) rfl rfl rfl rfl ?_
    refine s_y (y_move rfl) rfl rfl rfl rfl ?_
    refine s_y (y_move rfl) rfl rfl rfl rfl ?_
    refine s_y (y_lss_f rfl rfl (by have := ovP_nonneg xs ys 0 0; omega)) rfl rfl rfl rfl ?_
    refine s_y (y_pick_f rfl rfl) rfl rfl rfl rfl ?_
    refine s_nil ?_
    refine g_then ?_
    refine g_cond_f rfl ?_
    refine g_skip ?_
    refine g_then ?_
    refine g_seq ?_
    refine g_region ?_
    refine s_y (y_move rfl) rfl rfl rfl rfl ?_
    refine s_tr (t_callm rfl rfl ent_20 (fun w h => Clone_any w _ xs (hv.below h.below) (by omega))) rfl rfl rfl rfl (fun x9 hx10 => ?_)
    obtain ⟨vo8, mo8⟩ := x9
    obtain ⟨hOo8, hEo8⟩ := hx10
    refine s_y (y_move rfl) rfl rfl rfl rfl ?_
    refine s_tr (t_call rfl rfl ent_21 (fun w h => Lift_none1 w _ xs (hOo8.rd fun p hp => h.at_ p (mem_al mo8 hp)) b hp hb hq)) rfl rfl rfl rfl (fun _ _ => ?_)
    refine s_y (y_move rfl) rfl rfl rfl rfl ?_
    refine s_y (y_extract rfl rfl) rfl rfl rfl rfl ?_
    refine s_y (y_extract rfl rfl) rfl rfl rfl rfl ?_
    refine s_y (y_assign rfl) rfl rfl rfl rfl ?_
    refine s_y (y_assign rfl) rfl rfl rfl rfl ?_
    refine s_nil ?_
    refine g_then ?_
    refine g_seq ?_
    refine g_region ?_
    refine s_y (y_move rfl) rfl rfl rfl rfl ?_
    refine s_tr (t_callm rfl rfl ent_20 (fun w h => Clone_any w _ ys (hv'.below h.below) (by omega))) rfl rfl rfl rfl (fun x12 hx13 => ?_)
    obtain ⟨vo11, mo11⟩ := x12
    obtain ⟨hOo11, hEo11⟩ := hx13
    refine s_y (y_move rfl) rfl rfl rfl rfl ?_
    refine s_tr (t_call rfl rfl ent_21 (fun w h => Lift_none1 w _ ys (hOo11.rd fun p hp => h.at_ p (mem_al mo11 hp)) b hp' hb hq')) rfl rfl rfl rfl (fun _ _ => ?_)
    refine s_y (y_move rfl) rfl rfl rfl rfl ?_
    refine s_y (y_extract rfl rfl) rfl rfl rfl rfl ?_
    refine s_y (y_extract rfl rfl) rfl rfl rfl rfl ?_
    refine s_y (y_assign rfl) rfl rfl rfl rfl ?_
    refine s_y (y_assign rfl) rfl rfl rfl rfl ?_
    refine s_nil ?_
    refine g_then ?_
    refine g_seq ?_
    refine g_seq ?_
    refine g_region ?_
    refine s_y (y_move rfl) rfl rfl rfl rfl ?_
    refine s_y (y_neq_t rfl rfl (by decide)) rfl rfl rfl rfl ?_
    refine s_y (y_move rfl) rfl rfl rfl rfl ?_
    refine s_no rfl rfl rfl ?_
    refine s_no rfl rfl rfl ?_
    refine s_y (y_pick_t rfl rfl) rfl rfl rfl rfl ?_
    refine s_nil ?_
    refine g_then ?_
    refine g_cond_t rfl ?_
    refine g_seq ?_
    refine g_region ?_
    refine s_y (y_move rfl) rfl rfl rfl rfl ?_
    refine s_y (y_eql_f rfl rfl (by decide)) rfl rfl rfl rfl ?_
    refine s_y (y_move rfl) rfl rfl rfl rfl ?_
    refine s_y (y_move rfl) rfl rfl rfl rfl ?_
    refine s_y (y_eql_t rfl rfl (by decide)) rfl rfl rfl rfl ?_
    refine s_y (y_pick_f rfl rfl) rfl rfl rfl rfl ?_
    refine s_y (y_move rfl) rfl rfl rfl rfl ?_
    refine s_y (y_move rfl) rfl rfl rfl rfl ?_
    refine s_y (y_eql_f rfl rfl (by decide)) rfl rfl rfl rfl ?_
    refine s_y (y_move rfl) rfl rfl rfl rfl ?_
    refine s_y (y_move rfl) rfl rfl rfl rfl ?_
    refine s_y (y_eql_t rfl rfl (by decide)) rfl rfl rfl rfl ?_
    refine s_y (y_pick_f rfl rfl) rfl rfl rfl rfl ?_
    refine s_y (y_pick_t rfl rfl) rfl rfl rfl rfl ?_
    refine s_y (y_move rfl) rfl rfl rfl rfl ?_
    refine s_tr (t_call rfl rfl ent_18 (fun w h => changes_t w)) rfl rfl rfl rfl (fun _ _ => ?_)
    refine s_y (y_pick_t rfl rfl) rfl rfl rfl rfl ?_
    refine s_y (y_assign rfl) rfl rfl rfl rfl ?_
    refine s_nil ?_
    refine g_then ?_
    refine g_ret ?_
    refine g_thenr ?_
    exact g_end trivial (fun a w ha hq_ => res1 ha rfl rfl  w) (fun w h => ⟨rfl, h.below⟩)

theorem TopLaid_oo (w : World) (v v' : Value) (xs ys : List Int) (b : Int) (hv : RdV (Value.int .i64) w v xs) (hv' : RdV (Value.int .i64) w v' ys) (hp : partB xs = true) (hp' : partB ys = true) (hlen : xs.length = ys.length) (hb : ¬ (-20 ≤ b ∧ b ≤ 20))   :
    Calls Try.prog 5 [v, v', .int .i64 b].toArray w fun e w' => e = .returned (.bool (true)) ∧ Below w.heap.size w w' := by
  obtain ⟨hxl, hxn⟩ := partB_true.1 hp
  obtain ⟨hyl, hyn⟩ := partB_true.1 hp'
  refine enter (N := 127) Try.func5 rfl rfl rfl ?_
  refine g_seq ?_
  refine g_region ?_
  refine s_y (y_assign rfl) rfl rfl rfl rfl ?_
  refine s_nil ?_
  refine g_then ?_
  refine g_seq ?_
  refine g_seq ?_
  refine g_region ?_
  refine s_y (y_move rfl) rfl rfl rfl rfl ?_
  refine s_tr (t_call rfl rfl ent_17 (fun w h => by have h_ := Part_any w _ xs (hv.below h.below) (by omega); rwa [hp] at h_)) rfl rfl rfl rfl (fun _ _ => ?_)
  refine s_y (y_not_t rfl) rfl rfl rfl rfl ?_
  refine s_y (y_move rfl) rfl rfl rfl rfl ?_
  refine s_y (y_move rfl) rfl rfl rfl rfl ?_
  refine s_tr (t_call rfl rfl ent_17 (fun w h => by have h_ := Part_any w _ ys (hv'.below h.below) (by omega); rwa [hp'] at h_)) rfl rfl rfl rfl (fun _ _ => ?_)
  refine s_y (y_not_t rfl) rfl rfl rfl rfl ?_
  refine s_y (y_pick_f rfl rfl) rfl rfl rfl rfl ?_
  refine s_y (y_move rfl) rfl rfl rfl rfl ?_
  refine s_y (y_move rfl) rfl rfl rfl rfl ?_
  refine s_y (y_lenV (n := xs.length) rfl (by obtain ⟨A, c, h1, _⟩ := hv; exact ⟨A, c, h1⟩) sle_27) rfl rfl rfl rfl ?_
  refine s_y (y_move rfl) rfl rfl rfl rfl ?_
  refine s_y (y_lenV (n := ys.length) rfl (by obtain ⟨A, c, h1, _⟩ := hv'; exact ⟨A, c, h1⟩) sle_27) rfl rfl rfl rfl ?_
  refine s_y (y_neq_f rfl rfl (by omega)) rfl rfl rfl rfl ?_
  refine s_y (y_pick_f rfl rfl) rfl rfl rfl rfl ?_
  refine s_nil ?_
  refine g_then ?_
  refine g_cond_f rfl ?_
  refine g_skip ?_
  refine g_then ?_
  refine g_seq ?_
  refine g_region ?_
  refine s_y (y_assign rfl) rfl rfl rfl rfl ?_
  refine s_nil ?_
  refine g_then ?_
  refine g_seq ?_
  refine g_seq ?_
  refine g_region ?_
  refine s_y (y_move rfl) rfl rfl rfl rfl ?_
  refine s_y (y_lenV (n := xs.length) rfl (by obtain ⟨A, c, h1, _⟩ := hv; exact ⟨A, c, h1⟩) sle_27) rfl rfl rfl rfl ?_
  refine s_y (y_move rfl) rfl rfl rfl rfl ?_
  refine s_nil ?_
  refine g_then ?_
  refine g_block ?_
  refine g_loop (fun (i : Nat) act W => i ≤ xs.length ∧ ∃ (sm : Int) (w1 : World), (sm = dgS xs ys i) ∧ (0 ≤ sm ∧ sm ≤ 20 * (i : Int)) ∧ Has 127 [] [(0, v), (1, v'), (2, .int .i64 b), (6, .bool false), (7, .int .i64 sm), (32, v), (33, .int .i64 (xs.length : Nat)), (34, .int .i64 (i : Int))] act ∧ Hp w w1 ([]) W) (fun i => xs.length - i) 0 (fun act W ha hw => ⟨by omega, 0, W, (by rfl), (by simp), ha.weak (sub_get ⟨rfl, rfl, rfl, rfl, rfl, rfl, rfl, rfl, trivial⟩), hw.toHq.lookSub (List.Sublist.refl _)⟩) ?_
  intro i act W ⟨hb_i, sm, w1, hsm, hsb, ha, hw⟩
  refine g_go ha hw ?_
  clear ha hw act W
  have hxi : i < xs.length → 0 ≤ rdI xs (i : Int) ∧ rdI xs (i : Int) ≤ 20 := fun h => notes_at hxn (by omega) (by omega)
  have hyi : i < xs.length → 0 ≤ rdI ys (i : Int) ∧ rdI ys (i : Int) ≤ 20 := fun h => notes_at hyn (by omega) (by omega)
  refine g_seq ?_
  refine g_region ?_
  refine s_y (y_lss rfl rfl) rfl rfl rfl rfl ?_
  refine s_nil ?_
  refine g_then ?_
  refine g_seq ?_
  refine g_cond rfl (fun cq1 => ?_) (fun cq1 => ?_)
  · (try simp at cq1)
    refine g_skip ?_
    refine g_then ?_
    refine g_seq ?_
    refine g_block ?_
    refine g_seq ?_
    refine g_region ?_
    refine s_y (y_move rfl) rfl rfl rfl rfl ?_
    refine s_y (y_idxV (enc := (Value.int .i64)) rfl rfl hv Try.underlying27 size_3 (by omega) (by omega)) rfl rfl rfl rfl ?_
    refine s_y (y_ldV (enc := (Value.int .i64)) (xs := xs) (fun w h => hv.rdl.below h.below) rfl agg_3 (rdI_at (by omega) (by omega))) rfl rfl rfl rfl ?_
    refine s_y (y_assign rfl) rfl rfl rfl rfl ?_
    refine s_y (y_assign rfl) rfl rfl rfl rfl ?_
    refine s_nil ?_
    refine g_then ?_
    refine g_draw 16 (by kernel_rfl) ?_
    refine j_p (i := 0) rfl (y_move rfl) (by kernel_rfl) (by kernel_rfl) (by kernel_rfl) rfl rfl rfl rfl rfl (.inr (fun _ h => h)) ?_
    refine j_p (i := 1) rfl (y_move rfl) (by kernel_rfl) (by kernel_rfl) (by kernel_rfl) rfl rfl rfl rfl rfl (.inr (fun _ h => h)) ?_
    refine j_p (i := 2) rfl (y_move rfl) (by kernel_rfl) (by kernel_rfl) (by kernel_rfl) rfl rfl rfl rfl rfl (.inr (fun _ h => h)) ?_
    refine j_p (i := 3) rfl (y_move rfl) (by kernel_rfl) (by kernel_rfl) (by kernel_rfl) rfl rfl rfl rfl rfl (.inr (fun _ h => h)) ?_
    refine j_p (i := 4) rfl (y_idxV (enc := (Value.int .i64)) rfl rfl hv' Try.underlying27 size_3 (by omega) (by omega)) (by kernel_rfl) (by kernel_rfl) (by kernel_rfl) rfl rfl rfl rfl rfl (.inr (fun _ h => h)) ?_
    refine j_l (i := 5) rfl (y_ldV (enc := (Value.int .i64)) (xs := ys) (fun w h => hv'.rdl.below h.below) rfl agg_3 (rdI_at (by omega) (by omega))) (by kernel_rfl) (by kernel_rfl) (by kernel_rfl) (by kernel_rfl) rfl rfl rfl rfl rfl (.inr (fun _ h => h)) ?_
    refine j_p (i := 6) rfl (y_sub rfl rfl (by omega) (by omega)) (by kernel_rfl) (by kernel_rfl) (by kernel_rfl) rfl rfl rfl rfl rfl (.inr (fun _ h => h)) ?_
    refine j_p (i := 7) rfl (y_move rfl) (by kernel_rfl) (by kernel_rfl) (by kernel_rfl) rfl rfl rfl rfl rfl (.inr (fun _ h => h)) ?_
    refine j_p (i := 8) rfl (y_move rfl) (by kernel_rfl) (by kernel_rfl) (by kernel_rfl) rfl rfl rfl rfl rfl (.inr (fun _ h => h)) ?_
    refine j_p (i := 9) rfl (y_idxV (enc := (Value.int .i64)) rfl rfl hv' Try.underlying27 size_3 (by omega) (by omega)) (by kernel_rfl) (by kernel_rfl) (by kernel_rfl) rfl rfl rfl rfl rfl (.inr (fun _ h => h)) ?_
    refine j_l (i := 10) rfl (y_ldV (enc := (Value.int .i64)) (xs := ys) (fun w h => hv'.rdl.below h.below) rfl agg_3 (rdI_at (by omega) (by omega))) (by kernel_rfl) (by kernel_rfl) (by kernel_rfl) (by kernel_rfl) rfl rfl rfl rfl rfl (.inr (fun _ h => h)) ?_
    refine j_p (i := 11) rfl (y_move rfl) (by kernel_rfl) (by kernel_rfl) (by kernel_rfl) rfl rfl rfl rfl rfl (.inr (fun _ h => h)) ?_
    refine j_p (i := 12) rfl (y_sub rfl rfl (by omega) (by omega)) (by kernel_rfl) (by kernel_rfl) (by kernel_rfl) rfl rfl rfl rfl rfl (.inr (fun _ h => h)) ?_
    refine j_p (i := 13) rfl (y_max rfl rfl) (by kernel_rfl) (by kernel_rfl) (by kernel_rfl) rfl rfl rfl rfl rfl (.inr (fun _ h => h)) ?_
    refine j_p (i := 14) rfl (y_add rfl rfl (by first | omega | (split <;> omega)) (by first | omega | (split <;> omega))) (by kernel_rfl) (by kernel_rfl) (by kernel_rfl) rfl rfl rfl rfl rfl (.inr (fun _ h => h)) ?_
    refine j_p (i := 15) rfl (y_assign rfl) (by kernel_rfl) (by kernel_rfl) (by kernel_rfl) rfl rfl rfl rfl rfl (.inr (fun _ h => h)) ?_
    refine j_nil (by kernel_rfl) ?_
    refine g_inb ?_
    refine g_then ?_
    refine g_region ?_
    refine s_y (y_add rfl rfl (by omega) (by omega)) rfl rfl rfl rfl ?_
    refine s_y (y_move rfl) rfl rfl rfl rfl ?_
    refine s_nil ?_
    refine g_then ?_
    exact fun act W ha hw => ⟨i + 1, by omega, by omega, (sm + (if ((rdI ys (i : Int)) - (rdI xs (i : Int))) > ((rdI xs (i : Int)) - (rdI ys (i : Int))) then ((rdI ys (i : Int)) - (rdI xs (i : Int))) else ((rdI xs (i : Int)) - (rdI ys (i : Int))))), W, (by show _ = dgS xs ys i + ovC xs ys (i : Int) (i : Int); rw [hsm]; rfl), (by first | omega | (split <;> omega)), ha.weak (sub_get ⟨rfl, rfl, rfl, rfl, rfl, rfl, rfl, rfl, trivial⟩), hw.toHq.lookSub (List.Sublist.refl _)⟩
  · (try simp at cq1)
    refine g_exit ?_
    refine g_thenx ?_
    refine g_thenx ?_
    refine g_inbx ?_
    refine g_then ?_
    refine g_seq ?_
    have hi_ : i = xs.length := by omega
    rw [hi_] at hsm hsb
    refine g_region ?_
    refine s_y (y_move rfl) rfl rfl rfl rfl ?_
    refine s_tr (t_callm rfl rfl ent_20 (fun w h => Clone_any w _ xs (hv.below h.below) (by omega))) rfl rfl rfl rfl (fun x3 hx4 => ?_)
    obtain ⟨vo2, mo2⟩ := x3
    obtain ⟨hOo2, hEo2⟩ := hx4
    refine s_y (y_move rfl) rfl rfl rfl rfl ?_
    refine s_tr (t_callm rfl rfl ent_20 (fun w h => Clone_any w _ ys (hv'.below h.below) (by omega))) rfl rfl rfl rfl (fun x6 hx7 => ?_)
    obtain ⟨vo5, mo5⟩ := x6
    obtain ⟨hOo5, hEo5⟩ := hx7
    refine s_tr (t_call rfl rfl ent_19 (fun w h => Over_ok w _ _ xs ys (hOo2.rd fun p hp => h.at_ p (mem_ar mo5 (mem_al mo2 hp))) (hOo5.rd fun p hp => h.at_ p (mem_al mo5 hp)) (part_mel hp) (part_mel hp'))) rfl rfl rfl rfl (fun _ _ => ?_)
    refine s_y (y_move rfl) rfl rfl rfl rfl ?_
    refine s_y (y_extract rfl rfl) rfl rfl rfl rfl ?_
    refine s_y (y_extract rfl rfl) rfl rfl rfl rfl ?_
    refine s_y (y_assign rfl) rfl rfl rfl rfl ?_
    refine s_y (y_assign rfl) rfl rfl rfl rfl ?_
    refine s_nil ?_
    refine g_then ?_
    refine g_seq ?_
    refine g_seq ?_
    refine g_region ?_
    refine s_y (y_move rfl) rfl rfl rfl rfl ?_
    refine s_y (y_neq_f rfl rfl (by decide)) rfl rfl rfl rfl ?_
    refine s_y (y_move rfl) rfl rfl rfl rfl ?_
    refine s_y (y_move rfl) rfl rfl rfl rfl ?_
    refine s_y (y_move rfl) rfl rfl rfl rfl ?_
    refine s_y (y_gtr_f rfl rfl (by have := ovP_diag hlen (by omega); omega)) rfl rfl rfl rfl ?_
    refine s_y (y_pick_f rfl rfl) rfl rfl rfl rfl ?_
    refine s_y (y_move rfl) rfl rfl rfl rfl ?_
    refine s_y (y_move rfl) rfl rfl rfl rfl ?_
    refine s_y (y_lss_f rfl rfl (by have := ovP_nonneg xs ys 0 0; omega)) rfl rfl rfl rfl ?_
    refine s_y (y_pick_f rfl rfl) rfl rfl rfl rfl ?_
    refine s_nil ?_
    refine g_then ?_
    refine g_cond_f rfl ?_
    refine g_skip ?_
    refine g_then ?_
    refine g_seq ?_
    refine g_region ?_
    refine s_y (y_move rfl) rfl rfl rfl rfl ?_
    refine s_tr (t_callm rfl rfl ent_20 (fun w h => Clone_any w _ xs (hv.below h.below) (by omega))) rfl rfl rfl rfl (fun x9 hx10 => ?_)
    obtain ⟨vo8, mo8⟩ := x9
    obtain ⟨hOo8, hEo8⟩ := hx10
    refine s_y (y_move rfl) rfl rfl rfl rfl ?_
    refine s_tr (t_call rfl rfl ent_21 (fun w h => Lift_none2 w _ xs (hOo8.rd fun p hp => h.at_ p (mem_al mo8 hp)) b hp hb)) rfl rfl rfl rfl (fun _ _ => ?_)
    refine s_y (y_move rfl) rfl rfl rfl rfl ?_
    refine s_y (y_extract rfl rfl) rfl rfl rfl rfl ?_
    refine s_y (y_extract rfl rfl) rfl rfl rfl rfl ?_
    refine s_y (y_assign rfl) rfl rfl rfl rfl ?_
    refine s_y (y_assign rfl) rfl rfl rfl rfl ?_
    refine s_nil ?_
    refine g_then ?_
    refine g_seq ?_
    refine g_region ?_
    refine s_y (y_move rfl) rfl rfl rfl rfl ?_
    refine s_tr (t_callm rfl rfl ent_20 (fun w h => Clone_any w _ ys (hv'.below h.below) (by omega))) rfl rfl rfl rfl (fun x12 hx13 => ?_)
    obtain ⟨vo11, mo11⟩ := x12
    obtain ⟨hOo11, hEo11⟩ := hx13
    refine s_y (y_move rfl) rfl rfl rfl rfl ?_
    refine s_tr (t_call rfl rfl ent_21 (fun w h => Lift_none2 w _ ys (hOo11.rd fun p hp => h.at_ p (mem_al mo11 hp)) b hp' hb)) rfl rfl rfl rfl (fun _ _ => ?_)
    refine s_y (y_move rfl) rfl rfl rfl rfl ?_
    refine s_y (y_extract rfl rfl) rfl rfl rfl rfl ?_
    refine s_y (y_extract rfl rfl) rfl rfl rfl rfl ?_
    refine s_y (y_assign rfl) rfl rfl rfl rfl ?_
    refine s_y (y_assign rfl) rfl rfl rfl rfl ?_
    refine s_nil ?_
    refine g_then ?_
    refine g_seq ?_
    refine g_seq ?_
    refine g_region ?_
    refine s_y (y_move rfl) rfl rfl rfl rfl ?_
    refine s_y (y_neq_t rfl rfl (by decide)) rfl rfl rfl rfl ?_
    refine s_y (y_move rfl) rfl rfl rfl rfl ?_
    refine s_no rfl rfl rfl ?_
    refine s_no rfl rfl rfl ?_
    refine s_y (y_pick_t rfl rfl) rfl rfl rfl rfl ?_
    refine s_nil ?_
    refine g_then ?_
    refine g_cond_t rfl ?_
    refine g_seq ?_
    refine g_region ?_
    refine s_y (y_move rfl) rfl rfl rfl rfl ?_
    refine s_y (y_eql_f rfl rfl (by decide)) rfl rfl rfl rfl ?_
    refine s_y (y_move rfl) rfl rfl rfl rfl ?_
    refine s_y (y_move rfl) rfl rfl rfl rfl ?_
    refine s_y (y_eql_t rfl rfl (by decide)) rfl rfl rfl rfl ?_
    refine s_y (y_pick_f rfl rfl) rfl rfl rfl rfl ?_
    refine s_y (y_move rfl) rfl rfl rfl rfl ?_
    refine s_y (y_move rfl) rfl rfl rfl rfl ?_
    refine s_y (y_eql_f rfl rfl (by decide)) rfl rfl rfl rfl ?_
    refine s_y (y_move rfl) rfl rfl rfl rfl ?_
    refine s_y (y_move rfl) rfl rfl rfl rfl ?_
    refine s_y (y_eql_t rfl rfl (by decide)) rfl rfl rfl rfl ?_
    refine s_y (y_pick_f rfl rfl) rfl rfl rfl rfl ?_
    refine s_y (y_pick_t rfl rfl) rfl rfl rfl rfl ?_
    refine s_y (y_move rfl) rfl rfl rfl rfl ?_
    refine s_tr (t_call rfl rfl ent_18 (fun w h => changes_t w)) rfl rfl rfl rfl (fun _ _ => ?_)
    refine s_y (y_pick_t rfl rfl) rfl rfl rfl rfl ?_
    refine s_y (y_assign rfl) rfl rfl rfl rfl ?_
    refine s_nil ?_
    refine g_then ?_
    refine g_ret ?_
    refine g_thenr ?_
    exact g_end trivial (fun a w ha hq_ => res1 ha rfl rfl  w) (fun w h => ⟨rfl, h.below⟩)

theorem TopLaid_no (w : World) (v v' : Value) (xs ys : List Int) (b : Int) (hv : RdV (Value.int .i64) w v xs) (hv' : RdV (Value.int .i64) w v' ys) (hl : xs.length ≤ 9223372036854775807) (hl' : ys.length ≤ 9223372036854775807) (hno : ¬ (partB xs = true ∧ partB ys = true ∧ xs.length = ys.length)) :
    Calls Try.prog 5 [v, v', .int .i64 b].toArray w fun e w' => e = .returned (.bool (true)) ∧ Below w.heap.size w w' := by
  refine enter (N := 127) Try.func5 rfl rfl rfl ?_
  refine g_seq ?_
  refine g_region ?_
  refine s_y (y_assign rfl) rfl rfl rfl rfl ?_
  refine s_nil ?_
  refine g_then ?_
  refine g_seq ?_
  refine g_seq ?_
  refine g_region ?_
  refine s_y (y_move rfl) rfl rfl rfl rfl ?_
  refine s_tr (t_call rfl rfl ent_17 (fun w h => Part_any w _ xs (hv.below h.below) (by omega))) rfl rfl rfl rfl (fun _ _ => ?_)
  refine s_y (y_not rfl) rfl rfl rfl rfl ?_
  refine s_y (y_move rfl) rfl rfl rfl rfl ?_
  refine g_bool 19 rfl (fun cq1 => ?_) (fun cq1 => ?_)
  · (try simp at cq1)
    refine s_no rfl rfl rfl ?_
    refine s_no rfl rfl rfl ?_
    refine s_no rfl rfl rfl ?_
    refine s_y (y_pick_t rfl rfl) rfl rfl rfl rfl ?_
    refine s_y (y_move rfl) rfl rfl rfl rfl ?_
    refine s_no rfl rfl rfl ?_
    refine s_no rfl rfl rfl ?_
    refine s_no rfl rfl rfl ?_
    refine s_no rfl rfl rfl ?_
    refine s_no rfl rfl rfl ?_
    refine s_y (y_pick_t rfl rfl) rfl rfl rfl rfl ?_
    refine s_nil ?_
    refine g_then ?_
    refine g_cond_t rfl ?_
    refine g_seq ?_
    refine g_region ?_
    refine s_tr (t_call rfl rfl ent_18 (fun w h => changes_t w)) rfl rfl rfl rfl (fun _ _ => ?_)
    refine s_y (y_assign rfl) rfl rfl rfl rfl ?_
    refine s_nil ?_
    refine g_then ?_
    refine g_ret ?_
    refine g_thenr ?_
    exact g_end trivial (fun a w ha hq_ => res1 ha rfl rfl  w) (fun w h => ⟨rfl, h.below⟩)
  · (try simp at cq1)
    refine s_y (y_move rfl) rfl rfl rfl rfl ?_
    refine s_tr (t_call rfl rfl ent_17 (fun w h => Part_any w _ ys (hv'.below h.below) (by omega))) rfl rfl rfl rfl (fun _ _ => ?_)
    refine s_y (y_not rfl) rfl rfl rfl rfl ?_
    refine s_y (y_pick_f rfl rfl) rfl rfl rfl rfl ?_
    refine s_y (y_move rfl) rfl rfl rfl rfl ?_
    refine g_bool 24 rfl (fun cq2 => ?_) (fun cq2 => ?_)
    · (try simp at cq2)
      refine s_no rfl rfl rfl ?_
      refine s_no rfl rfl rfl ?_
      refine s_no rfl rfl rfl ?_
      refine s_no rfl rfl rfl ?_
      refine s_no rfl rfl rfl ?_
      refine s_y (y_pick_t rfl rfl) rfl rfl rfl rfl ?_
      refine s_nil ?_
      refine g_then ?_
      refine g_cond_t rfl ?_
      refine g_seq ?_
      refine g_region ?_
      refine s_tr (t_call rfl rfl ent_18 (fun w h => changes_t w)) rfl rfl rfl rfl (fun _ _ => ?_)
      refine s_y (y_assign rfl) rfl rfl rfl rfl ?_
      refine s_nil ?_
      refine g_then ?_
      refine g_ret ?_
      refine g_thenr ?_
      exact g_end trivial (fun a w ha hq_ => res1 ha rfl rfl  w) (fun w h => ⟨rfl, h.below⟩)
    · (try simp at cq2)
      refine s_y (y_move rfl) rfl rfl rfl rfl ?_
      refine s_y (y_lenV (n := xs.length) rfl (by obtain ⟨A, c, h1, _⟩ := hv; exact ⟨A, c, h1⟩) sle_27) rfl rfl rfl rfl ?_
      refine s_y (y_move rfl) rfl rfl rfl rfl ?_
      refine s_y (y_lenV (n := ys.length) rfl (by obtain ⟨A, c, h1, _⟩ := hv'; exact ⟨A, c, h1⟩) sle_27) rfl rfl rfl rfl ?_
      refine s_y (y_neq rfl rfl) rfl rfl rfl rfl ?_
      refine s_y (y_pick_f rfl rfl) rfl rfl rfl rfl ?_
      refine s_nil ?_
      refine g_then ?_
      refine g_cond rfl (fun cq3 => ?_) (fun cq3 => ?_)
      · (try simp at cq3)
        refine g_seq ?_
        refine g_region ?_
        refine s_tr (t_call rfl rfl ent_18 (fun w h => changes_t w)) rfl rfl rfl rfl (fun _ _ => ?_)
        refine s_y (y_assign rfl) rfl rfl rfl rfl ?_
        refine s_nil ?_
        refine g_then ?_
        refine g_ret ?_
        refine g_thenr ?_
        exact g_end trivial (fun a w ha hq_ => res1 ha rfl rfl  w) (fun w h => ⟨rfl, h.below⟩)
      · (try simp at cq3)
        exact absurd ⟨by simp_all, by simp_all, by omega⟩ hno

theorem TopLaid_law (w : World) (v : Value) (xs : List Int) (v' : Value) (ys : List Int) (b : Int) (hv : RdV (Value.int .i64) w v xs) (hl : xs.length ≤ maxLen) (_ : ∀ x ∈ xs, (Lit.int .i64 x).wf = true) (hv' : RdV (Value.int .i64) w v' ys) (hl' : ys.length ≤ maxLen) (_ : ∀ x ∈ ys, (Lit.int .i64 x).wf = true) (_ : (Lit.int .i64 b).wf = true) : Calls Try.prog 5 [v, v', .int .i64 b].toArray w fun e w' => e = .returned (.bool (true)) ∧ Below w.heap.size w w' := by
  by_cases h : partB xs = true ∧ partB ys = true ∧ xs.length = ys.length
  · obtain ⟨h1, h2, h3⟩ := h
    by_cases hb : -20 ≤ b ∧ b ≤ 20
    · cases hq : partB (liftL xs b) <;> cases hq' : partB (liftL ys b)
      · exact TopLaid_nn w v v' xs ys b hv hv' h1 h2 h3 hb hq hq'
      · exact TopLaid_ny w v v' xs ys b hv hv' h1 h2 h3 hb hq hq'
      · exact TopLaid_yn w v v' xs ys b hv hv' h1 h2 h3 hb hq hq'
      · exact TopLaid_yy w v v' xs ys b hv hv' h1 h2 h3 hb hq hq'
    · exact TopLaid_oo w v v' xs ys b hv hv' h1 h2 h3 hb
  · exact TopLaid_no w v v' xs ys b hv hv' (by unfold maxLen at hl; omega) (by unfold maxLen at hl'; omega) h

end Go.Proofs.Ytnhflahgbkmloaa
