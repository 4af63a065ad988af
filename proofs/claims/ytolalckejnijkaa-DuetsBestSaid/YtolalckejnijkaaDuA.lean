/- duets: slices' small functions; parts. -/
import Derived.Test.YtolalckejnijkaaProg
import Derived.Test.YtolalckejnijkaaDuMath
import Derived.Test.YtolalckejnijkaaSxApp
import Derived.Test.YtolalckejnijkaaSxMapG
namespace Go.Proofs.Ytolalckejnijkaa
open Go.RowKit Go.Sx 
set_option linter.unusedVariables false
set_option linter.unusedSimpArgs false
set_option maxRecDepth 100000
set_option maxHeartbeats 4000000

private theorem sle_22 : Try.prog.underlying 22 = some (.slice (Try.prog.elem 22)) := by kernel_rfl
private theorem inf_3 : ∃ ie, Try.prog.info? 3 = some ie ∧ ie.zero = some (.int .i64 0) ∧ ie.size = 1 ∧ ie.bytes = 8 := info_of (by kernel_rfl) (by kernel_rfl)
private theorem ent_44 : Enters Try.prog 44 := enters_of Try.func44 (by kernel_rfl) rfl
private theorem size_3 : (Try.prog.info? 3).map (·.size) = some 1 := by kernel_rfl
private theorem agg_3 : isAggB Try.prog 3 = some false := by kernel_rfl
private theorem ent_57 : Enters Try.prog 57 := enters_of Try.func57 (by kernel_rfl) rfl
private theorem ent_65 : Enters Try.prog 65 := enters_of Try.func65 (by kernel_rfl) rfl
private theorem ent_66 : Enters Try.prog 66 := enters_of Try.func66 (by kernel_rfl) rfl
private theorem ent_37 : Enters Try.prog 37 := enters_of Try.func37 (by kernel_rfl) rfl
private theorem ent_18 : Enters Try.prog 18 := enters_of Try.func18 (by kernel_rfl) rfl

theorem Clone_nil (w : World) (n c : Nat) :
    Calls Try.prog 44 [.slice none n c].toArray w fun e w' => ∃ x : Value × List (Nat × Obj), (OwnV (Value.int .i64) x.1 ([] : List Int) x.2 ∧ ∃ W : World, ∀ p ∈ x.2, W.heap[p.1]? = some p.2) ∧ e = .returned (x.1) ∧ Hq w w x.2 w' := by
  refine enter (N := 8) Try.func44 rfl rfl rfl ?_
  refine g_seq ?_
  refine g_region ?_
  refine s_y (y_assign rfl) rfl rfl rfl rfl ?_
  refine s_nil ?_
  refine g_then ?_
  refine g_seq ?_
  refine g_seq ?_
  refine g_region ?_
  refine s_y (y_move rfl) rfl rfl rfl rfl ?_
  refine s_y (y_eqnil rfl rfl sle_22 (fun w => by kernel_rfl)) rfl rfl rfl rfl ?_
  refine s_nil ?_
  refine g_then ?_
  refine g_cond_t rfl ?_
  refine g_seq ?_
  refine g_region ?_
  refine s_y (y_assign rfl) rfl rfl rfl rfl ?_
  refine s_nil ?_
  refine g_then ?_
  refine g_ret ?_
  refine g_thenr ?_
  exact g_end trivial (fun a w ha hq_ => res1 ha rfl rfl  w) (fun w h => ⟨(_, []), ⟨OwnV.nil, w, (h.hand (List.nil_sublist _)).at_⟩, rfl, h.hand (List.nil_sublist _)⟩)

theorem Clone_some (w : World) (a : Addr) (n c : Nat) (xs : List Int) (hv : RdV (Value.int .i64) w (.slice (some a) n c) xs) (hl : xs.length ≤ 1000000) :
    Calls Try.prog 44 [.slice (some a) n c].toArray w fun e w' => ∃ x : Value × List (Nat × Obj), (OwnV (Value.int .i64) x.1 xs x.2 ∧ ∃ W : World, ∀ p ∈ x.2, W.heap[p.1]? = some p.2) ∧ e = .returned (x.1) ∧ Hq w w x.2 w' := by
  obtain ⟨ie3, hi3⟩ := inf_3
  refine enter (N := 8) Try.func44 rfl rfl rfl ?_
  refine g_seq ?_
  refine g_region ?_
  refine s_y (y_assign rfl) rfl rfl rfl rfl ?_
  refine s_nil ?_
  refine g_then ?_
  refine g_seq ?_
  refine g_seq ?_
  refine g_region ?_
  refine s_y (y_move rfl) rfl rfl rfl rfl ?_
  refine s_y (y_eqnil rfl rfl sle_22 (fun w => by kernel_rfl)) rfl rfl rfl rfl ?_
  refine s_nil ?_
  refine g_then ?_
  refine g_cond_f rfl ?_
  refine g_skip ?_
  refine g_then ?_
  refine g_seq ?_
  refine g_region ?_
  refine s_tr (t_build0 (enc := (Value.int .i64)) Try.underlying22 hi3.1) rfl rfl rfl rfl (fun be hbe => ?_)
  have hok1 : (SV.own be 0 []).ok 1 0 (List.map (Value.int .i64) []) := ⟨Nat.le_refl _, Nat.zero_le _, rfl, rfl⟩
  refine s_y (y_move rfl) rfl rfl rfl rfl ?_
  refine s_tr (t_appendR0 (enc := (Value.int .i64)) (sv := (SV.own be 0 [])) (xs := []) (ys := xs) (n := 0)  _ rfl rfl rfl hok1 Try.underlying22 hi3.1 hi3.2.1 hi3.2.2.1 hi3.2.2.2 rfl (fun w h => (hv.below h.below)) (fun _ => rfl) (by omega) (by unfold maxLen; omega)) rfl rfl rfl rfl (fun y5 hok4 => ?_)
  obtain ⟨sv2, gs3⟩ := y5
  refine s_y (y_assign rfl) rfl rfl rfl rfl ?_
  refine s_nil ?_
  refine g_then ?_
  refine g_ret ?_
  exact g_end trivial (fun a w ha hq_ => res1 ha rfl rfl  w) (fun w h => ⟨(_, sv2.mem 3 ((([]) ++ xs).map (Value.int .i64))), ⟨(OwnV.sv hok4), w, (h.hand (sub_here (sv2.mem 3 ((([]) ++ xs).map (Value.int .i64))) _)).at_⟩, rfl, h.hand (sub_here (sv2.mem 3 ((([]) ++ xs).map (Value.int .i64))) _)⟩)

theorem Clone_any (w : World) (v : Value) (xs : List Int) (hv : RdV (Value.int .i64) w v xs) (hl : xs.length ≤ 1000000) : Calls Try.prog 44 [v].toArray w fun e w' => ∃ x : Value × List (Nat × Obj), (OwnV (Value.int .i64) x.1 xs x.2 ∧ ∃ W : World, ∀ p ∈ x.2, W.heap[p.1]? = some p.2) ∧ e = .returned (x.1) ∧ Hq w w x.2 w' := by
  obtain ⟨A, c, rfl, hc, hr⟩ := id hv
  cases A with
  | none =>
    have : xs = [] := by
      cases xs with
      | nil => rfl
      | cons x xs => obtain ⟨ad, h, _⟩ := hr 0 x rfl; cases h
    subst this
    exact Clone_nil w _ c
  | some a => exact Clone_some w a _ c xs hv hl

theorem list_any (w : World) (v : Value) (xs : List Int) (hv : RdV (Value.int .i64) w v xs) :
    Calls Try.prog 17 [v].toArray w fun e w' => ∃ x : Value × List (Nat × Obj), (OwnV (Value.int .i64) x.1 (xs.take 11) x.2 ∧ ∃ W : World, ∀ p ∈ x.2, W.heap[p.1]? = some p.2) ∧ e = .returned (x.1) ∧ Hq w w x.2 w' := by
  have e11 : (if (11 : Int) < ((xs.length : Nat) : Int) then (11 : Int) else ((xs.length : Nat) : Int)) = ((min xs.length 11 : Nat) : Int) := by split <;> omega
  obtain ⟨ie3_, hi3_⟩ := inf_3
  obtain ⟨v7, hc7, hr7⟩ := run_cut_hi (P := Try.prog) hv Try.underlying22 hi3_.1 hi3_.2.2.1 (min xs.length 11) (by omega)
  refine enter (N := 9) Try.func17 rfl rfl rfl ?_
  refine g_seq ?_
  refine g_region ?_
  refine s_y (y_assign rfl) rfl rfl rfl rfl ?_
  refine s_nil ?_
  refine g_then ?_
  refine g_seq ?_
  refine g_region ?_
  refine s_y (y_move rfl) rfl rfl rfl rfl ?_
  refine s_y (y_move rfl) rfl rfl rfl rfl ?_
  refine s_y (y_lenV (n := xs.length) rfl (by obtain ⟨A, c, h1, _⟩ := hv; exact ⟨A, c, h1⟩) sle_22) rfl rfl rfl rfl ?_
  refine s_y (y_min rfl rfl) rfl rfl rfl rfl ?_
  rw [e11]
  refine s_y (y_slice rfl none_ev (some_ev rfl) hc7 sle_22) rfl rfl rfl rfl ?_
  refine s_tr (t_callm rfl rfl ent_44 (fun w h => Clone_any w v7 (xs.take (min xs.length 11)) (hr7 w (hv.below h.below)) (by rw [List.length_take]; omega))) rfl rfl rfl rfl (fun x2 hx3 => ?_)
  obtain ⟨vo1, mo1⟩ := x2
  obtain ⟨hOo1, hEo1⟩ := hx3
  refine s_y (y_assign rfl) rfl rfl rfl rfl ?_
  refine s_nil ?_
  refine g_then ?_
  refine g_ret ?_
  rw [show xs.take 11 = xs.take (min xs.length 11) from by rcases Nat.le_total xs.length 11 with h | h; rw [Nat.min_eq_left h, List.take_length, List.take_of_length_le h]; rw [Nat.min_eq_right h]]
  exact g_end trivial (fun a w ha hq_ => res1 ha rfl rfl  w) (fun w h => ⟨(_, mo1), ⟨hOo1, w, (h.hand (sub_here mo1 _)).at_⟩, rfl, h.hand (sub_here mo1 _)⟩)

theorem rdI_take {xs : List Int} {k : Nat} (h : k < xs.length) : xs.take (k + 1) = xs.take k ++ [rdI xs (k : Int)] := by
  rw [List.take_succ_eq_append_getElem h]
  simp [rdI_nat, List.getD_eq_getElem?_getD, h]
theorem first_take {xs : List Int} (h : 1 ≤ xs.length) : rdI xs 0 ∈ xs.take 1 ∧ xs.take 1 = [rdI xs 0] := by
  have := rdI_take (xs := xs) (k := 0) (by omega)
  rw [List.take_zero, List.nil_append] at this
  exact ⟨by rw [this]; simp, this⟩
theorem take_min {xs : List Int} {i : Nat} {z : Int} (h : i + 1 < xs.length) (hz : z ∈ xs.take (i + 1) ∧ ∀ x ∈ xs.take (i + 1), z ≤ x) :
    (if rdI xs ((i + 1 : Nat) : Int) < z then rdI xs ((i + 1 : Nat) : Int) else z) ∈ xs.take (i + 1 + 1) ∧ ∀ x ∈ xs.take (i + 1 + 1), (if rdI xs ((i + 1 : Nat) : Int) < z then rdI xs ((i + 1 : Nat) : Int) else z) ≤ x := by
  rw [rdI_take h]
  refine ⟨?_, fun x hx => ?_⟩
  · split
    · simp
    · exact List.mem_append_left _ hz.1
  · rcases List.mem_append.1 hx with hx | hx
    · have := hz.2 x hx; split <;> omega
    · rw [List.mem_singleton] at hx; subst hx; split <;> omega
theorem take_max {xs : List Int} {i : Nat} {z : Int} (h : i + 1 < xs.length) (hz : z ∈ xs.take (i + 1) ∧ ∀ x ∈ xs.take (i + 1), x ≤ z) :
    (if rdI xs ((i + 1 : Nat) : Int) > z then rdI xs ((i + 1 : Nat) : Int) else z) ∈ xs.take (i + 1 + 1) ∧ ∀ x ∈ xs.take (i + 1 + 1), x ≤ (if rdI xs ((i + 1 : Nat) : Int) > z then rdI xs ((i + 1 : Nat) : Int) else z) := by
  rw [rdI_take h]
  refine ⟨?_, fun x hx => ?_⟩
  · split
    · simp
    · exact List.mem_append_left _ hz.1
  · rcases List.mem_append.1 hx with hx | hx
    · have := hz.2 x hx; split <;> omega
    · rw [List.mem_singleton] at hx; subst hx; split <;> omega


theorem Min_any (w : World) (v : Value) (xs : List Int) (hv : RdV (Value.int .i64) w v xs) (hl : xs.length ≤ 1000000) (h0 : 1 ≤ xs.length) :
    Calls Try.prog 65 [v].toArray w fun e w' => ∃ z : Int, (z ∈ xs ∧ ∀ x ∈ xs, z ≤ x) ∧ e = .returned (.int .i64 z) ∧ Below w.heap.size w w' := by
  refine enter (N := 25) Try.func65 rfl rfl rfl ?_
  refine g_seq ?_
  refine g_region ?_
  refine s_y (y_assign rfl) rfl rfl rfl rfl ?_
  refine s_nil ?_
  refine g_then ?_
  refine g_seq ?_
  refine g_seq ?_
  refine g_region ?_
  refine s_y (y_move rfl) rfl rfl rfl rfl ?_
  refine s_y (y_lenV (n := xs.length) rfl (by obtain ⟨A, c, h1, _⟩ := hv; exact ⟨A, c, h1⟩) sle_22) rfl rfl rfl rfl ?_
  refine s_y (y_lss_f rfl rfl (by omega)) rfl rfl rfl rfl ?_
  refine s_nil ?_
  refine g_then ?_
  refine g_cond_f rfl ?_
  refine g_skip ?_
  refine g_then ?_
  refine g_seq ?_
  refine g_region ?_
  refine s_y (y_move rfl) rfl rfl rfl rfl ?_
  refine s_y (y_idxV (enc := (Value.int .i64)) rfl rfl hv Try.underlying22 size_3 (by omega) (by omega)) rfl rfl rfl rfl ?_
  refine s_y (y_ldV (enc := (Value.int .i64)) (xs := xs) (fun w h => hv.rdl.below h.below) rfl agg_3 (rdI_at (by omega) (by omega))) rfl rfl rfl rfl ?_
  refine s_y (y_assign rfl) rfl rfl rfl rfl ?_
  refine s_nil ?_
  refine g_then ?_
  refine g_seq ?_
  refine g_seq ?_
  refine g_region ?_
  refine s_y (y_assign rfl) rfl rfl rfl rfl ?_
  refine s_nil ?_
  refine g_then ?_
  refine g_block ?_
  refine g_loop (fun (i : Nat) act W => i + 1 ≤ xs.length ∧ ∃ (z : Int) (w1 : World), (z ∈ xs.take (i + 1) ∧ ∀ x ∈ xs.take (i + 1), z ≤ x) ∧ Has 25 [] [(0, v), (2, .int .i64 0), (3, .int .i64 z), (4, .int .i64 ((i + 1 : Nat) : Int))] act ∧ Hp w w1 ([]) W) (fun i => xs.length - i) 0 (fun act W ha hw => ⟨by omega, rdI xs 0, W, (by obtain ⟨h1, h2⟩ := first_take h0; exact ⟨h1, fun x hx => by rw [h2] at hx; simp at hx; omega⟩), ha.weak (sub_get ⟨rfl, rfl, rfl, rfl, trivial⟩), hw.toHq.lookSub (List.Sublist.refl _)⟩) ?_
  intro i act W ⟨hb_i, z, w1, hz, ha, hw⟩
  refine g_go ha hw ?_
  clear ha hw act W
  refine g_seq ?_
  refine g_seq ?_
  refine g_region ?_
  refine s_y (y_move rfl) rfl rfl rfl rfl ?_
  refine s_y (y_move rfl) rfl rfl rfl rfl ?_
  refine s_y (y_lenV (n := xs.length) rfl (by obtain ⟨A, c, h1, _⟩ := hv; exact ⟨A, c, h1⟩) sle_22) rfl rfl rfl rfl ?_
  refine s_y (y_lss rfl rfl) rfl rfl rfl rfl ?_
  refine s_nil ?_
  refine g_then ?_
  refine g_cond rfl (fun cq1 => ?_) (fun cq1 => ?_)
  · (try simp at cq1)
    refine g_skip ?_
    refine g_then ?_
    refine g_seq ?_
    refine g_block ?_
    refine g_region ?_
    refine s_y (y_move rfl) rfl rfl rfl rfl ?_
    refine s_y (y_move rfl) rfl rfl rfl rfl ?_
    refine s_y (y_move rfl) rfl rfl rfl rfl ?_
    refine s_y (y_idxV (enc := (Value.int .i64)) rfl rfl hv Try.underlying22 size_3 (by omega) (by omega)) rfl rfl rfl rfl ?_
    refine s_y (y_ldV (enc := (Value.int .i64)) (xs := xs) (fun w h => hv.rdl.below h.below) rfl agg_3 (rdI_at (by omega) (by omega))) rfl rfl rfl rfl ?_
    refine s_y (y_min rfl rfl) rfl rfl rfl rfl ?_
    refine s_y (y_assign rfl) rfl rfl rfl rfl ?_
    refine s_nil ?_
    refine g_inb ?_
    refine g_then ?_
    refine g_region ?_
    refine s_y (y_move rfl) rfl rfl rfl rfl ?_
    refine s_y (y_add rfl rfl (by omega) (by omega)) rfl rfl rfl rfl ?_
    refine s_y (y_assign rfl) rfl rfl rfl rfl ?_
    refine s_nil ?_
    refine g_then ?_
    exact fun act W ha hw => ⟨i + 1, by omega, by omega, (if (rdI xs ((i + 1 : Nat) : Int)) < z then (rdI xs ((i + 1 : Nat) : Int)) else z), W, (by exact take_min (by omega) hz), ha.weak (sub_get ⟨rfl, rfl, rfl, rfl, trivial⟩), hw.toHq.lookSub (List.Sublist.refl _)⟩
  · (try simp at cq1)
    refine g_exit ?_
    refine g_thenx ?_
    refine g_thenx ?_
    refine g_inbx ?_
    refine g_then ?_
    refine g_seq ?_
    refine g_region ?_
    refine s_y (y_move rfl) rfl rfl rfl rfl ?_
    refine s_y (y_assign rfl) rfl rfl rfl rfl ?_
    refine s_nil ?_
    refine g_then ?_
    refine g_ret ?_
    have hi1 : i + 1 = xs.length := by omega
    rw [hi1, List.take_length] at hz
    exact g_end trivial (fun a w ha hq_ => res1 ha rfl rfl  w) (fun w h => ⟨_, hz, rfl, h.below⟩)

theorem Max_any (w : World) (v : Value) (xs : List Int) (hv : RdV (Value.int .i64) w v xs) (hl : xs.length ≤ 1000000) (h0 : 1 ≤ xs.length) :
    Calls Try.prog 66 [v].toArray w fun e w' => ∃ z : Int, (z ∈ xs ∧ ∀ x ∈ xs, x ≤ z) ∧ e = .returned (.int .i64 z) ∧ Below w.heap.size w w' := by
  refine enter (N := 25) Try.func66 rfl rfl rfl ?_
  refine g_seq ?_
  refine g_region ?_
  refine s_y (y_assign rfl) rfl rfl rfl rfl ?_
  refine s_nil ?_
  refine g_then ?_
  refine g_seq ?_
  refine g_seq ?_
  refine g_region ?_
  refine s_y (y_move rfl) rfl rfl rfl rfl ?_
  refine s_y (y_lenV (n := xs.length) rfl (by obtain ⟨A, c, h1, _⟩ := hv; exact ⟨A, c, h1⟩) sle_22) rfl rfl rfl rfl ?_
  refine s_y (y_lss_f rfl rfl (by omega)) rfl rfl rfl rfl ?_
  refine s_nil ?_
  refine g_then ?_
  refine g_cond_f rfl ?_
  refine g_skip ?_
  refine g_then ?_
  refine g_seq ?_
  refine g_region ?_
  refine s_y (y_move rfl) rfl rfl rfl rfl ?_
  refine s_y (y_idxV (enc := (Value.int .i64)) rfl rfl hv Try.underlying22 size_3 (by omega) (by omega)) rfl rfl rfl rfl ?_
  refine s_y (y_ldV (enc := (Value.int .i64)) (xs := xs) (fun w h => hv.rdl.below h.below) rfl agg_3 (rdI_at (by omega) (by omega))) rfl rfl rfl rfl ?_
  refine s_y (y_assign rfl) rfl rfl rfl rfl ?_
  refine s_nil ?_
  refine g_then ?_
  refine g_seq ?_
  refine g_seq ?_
  refine g_region ?_
  refine s_y (y_assign rfl) rfl rfl rfl rfl ?_
  refine s_nil ?_
  refine g_then ?_
  refine g_block ?_
  refine g_loop (fun (i : Nat) act W => i + 1 ≤ xs.length ∧ ∃ (z : Int) (w1 : World), (z ∈ xs.take (i + 1) ∧ ∀ x ∈ xs.take (i + 1), x ≤ z) ∧ Has 25 [] [(0, v), (2, .int .i64 0), (3, .int .i64 z), (4, .int .i64 ((i + 1 : Nat) : Int))] act ∧ Hp w w1 ([]) W) (fun i => xs.length - i) 0 (fun act W ha hw => ⟨by omega, rdI xs 0, W, (by obtain ⟨h1, h2⟩ := first_take h0; exact ⟨h1, fun x hx => by rw [h2] at hx; simp at hx; omega⟩), ha.weak (sub_get ⟨rfl, rfl, rfl, rfl, trivial⟩), hw.toHq.lookSub (List.Sublist.refl _)⟩) ?_
  intro i act W ⟨hb_i, z, w1, hz, ha, hw⟩
  refine g_go ha hw ?_
  clear ha hw act W
  refine g_seq ?_
  refine g_seq ?_
  refine g_region ?_
  refine s_y (y_move rfl) rfl rfl rfl rfl ?_
  refine s_y (y_move rfl) rfl rfl rfl rfl ?_
  refine s_y (y_lenV (n := xs.length) rfl (by obtain ⟨A, c, h1, _⟩ := hv; exact ⟨A, c, h1⟩) sle_22) rfl rfl rfl rfl ?_
  refine s_y (y_lss rfl rfl) rfl rfl rfl rfl ?_
  refine s_nil ?_
  refine g_then ?_
  refine g_cond rfl (fun cq1 => ?_) (fun cq1 => ?_)
  · (try simp at cq1)
    refine g_skip ?_
    refine g_then ?_
    refine g_seq ?_
    refine g_block ?_
    refine g_region ?_
    refine s_y (y_move rfl) rfl rfl rfl rfl ?_
    refine s_y (y_move rfl) rfl rfl rfl rfl ?_
    refine s_y (y_move rfl) rfl rfl rfl rfl ?_
    refine s_y (y_idxV (enc := (Value.int .i64)) rfl rfl hv Try.underlying22 size_3 (by omega) (by omega)) rfl rfl rfl rfl ?_
    refine s_y (y_ldV (enc := (Value.int .i64)) (xs := xs) (fun w h => hv.rdl.below h.below) rfl agg_3 (rdI_at (by omega) (by omega))) rfl rfl rfl rfl ?_
    refine s_y (y_max rfl rfl) rfl rfl rfl rfl ?_
    refine s_y (y_assign rfl) rfl rfl rfl rfl ?_
    refine s_nil ?_
    refine g_inb ?_
    refine g_then ?_
    refine g_region ?_
    refine s_y (y_move rfl) rfl rfl rfl rfl ?_
    refine s_y (y_add rfl rfl (by omega) (by omega)) rfl rfl rfl rfl ?_
    refine s_y (y_assign rfl) rfl rfl rfl rfl ?_
    refine s_nil ?_
    refine g_then ?_
    exact fun act W ha hw => ⟨i + 1, by omega, by omega, (if (rdI xs ((i + 1 : Nat) : Int)) > z then (rdI xs ((i + 1 : Nat) : Int)) else z), W, (by exact take_max (by omega) hz), ha.weak (sub_get ⟨rfl, rfl, rfl, rfl, trivial⟩), hw.toHq.lookSub (List.Sublist.refl _)⟩
  · (try simp at cq1)
    refine g_exit ?_
    refine g_thenx ?_
    refine g_thenx ?_
    refine g_inbx ?_
    refine g_then ?_
    refine g_seq ?_
    refine g_region ?_
    refine s_y (y_move rfl) rfl rfl rfl rfl ?_
    refine s_y (y_assign rfl) rfl rfl rfl rfl ?_
    refine s_nil ?_
    refine g_then ?_
    refine g_ret ?_
    have hi1 : i + 1 = xs.length := by omega
    rw [hi1, List.take_length] at hz
    exact g_end trivial (fun a w ha hq_ => res1 ha rfl rfl  w) (fun w h => ⟨_, hz, rfl, h.below⟩)

theorem Equal_any (w : World) (v v' : Value) (xs ys : List Int) (hv : RdV (Value.int .i64) w v xs) (hv' : RdV (Value.int .i64) w v' ys) (hl : xs.length ≤ 1000000) :
    Calls Try.prog 26 [v, v'].toArray w fun e w' => e = .returned (.bool (decide (xs = ys))) ∧ Below w.heap.size w w' := by
  refine enter (N := 26) Try.func26 rfl rfl rfl ?_
  refine g_seq ?_
  refine g_region ?_
  refine s_y (y_assign rfl) rfl rfl rfl rfl ?_
  refine s_nil ?_
  refine g_then ?_
  refine g_seq ?_
  refine g_seq ?_
  refine g_region ?_
  refine s_y (y_move rfl) rfl rfl rfl rfl ?_
  refine s_y (y_lenV (n := xs.length) rfl (by obtain ⟨A, c, h1, _⟩ := hv; exact ⟨A, c, h1⟩) sle_22) rfl rfl rfl rfl ?_
  refine s_y (y_move rfl) rfl rfl rfl rfl ?_
  refine s_y (y_lenV (n := ys.length) rfl (by obtain ⟨A, c, h1, _⟩ := hv'; exact ⟨A, c, h1⟩) sle_22) rfl rfl rfl rfl ?_
  refine s_y (y_neq rfl rfl) rfl rfl rfl rfl ?_
  refine s_nil ?_
  refine g_then ?_
  refine g_cond rfl (fun cq1 => ?_) (fun cq1 => ?_)
  · (try simp at cq1)
    refine g_seq ?_
    refine g_region ?_
    refine s_y (y_assign rfl) rfl rfl rfl rfl ?_
    refine s_nil ?_
    refine g_then ?_
    refine g_ret ?_
    refine g_thenr ?_
    rw [show decide (xs = ys) = false from decide_eq_false fun h => by subst h; first | omega | contradiction]
    exact g_end trivial (fun a w ha hq_ => res1 ha rfl rfl  w) (fun w h => ⟨rfl, h.below⟩)
  · (try simp at cq1)
    have hll : xs.length = ys.length := by omega
    refine g_skip ?_
    refine g_then ?_
    refine g_seq ?_
    refine g_seq ?_
    refine g_region ?_
    refine s_y (y_move rfl) rfl rfl rfl rfl ?_
    refine s_y (y_lenV (n := xs.length) rfl (by obtain ⟨A, c, h1, _⟩ := hv; exact ⟨A, c, h1⟩) sle_22) rfl rfl rfl rfl ?_
    refine s_y (y_move rfl) rfl rfl rfl rfl ?_
    refine s_nil ?_
    refine g_then ?_
    refine g_block ?_
    refine g_loop (fun (i : Nat) act W => (i ≤ xs.length ∧ ∀ j : Nat, j < i → rdI xs (j : Int) = rdI ys (j : Int)) ∧ ∃ (w1 : World), Has 26 [] [(0, v), (1, v'), (12, .int .i64 (xs.length : Nat)), (13, .int .i64 (i : Int))] act ∧ Hp w w1 ([]) W) (fun i => xs.length - i) 0 (fun act W ha hw => ⟨⟨by omega, fun j hj => by omega⟩, W, ha.weak (sub_get ⟨rfl, rfl, rfl, rfl, trivial⟩), hw.toHq.lookSub (List.Sublist.refl _)⟩) ?_
    intro i act W ⟨hb_i, w1, ha, hw⟩
    refine g_go ha hw ?_
    clear ha hw act W
    refine g_seq ?_
    refine g_region ?_
    refine s_y (y_lss rfl rfl) rfl rfl rfl rfl ?_
    refine s_nil ?_
    refine g_then ?_
    refine g_seq ?_
    refine g_cond rfl (fun cq2 => ?_) (fun cq2 => ?_)
    · (try simp at cq2)
      refine g_skip ?_
      refine g_then ?_
      refine g_seq ?_
      refine g_block ?_
      refine g_seq ?_
      refine g_region ?_
      refine s_y (y_move rfl) rfl rfl rfl rfl ?_
      refine s_y (y_assign rfl) rfl rfl rfl rfl ?_
      refine s_nil ?_
      refine g_then ?_
      refine g_seq ?_
      refine g_draw 9 (by kernel_rfl) ?_
      refine j_p (i := 0) rfl (y_move rfl) (by kernel_rfl) (by kernel_rfl) (by kernel_rfl) rfl rfl rfl rfl rfl (.inr (fun _ h => h)) ?_
      refine j_p (i := 1) rfl (y_move rfl) (by kernel_rfl) (by kernel_rfl) (by kernel_rfl) rfl rfl rfl rfl rfl (.inr (fun _ h => h)) ?_
      refine j_p (i := 2) rfl (y_idxV (enc := (Value.int .i64)) rfl rfl hv Try.underlying22 size_3 (by omega) (by omega)) (by kernel_rfl) (by kernel_rfl) (by kernel_rfl) rfl rfl rfl rfl rfl (.inr (fun _ h => h)) ?_
      refine j_l (i := 3) rfl (y_ldV (enc := (Value.int .i64)) (xs := xs) (fun w h => hv.rdl.below h.below) rfl agg_3 (rdI_at (by omega) (by omega))) (by kernel_rfl) (by kernel_rfl) (by kernel_rfl) (by kernel_rfl) rfl rfl rfl rfl rfl (.inr (fun _ h => h)) ?_
      refine j_p (i := 4) rfl (y_move rfl) (by kernel_rfl) (by kernel_rfl) (by kernel_rfl) rfl rfl rfl rfl rfl (.inr (fun _ h => h)) ?_
      refine j_p (i := 5) rfl (y_move rfl) (by kernel_rfl) (by kernel_rfl) (by kernel_rfl) rfl rfl rfl rfl rfl (.inr (fun _ h => h)) ?_
      refine j_p (i := 6) rfl (y_idxV (enc := (Value.int .i64)) rfl rfl hv' Try.underlying22 size_3 (by omega) (by omega)) (by kernel_rfl) (by kernel_rfl) (by kernel_rfl) rfl rfl rfl rfl rfl (.inr (fun _ h => h)) ?_
      refine j_l (i := 7) rfl (y_ldV (enc := (Value.int .i64)) (xs := ys) (fun w h => hv'.rdl.below h.below) rfl agg_3 (rdI_at (by omega) (by omega))) (by kernel_rfl) (by kernel_rfl) (by kernel_rfl) (by kernel_rfl) rfl rfl rfl rfl rfl (.inr (fun _ h => h)) ?_
      refine j_p (i := 8) rfl (y_neq rfl rfl) (by kernel_rfl) (by kernel_rfl) (by kernel_rfl) rfl rfl rfl rfl rfl (.inr (fun _ h => h)) ?_
      refine j_nil (by kernel_rfl) ?_
      refine g_then ?_
      refine g_cond rfl (fun cq3 => ?_) (fun cq3 => ?_)
      · (try simp at cq3)
        refine g_seq ?_
        refine g_region ?_
        refine s_y (y_assign rfl) rfl rfl rfl rfl ?_
        refine s_nil ?_
        refine g_then ?_
        refine g_ret ?_
        refine g_inbr ?_
        refine g_thenr ?_
        refine g_thenr ?_
        refine g_inbr ?_
        refine g_thenr ?_
        rw [show decide (xs = ys) = false from decide_eq_false fun h => by subst h; first | omega | contradiction]
        exact g_end trivial (fun a w ha hq_ => res1 ha rfl rfl  w) (fun w h => ⟨rfl, h.below⟩)
      · (try simp at cq3)
        refine g_skip ?_
        refine g_inb ?_
        refine g_then ?_
        refine g_region ?_
        refine s_y (y_add rfl rfl (by omega) (by omega)) rfl rfl rfl rfl ?_
        refine s_y (y_move rfl) rfl rfl rfl rfl ?_
        refine s_nil ?_
        refine g_then ?_
        have hall : ∀ j : Nat, j < i + 1 → rdI xs (j : Int) = rdI ys (j : Int) := by
          intro k hk
          rcases Nat.lt_or_ge k i with h | h
          · exact hb_i.2 k h
          · have : k = i := by omega
            subst this; assumption
        exact fun act W ha hw => ⟨i + 1, by omega, ⟨by omega, hall⟩, W, ha.weak (sub_get ⟨rfl, rfl, rfl, rfl, trivial⟩), hw.toHq.lookSub (List.Sublist.refl _)⟩
    · (try simp at cq2)
      refine g_exit ?_
      refine g_thenx ?_
      refine g_thenx ?_
      refine g_inbx ?_
      refine g_then ?_
      refine g_seq ?_
      refine g_region ?_
      refine s_y (y_assign rfl) rfl rfl rfl rfl ?_
      refine s_nil ?_
      refine g_then ?_
      refine g_ret ?_
      rw [show decide (xs = ys) = true from decide_eq_true (rdI_ext hll fun j hj => hb_i.2 j (by omega))]
      exact g_end trivial (fun a w ha hq_ => res1 ha rfl rfl  w) (fun w h => ⟨rfl, h.below⟩)



def ixI (xs : List Int) (x : Int) : Int := match xs.findIdx? (fun y => decide (x = y)) with
  | some i => i
  | none => -1
theorem rdI_getElem {xs : List Int} {j : Nat} (h : j < xs.length) : rdI xs (j : Int) = xs[j] := by simp [rdI_nat, List.getD_eq_getElem?_getD, h]
theorem ixI_some {xs : List Int} {x : Int} {i : Nat} (hi : i < xs.length) (h : x = rdI xs (i : Int)) (hno : ∀ j : Nat, j < i → x ≠ rdI xs (j : Int)) : ixI xs x = i := by
  have : xs.findIdx? (fun y => decide (x = y)) = some i := by
    rw [List.findIdx?_eq_some_iff_getElem]
    refine ⟨hi, by rw [← rdI_getElem hi]; simpa using h, fun j hj => ?_⟩
    rw [← rdI_getElem (by omega)]; simpa using hno j hj
  simp [ixI, this]
theorem ixI_none {xs : List Int} {x : Int} (hno : ∀ j : Nat, j < xs.length → x ≠ rdI xs (j : Int)) : ixI xs x = -1 := by
  have : xs.findIdx? (fun y => decide (x = y)) = none := by
    rw [List.findIdx?_eq_none_iff]
    intro y hy
    obtain ⟨j, hj, rfl⟩ := List.getElem_of_mem hy
    have := hno j hj
    rw [rdI_getElem hj] at this; simpa using this
  simp [ixI, this]
theorem ixI_mem {xs : List Int} {x : Int} : decide (ixI xs x ≥ 0) = decide (x ∈ xs) := by
  unfold ixI
  cases h : xs.findIdx? (fun y => decide (x = y)) with
  | some i =>
    obtain ⟨hi, hp, _⟩ := List.findIdx?_eq_some_iff_getElem.1 h
    have : x ∈ xs := by have := of_decide_eq_true hp; rw [this]; exact List.getElem_mem hi
    simp [this]
  | none =>
    have := List.findIdx?_eq_none_iff.1 h
    have : x ∉ xs := fun hx => by have := this x hx; simp at this
    simp [this]


theorem Index_any (w : World) (v : Value) (xs : List Int) (x : Int) (hv : RdV (Value.int .i64) w v xs) (hl : xs.length ≤ 1000000) :
    Calls Try.prog 57 [v, .int .i64 x].toArray w fun e w' => e = .returned (.int .i64 (ixI xs x)) ∧ Below w.heap.size w w' := by
  refine enter (N := 19) Try.func57 rfl rfl rfl ?_
  refine g_seq ?_
  refine g_region ?_
  refine s_y (y_assign rfl) rfl rfl rfl rfl ?_
  refine s_nil ?_
  refine g_then ?_
  refine g_seq ?_
  refine g_seq ?_
  refine g_region ?_
  refine s_y (y_move rfl) rfl rfl rfl rfl ?_
  refine s_y (y_lenV (n := xs.length) rfl (by obtain ⟨A, c, h1, _⟩ := hv; exact ⟨A, c, h1⟩) sle_22) rfl rfl rfl rfl ?_
  refine s_y (y_move rfl) rfl rfl rfl rfl ?_
  refine s_nil ?_
  refine g_then ?_
  refine g_block ?_
  refine g_loop (fun (i : Nat) act W => (i ≤ xs.length ∧ ∀ j : Nat, j < i → x ≠ rdI xs (j : Int)) ∧ ∃ (w1 : World), Has 19 [] [(0, v), (1, .int .i64 x), (7, .int .i64 (xs.length : Nat)), (8, .int .i64 (i : Int))] act ∧ Hp w w1 ([]) W) (fun i => xs.length - i) 0 (fun act W ha hw => ⟨⟨by omega, fun j hj => by omega⟩, W, ha.weak (sub_get ⟨rfl, rfl, rfl, rfl, trivial⟩), hw.toHq.lookSub (List.Sublist.refl _)⟩) ?_
  intro i act W ⟨hb_i, w1, ha, hw⟩
  refine g_go ha hw ?_
  clear ha hw act W
  refine g_seq ?_
  refine g_region ?_
  refine s_y (y_lss rfl rfl) rfl rfl rfl rfl ?_
  refine s_nil ?_
  refine g_then ?_
  refine g_seq ?_
  refine g_cond rfl (fun cq1 => ?_) (fun cq1 => ?_)
  · (try simp at cq1)
    refine g_skip ?_
    refine g_then ?_
    refine g_seq ?_
    refine g_block ?_
    refine g_seq ?_
    refine g_region ?_
    refine s_y (y_move rfl) rfl rfl rfl rfl ?_
    refine s_y (y_assign rfl) rfl rfl rfl rfl ?_
    refine s_nil ?_
    refine g_then ?_
    refine g_seq ?_
    refine g_region ?_
    refine s_y (y_move rfl) rfl rfl rfl rfl ?_
    refine s_y (y_move rfl) rfl rfl rfl rfl ?_
    refine s_y (y_move rfl) rfl rfl rfl rfl ?_
    refine s_y (y_idxV (enc := (Value.int .i64)) rfl rfl hv Try.underlying22 size_3 (by omega) (by omega)) rfl rfl rfl rfl ?_
    refine s_y (y_ldV (enc := (Value.int .i64)) (xs := xs) (fun w h => hv.rdl.below h.below) rfl agg_3 (rdI_at (by omega) (by omega))) rfl rfl rfl rfl ?_
    refine s_y (y_eql rfl rfl) rfl rfl rfl rfl ?_
    refine s_nil ?_
    refine g_then ?_
    refine g_cond rfl (fun cq2 => ?_) (fun cq2 => ?_)
    · (try simp at cq2)
      refine g_seq ?_
      refine g_region ?_
      refine s_y (y_move rfl) rfl rfl rfl rfl ?_
      refine s_y (y_assign rfl) rfl rfl rfl rfl ?_
      refine s_nil ?_
      refine g_then ?_
      refine g_ret ?_
      refine g_inbr ?_
      refine g_thenr ?_
      refine g_thenr ?_
      refine g_inbr ?_
      refine g_thenr ?_
      rw [ixI_some (i := i) (by omega) (by assumption) hb_i.2]
      exact g_end trivial (fun a w ha hq_ => res1 ha rfl rfl  w) (fun w h => ⟨rfl, h.below⟩)
    · (try simp at cq2)
      refine g_skip ?_
      refine g_inb ?_
      refine g_then ?_
      refine g_region ?_
      refine s_y (y_add rfl rfl (by omega) (by omega)) rfl rfl rfl rfl ?_
      refine s_y (y_move rfl) rfl rfl rfl rfl ?_
      refine s_nil ?_
      refine g_then ?_
      have hno : ∀ j : Nat, j < i + 1 → x ≠ rdI xs (j : Int) := by
        intro j hj
        rcases Nat.lt_or_ge j i with h | h
        · exact hb_i.2 j h
        · have : j = i := by omega
          subst this; assumption
      exact fun act W ha hw => ⟨i + 1, by omega, ⟨by omega, hno⟩, W, ha.weak (sub_get ⟨rfl, rfl, rfl, rfl, trivial⟩), hw.toHq.lookSub (List.Sublist.refl _)⟩
  · (try simp at cq1)
    refine g_exit ?_
    refine g_thenx ?_
    refine g_thenx ?_
    refine g_inbx ?_
    refine g_then ?_
    refine g_seq ?_
    refine g_region ?_
    refine s_y (y_assign rfl) rfl rfl rfl rfl ?_
    refine s_nil ?_
    refine g_then ?_
    refine g_ret ?_
    rw [ixI_none (fun j hj => hb_i.2 j (by omega))]
    exact g_end trivial (fun a w ha hq_ => res1 ha rfl rfl  w) (fun w h => ⟨rfl, h.below⟩)

theorem Contains_any (w : World) (v : Value) (xs : List Int) (x : Int) (hv : RdV (Value.int .i64) w v xs) (hl : xs.length ≤ 1000000) :
    Calls Try.prog 32 [v, .int .i64 x].toArray w fun e w' => e = .returned (.bool (decide (x ∈ xs))) ∧ Below w.heap.size w w' := by
  refine enter (N := 9) Try.func32 rfl rfl rfl ?_
  refine g_seq ?_
  refine g_region ?_
  refine s_y (y_assign rfl) rfl rfl rfl rfl ?_
  refine s_nil ?_
  refine g_then ?_
  refine g_seq ?_
  refine g_region ?_
  refine s_y (y_move rfl) rfl rfl rfl rfl ?_
  refine s_y (y_move rfl) rfl rfl rfl rfl ?_
  refine s_tr (t_call rfl rfl ent_57 (fun w h => Index_any w v xs x (hv.below h.below) hl)) rfl rfl rfl rfl (fun _ _ => ?_)
  refine s_y (y_geq rfl rfl) rfl rfl rfl rfl ?_
  refine s_y (y_assign rfl) rfl rfl rfl rfl ?_
  refine s_nil ?_
  refine g_then ?_
  refine g_ret ?_
  rw [← ixI_mem]
  exact g_end trivial (fun a w ha hq_ => res1 ha rfl rfl  w) (fun w h => ⟨rfl, h.below⟩)

theorem isPart_any (w : World) (v : Value) (xs : List Int) (hv : RdV (Value.int .i64) w v xs) (hl : xs.length ≤ 9223372036854775807) :
    Calls Try.prog 46 [v].toArray w fun e w' => e = .returned (.bool (partB xs)) ∧ Below w.heap.size w w' := by
  refine enter (N := 21) Try.func46 rfl rfl rfl ?_
  refine g_seq ?_
  refine g_region ?_
  refine s_y (y_assign rfl) rfl rfl rfl rfl ?_
  refine s_nil ?_
  refine g_then ?_
  refine g_seq ?_
  refine g_region ?_
  refine s_y (y_move rfl) rfl rfl rfl rfl ?_
  refine s_y (y_lenV (n := xs.length) rfl (by obtain ⟨A, c, h1, _⟩ := hv; exact ⟨A, c, h1⟩) sle_22) rfl rfl rfl rfl ?_
  refine s_y (y_geq rfl rfl) rfl rfl rfl rfl ?_
  refine s_y (y_move rfl) rfl rfl rfl rfl ?_
  refine g_bool 6 rfl (fun cq1 => ?_) (fun cq1 => ?_)
  · (try simp at cq1)
    refine s_y (y_move rfl) rfl rfl rfl rfl ?_
    refine s_y (y_lenV (n := xs.length) rfl (by obtain ⟨A, c, h1, _⟩ := hv; exact ⟨A, c, h1⟩) sle_22) rfl rfl rfl rfl ?_
    refine s_y (y_leq rfl rfl) rfl rfl rfl rfl ?_
    refine s_y (y_pick_t rfl rfl) rfl rfl rfl rfl ?_
    refine s_y (y_move rfl) rfl rfl rfl rfl ?_
    refine g_bool 11 rfl (fun cq2 => ?_) (fun cq2 => ?_)
    · (try simp at cq2)
      refine s_y (y_move rfl) rfl rfl rfl rfl ?_
      refine s_tr (t_callm (A := fun z : Int => z ∈ xs ∧ ∀ x ∈ xs, z ≤ x) (vf := fun z => .int .i64 z) (mm := fun _ => []) rfl rfl ent_65 (fun w h => (Min_any w _ xs (hv.below h.below) (by omega) (by omega)).mono fun e w' ⟨z, h1, h2, h3⟩ => ⟨z, h1, h2, Hq.of_below h3⟩)) rfl rfl rfl rfl (fun zmin hmn => ?_)
      refine s_y (y_geq rfl rfl) rfl rfl rfl rfl ?_
      refine s_y (y_pick_t rfl rfl) rfl rfl rfl rfl ?_
      refine s_y (y_move rfl) rfl rfl rfl rfl ?_
      refine g_bool 16 rfl (fun cq3 => ?_) (fun cq3 => ?_)
      · (try simp at cq3)
        refine s_y (y_move rfl) rfl rfl rfl rfl ?_
        refine s_tr (t_callm (A := fun z : Int => z ∈ xs ∧ ∀ x ∈ xs, x ≤ z) (vf := fun z => .int .i64 z) (mm := fun _ => []) rfl rfl ent_66 (fun w h => (Max_any w _ xs (hv.below h.below) (by omega) (by omega)).mono fun e w' ⟨z, h1, h2, h3⟩ => ⟨z, h1, h2, Hq.of_below h3⟩)) rfl rfl rfl rfl (fun zmax hmx => ?_)
        refine s_y (y_leq rfl rfl) rfl rfl rfl rfl ?_
        refine s_y (y_pick_t rfl rfl) rfl rfl rfl rfl ?_
        refine s_y (y_assign rfl) rfl rfl rfl rfl ?_
        refine s_nil ?_
        refine g_then ?_
        refine g_ret ?_
        rw [show partB xs = decide (zmax ≤ 20) from by rw [Bool.eq_iff_iff, partB_true, decide_eq_true_iff]; exact ⟨fun h => (h.2 _ hmx.1).2, fun h => ⟨by omega, fun x hx => ⟨by have := hmn.2 x hx; omega, by have := hmx.2 x hx; omega⟩⟩⟩]
        exact g_end trivial (fun a w ha hq_ => res1 ha rfl rfl  w) (fun w h => ⟨rfl, h.below⟩)
      · (try simp at cq3)
        refine s_no rfl rfl rfl ?_
        refine s_no rfl rfl rfl ?_
        refine s_no rfl rfl rfl ?_
        refine s_y (y_pick_f rfl rfl) rfl rfl rfl rfl ?_
        refine s_y (y_assign rfl) rfl rfl rfl rfl ?_
        refine s_nil ?_
        refine g_then ?_
        refine g_ret ?_
        rw [show partB xs = false from Bool.eq_false_iff.2 (fun hc => by obtain ⟨⟨h1, h2⟩, h3⟩ := partB_true.1 hc; first | omega | (have := h3 _ hmn.1; omega))]
        exact g_end trivial (fun a w ha hq_ => res1 ha rfl rfl  w) (fun w h => ⟨rfl, h.below⟩)
    · (try simp at cq2)
      refine s_no rfl rfl rfl ?_
      refine s_no rfl rfl rfl ?_
      refine s_no rfl rfl rfl ?_
      refine s_y (y_pick_f rfl rfl) rfl rfl rfl rfl ?_
      refine s_y (y_move rfl) rfl rfl rfl rfl ?_
      refine s_no rfl rfl rfl ?_
      refine s_no rfl rfl rfl ?_
      refine s_no rfl rfl rfl ?_
      refine s_y (y_pick_f rfl rfl) rfl rfl rfl rfl ?_
      refine s_y (y_assign rfl) rfl rfl rfl rfl ?_
      refine s_nil ?_
      refine g_then ?_
      refine g_ret ?_
      rw [show partB xs = false from Bool.eq_false_iff.2 (fun hc => by obtain ⟨⟨h1, h2⟩, h3⟩ := partB_true.1 hc; first | omega | (have := h3 _ hmn.1; omega))]
      exact g_end trivial (fun a w ha hq_ => res1 ha rfl rfl  w) (fun w h => ⟨rfl, h.below⟩)
  · (try simp at cq1)
    refine s_no rfl rfl rfl ?_
    refine s_no rfl rfl rfl ?_
    refine s_no rfl rfl rfl ?_
    refine s_y (y_pick_f rfl rfl) rfl rfl rfl rfl ?_
    refine s_y (y_move rfl) rfl rfl rfl rfl ?_
    refine s_no rfl rfl rfl ?_
    refine s_no rfl rfl rfl ?_
    refine s_no rfl rfl rfl ?_
    refine s_y (y_pick_f rfl rfl) rfl rfl rfl rfl ?_
    refine s_y (y_move rfl) rfl rfl rfl rfl ?_
    refine s_no rfl rfl rfl ?_
    refine s_no rfl rfl rfl ?_
    refine s_no rfl rfl rfl ?_
    refine s_y (y_pick_f rfl rfl) rfl rfl rfl rfl ?_
    refine s_y (y_assign rfl) rfl rfl rfl rfl ?_
    refine s_nil ?_
    refine g_then ?_
    refine g_ret ?_
    rw [show partB xs = false from Bool.eq_false_iff.2 (fun hc => by obtain ⟨⟨h1, h2⟩, h3⟩ := partB_true.1 hc; first | omega | (have := h3 _ hmn.1; omega))]
    exact g_end trivial (fun a w ha hq_ => res1 ha rfl rfl  w) (fun w h => ⟨rfl, h.below⟩)

theorem Notes_any (w : World) (v : Value) (xs : List Int) (hv : RdV (Value.int .i64) w v xs) (hl : xs.length ≤ 9223372036854775807) :
    Calls Try.prog 37 [v].toArray w fun e w' => e = .returned (.bool (notesB xs)) ∧ Below w.heap.size w w' := by
  refine enter (N := 21) Try.func37 rfl rfl rfl ?_
  refine g_seq ?_
  refine g_region ?_
  refine s_y (y_assign rfl) rfl rfl rfl rfl ?_
  refine s_nil ?_
  refine g_then ?_
  refine g_seq ?_
  refine g_seq ?_
  refine g_region ?_
  refine s_y (y_move rfl) rfl rfl rfl rfl ?_
  refine s_y (y_lenV (n := xs.length) rfl (by obtain ⟨A, c, h1, _⟩ := hv; exact ⟨A, c, h1⟩) sle_22) rfl rfl rfl rfl ?_
  refine s_y (y_move rfl) rfl rfl rfl rfl ?_
  refine s_nil ?_
  refine g_then ?_
  refine g_block ?_
  refine g_loop (fun (i : Nat) act W => i ≤ xs.length ∧ ∃ (w1 : World), (∀ k : Nat, k < i → 0 ≤ rdI xs (k : Int) ∧ rdI xs (k : Int) ≤ 20) ∧ Has 21 [] [(0, v), (5, v), (6, .int .i64 (xs.length : Nat)), (7, .int .i64 (i : Int))] act ∧ Hp w w1 ([]) W) (fun i => xs.length - i) 0 (fun act W ha hw => ⟨by omega, W, (by intro k hk; omega), ha.weak (sub_get ⟨rfl, rfl, rfl, rfl, trivial⟩), hw.toHq.lookSub (List.Sublist.refl _)⟩) ?_
  intro i act W ⟨hb_i, w1, hall, ha, hw⟩
  refine g_go ha hw ?_
  clear ha hw act W
  refine g_seq ?_
  refine g_region ?_
  refine s_y (y_lss rfl rfl) rfl rfl rfl rfl ?_
  refine s_nil ?_
  refine g_then ?_
  refine g_seq ?_
  refine g_cond rfl (fun cq1 => ?_) (fun cq1 => ?_)
  · (try simp at cq1)
    refine g_skip ?_
    refine g_then ?_
    refine g_seq ?_
    refine g_block ?_
    refine g_seq ?_
    refine g_region ?_
    refine s_y (y_idxV (enc := (Value.int .i64)) rfl rfl hv Try.underlying22 size_3 (by omega) (by omega)) rfl rfl rfl rfl ?_
    refine s_y (y_ldV (enc := (Value.int .i64)) (xs := xs) (fun w h => hv.rdl.below h.below) rfl agg_3 (rdI_at (by omega) (by omega))) rfl rfl rfl rfl ?_
    refine s_y (y_assign rfl) rfl rfl rfl rfl ?_
    refine s_nil ?_
    refine g_then ?_
    refine g_seq ?_
    refine g_region ?_
    refine s_y (y_move rfl) rfl rfl rfl rfl ?_
    refine s_y (y_lss rfl rfl) rfl rfl rfl rfl ?_
    refine s_y (y_move rfl) rfl rfl rfl rfl ?_
    refine g_bool 13 rfl (fun cq2 => ?_) (fun cq2 => ?_)
    · (try simp at cq2)
      refine s_no rfl rfl rfl ?_
      refine s_no rfl rfl rfl ?_
      refine s_y (y_pick_t rfl rfl) rfl rfl rfl rfl ?_
      refine s_nil ?_
      refine g_then ?_
      refine g_cond_t rfl ?_
      refine g_seq ?_
      refine g_region ?_
      refine s_y (y_assign rfl) rfl rfl rfl rfl ?_
      refine s_nil ?_
      refine g_then ?_
      refine g_ret ?_
      refine g_inbr ?_
      refine g_thenr ?_
      refine g_thenr ?_
      refine g_inbr ?_
      refine g_thenr ?_
      rw [show notesB xs = false from notes_not (i := i) (by omega) (by omega)]
      exact g_end trivial (fun a w ha hq_ => res1 ha rfl rfl  w) (fun w h => ⟨rfl, h.below⟩)
    · (try simp at cq2)
      refine s_y (y_move rfl) rfl rfl rfl rfl ?_
      refine s_y (y_gtr rfl rfl) rfl rfl rfl rfl ?_
      refine s_y (y_pick_f rfl rfl) rfl rfl rfl rfl ?_
      refine s_nil ?_
      refine g_then ?_
      refine g_cond rfl (fun cq3 => ?_) (fun cq3 => ?_)
      · (try simp at cq3)
        refine g_seq ?_
        refine g_region ?_
        refine s_y (y_assign rfl) rfl rfl rfl rfl ?_
        refine s_nil ?_
        refine g_then ?_
        refine g_ret ?_
        refine g_inbr ?_
        refine g_thenr ?_
        refine g_thenr ?_
        refine g_inbr ?_
        refine g_thenr ?_
        rw [show notesB xs = false from notes_not (i := i) (by omega) (by omega)]
        exact g_end trivial (fun a w ha hq_ => res1 ha rfl rfl  w) (fun w h => ⟨rfl, h.below⟩)
      · (try simp at cq3)
        refine g_skip ?_
        refine g_inb ?_
        refine g_then ?_
        refine g_region ?_
        refine s_y (y_add rfl rfl (by omega) (by omega)) rfl rfl rfl rfl ?_
        refine s_y (y_move rfl) rfl rfl rfl rfl ?_
        refine s_nil ?_
        refine g_then ?_
        exact fun act W ha hw => ⟨i + 1, by omega, by omega, W, (by intro k hk; rcases Nat.lt_or_ge k i with c | c; exact hall k c; rw [show k = i by omega]; omega), ha.weak (sub_get ⟨rfl, rfl, rfl, rfl, trivial⟩), hw.toHq.lookSub (List.Sublist.refl _)⟩
  · (try simp at cq1)
    refine g_exit ?_
    refine g_thenx ?_
    refine g_thenx ?_
    refine g_inbx ?_
    refine g_then ?_
    refine g_seq ?_
    refine g_region ?_
    refine s_y (y_move rfl) rfl rfl rfl rfl ?_
    refine s_y (y_lenV (n := xs.length) rfl (by obtain ⟨A, c, h1, _⟩ := hv; exact ⟨A, c, h1⟩) sle_22) rfl rfl rfl rfl ?_
    refine s_y (y_leq rfl rfl) rfl rfl rfl rfl ?_
    refine s_y (y_assign rfl) rfl rfl rfl rfl ?_
    refine s_nil ?_
    refine g_then ?_
    refine g_ret ?_
    rw [show notesB xs = decide (((xs.length : Nat) : Int) ≤ 8) from by rw [Bool.eq_iff_iff, notesB_true, decide_eq_true_iff]; exact ⟨fun h => by omega, fun h => ⟨by omega, notes_of fun k hk => hall k (by omega)⟩⟩]
    exact g_end trivial (fun a w ha hq_ => res1 ha rfl rfl  w) (fun w h => ⟨rfl, h.below⟩)

theorem Part_any (w : World) (v : Value) (xs : List Int) (hv : RdV (Value.int .i64) w v xs) (hl : xs.length ≤ 9223372036854775807) :
    Calls Try.prog 18 [v].toArray w fun e w' => e = .returned (.bool (partB xs)) ∧ Below w.heap.size w w' := by
  refine enter (N := 10) Try.func18 rfl rfl rfl ?_
  refine g_seq ?_
  refine g_region ?_
  refine s_y (y_assign rfl) rfl rfl rfl rfl ?_
  refine s_nil ?_
  refine g_then ?_
  refine g_seq ?_
  refine g_region ?_
  refine s_y (y_move rfl) rfl rfl rfl rfl ?_
  refine s_tr (t_call rfl rfl ent_37 (fun w h => Notes_any w v xs (hv.below h.below) hl)) rfl rfl rfl rfl (fun _ _ => ?_)
  refine s_y (y_move rfl) rfl rfl rfl rfl ?_
  refine g_bool 5 rfl (fun cq1 => ?_) (fun cq1 => ?_)
  · (try simp at cq1)
    have hn : notesB xs = true := by simpa using cq1
    refine s_y (y_move rfl) rfl rfl rfl rfl ?_
    refine s_y (y_lenV (n := xs.length) rfl (by obtain ⟨A, c, h1, _⟩ := hv; exact ⟨A, c, h1⟩) sle_22) rfl rfl rfl rfl ?_
    refine s_y (y_gtr rfl rfl) rfl rfl rfl rfl ?_
    refine s_y (y_pick_t rfl rfl) rfl rfl rfl rfl ?_
    refine s_y (y_assign rfl) rfl rfl rfl rfl ?_
    refine s_nil ?_
    refine g_then ?_
    refine g_ret ?_
    rw [show partB xs = decide (((xs.length : Nat) : Int) > 0) from by unfold partB; rw [hn]; first | rfl | (simp only [Bool.true_and]; exact decide_eq_decide.2 (by omega))]
    exact g_end trivial (fun a w ha hq_ => res1 ha rfl rfl  w) (fun w h => ⟨rfl, h.below⟩)
  · (try simp at cq1)
    have hn : notesB xs = false := by simpa using cq1
    refine s_no rfl rfl rfl ?_
    refine s_no rfl rfl rfl ?_
    refine s_no rfl rfl rfl ?_
    refine s_y (y_pick_f rfl rfl) rfl rfl rfl rfl ?_
    refine s_y (y_assign rfl) rfl rfl rfl rfl ?_
    refine s_nil ?_
    refine g_then ?_
    refine g_ret ?_
    rw [show partB xs = false from by unfold partB; rw [hn]; first | rfl | (simp only [Bool.true_and]; exact decide_eq_decide.2 (by omega))]
    exact g_end trivial (fun a w ha hq_ => res1 ha rfl rfl  w) (fun w h => ⟨rfl, h.below⟩)

def pairB (g s : List Int) : Bool := partB g && (partB s && decide (g.length = s.length))

theorem pair_any (w : World) (v v' : Value) (xs ys : List Int) (hv : RdV (Value.int .i64) w v xs) (hv' : RdV (Value.int .i64) w v' ys) (hl : xs.length ≤ 9223372036854775807) (hl' : ys.length ≤ 9223372036854775807) :
    Calls Try.prog 22 [v, v'].toArray w fun e w' => e = .returned (.bool (pairB xs ys)) ∧ Below w.heap.size w w' := by
  refine enter (N := 18) Try.func22 rfl rfl rfl ?_
  refine g_seq ?_
  refine g_region ?_
  refine s_y (y_assign rfl) rfl rfl rfl rfl ?_
  refine s_nil ?_
  refine g_then ?_
  refine g_seq ?_
  refine g_region ?_
  refine s_y (y_move rfl) rfl rfl rfl rfl ?_
  refine s_tr (t_call rfl rfl ent_18 (fun w h => Part_any w _ xs (hv.below h.below) hl)) rfl rfl rfl rfl (fun _ _ => ?_)
  refine s_y (y_move rfl) rfl rfl rfl rfl ?_
  refine g_bool 7 rfl (fun cq1 => ?_) (fun cq1 => ?_)
  · (try simp at cq1)
    have hn : partB xs = true := by simpa using cq1
    refine s_y (y_move rfl) rfl rfl rfl rfl ?_
    refine s_tr (t_call rfl rfl ent_18 (fun w h => Part_any w _ ys (hv'.below h.below) hl')) rfl rfl rfl rfl (fun _ _ => ?_)
    refine s_y (y_pick_t rfl rfl) rfl rfl rfl rfl ?_
    refine s_y (y_move rfl) rfl rfl rfl rfl ?_
    refine g_bool 11 rfl (fun cq2 => ?_) (fun cq2 => ?_)
    · (try simp at cq2)
      have hn2 : partB ys = true := by simpa using cq2
      refine s_y (y_move rfl) rfl rfl rfl rfl ?_
      refine s_y (y_lenV (n := xs.length) rfl (by obtain ⟨A, c, h1, _⟩ := hv; exact ⟨A, c, h1⟩) sle_22) rfl rfl rfl rfl ?_
      refine s_y (y_move rfl) rfl rfl rfl rfl ?_
      refine s_y (y_lenV (n := ys.length) rfl (by obtain ⟨A, c, h1, _⟩ := hv'; exact ⟨A, c, h1⟩) sle_22) rfl rfl rfl rfl ?_
      refine s_y (y_eql rfl rfl) rfl rfl rfl rfl ?_
      refine s_y (y_pick_t rfl rfl) rfl rfl rfl rfl ?_
      refine s_y (y_assign rfl) rfl rfl rfl rfl ?_
      refine s_nil ?_
      refine g_then ?_
      refine g_ret ?_
      rw [show pairB xs ys = decide (((xs.length : Nat) : Int) = ((ys.length : Nat) : Int)) from by unfold pairB; first | (rw [hn]; rfl) | (rcases hn2 with h_ | h_ <;> simp [h_]) | (rw [hn, hn2]; simp only [Bool.true_and]; exact decide_eq_decide.2 (by omega))]
      exact g_end trivial (fun a w ha hq_ => res1 ha rfl rfl  w) (fun w h => ⟨rfl, h.below⟩)
    · (try simp at cq2)
      have hn2 : partB xs = false ∨ partB ys = false := by first | exact .inl hn | exact .inr (by simpa using cq2)
      refine s_no rfl rfl rfl ?_
      refine s_no rfl rfl rfl ?_
      refine s_no rfl rfl rfl ?_
      refine s_no rfl rfl rfl ?_
      refine s_no rfl rfl rfl ?_
      refine s_y (y_pick_f rfl rfl) rfl rfl rfl rfl ?_
      refine s_y (y_assign rfl) rfl rfl rfl rfl ?_
      refine s_nil ?_
      refine g_then ?_
      refine g_ret ?_
      rw [show pairB xs ys = false from by unfold pairB; first | (rw [hn]; rfl) | (rcases hn2 with h_ | h_ <;> simp [h_]) | (rw [hn, hn2]; simp only [Bool.true_and]; exact decide_eq_decide.2 (by omega))]
      exact g_end trivial (fun a w ha hq_ => res1 ha rfl rfl  w) (fun w h => ⟨rfl, h.below⟩)
  · (try simp at cq1)
    have hn : partB xs = false := by simpa using cq1
    refine s_no rfl rfl rfl ?_
    refine s_no rfl rfl rfl ?_
    refine s_y (y_pick_f rfl rfl) rfl rfl rfl rfl ?_
    refine s_y (y_move rfl) rfl rfl rfl rfl ?_
    refine s_no rfl rfl rfl ?_
    refine s_no rfl rfl rfl ?_
    refine s_no rfl rfl rfl ?_
    refine s_no rfl rfl rfl ?_
    refine s_no rfl rfl rfl ?_
    refine s_y (y_pick_f rfl rfl) rfl rfl rfl rfl ?_
    refine s_y (y_assign rfl) rfl rfl rfl rfl ?_
    refine s_nil ?_
    refine g_then ?_
    refine g_ret ?_
    rw [show pairB xs ys = false from by unfold pairB; first | (rw [hn]; rfl) | (rcases hn2 with h_ | h_ <;> simp [h_]) | (rw [hn, hn2]; simp only [Bool.true_and]; exact decide_eq_decide.2 (by omega))]
    exact g_end trivial (fun a w ha hq_ => res1 ha rfl rfl  w) (fun w h => ⟨rfl, h.below⟩)

end Go.Proofs.Ytolalckejnijkaa
