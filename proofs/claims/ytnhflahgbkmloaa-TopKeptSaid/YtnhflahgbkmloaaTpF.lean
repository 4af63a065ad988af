/- top: voices' small functions, price, valid; Size; chords' Common, Move; tones. -/
import Derived.Test.YtnhflahgbkmloaaTpD
import Derived.Test.YtnhflahgbkmloaaTpKept
namespace Go.Proofs.Ytnhflahgbkmloaa
open Go.RowKit Go.Sx Go.Wh Go.Dft
set_option linter.unusedVariables false
set_option linter.unusedSimpArgs false
set_option maxRecDepth 100000
set_option maxHeartbeats 4000000

private theorem sle_27 : Try.prog.underlying 27 = some (.slice (Try.prog.elem 27)) := by kernel_rfl
private theorem inf_3 : ∃ ie, Try.prog.info? 3 = some ie ∧ ie.zero = some (.int .i64 0) ∧ ie.size = 1 ∧ ie.bytes = 8 := info_of (by kernel_rfl) (by kernel_rfl)
private theorem size_3 : (Try.prog.info? 3).map (·.size) = some 1 := by kernel_rfl
private theorem agg_3 : isAggB Try.prog 3 = some false := by kernel_rfl
private theorem ent_99 : Enters Try.prog 99 := enters_of Try.func99 (by kernel_rfl) rfl
private theorem ent_96 : Enters Try.prog 96 := enters_of Try.func96 (by kernel_rfl) rfl
private theorem ent_95 : Enters Try.prog 95 := enters_of Try.func95 (by kernel_rfl) rfl
private theorem ent_90 : Enters Try.prog 90 := enters_of Try.func90 (by kernel_rfl) rfl
private theorem sle_75 : Try.prog.underlying 75 = some (.slice (Try.prog.elem 75)) := by kernel_rfl
private theorem size_27 : (Try.prog.info? 27).map (·.size) = some 1 := by kernel_rfl
private theorem agg_27 : isAggB Try.prog 27 = some false := by kernel_rfl
private theorem ent_66 : Enters Try.prog 66 := enters_of Try.func66 (by kernel_rfl) rfl
private theorem ent_67 : Enters Try.prog 67 := enters_of Try.func67 (by kernel_rfl) rfl
private theorem ent_36 : Enters Try.prog 36 := enters_of Try.func36 (by kernel_rfl) rfl
private theorem ent_47 : Enters Try.prog 47 := enters_of Try.func47 (by kernel_rfl) rfl
private theorem ent_46 : Enters Try.prog 46 := enters_of Try.func46 (by kernel_rfl) rfl
private theorem agg_53 : isAggB Try.prog 53 = some false := by kernel_rfl
private theorem ent_60 : Enters Try.prog 60 := enters_of Try.func60 (by kernel_rfl) rfl
private theorem ent_59 : Enters Try.prog 59 := enters_of Try.func59 (by kernel_rfl) rfl

theorem Clone_nil (w : World) (n c : Nat) :
    Calls Try.prog 20 [.slice none n c].toArray w fun e w' => ∃ x : Value × List (Nat × Obj), (OwnV (Value.int .i64) x.1 ([] : List Int) x.2 ∧ ∃ W : World, ∀ p ∈ x.2, W.heap[p.1]? = some p.2) ∧ e = .returned (x.1) ∧ Hq w w x.2 w' := by
  refine enter (N := 8) Try.func20 rfl rfl rfl ?_
  refine g_seq ?_
  refine g_region ?_
  refine s_y (y_assign rfl) rfl rfl rfl rfl ?_
  refine s_nil ?_
  refine g_then ?_
  refine g_seq ?_
  refine g_seq ?_
  refine g_region ?_
  refine s_y (y_move rfl) rfl rfl rfl rfl ?_
  refine s_y (y_eqnil rfl rfl sle_27 (fun w => by kernel_rfl)) rfl rfl rfl rfl ?_
  refine s_nil ?_
  refine g_then ?_
  refine g_cond_t rfl ?_
  refine g_seq ?_
  refine g_region ?_
  refine s_y (y_assign rfl) rfl rfl rfl rfl ?_
  refine s_nil ?_
  refine g_then ?_
  refine g_ret ?_
  refine g_thenr ?_
  exact g_end trivial (fun a w ha hq_ => res1 ha rfl rfl  w) (fun w h => ⟨(_, []), ⟨OwnV.nil, w, (h.hand (List.nil_sublist _)).at_⟩, rfl, h.hand (List.nil_sublist _)⟩)

theorem Clone_some (w : World) (a : Addr) (n c : Nat) (xs : List Int) (hv : RdV (Value.int .i64) w (.slice (some a) n c) xs) (hl : xs.length ≤ 1000000) :
    Calls Try.prog 20 [.slice (some a) n c].toArray w fun e w' => ∃ x : Value × List (Nat × Obj), (OwnV (Value.int .i64) x.1 xs x.2 ∧ ∃ W : World, ∀ p ∈ x.2, W.heap[p.1]? = some p.2) ∧ e = .returned (x.1) ∧ Hq w w x.2 w' := by
  obtain ⟨ie3, hi3⟩ := inf_3
  refine enter (N := 8) Try.func20 rfl rfl rfl ?_
  refine g_seq ?_
  refine g_region ?_
  refine s_y (y_assign rfl) rfl rfl rfl rfl ?_
  refine s_nil ?_
  refine g_then ?_
  refine g_seq ?_
  refine g_seq ?_
  refine g_region ?_
  refine s_y (y_move rfl) rfl rfl rfl rfl ?_
  refine s_y (y_eqnil rfl rfl sle_27 (fun w => by kernel_rfl)) rfl rfl rfl rfl ?_
  refine s_nil ?_
  refine g_then ?_
  refine g_cond_f rfl ?_
  refine g_skip ?_
  refine g_then ?_
  refine g_seq ?_
  refine g_region ?_
  refine s_tr (t_build0 (enc := (Value.int .i64)) Try.underlying27 hi3.1) rfl rfl rfl rfl (fun be hbe => ?_)
  have hok1 : (SV.own be 0 []).ok 1 0 (List.map (Value.int .i64) []) := ⟨Nat.le_refl _, Nat.zero_le _, rfl, rfl⟩
  refine s_y (y_move rfl) rfl rfl rfl rfl ?_
  refine s_tr (t_appendR0 (enc := (Value.int .i64)) (sv := (SV.own be 0 [])) (xs := []) (ys := xs) (n := 0)  _ rfl rfl rfl hok1 Try.underlying27 hi3.1 hi3.2.1 hi3.2.2.1 hi3.2.2.2 rfl (fun w h => (hv.below h.below)) (fun _ => rfl) (by omega) (by unfold maxLen; omega)) rfl rfl rfl rfl (fun y5 hok4 => ?_)
  obtain ⟨sv2, gs3⟩ := y5
  refine s_y (y_assign rfl) rfl rfl rfl rfl ?_
  refine s_nil ?_
  refine g_then ?_
  refine g_ret ?_
  exact g_end trivial (fun a w ha hq_ => res1 ha rfl rfl  w) (fun w h => ⟨(_, sv2.mem 3 ((([]) ++ xs).map (Value.int .i64))), ⟨(OwnV.sv hok4), w, (h.hand (sub_here (sv2.mem 3 ((([]) ++ xs).map (Value.int .i64))) _)).at_⟩, rfl, h.hand (sub_here (sv2.mem 3 ((([]) ++ xs).map (Value.int .i64))) _)⟩)

theorem Clone_any (w : World) (v : Value) (xs : List Int) (hv : RdV (Value.int .i64) w v xs) (hl : xs.length ≤ 1000000) : Calls Try.prog 20 [v].toArray w fun e w' => ∃ x : Value × List (Nat × Obj), (OwnV (Value.int .i64) x.1 xs x.2 ∧ ∃ W : World, ∀ p ∈ x.2, W.heap[p.1]? = some p.2) ∧ e = .returned (x.1) ∧ Hq w w x.2 w' := by
  obtain ⟨A, c, rfl, hc, hr⟩ := id hv
  cases A with
  | none =>
    have : xs = [] := by
      cases xs with
      | nil => rfl
      | cons x xs => obtain ⟨ad, h, _⟩ := hr 0 x rfl; cases h
    subst this
    exact Clone_nil w _ c
  | some a => exact Clone_some w a _ c xs hv hl

theorem first_take {xs : List Int} (h : 1 ≤ xs.length) : rdI xs 0 ∈ xs.take 1 ∧ xs.take 1 = [rdI xs 0] := by
  have := rdI_take (xs := xs) (k := 0) (by omega)
  rw [List.take_zero, List.nil_append] at this
  exact ⟨by rw [this]; simp, this⟩
theorem take_min {xs : List Int} {i : Nat} {z : Int} (h : i + 1 < xs.length) (hz : z ∈ xs.take (i + 1) ∧ ∀ x ∈ xs.take (i + 1), z ≤ x) :
    (if rdI xs ((i + 1 : Nat) : Int) < z then rdI xs ((i + 1 : Nat) : Int) else z) ∈ xs.take (i + 1 + 1) ∧ ∀ x ∈ xs.take (i + 1 + 1), (if rdI xs ((i + 1 : Nat) : Int) < z then rdI xs ((i + 1 : Nat) : Int) else z) ≤ x := by
  rw [rdI_take h]
  refine ⟨?_, fun x hx => ?_⟩
  · split
    · simp
    · exact List.mem_append_left _ hz.1
  · rcases List.mem_append.1 hx with hx | hx
    · have := hz.2 x hx; split <;> omega
    · rw [List.mem_singleton] at hx; subst hx; split <;> omega
theorem take_max {xs : List Int} {i : Nat} {z : Int} (h : i + 1 < xs.length) (hz : z ∈ xs.take (i + 1) ∧ ∀ x ∈ xs.take (i + 1), x ≤ z) :
    (if rdI xs ((i + 1 : Nat) : Int) > z then rdI xs ((i + 1 : Nat) : Int) else z) ∈ xs.take (i + 1 + 1) ∧ ∀ x ∈ xs.take (i + 1 + 1), x ≤ (if rdI xs ((i + 1 : Nat) : Int) > z then rdI xs ((i + 1 : Nat) : Int) else z) := by
  rw [rdI_take h]
  refine ⟨?_, fun x hx => ?_⟩
  · split
    · simp
    · exact List.mem_append_left _ hz.1
  · rcases List.mem_append.1 hx with hx | hx
    · have := hz.2 x hx; split <;> omega
    · rw [List.mem_singleton] at hx; subst hx; split <;> omega


theorem Min_any (w : World) (v : Value) (xs : List Int) (hv : RdV (Value.int .i64) w v xs) (hl : xs.length ≤ 1000000) (h0 : 1 ≤ xs.length) :
    Calls Try.prog 66 [v].toArray w fun e w' => ∃ z : Int, (z ∈ xs ∧ ∀ x ∈ xs, z ≤ x) ∧ e = .returned (.int .i64 z) ∧ Below w.heap.size w w' := by
  refine enter (N := 25) Try.func66 rfl rfl rfl ?_
  refine g_seq ?_
  refine g_region ?_
  refine s_y (y_assign rfl) rfl rfl rfl rfl ?_
  refine s_nil ?_
  refine g_then ?_
  refine g_seq ?_
  refine g_seq ?_
  refine g_region ?_
  refine s_y (y_move rfl) rfl rfl rfl rfl ?_
  refine s_y (y_lenV (n := xs.length) rfl (by obtain ⟨A, c, h1, _⟩ := hv; exact ⟨A, c, h1⟩) sle_27) rfl rfl rfl rfl ?_
  refine s_y (y_lss_f rfl rfl (by omega)) rfl rfl rfl rfl ?_
  refine s_nil ?_
  refine g_then ?_
  refine g_cond_f rfl ?_
  refine g_skip ?_
  refine g_then ?_
  refine g_seq ?_
  refine g_region ?_
  refine s_y (y_move rfl) rfl rfl rfl rfl ?_
  refine s_y (y_idxV (enc := (Value.int .i64)) rfl rfl hv Try.underlying27 size_3 (by omega) (by omega)) rfl rfl rfl rfl ?_
  refine s_y (y_ldV (enc := (Value.int .i64)) (xs := xs) (fun w h => hv.rdl.below h.below) rfl agg_3 (rdI_at (by omega) (by omega))) rfl rfl rfl rfl ?_
  refine s_y (y_assign rfl) rfl rfl rfl rfl ?_
  refine s_nil ?_
  refine g_then ?_
  refine g_seq ?_
  refine g_seq ?_
  refine g_region ?_
  refine s_y (y_assign rfl) rfl rfl rfl rfl ?_
  refine s_nil ?_
  refine g_then ?_
  refine g_block ?_
  refine g_loop (fun (i : Nat) act W => i + 1 ≤ xs.length ∧ ∃ (z : Int) (w1 : World), (z ∈ xs.take (i + 1) ∧ ∀ x ∈ xs.take (i + 1), z ≤ x) ∧ Has 25 [] [(0, v), (2, .int .i64 0), (3, .int .i64 z), (4, .int .i64 ((i + 1 : Nat) : Int))] act ∧ Hp w w1 ([]) W) (fun i => xs.length - i) 0 (fun act W ha hw => ⟨by omega, rdI xs 0, W, (by obtain ⟨h1, h2⟩ := first_take h0; exact ⟨h1, fun x hx => by rw [h2] at hx; simp at hx; omega⟩), ha.weak (sub_get ⟨rfl, rfl, rfl, rfl, trivial⟩), hw.toHq.lookSub (List.Sublist.refl _)⟩) ?_
  intro i act W ⟨hb_i, z, w1, hz, ha, hw⟩
  refine g_go ha hw ?_
  clear ha hw act W
  refine g_seq ?_
  refine g_seq ?_
  refine g_region ?_
  refine s_y (y_move rfl) rfl rfl rfl rfl ?_
  refine s_y (y_move rfl) rfl rfl rfl rfl ?_
  refine s_y (y_lenV (n := xs.length) rfl (by obtain ⟨A, c, h1, _⟩ := hv; exact ⟨A, c, h1⟩) sle_27) rfl rfl rfl rfl ?_
  refine s_y (y_lss rfl rfl) rfl rfl rfl rfl ?_
  refine s_nil ?_
  refine g_then ?_
  refine g_cond rfl (fun cq1 => ?_) (fun cq1 => ?_)
  · (try simp at cq1)
    refine g_skip ?_
    refine g_then ?_
    refine g_seq ?_
    refine g_block ?_
    refine g_region ?_
    refine s_y (y_move rfl) rfl rfl rfl rfl ?_
    refine s_y (y_move rfl) rfl rfl rfl rfl ?_
    refine s_y (y_move rfl) rfl rfl rfl rfl ?_
    refine s_y (y_idxV (enc := (Value.int .i64)) rfl rfl hv Try.underlying27 size_3 (by omega) (by omega)) rfl rfl rfl rfl ?_
    refine s_y (y_ldV (enc := (Value.int .i64)) (xs := xs) (fun w h => hv.rdl.below h.below) rfl agg_3 (rdI_at (by omega) (by omega))) rfl rfl rfl rfl ?_
    refine s_y (y_min rfl rfl) rfl rfl rfl rfl ?_
    refine s_y (y_assign rfl) rfl rfl rfl rfl ?_
    refine s_nil ?_
    refine g_inb ?_
    refine g_then ?_
    refine g_region ?_
    refine s_y (y_move rfl) rfl rfl rfl rfl ?_
    refine s_y (y_add rfl rfl (by omega) (by omega)) rfl rfl rfl rfl ?_
    refine s_y (y_assign rfl) rfl rfl rfl rfl ?_
    refine s_nil ?_
    refine g_then ?_
    exact fun act W ha hw => ⟨i + 1, by omega, by omega, (if (rdI xs ((i + 1 : Nat) : Int)) < z then (rdI xs ((i + 1 : Nat) : Int)) else z), W, (by exact take_min (by omega) hz), ha.weak (sub_get ⟨rfl, rfl, rfl, rfl, trivial⟩), hw.toHq.lookSub (List.Sublist.refl _)⟩
  · (try simp at cq1)
    refine g_exit ?_
    refine g_thenx ?_
    refine g_thenx ?_
    refine g_inbx ?_
    refine g_then ?_
    refine g_seq ?_
    refine g_region ?_
    refine s_y (y_move rfl) rfl rfl rfl rfl ?_
    refine s_y (y_assign rfl) rfl rfl rfl rfl ?_
    refine s_nil ?_
    refine g_then ?_
    refine g_ret ?_
    have hi1 : i + 1 = xs.length := by omega
    rw [hi1, List.take_length] at hz
    exact g_end trivial (fun a w ha hq_ => res1 ha rfl rfl  w) (fun w h => ⟨_, hz, rfl, h.below⟩)

theorem Max_any (w : World) (v : Value) (xs : List Int) (hv : RdV (Value.int .i64) w v xs) (hl : xs.length ≤ 1000000) (h0 : 1 ≤ xs.length) :
    Calls Try.prog 67 [v].toArray w fun e w' => ∃ z : Int, (z ∈ xs ∧ ∀ x ∈ xs, x ≤ z) ∧ e = .returned (.int .i64 z) ∧ Below w.heap.size w w' := by
  refine enter (N := 25) Try.func67 rfl rfl rfl ?_
  refine g_seq ?_
  refine g_region ?_
  refine s_y (y_assign rfl) rfl rfl rfl rfl ?_
  refine s_nil ?_
  refine g_then ?_
  refine g_seq ?_
  refine g_seq ?_
  refine g_region ?_
  refine s_y (y_move rfl) rfl rfl rfl rfl ?_
  refine s_y (y_lenV (n := xs.length) rfl (by obtain ⟨A, c, h1, _⟩ := hv; exact ⟨A, c, h1⟩) sle_27) rfl rfl rfl rfl ?_
  refine s_y (y_lss_f rfl rfl (by omega)) rfl rfl rfl rfl ?_
  refine s_nil ?_
  refine g_then ?_
  refine g_cond_f rfl ?_
  refine g_skip ?_
  refine g_then ?_
  refine g_seq ?_
  refine g_region ?_
  refine s_y (y_move rfl) rfl rfl rfl rfl ?_
  refine s_y (y_idxV (enc := (Value.int .i64)) rfl rfl hv Try.underlying27 size_3 (by omega) (by omega)) rfl rfl rfl rfl ?_
  refine s_y (y_ldV (enc := (Value.int .i64)) (xs := xs) (fun w h => hv.rdl.below h.below) rfl agg_3 (rdI_at (by omega) (by omega))) rfl rfl rfl rfl ?_
  refine s_y (y_assign rfl) rfl rfl rfl rfl ?_
  refine s_nil ?_
  refine g_then ?_
  refine g_seq ?_
  refine g_seq ?_
  refine g_region ?_
  refine s_y (y_assign rfl) rfl rfl rfl rfl ?_
  refine s_nil ?_
  refine g_then ?_
  refine g_block ?_
  refine g_loop (fun (i : Nat) act W => i + 1 ≤ xs.length ∧ ∃ (z : Int) (w1 : World), (z ∈ xs.take (i + 1) ∧ ∀ x ∈ xs.take (i + 1), x ≤ z) ∧ Has 25 [] [(0, v), (2, .int .i64 0), (3, .int .i64 z), (4, .int .i64 ((i + 1 : Nat) : Int))] act ∧ Hp w w1 ([]) W) (fun i => xs.length - i) 0 (fun act W ha hw => ⟨by omega, rdI xs 0, W, (by obtain ⟨h1, h2⟩ := first_take h0; exact ⟨h1, fun x hx => by rw [h2] at hx; simp at hx; omega⟩), ha.weak (sub_get ⟨rfl, rfl, rfl, rfl, trivial⟩), hw.toHq.lookSub (List.Sublist.refl _)⟩) ?_
  intro i act W ⟨hb_i, z, w1, hz, ha, hw⟩
  refine g_go ha hw ?_
  clear ha hw act W
  refine g_seq ?_
  refine g_seq ?_
  refine g_region ?_
  refine s_y (y_move rfl) rfl rfl rfl rfl ?_
  refine s_y (y_move rfl) rfl rfl rfl rfl ?_
  refine s_y (y_lenV (n := xs.length) rfl (by obtain ⟨A, c, h1, _⟩ := hv; exact ⟨A, c, h1⟩) sle_27) rfl rfl rfl rfl ?_
  refine s_y (y_lss rfl rfl) rfl rfl rfl rfl ?_
  refine s_nil ?_
  refine g_then ?_
  refine g_cond rfl (fun cq1 => ?_) (fun cq1 => ?_)
  · (try simp at cq1)
    refine g_skip ?_
    refine g_then ?_
    refine g_seq ?_
    refine g_block ?_
    refine g_region ?_
    refine s_y (y_move rfl) rfl rfl rfl rfl ?_
    refine s_y (y_move rfl) rfl rfl rfl rfl ?_
    refine s_y (y_move rfl) rfl rfl rfl rfl ?_
    refine s_y (y_idxV (enc := (Value.int .i64)) rfl rfl hv Try.underlying27 size_3 (by omega) (by omega)) rfl rfl rfl rfl ?_
    refine s_y (y_ldV (enc := (Value.int .i64)) (xs := xs) (fun w h => hv.rdl.below h.below) rfl agg_3 (rdI_at (by omega) (by omega))) rfl rfl rfl rfl ?_
    refine s_y (y_max rfl rfl) rfl rfl rfl rfl ?_
    refine s_y (y_assign rfl) rfl rfl rfl rfl ?_
    refine s_nil ?_
    refine g_inb ?_
    refine g_then ?_
    refine g_region ?_
    refine s_y (y_move rfl) rfl rfl rfl rfl ?_
    refine s_y (y_add rfl rfl (by omega) (by omega)) rfl rfl rfl rfl ?_
    refine s_y (y_assign rfl) rfl rfl rfl rfl ?_
    refine s_nil ?_
    refine g_then ?_
    exact fun act W ha hw => ⟨i + 1, by omega, by omega, (if (rdI xs ((i + 1 : Nat) : Int)) > z then (rdI xs ((i + 1 : Nat) : Int)) else z), W, (by exact take_max (by omega) hz), ha.weak (sub_get ⟨rfl, rfl, rfl, rfl, trivial⟩), hw.toHq.lookSub (List.Sublist.refl _)⟩
  · (try simp at cq1)
    refine g_exit ?_
    refine g_thenx ?_
    refine g_thenx ?_
    refine g_inbx ?_
    refine g_then ?_
    refine g_seq ?_
    refine g_region ?_
    refine s_y (y_move rfl) rfl rfl rfl rfl ?_
    refine s_y (y_assign rfl) rfl rfl rfl rfl ?_
    refine s_nil ?_
    refine g_then ?_
    refine g_ret ?_
    have hi1 : i + 1 = xs.length := by omega
    rw [hi1, List.take_length] at hz
    exact g_end trivial (fun a w ha hq_ => res1 ha rfl rfl  w) (fun w h => ⟨_, hz, rfl, h.below⟩)

theorem vmod_any (w : World) (n d : Int) (hn : 2 ≤ n) (hn2 : n ≤ 16) (h1 : -n < d) (h2 : d < n) :
    Calls Try.prog 99 [.int .i64 n, .int .i64 d].toArray w fun e w' => e = .returned (.int .i64 (mdP n d)) ∧ Below w.heap.size w w' := by
  have e1_ : Int.tmod d n = d := by
    rcases Int.lt_or_le d 0 with h | h
    · have h3 : Int.tmod (-d) n = -d := Int.tmod_eq_of_lt (by omega) (by omega)
      rw [Int.neg_tmod] at h3; omega
    · exact Int.tmod_eq_of_lt h h2
  have e2_ : (d + n) % n = mdP n d := by
    unfold mdP
    split
    · exact Int.emod_eq_of_lt (by omega) (by omega)
    · rw [Int.add_emod_right]; exact Int.emod_eq_of_lt (by omega) (by omega)
  refine enter (N := 12) Try.func99 rfl rfl rfl ?_
  refine g_seq ?_
  refine g_region ?_
  refine s_y (y_assign rfl) rfl rfl rfl rfl ?_
  refine s_nil ?_
  refine g_then ?_
  refine g_seq ?_
  refine g_region ?_
  refine s_y (y_move rfl) rfl rfl rfl rfl ?_
  refine s_y (y_move rfl) rfl rfl rfl rfl ?_
  refine s_y (y_remt rfl rfl (by omega)) rfl rfl rfl rfl ?_
  rw [e1_]
  refine s_y (y_move rfl) rfl rfl rfl rfl ?_
  refine s_y (y_add rfl rfl (by omega) (by omega)) rfl rfl rfl rfl ?_
  refine s_y (y_move rfl) rfl rfl rfl rfl ?_
  refine s_y (y_rem rfl rfl (by omega) (by omega)) rfl rfl rfl rfl ?_
  rw [e2_]
  refine s_y (y_assign rfl) rfl rfl rfl rfl ?_
  refine s_nil ?_
  refine g_then ?_
  refine g_ret ?_
  exact g_end trivial (fun a w ha hq_ => res1 ha rfl rfl  w) (fun w h => ⟨rfl, h.below⟩)

theorem movement_any (w : World) (n p q : Int) (hn : 2 ≤ n) (hn2 : n ≤ 16) (hp : 0 ≤ p ∧ p < n) (hq : 0 ≤ q ∧ q < n) :
    Calls Try.prog 96 [.int .i64 n, .int .i64 p, .int .i64 q].toArray w fun e w' => e = .returned (.int .i64 (mvP n p q)) ∧ Below w.heap.size w w' := by
  have hmd : 0 ≤ mdP n (q - p) ∧ mdP n (q - p) < n := by unfold mdP; split <;> omega
  refine enter (N := 21) Try.func96 rfl rfl rfl ?_
  refine g_seq ?_
  refine g_region ?_
  refine s_y (y_assign rfl) rfl rfl rfl rfl ?_
  refine s_nil ?_
  refine g_then ?_
  refine g_seq ?_
  refine g_region ?_
  refine s_y (y_move rfl) rfl rfl rfl rfl ?_
  refine s_y (y_move rfl) rfl rfl rfl rfl ?_
  refine s_y (y_move rfl) rfl rfl rfl rfl ?_
  refine s_y (y_sub rfl rfl (by omega) (by omega)) rfl rfl rfl rfl ?_
  refine s_tr (t_call rfl rfl ent_99 (fun w h => vmod_any w n (q - p) hn hn2 (by omega) (by omega))) rfl rfl rfl rfl (fun _ _ => ?_)
  refine s_y (y_assign rfl) rfl rfl rfl rfl ?_
  refine s_nil ?_
  refine g_then ?_
  refine g_seq ?_
  refine g_seq ?_
  refine g_region ?_
  refine s_y (y_move rfl) rfl rfl rfl rfl ?_
  refine s_y (y_mul rfl rfl (by omega) (by omega)) rfl rfl rfl rfl ?_
  refine s_y (y_move rfl) rfl rfl rfl rfl ?_
  refine s_y (y_gtr rfl rfl) rfl rfl rfl rfl ?_
  refine s_nil ?_
  refine g_then ?_
  refine g_cond rfl (fun cq1 => ?_) (fun cq1 => ?_)
  · (try simp at cq1)
    refine g_region ?_
    refine s_y (y_move rfl) rfl rfl rfl rfl ?_
    refine s_y (y_move rfl) rfl rfl rfl rfl ?_
    refine s_y (y_sub rfl rfl (by omega) (by omega)) rfl rfl rfl rfl ?_
    refine s_y (y_assign rfl) rfl rfl rfl rfl ?_
    refine s_nil ?_
    refine g_then ?_
    refine g_seq ?_
    refine g_region ?_
    refine s_y (y_move rfl) rfl rfl rfl rfl ?_
    refine s_y (y_assign rfl) rfl rfl rfl rfl ?_
    refine s_nil ?_
    refine g_then ?_
    refine g_ret ?_
    rw [show mvP n p q = (mdP n (q - p)) - n from by unfold mvP; first | exact if_pos (by omega) | exact if_neg (by omega)]
    exact g_end trivial (fun a w ha hq_ => res1 ha rfl rfl  w) (fun w h => ⟨rfl, h.below⟩)
  · (try simp at cq1)
    refine g_skip ?_
    refine g_then ?_
    refine g_seq ?_
    refine g_region ?_
    refine s_y (y_move rfl) rfl rfl rfl rfl ?_
    refine s_y (y_assign rfl) rfl rfl rfl rfl ?_
    refine s_nil ?_
    refine g_then ?_
    refine g_ret ?_
    rw [show mvP n p q = mdP n (q - p) from by unfold mvP; first | exact if_pos (by omega) | exact if_neg (by omega)]
    exact g_end trivial (fun a w ha hq_ => res1 ha rfl rfl  w) (fun w h => ⟨rfl, h.below⟩)

theorem abs_any (w : World) (z : Int) (h1 : -100 ≤ z) (h2 : z ≤ 100) :
    Calls Try.prog 95 [.int .i64 z].toArray w fun e w' => e = .returned (.int .i64 (if 0 - z > z then 0 - z else z)) ∧ Below w.heap.size w w' := by
  refine enter (N := 7) Try.func95 rfl rfl rfl ?_
  refine g_seq ?_
  refine g_region ?_
  refine s_y (y_assign rfl) rfl rfl rfl rfl ?_
  refine s_nil ?_
  refine g_then ?_
  refine g_seq ?_
  refine g_region ?_
  refine s_y (y_move rfl) rfl rfl rfl rfl ?_
  refine s_y (y_move rfl) rfl rfl rfl rfl ?_
  refine s_y (y_neg rfl (by omega) (by omega)) rfl rfl rfl rfl ?_
  refine s_y (y_max rfl rfl) rfl rfl rfl rfl ?_
  refine s_y (y_assign rfl) rfl rfl rfl rfl ?_
  refine s_nil ?_
  refine g_then ?_
  refine g_ret ?_
  exact g_end trivial (fun a w ha hq_ => res1 ha rfl rfl  w) (fun w h => ⟨rfl, h.below⟩)

theorem distance_any (w : World) (n p q : Int) (hn : 2 ≤ n) (hn2 : n ≤ 16) (hp : 0 ≤ p ∧ p < n) (hq : 0 ≤ q ∧ q < n) :
    Calls Try.prog 90 [.int .i64 n, .int .i64 p, .int .i64 q].toArray w fun e w' => e = .returned (.int .i64 (dsP n p q)) ∧ Below w.heap.size w w' := by
  have hmv : -100 ≤ mvP n p q ∧ mvP n p q ≤ 100 := by unfold mvP mdP; (repeat' split) <;> omega
  refine enter (N := 12) Try.func90 rfl rfl rfl ?_
  refine g_seq ?_
  refine g_region ?_
  refine s_y (y_assign rfl) rfl rfl rfl rfl ?_
  refine s_nil ?_
  refine g_then ?_
  refine g_seq ?_
  refine g_region ?_
  refine s_y (y_move rfl) rfl rfl rfl rfl ?_
  refine s_y (y_move rfl) rfl rfl rfl rfl ?_
  refine s_y (y_move rfl) rfl rfl rfl rfl ?_
  refine s_tr (t_call rfl rfl ent_96 (fun w h => movement_any w n p q hn hn2 hp hq)) rfl rfl rfl rfl (fun _ _ => ?_)
  refine s_tr (t_call rfl rfl ent_95 (fun w h => abs_any w (mvP n p q) (by omega) (by omega))) rfl rfl rfl rfl (fun _ _ => ?_)
  refine s_y (y_assign rfl) rfl rfl rfl rfl ?_
  refine s_nil ?_
  refine g_then ?_
  refine g_ret ?_
  exact g_end trivial (fun a w ha hq_ => res1 ha rfl rfl  w) (fun w h => ⟨rfl, h.below⟩)

theorem price_any (w : World) (n : Int) (va vx vl : Value) (a x l : List Int) (hva : RdV (Value.int .i64) w va a) (hvx : RdV (Value.int .i64) w vx x) (hvl : RdV (Value.int .i64) w vl l) (hn : 2 ≤ n) (hn2 : n ≤ 16) (hal : a.length ≤ 6) (ha : ∀ y ∈ a, 0 ≤ y ∧ y < n) (hx : ∀ y ∈ x, 0 ≤ y ∧ y < n) (hxl : x.length = a.length) (hl : l.length = a.length) (hle : ∀ y ∈ l, 0 ≤ y ∧ y < a.length) :
    Calls Try.prog 71 [.int .i64 n, va, vx, vl].toArray w fun e w' => e = .returned (.int .i64 (prP n a x l a.length)) ∧ Below w.heap.size w w' := by
  refine enter (N := 33) Try.func71 rfl rfl rfl ?_
  refine g_seq ?_
  refine g_region ?_
  refine s_y (y_assign rfl) rfl rfl rfl rfl ?_
  refine s_nil ?_
  refine g_then ?_
  refine g_seq ?_
  refine g_region ?_
  refine s_y (y_assign rfl) rfl rfl rfl rfl ?_
  refine s_nil ?_
  refine g_then ?_
  refine g_seq ?_
  refine g_seq ?_
  refine g_region ?_
  refine s_y (y_move rfl) rfl rfl rfl rfl ?_
  refine s_y (y_lenV (n := l.length) rfl (by obtain ⟨A, c, h1, _⟩ := hvl; exact ⟨A, c, h1⟩) sle_27) rfl rfl rfl rfl ?_
  refine s_y (y_move rfl) rfl rfl rfl rfl ?_
  refine s_nil ?_
  refine g_then ?_
  refine g_block ?_
  refine g_loop (fun (i : Nat) act W => i ≤ l.length ∧ ∃ (p : Int) (w1 : World), (p = prP n a x l i) ∧ (0 ≤ p ∧ p ≤ 16 * (i : Int)) ∧ Has 33 [] [(0, .int .i64 n), (1, va), (2, vx), (8, .int .i64 0), (9, .int .i64 p), (12, vl), (13, .int .i64 (l.length : Nat)), (14, .int .i64 (i : Int))] act ∧ Hp w w1 ([]) W) (fun i => l.length - i) 0 (fun act W ha hw => ⟨by omega, 0, W, (by rfl), (by omega), ha.weak (sub_get ⟨rfl, rfl, rfl, rfl, rfl, rfl, rfl, rfl, trivial⟩), hw.toHq.lookSub (List.Sublist.refl _)⟩) ?_
  intro i act W ⟨hb_i, p, w1, hp, hpb, ha, hw⟩
  refine g_go ha hw ?_
  clear ha hw act W
  refine g_seq ?_
  refine g_region ?_
  refine s_y (y_lss rfl rfl) rfl rfl rfl rfl ?_
  refine s_nil ?_
  refine g_then ?_
  refine g_seq ?_
  refine g_cond rfl (fun cq1 => ?_) (fun cq1 => ?_)
  · (try simp at cq1)
    refine g_skip ?_
    refine g_then ?_
    refine g_seq ?_
    refine g_block ?_
    refine g_seq ?_
    refine g_region ?_
    refine s_y (y_move rfl) rfl rfl rfl rfl ?_
    refine s_y (y_idxV (enc := (Value.int .i64)) rfl rfl hvl Try.underlying27 size_3 (by omega) (by omega)) rfl rfl rfl rfl ?_
    refine s_y (y_ldV (enc := (Value.int .i64)) (xs := l) (fun w h => hvl.rdl.below h.below) rfl agg_3 (rdI_at (by omega) (by omega))) rfl rfl rfl rfl ?_
    refine s_y (y_assign rfl) rfl rfl rfl rfl ?_
    refine s_y (y_assign rfl) rfl rfl rfl rfl ?_
    refine s_nil ?_
    refine g_then ?_
    have hds := ds_at hn ha hx hxl hl hle (k := i) (by omega)
    have hy0 := hle _ (rdI_mem2 (xs := l) (i := (i : Int)) (by omega) (by omega))
    refine g_draw 13 (by kernel_rfl) ?_
    refine j_p (i := 0) rfl (y_move rfl) (by kernel_rfl) (by kernel_rfl) (by kernel_rfl) rfl rfl rfl rfl rfl (.inr (fun _ h => h)) ?_
    refine j_p (i := 1) rfl (y_move rfl) (by kernel_rfl) (by kernel_rfl) (by kernel_rfl) rfl rfl rfl rfl rfl (.inr (fun _ h => h)) ?_
    refine j_p (i := 2) rfl (y_move rfl) (by kernel_rfl) (by kernel_rfl) (by kernel_rfl) rfl rfl rfl rfl rfl (.inr (fun _ h => h)) ?_
    refine j_p (i := 3) rfl (y_move rfl) (by kernel_rfl) (by kernel_rfl) (by kernel_rfl) rfl rfl rfl rfl rfl (.inr (fun _ h => h)) ?_
    refine j_p (i := 4) rfl (y_idxV (enc := (Value.int .i64)) rfl rfl hva Try.underlying27 size_3 (by omega) (by omega)) (by kernel_rfl) (by kernel_rfl) (by kernel_rfl) rfl rfl rfl rfl rfl (.inr (fun _ h => h)) ?_
    refine j_l (i := 5) rfl (y_ldV (enc := (Value.int .i64)) (xs := a) (fun w h => hva.rdl.below h.below) rfl agg_3 (rdI_at (by omega) (by omega))) (by kernel_rfl) (by kernel_rfl) (by kernel_rfl) (by kernel_rfl) rfl rfl rfl rfl rfl (.inr (fun _ h => h)) ?_
    refine j_p (i := 6) rfl (y_move rfl) (by kernel_rfl) (by kernel_rfl) (by kernel_rfl) rfl rfl rfl rfl rfl (.inr (fun _ h => h)) ?_
    refine j_p (i := 7) rfl (y_move rfl) (by kernel_rfl) (by kernel_rfl) (by kernel_rfl) rfl rfl rfl rfl rfl (.inr (fun _ h => h)) ?_
    refine j_p (i := 8) rfl (y_idxV (enc := (Value.int .i64)) rfl rfl hvx Try.underlying27 size_3 (by omega) (by omega)) (by kernel_rfl) (by kernel_rfl) (by kernel_rfl) rfl rfl rfl rfl rfl (.inr (fun _ h => h)) ?_
    refine j_l (i := 9) rfl (y_ldV (enc := (Value.int .i64)) (xs := x) (fun w h => hvx.rdl.below h.below) rfl agg_3 (rdI_at (by omega) (by omega))) (by kernel_rfl) (by kernel_rfl) (by kernel_rfl) (by kernel_rfl) rfl rfl rfl rfl rfl (.inr (fun _ h => h)) ?_
    refine j_tr (i := 10) rfl (t_call rfl rfl ent_90 (fun w h => distance_any w n _ _ hn hn2 (ha _ (rdI_mem2 (by omega) (by omega))) (hx _ (rdI_mem2 hy0.1 (by omega))))) (by kernel_rfl) rfl rfl rfl rfl (.inr (fun x w hb h => h)) (fun _ _ => ?_)
    refine j_p (i := 11) rfl (y_add rfl rfl (by omega) (by omega)) (by kernel_rfl) (by kernel_rfl) (by kernel_rfl) rfl rfl rfl rfl rfl (.inr (fun _ h => h)) ?_
    refine j_p (i := 12) rfl (y_assign rfl) (by kernel_rfl) (by kernel_rfl) (by kernel_rfl) rfl rfl rfl rfl rfl (.inr (fun _ h => h)) ?_
    refine j_nil (by kernel_rfl) ?_
    refine g_inb ?_
    refine g_then ?_
    refine g_region ?_
    refine s_y (y_add rfl rfl (by omega) (by omega)) rfl rfl rfl rfl ?_
    refine s_y (y_move rfl) rfl rfl rfl rfl ?_
    refine s_nil ?_
    refine g_then ?_
    exact fun act W ha hw => ⟨i + 1, by omega, by omega, (p + (dsP n (rdI a (i : Int)) (rdI x (rdI l (i : Int))))), W, (by rw [hp]; rfl), (by omega), ha.weak (sub_get ⟨rfl, rfl, rfl, rfl, rfl, rfl, rfl, rfl, trivial⟩), hw.toHq.lookSub (List.Sublist.refl _)⟩
  · (try simp at cq1)
    refine g_exit ?_
    refine g_thenx ?_
    refine g_thenx ?_
    refine g_inbx ?_
    refine g_then ?_
    refine g_seq ?_
    refine g_region ?_
    refine s_y (y_move rfl) rfl rfl rfl rfl ?_
    refine s_y (y_assign rfl) rfl rfl rfl rfl ?_
    refine s_nil ?_
    refine g_then ?_
    refine g_ret ?_
    rw [show prP n a x l a.length = p from by rw [hp, show i = a.length by omega]]
    exact g_end trivial (fun a w ha hq_ => res1 ha rfl rfl  w) (fun w h => ⟨rfl, h.below⟩)

theorem vvalid_t (w : World) (n : Int) (vv : Value) (vs : List Value) (k : Nat) (hvv : RdV encV w vv vs) (hvs : vs.length ≤ 100) (h0 : 1 ≤ vs.length) (hn : 2 ≤ n) (hn2 : n ≤ 16) (hk : 1 ≤ k) (hk2 : k ≤ 6) (hrow : ∀ j : Nat, j < vs.length → ∃ ys : List Int, RdV (Value.int .i64) w (rdVal vs (j : Int)) ys ∧ ys.length = k ∧ ∀ y ∈ ys, 0 ≤ y ∧ y < n) :
    Calls Try.prog 48 [.int .i64 n, vv].toArray w fun e w' => e = .returned (.bool (true)) ∧ Below w.heap.size w w' := by
  refine enter (N := 48) Try.func48 rfl rfl rfl ?_
  refine g_seq ?_
  refine g_region ?_
  refine s_y (y_assign rfl) rfl rfl rfl rfl ?_
  refine s_nil ?_
  refine g_then ?_
  refine g_seq ?_
  refine g_seq ?_
  refine g_region ?_
  refine s_y (y_move rfl) rfl rfl rfl rfl ?_
  refine s_y (y_lss_f rfl rfl (by omega)) rfl rfl rfl rfl ?_
  refine s_y (y_move rfl) rfl rfl rfl rfl ?_
  refine s_y (y_move rfl) rfl rfl rfl rfl ?_
  refine s_y (y_gtr_f rfl rfl (by omega)) rfl rfl rfl rfl ?_
  refine s_y (y_pick_f rfl rfl) rfl rfl rfl rfl ?_
  refine s_nil ?_
  refine g_then ?_
  refine g_cond_f rfl ?_
  refine g_skip ?_
  refine g_then ?_
  refine g_seq ?_
  refine g_seq ?_
  refine g_region ?_
  refine s_y (y_move rfl) rfl rfl rfl rfl ?_
  refine s_y (y_lenV (n := vs.length) rfl (by obtain ⟨A, c, h1, _⟩ := hvv; exact ⟨A, c, h1⟩) sle_75) rfl rfl rfl rfl ?_
  refine s_y (y_move rfl) rfl rfl rfl rfl ?_
  refine s_nil ?_
  refine g_then ?_
  refine g_block ?_
  refine g_loop (fun (i : Nat) act W => i ≤ vs.length ∧ ∃ (w1 : World), Has 48 [] [(0, .int .i64 n), (1, vv), (13, vv), (14, .int .i64 (vs.length : Nat)), (15, .int .i64 (i : Int))] act ∧ Hp w w1 ([]) W) (fun i => vs.length - i) 0 (fun act W ha hw => ⟨by omega, W, ha.weak (sub_get ⟨rfl, rfl, rfl, rfl, rfl, trivial⟩), hw.toHq.lookSub (List.Sublist.refl _)⟩) ?_
  intro i act W ⟨hb_i, w1, ha, hw⟩
  refine g_go ha hw ?_
  clear ha hw act W
  refine g_seq ?_
  refine g_region ?_
  refine s_y (y_lss rfl rfl) rfl rfl rfl rfl ?_
  refine s_nil ?_
  refine g_then ?_
  refine g_seq ?_
  refine g_cond rfl (fun cq1 => ?_) (fun cq1 => ?_)
  · (try simp at cq1)
    refine g_skip ?_
    refine g_then ?_
    refine g_seq ?_
    refine g_block ?_
    refine g_seq ?_
    refine g_region ?_
    refine s_y (y_idxV (enc := encV) rfl rfl hvv Try.underlying75 size_27 (by omega) (by omega)) rfl rfl rfl rfl ?_
    refine s_y (y_ldV (enc := encV) (xs := vs) (fun w h => hvv.rdl.below h.below) rfl agg_27 (rdVal_at (by omega) (by omega))) rfl rfl rfl rfl ?_
    obtain ⟨ys, hvys, hlys, hrys⟩ := hrow i (by omega)
    refine s_y (y_assign rfl) rfl rfl rfl rfl ?_
    refine s_nil ?_
    refine g_then ?_
    refine g_seq ?_
    refine g_region ?_
    refine s_y (y_move rfl) rfl rfl rfl rfl ?_
    refine s_y (y_lenV (n := ys.length) rfl (by obtain ⟨A, c, h1, _⟩ := hvys; exact ⟨A, c, h1⟩) sle_27) rfl rfl rfl rfl ?_
    refine s_y (y_lss_f rfl rfl (by omega)) rfl rfl rfl rfl ?_
    refine s_y (y_move rfl) rfl rfl rfl rfl ?_
    refine s_y (y_move rfl) rfl rfl rfl rfl ?_
    refine s_y (y_lenV (n := ys.length) rfl (by obtain ⟨A, c, h1, _⟩ := hvys; exact ⟨A, c, h1⟩) sle_27) rfl rfl rfl rfl ?_
    refine s_y (y_gtr_f rfl rfl (by omega)) rfl rfl rfl rfl ?_
    refine s_y (y_pick_f rfl rfl) rfl rfl rfl rfl ?_
    refine s_y (y_move rfl) rfl rfl rfl rfl ?_
    refine s_y (y_move rfl) rfl rfl rfl rfl ?_
    refine s_y (y_lenV (n := ys.length) rfl (by obtain ⟨A, c, h1, _⟩ := hvys; exact ⟨A, c, h1⟩) sle_27) rfl rfl rfl rfl ?_
    refine s_y (y_move rfl) rfl rfl rfl rfl ?_
    refine s_y (y_idxV (enc := encV) rfl rfl hvv Try.underlying75 size_27 (by omega) (by omega)) rfl rfl rfl rfl ?_
    refine s_y (y_ldV (enc := encV) (xs := vs) (fun w h => hvv.rdl.below h.below) rfl agg_27 (rdVal_at (by omega) (by omega))) rfl rfl rfl rfl ?_
    obtain ⟨zs, hvzs, hlzs, hrzs⟩ := hrow 0 (by omega)
    refine s_y (y_lenV (n := zs.length) rfl (by obtain ⟨A, c, h1, _⟩ := hvzs; exact ⟨A, c, h1⟩) sle_27) rfl rfl rfl rfl ?_
    refine s_y (y_neq_f rfl rfl (by omega)) rfl rfl rfl rfl ?_
    refine s_y (y_pick_f rfl rfl) rfl rfl rfl rfl ?_
    refine s_y (y_move rfl) rfl rfl rfl rfl ?_
    refine s_y (y_move rfl) rfl rfl rfl rfl ?_
    refine s_tr (t_callm (A := fun z : Int => z ∈ ys ∧ ∀ x ∈ ys, z ≤ x) (vf := fun z => .int .i64 z) (mm := fun _ => []) rfl rfl ent_66 (fun w h => (Min_any w _ ys (hvys.below h.below) (by omega) (by omega)).mono fun e w' ⟨z, h1, h2, h3⟩ => ⟨z, h1, h2, Hq.of_below h3⟩)) rfl rfl rfl rfl (fun zmin hmn => ?_)
    refine s_y (y_lss_f rfl rfl (by have h_ := hrys _ hmn.1; omega)) rfl rfl rfl rfl ?_
    refine s_y (y_pick_f rfl rfl) rfl rfl rfl rfl ?_
    refine s_y (y_move rfl) rfl rfl rfl rfl ?_
    refine s_y (y_move rfl) rfl rfl rfl rfl ?_
    refine s_tr (t_callm (A := fun z : Int => z ∈ ys ∧ ∀ x ∈ ys, x ≤ z) (vf := fun z => .int .i64 z) (mm := fun _ => []) rfl rfl ent_67 (fun w h => (Max_any w _ ys (hvys.below h.below) (by omega) (by omega)).mono fun e w' ⟨z, h1, h2, h3⟩ => ⟨z, h1, h2, Hq.of_below h3⟩)) rfl rfl rfl rfl (fun zmax hmx => ?_)
    refine s_y (y_move rfl) rfl rfl rfl rfl ?_
    refine s_y (y_geq_f rfl rfl (by have h_ := hrys _ hmx.1; omega)) rfl rfl rfl rfl ?_
    refine s_y (y_pick_f rfl rfl) rfl rfl rfl rfl ?_
    refine s_nil ?_
    refine g_then ?_
    refine g_cond_f rfl ?_
    refine g_skip ?_
    refine g_inb ?_
    refine g_then ?_
    refine g_region ?_
    refine s_y (y_add rfl rfl (by omega) (by omega)) rfl rfl rfl rfl ?_
    refine s_y (y_move rfl) rfl rfl rfl rfl ?_
    refine s_nil ?_
    refine g_then ?_
    exact fun act W ha hw => ⟨i + 1, by omega, by omega, W, ha.weak (sub_get ⟨rfl, rfl, rfl, rfl, rfl, trivial⟩), hw.toHq.lookSub (List.Sublist.refl _)⟩
  · (try simp at cq1)
    refine g_exit ?_
    refine g_thenx ?_
    refine g_thenx ?_
    refine g_inbx ?_
    refine g_then ?_
    refine g_seq ?_
    refine g_region ?_
    refine s_y (y_assign rfl) rfl rfl rfl rfl ?_
    refine s_nil ?_
    refine g_then ?_
    refine g_ret ?_
    exact g_end trivial (fun a w ha hq_ => res1 ha rfl rfl  w) (fun w h => ⟨rfl, h.below⟩)

theorem always_any (w : World) (v : Value) (xs : List Int) (hv : RdV (Value.int .i64) w v xs) :
    Calls Try.prog 50 [v].toArray w fun e w' => e = .returned (.bool (true)) ∧ Below w.heap.size w w' := by
  refine enter (N := 3) Try.func50 rfl rfl rfl ?_
  refine g_seq ?_
  refine g_region ?_
  refine s_y (y_assign rfl) rfl rfl rfl rfl ?_
  refine s_nil ?_
  refine g_then ?_
  refine g_seq ?_
  refine g_region ?_
  refine s_y (y_assign rfl) rfl rfl rfl rfl ?_
  refine s_nil ?_
  refine g_then ?_
  refine g_ret ?_
  exact g_end trivial (fun a w ha hq_ => res1 ha rfl rfl  w) (fun w h => ⟨rfl, h.below⟩)

theorem Size_any (w : World) (m : Nat) (hm : m < 65536) :
    Calls Try.prog 25 [.int .i64 (m : Int)].toArray w fun e w' => e = .returned (.int .i64 (((bs 16 m : Nat) : Int))) ∧ Below w.heap.size w w' := by
  refine enter (N := 13) Try.func25 rfl rfl rfl ?_
  refine g_seq ?_
  refine g_region ?_
  refine s_y (y_assign rfl) rfl rfl rfl rfl ?_
  refine s_nil ?_
  refine g_then ?_
  refine g_seq ?_
  refine g_region ?_
  refine s_y (y_assign rfl) rfl rfl rfl rfl ?_
  refine s_nil ?_
  refine g_then ?_
  refine g_seq ?_
  refine g_block ?_
  refine g_loop (fun (i : Nat) act W => i ≤ 16 ∧ ∃ (z : Nat) (w1 : World), (bs 16 z + i = bs 16 m) ∧ (z < 65536) ∧ Has 13 [] [(0, .int .i64 (z : Int)), (2, .int .i64 0), (3, .int .i64 (i : Int))] act ∧ Hp w w1 ([]) W) (fun i => 16 - i) 0 (fun act W ha hw => ⟨by omega, m, W, (by rfl), (by exact hm), ha.weak (sub_get ⟨rfl, rfl, rfl, trivial⟩), hw.toHq.lookSub (List.Sublist.refl _)⟩) ?_
  intro i act W ⟨hb_i, z, w1, hz, hzl, ha, hw⟩
  refine g_go ha hw ?_
  clear ha hw act W
  refine g_seq ?_
  refine g_seq ?_
  refine g_region ?_
  refine s_y (y_move rfl) rfl rfl rfl rfl ?_
  refine s_y (y_gtr rfl rfl) rfl rfl rfl rfl ?_
  refine s_nil ?_
  refine g_then ?_
  refine g_cond rfl (fun cq1 => ?_) (fun cq1 => ?_)
  · (try simp at cq1)
    have hst := bs_step 16 z (by omega) hzl
    have hbl := bs_le 16 m
    refine g_skip ?_
    refine g_then ?_
    refine g_seq ?_
    refine g_block ?_
    refine g_region ?_
    refine s_y (y_move rfl) rfl rfl rfl rfl ?_
    refine s_y (y_add rfl rfl (by omega) (by omega)) rfl rfl rfl rfl ?_
    refine s_y (y_assign rfl) rfl rfl rfl rfl ?_
    refine s_nil ?_
    refine g_inb ?_
    refine g_then ?_
    refine g_region ?_
    refine s_y (y_move rfl) rfl rfl rfl rfl ?_
    refine s_y (y_move rfl) rfl rfl rfl rfl ?_
    refine s_y (y_sub rfl rfl (by omega) (by omega)) rfl rfl rfl rfl ?_
    refine s_y (y_and rfl rfl (by omega) (by omega)) rfl rfl rfl rfl ?_
    refine s_y (y_assign rfl) rfl rfl rfl rfl ?_
    refine s_nil ?_
    refine g_then ?_
    exact fun act W ha hw => ⟨i + 1, by omega, by omega, (((z : Int) : Int).toNat &&& ((z : Int) - 1 : Int).toNat), W, (by rw [and_pred]; omega), (by rw [and_pred]; exact Nat.lt_of_le_of_lt Nat.and_le_left hzl), ha.weak (sub_get ⟨rfl, rfl, rfl, trivial⟩), hw.toHq.lookSub (List.Sublist.refl _)⟩
  · (try simp at cq1)
    have hz0 : z = 0 := by omega
    rw [hz0, bs_zero] at hz
    refine g_exit ?_
    refine g_thenx ?_
    refine g_thenx ?_
    refine g_inbx ?_
    refine g_then ?_
    refine g_seq ?_
    refine g_region ?_
    refine s_y (y_move rfl) rfl rfl rfl rfl ?_
    refine s_y (y_assign rfl) rfl rfl rfl rfl ?_
    refine s_nil ?_
    refine g_then ?_
    refine g_ret ?_
    rw [show ((bs 16 m : Nat) : Int) = (i : Int) from by omega]
    exact g_end trivial (fun a w ha hq_ => res1 ha rfl rfl  w) (fun w h => ⟨rfl, h.below⟩)

def vldB (n c : Int) : Bool := decide (2 ≤ n ∧ n ≤ 16 ∧ 0 ≤ c ∧ c < 2 ^ n.toNat)

theorem Valid_t (w : World) (n c : Nat) (hn : 2 ≤ n) (hn2 : n ≤ 16) (hc : c < 2 ^ n) :
    Calls Try.prog 23 [.int .i64 (n : Int), .int .i64 (c : Int)].toArray w fun e w' => e = .returned (.bool (true)) ∧ Below w.heap.size w w' := by
  have hpw := pow_small hn2
  have hpp := Nat.two_pow_pos n
  refine enter (N := 21) Try.func23 rfl rfl rfl ?_
  refine g_seq ?_
  refine g_region ?_
  refine s_y (y_assign rfl) rfl rfl rfl rfl ?_
  refine s_nil ?_
  refine g_then ?_
  refine g_seq ?_
  refine g_region ?_
  refine s_y (y_move rfl) rfl rfl rfl rfl ?_
  refine s_y (y_geq_t rfl rfl (by omega)) rfl rfl rfl rfl ?_
  refine s_y (y_move rfl) rfl rfl rfl rfl ?_
  refine s_y (y_move rfl) rfl rfl rfl rfl ?_
  refine s_y (y_leq_t rfl rfl (by omega)) rfl rfl rfl rfl ?_
  refine s_y (y_pick_t rfl rfl) rfl rfl rfl rfl ?_
  refine s_y (y_move rfl) rfl rfl rfl rfl ?_
  refine s_y (y_move rfl) rfl rfl rfl rfl ?_
  refine s_y (y_geq_t rfl rfl (by omega)) rfl rfl rfl rfl ?_
  refine s_y (y_pick_t rfl rfl) rfl rfl rfl rfl ?_
  refine s_y (y_move rfl) rfl rfl rfl rfl ?_
  refine s_y (y_move rfl) rfl rfl rfl rfl ?_
  refine s_y (y_move rfl) rfl rfl rfl rfl ?_
  refine s_y (y_shl1 rfl rfl (by omega) (by omega)) rfl rfl rfl rfl ?_
  rw [two_cast]
  refine s_y (y_lss_t rfl rfl (by omega)) rfl rfl rfl rfl ?_
  refine s_y (y_pick_t rfl rfl) rfl rfl rfl rfl ?_
  refine s_y (y_assign rfl) rfl rfl rfl rfl ?_
  refine s_nil ?_
  refine g_then ?_
  refine g_ret ?_
  exact g_end trivial (fun a w ha hq_ => res1 ha rfl rfl  w) (fun w h => ⟨rfl, h.below⟩)

theorem tones_any (w : World) (n c : Nat) (hn : 2 ≤ n) (hn2 : n ≤ 16) (hc : c < 2 ^ n) :
    Calls Try.prog 28 [.int .i64 (n : Int), .int .i64 (c : Int)].toArray w fun e w' => ∃ x : Value × List (Nat × Obj), (OwnV (Value.int .i64) x.1 (tonesL c n) x.2 ∧ ∃ W : World, ∀ p ∈ x.2, W.heap[p.1]? = some p.2) ∧ e = .returned (x.1) ∧ Hq w w x.2 w' := by
  have hpw := pow_small hn2
  have hpp := Nat.two_pow_pos n
  obtain ⟨ie3, hi3⟩ := inf_3
  refine enter (N := 22) Try.func28 rfl rfl rfl ?_
  refine g_seq ?_
  refine g_region ?_
  refine s_y (y_assign rfl) rfl rfl rfl rfl ?_
  refine s_nil ?_
  refine g_then ?_
  refine g_seq ?_
  refine g_region ?_
  refine s_y (y_assign rfl) rfl rfl rfl rfl ?_
  refine s_nil ?_
  refine g_then ?_
  refine g_seq ?_
  refine g_seq ?_
  refine g_region ?_
  refine s_y (y_move rfl) rfl rfl rfl rfl ?_
  refine s_y (y_move rfl) rfl rfl rfl rfl ?_
  refine s_nil ?_
  refine g_then ?_
  refine g_block ?_
  refine g_loop (fun (i : Nat) act W => i ≤ n ∧ ∃ (sv : SV) (m : Nat) (zs : List Int) (w1 : World), (sv.ok 1 m (zs.map (Value.int .i64))) ∧ (m ≤ i) ∧ (zs = tonesL c i) ∧ Has 22 [] [(1, .int .i64 (c : Int)), (4, .slice none 0 0), (5, sv.val m), (7, .int .i64 (n : Int)), (8, .int .i64 (i : Int))] act ∧ Hp w w1 ((sv.mem 3 (zs.map (Value.int .i64)) ++ ([]))) W) (fun i => n - i) 0 (fun act W ha hw => ⟨by omega, SV.nil, 0, [], W, (by exact ⟨rfl, rfl⟩), (by omega), (by rfl), ha.weak (sub_get ⟨rfl, rfl, rfl, rfl, rfl, trivial⟩), hw.toHq.lookSub (List.Sublist.refl _)⟩) ?_
  intro i act W ⟨hb_i, sv, m, zs, w1, hokz, hmi, hzs, ha, hw⟩
  refine g_go ha hw ?_
  clear ha hw act W
  have hdb := Int.ediv_nonneg (show (0 : Int) ≤ (c : Int) by omega) (show (0 : Int) ≤ 2 ^ (i : Int).toNat from Int.pow_nonneg (by decide))
  have hdb2 := Int.ediv_le_self (2 ^ (i : Int).toNat) (show (0 : Int) ≤ (c : Int) by omega)
  refine g_seq ?_
  refine g_region ?_
  refine s_y (y_lss rfl rfl) rfl rfl rfl rfl ?_
  refine s_nil ?_
  refine g_then ?_
  refine g_seq ?_
  refine g_cond rfl (fun cq1 => ?_) (fun cq1 => ?_)
  · (try simp at cq1)
    refine g_skip ?_
    refine g_then ?_
    refine g_seq ?_
    refine g_block ?_
    refine g_seq ?_
    refine g_region ?_
    refine s_y (y_move rfl) rfl rfl rfl rfl ?_
    refine s_y (y_assign rfl) rfl rfl rfl rfl ?_
    refine s_nil ?_
    refine g_then ?_
    refine g_seq ?_
    refine g_region ?_
    refine s_y (y_move rfl) rfl rfl rfl rfl ?_
    refine s_y (y_move rfl) rfl rfl rfl rfl ?_
    refine s_y (y_shr rfl rfl (by omega) (by omega) (by omega)) rfl rfl rfl rfl ?_
    refine s_y (y_and rfl rfl (by omega) (by omega)) rfl rfl rfl rfl ?_
    rw [show ((((c : Int) / 2 ^ ((i : Int) : Int).toNat : Int).toNat &&& (1 : Int).toNat : Nat) : Int) = bitI (c : Int) i from rfl]
    refine s_y (y_eql rfl rfl) rfl rfl rfl rfl ?_
    refine s_nil ?_
    refine g_then ?_
    refine g_cond rfl (fun cq2 => ?_) (fun cq2 => ?_)
    · (try simp at cq2)
      have hb1 : bitI (c : Int) i = 1 := cq2
      refine g_region ?_
      refine s_y (y_move rfl) rfl rfl rfl rfl ?_
      refine s_y (y_move rfl) rfl rfl rfl rfl ?_
      refine s_tr (t_build (vs := [(0, .int .i64 (i : Int))]) (cells := [.int .i64 (i : Int)]) rfl rfl Try.underlying27 hi3.1 hi3.2.1 (by rw [hi3.2.2.1]; rfl) (by rw [hi3.2.2.1]; rfl) (by rw [hi3.2.2.1]; kernel_rfl)) rfl rfl rfl rfl (fun b3 hb3 => ?_)
      refine s_tr (t_appendL (enc := (Value.int .i64)) (sv := sv) (xs := zs) (n := m) (v := (i : Int)) [_] _ rfl rfl rfl hokz Try.underlying27 hi3.1 hi3.2.1 hi3.2.2.1 hi3.2.2.2 rfl (fun w h => h.toHq.cell (i := 0) rfl rfl) rfl (by omega) (by unfold maxLen; omega)) rfl rfl rfl rfl (fun y7 hy8 => ?_)
      obtain ⟨sv4, gs5⟩ := y7
      obtain ⟨hok6, hok6b, hok6c, hok6j, hok6e⟩ := hy8
      refine s_y (y_assign rfl) rfl rfl rfl rfl ?_
      refine s_nil ?_
      refine g_inb ?_
      refine g_then ?_
      refine g_region ?_
      refine s_y (y_add rfl rfl (by omega) (by omega)) rfl rfl rfl rfl ?_
      refine s_y (y_move rfl) rfl rfl rfl rfl ?_
      refine s_nil ?_
      refine g_then ?_
      exact fun act W ha hw => ⟨i + 1, by omega, by omega, sv4, (m + 1), (zs ++ [(i : Int)]), W, (by exact hok6), (by omega), (by rw [hzs]; first | exact (if_pos hb1).symm | exact (if_neg hb1).symm), ha.weak (sub_get ⟨rfl, rfl, rfl, rfl, rfl, trivial⟩), hw.toHq.lookSub (List.Sublist.cons _ (sub_app (sv4.mem 3 ((zs ++ [(i : Int)]).map (Value.int .i64))) (List.nil_sublist _)))⟩
    · (try simp at cq2)
      have hb1 : ¬ bitI (c : Int) i = 1 := cq2
      refine g_skip ?_
      refine g_inb ?_
      refine g_then ?_
      refine g_region ?_
      refine s_y (y_add rfl rfl (by omega) (by omega)) rfl rfl rfl rfl ?_
      refine s_y (y_move rfl) rfl rfl rfl rfl ?_
      refine s_nil ?_
      refine g_then ?_
      exact fun act W ha hw => ⟨i + 1, by omega, by omega, sv, m, zs, W, (by exact hokz), (by omega), (by rw [hzs]; first | exact (if_pos hb1).symm | exact (if_neg hb1).symm), ha.weak (sub_get ⟨rfl, rfl, rfl, rfl, rfl, trivial⟩), hw.toHq.lookSub (List.Sublist.refl _)⟩
  · (try simp at cq1)
    refine g_exit ?_
    refine g_thenx ?_
    refine g_thenx ?_
    refine g_inbx ?_
    refine g_then ?_
    refine g_seq ?_
    refine g_region ?_
    refine s_y (y_move rfl) rfl rfl rfl rfl ?_
    refine s_y (y_assign rfl) rfl rfl rfl rfl ?_
    refine s_nil ?_
    refine g_then ?_
    refine g_ret ?_
    rw [show tonesL c n = zs from by rw [hzs, show i = n by omega]]
    exact g_end trivial (fun a w ha hq_ => res1 ha rfl rfl  w) (fun w h => ⟨(_, sv.mem 3 (zs.map (Value.int .i64))), ⟨(OwnV.sv hokz), w, (h.hand (sub_here (sv.mem 3 (zs.map (Value.int .i64))) _)).at_⟩, rfl, h.hand (sub_here (sv.mem 3 (zs.map (Value.int .i64))) _)⟩)

def comL (n a b : Nat) : List Int := (List.range n).map fun e => ((bs 16 (a &&& movN n b e) : Nat) : Int)
theorem comL_len (n a b : Nat) : (comL n a b).length = n := by simp [comL]
theorem comL_at {n a b e : Nat} (h : e < n) : rdI (comL n a b) (e : Int) = ((bs 16 (a &&& movN n b e) : Nat) : Int) := rdI_map h

theorem CCommon_ok (w : World) (n a b : Nat) (hn : 2 ≤ n) (hn2 : n ≤ 16) (ha : a < 2 ^ n) (hb : b < 2 ^ n) :
    Calls Try.prog 22 [.int .i64 (n : Int), .int .i64 (a : Int), .int .i64 (b : Int)].toArray w fun e w' => ∃ x : Value × List (Nat × Obj), (OwnV (Value.int .i64) x.1 (comL n a b) x.2 ∧ ∃ W : World, ∀ p ∈ x.2, W.heap[p.1]? = some p.2) ∧ e = .returned (.tuple #[x.1, .int .i64 0]) ∧ Hq w w x.2 w' := by
  have hpw := pow_small hn2
  have hpp := Nat.two_pow_pos n
  obtain ⟨ie3, hi3⟩ := inf_3
  refine enter (N := 34) Try.func22 rfl rfl rfl ?_
  refine g_seq ?_
  refine g_region ?_
  refine s_y (y_assign rfl) rfl rfl rfl rfl ?_
  refine s_y (y_assign rfl) rfl rfl rfl rfl ?_
  refine s_nil ?_
  refine g_then ?_
  refine g_seq ?_
  refine g_region ?_
  refine s_y (y_move rfl) rfl rfl rfl rfl ?_
  refine s_y (y_assign rfl) rfl rfl rfl rfl ?_
  refine s_nil ?_
  refine g_then ?_
  refine g_seq ?_
  refine g_seq ?_
  refine g_region ?_
  refine s_y (y_move rfl) rfl rfl rfl rfl ?_
  refine s_y (y_move rfl) rfl rfl rfl rfl ?_
  refine s_y (y_move rfl) rfl rfl rfl rfl ?_
  refine s_tr (t_build (vs := [(0, .int .i64 (a : Int)), (1, .int .i64 (b : Int))]) (cells := [.int .i64 (a : Int), .int .i64 (b : Int)]) rfl rfl Try.underlying27 hi3.1 hi3.2.1 (by rw [hi3.2.2.1]; rfl) (by rw [hi3.2.2.1]; rfl) (by rw [hi3.2.2.1]; kernel_rfl)) rfl rfl rfl rfl (fun bl hbl => ?_)
  refine s_tr (t_call rfl rfl ent_36 (fun w h => cvalid_t w n _ [(a : Int), (b : Int)] (RdV.own (enc := (Value.int .i64)) (xs := [(a : Int), (b : Int)]) (jk := []) (at_of (i := 0) h rfl) rfl (Nat.le_refl _)) (by simp) hn hn2 (by intro x hx; simp only [List.mem_cons, List.not_mem_nil, or_false] at hx; rcases hx with h_ | h_ <;> subst h_; exact ⟨by omega, by exact_mod_cast ha⟩; exact ⟨by omega, by exact_mod_cast hb⟩))) rfl rfl rfl rfl (fun _ _ => ?_)
  refine s_y (y_not_t rfl) rfl rfl rfl rfl ?_
  refine s_nil ?_
  refine g_then ?_
  refine g_cond_f rfl ?_
  refine g_skip ?_
  refine g_then ?_
  refine g_seq ?_
  refine g_region ?_
  refine s_y (y_assign rfl) rfl rfl rfl rfl ?_
  refine s_nil ?_
  refine g_then ?_
  refine g_seq ?_
  refine g_seq ?_
  refine g_region ?_
  refine s_y (y_move rfl) rfl rfl rfl rfl ?_
  refine s_y (y_move rfl) rfl rfl rfl rfl ?_
  refine s_nil ?_
  refine g_then ?_
  refine g_block ?_
  refine g_loop (fun (i : Nat) act W => i ≤ n ∧ ∃ (sv : SV) (m : Nat) (zs : List Int) (w1 : World), (sv.ok 1 m (zs.map (Value.int .i64))) ∧ (m ≤ i) ∧ (zs = (List.range i).map fun e => ((bs 16 (a &&& movN n b e) : Nat) : Int)) ∧ Has 34 [] [(1, .int .i64 (a : Int)), (2, .int .i64 (b : Int)), (6, .slice none 0 0), (7, .int .i64 0), (8, .int .i64 (n : Int)), (9, sv.val m), (18, .int .i64 (n : Int)), (19, .int .i64 (i : Int))] act ∧ Hp w w1 ((bl, .cells [.int .i64 (a : Int), .int .i64 (b : Int)].toArray 3 (0, 0)) :: (sv.mem 3 (zs.map (Value.int .i64)) ++ ([]))) W) (fun i => n - i) 0 (fun act W ha hw => ⟨by omega, SV.nil, 0, [], W, (by exact ⟨rfl, rfl⟩), (by omega), (by rfl), ha.weak (sub_get ⟨rfl, rfl, rfl, rfl, rfl, rfl, rfl, rfl, trivial⟩), hw.toHq.lookSub (List.Sublist.refl _)⟩) ?_
  intro i act W ⟨hb_i, sv, m, zs, w1, hokz, hmi, hzs, ha, hw⟩
  refine g_go ha hw ?_
  clear ha hw act W
  refine g_seq ?_
  refine g_region ?_
  refine s_y (y_lss rfl rfl) rfl rfl rfl rfl ?_
  refine s_nil ?_
  refine g_then ?_
  refine g_seq ?_
  refine g_cond rfl (fun cq1 => ?_) (fun cq1 => ?_)
  · (try simp at cq1)
    refine g_skip ?_
    refine g_then ?_
    refine g_seq ?_
    refine g_block ?_
    refine g_seq ?_
    refine g_region ?_
    refine s_y (y_move rfl) rfl rfl rfl rfl ?_
    refine s_y (y_assign rfl) rfl rfl rfl rfl ?_
    refine s_nil ?_
    refine g_then ?_
    have hml := movN_lt n b i
    refine g_region ?_
    refine s_y (y_move rfl) rfl rfl rfl rfl ?_
    refine s_y (y_move rfl) rfl rfl rfl rfl ?_
    refine s_y (y_move rfl) rfl rfl rfl rfl ?_
    refine s_y (y_move rfl) rfl rfl rfl rfl ?_
    refine s_y (y_move rfl) rfl rfl rfl rfl ?_
    refine s_tr (t_call rfl rfl ent_47 (fun w h => cmove_any w n b i hn hn2 hb (by omega))) rfl rfl rfl rfl (fun _ _ => ?_)
    refine s_y (y_andN a (movN n b i) rfl rfl (by rfl) (by rfl) (by omega) (by omega)) rfl rfl rfl rfl ?_
    refine s_tr (t_call rfl rfl ent_46 (fun w h => chords_count w (a &&& movN n b i) (Nat.lt_of_le_of_lt Nat.and_le_left (by omega)))) rfl rfl rfl rfl (fun _ _ => ?_)
    refine s_tr (t_build (vs := [(0, .int .i64 ((bs 16 (a &&& movN n b i) : Nat) : Int))]) (cells := [.int .i64 ((bs 16 (a &&& movN n b i) : Nat) : Int)]) rfl rfl Try.underlying27 hi3.1 hi3.2.1 (by rw [hi3.2.2.1]; rfl) (by rw [hi3.2.2.1]; rfl) (by rw [hi3.2.2.1]; kernel_rfl)) rfl rfl rfl rfl (fun b2 hb2 => ?_)
    refine s_tr (t_appendL (enc := (Value.int .i64)) (sv := sv) (xs := zs) (n := m) (v := ((bs 16 (a &&& movN n b i) : Nat) : Int)) [_, _] _ rfl rfl rfl hokz Try.underlying27 hi3.1 hi3.2.1 hi3.2.2.1 hi3.2.2.2 rfl (fun w h => h.toHq.cell (i := 0) rfl rfl) rfl (by omega) (by unfold maxLen; omega)) rfl rfl rfl rfl (fun y6 hy7 => ?_)
    obtain ⟨sv3, gs4⟩ := y6
    obtain ⟨hok5, hok5b, hok5c, hok5j, hok5e⟩ := hy7
    refine s_y (y_assign rfl) rfl rfl rfl rfl ?_
    refine s_nil ?_
    refine g_inb ?_
    refine g_then ?_
    refine g_region ?_
    refine s_y (y_add rfl rfl (by omega) (by omega)) rfl rfl rfl rfl ?_
    refine s_y (y_move rfl) rfl rfl rfl rfl ?_
    refine s_nil ?_
    refine g_then ?_
    exact fun act W ha hw => ⟨i + 1, by omega, by omega, sv3, (m + 1), (zs ++ [((bs 16 (a &&& movN n b i) : Nat) : Int)]), W, (by exact hok5), (by omega), (by rw [hzs, List.range_succ, List.map_append]; rfl), ha.weak (sub_get ⟨rfl, rfl, rfl, rfl, rfl, rfl, rfl, rfl, trivial⟩), hw.toHq.lookSub (List.Sublist.cons _ (List.Sublist.cons_cons _ (sub_app (sv3.mem 3 ((zs ++ [((bs 16 (a &&& movN n b i) : Nat) : Int)]).map (Value.int .i64))) (List.nil_sublist _))))⟩
  · (try simp at cq1)
    refine g_exit ?_
    refine g_thenx ?_
    refine g_thenx ?_
    refine g_inbx ?_
    refine g_then ?_
    refine g_seq ?_
    refine g_region ?_
    refine s_y (y_move rfl) rfl rfl rfl rfl ?_
    refine s_y (y_assign rfl) rfl rfl rfl rfl ?_
    refine s_y (y_assign rfl) rfl rfl rfl rfl ?_
    refine s_nil ?_
    refine g_then ?_
    refine g_ret ?_
    rw [show comL n a b = zs from by rw [hzs, show i = n by omega]; rfl]
    exact g_end trivial (fun a w ha hq_ => res2 ha rfl rfl rfl  w) (fun w h => ⟨(_, sv.mem 3 (zs.map (Value.int .i64))), ⟨(OwnV.sv hokz), w, (h.hand (List.Sublist.cons _ (sub_here (sv.mem 3 (zs.map (Value.int .i64))) _))).at_⟩, rfl, h.hand (List.Sublist.cons _ (sub_here (sv.mem 3 (zs.map (Value.int .i64))) _))⟩)

def outB (n : Nat) (x : Int) : Bool := decide (x < 0) || decide (((2 ^ n : Nat) : Int) ≤ x)

theorem cvalid1_any (w : World) (x : Int) (n bn : Nat) (hn : 2 ≤ n) (hn2 : n ≤ 16) (hbn : w.heap[bn]? = some (.cells [.int .i64 (n : Int)].toArray 53 (0, 0))) :
    Calls Try.prog 60 [.int .i64 x, .pointer (some ⟨bn, 0, none⟩)].toArray w fun e w' => e = .returned (.bool (outB n x)) ∧ Below w.heap.size w w' := by
  have hpw := pow_small hn2
  have hpp := Nat.two_pow_pos n
  refine enter (N := 12) Try.func60 rfl rfl rfl ?_
  refine g_seq ?_
  refine g_region ?_
  refine s_y (y_assign rfl) rfl rfl rfl rfl ?_
  refine s_nil ?_
  refine g_then ?_
  refine g_seq ?_
  refine g_region ?_
  refine s_y (y_move rfl) rfl rfl rfl rfl ?_
  refine s_y (y_lss rfl rfl) rfl rfl rfl rfl ?_
  refine s_y (y_move rfl) rfl rfl rfl rfl ?_
  refine g_bool 6 rfl (fun cq1 => ?_) (fun cq1 => ?_)
  · (try simp at cq1)
    refine s_no rfl rfl rfl ?_
    refine s_no rfl rfl rfl ?_
    refine s_no rfl rfl rfl ?_
    refine s_no rfl rfl rfl ?_
    refine s_y (y_pick_t rfl rfl) rfl rfl rfl rfl ?_
    refine s_y (y_assign rfl) rfl rfl rfl rfl ?_
    refine s_nil ?_
    refine g_then ?_
    refine g_ret ?_
    rw [show outB n x = true from by unfold outB; first | rw [decide_eq_true (show x < 0 by omega)]; rfl | rw [decide_eq_false (show ¬ x < 0 by omega)]; rfl]
    exact g_end trivial (fun a w ha hq_ => res1 ha rfl rfl  w) (fun w h => ⟨rfl, h.below⟩)
  · (try simp at cq1)
    refine s_y (y_move rfl) rfl rfl rfl rfl ?_
    refine s_y (y_ldO1 hbn rfl agg_53 rfl) rfl rfl rfl rfl ?_
    refine s_y (y_shl1 rfl rfl (by omega) (by omega)) rfl rfl rfl rfl ?_
    rw [two_cast]
    refine s_y (y_geq rfl rfl) rfl rfl rfl rfl ?_
    refine s_y (y_pick_f rfl rfl) rfl rfl rfl rfl ?_
    refine s_y (y_assign rfl) rfl rfl rfl rfl ?_
    refine s_nil ?_
    refine g_then ?_
    refine g_ret ?_
    rw [show outB n x = decide (x ≥ ((2 ^ n : Nat) : Int)) from by unfold outB; first | rw [decide_eq_true (show x < 0 by omega)]; rfl | rw [decide_eq_false (show ¬ x < 0 by omega)]; rfl]
    exact g_end trivial (fun a w ha hq_ => res1 ha rfl rfl  w) (fun w h => ⟨rfl, h.below⟩)

theorem cvalid_f (w : World) (n : Int) (v : Value) (xs : List Int) (hv : RdV (Value.int .i64) w v xs) (hl : xs.length ≤ 10) (hno : ¬ (2 ≤ n ∧ n ≤ 16 ∧ xs.any (outB n.toNat) = false)) :
    Calls Try.prog 36 [.int .i64 n, v].toArray w fun e w' => e = .returned (.bool (false)) ∧ Below w.heap.size w w' := by
  refine enter (N := 17) Try.func36 rfl rfl rfl ?_
  refine g_seq ?_
  refine g_region ?_
  refine s_tr (t_box rfl rfl) rfl rfl rfl rfl (fun bn hbn => ?_)
  refine s_y (y_assign rfl) rfl rfl rfl rfl ?_
  refine s_nil ?_
  refine g_then ?_
  refine g_seq ?_
  refine g_region ?_
  refine s_y (y_ld1 0 rfl rfl agg_53 rfl) rfl rfl rfl rfl ?_
  refine s_y (y_geq rfl rfl) rfl rfl rfl rfl ?_
  refine s_y (y_move rfl) rfl rfl rfl rfl ?_
  refine g_bool 7 rfl (fun cq1 => ?_) (fun cq1 => ?_)
  · (try simp at cq1)
    refine s_y (y_ld1 0 rfl rfl agg_53 rfl) rfl rfl rfl rfl ?_
    refine s_y (y_leq rfl rfl) rfl rfl rfl rfl ?_
    refine s_y (y_pick_t rfl rfl) rfl rfl rfl rfl ?_
    refine s_y (y_move rfl) rfl rfl rfl rfl ?_
    refine g_bool 11 rfl (fun cq2 => ?_) (fun cq2 => ?_)
    · (try simp at cq2)
      refine s_y (y_move rfl) rfl rfl rfl rfl ?_
      refine s_y (y_func rfl rfl) rfl rfl rfl rfl ?_
      refine s_tr (t_call rfl rfl ent_59 (fun w h => ContainsFunc_any w v xs (hv.below h.below) (by omega) 60 [.pointer (some ⟨bn, 0, none⟩)] (outB n.toNat) ent_60 (fun x W hx hb => cvalid1_any W x n.toNat bn (by omega) (by omega) (by rw [Int.toNat_of_nonneg (by omega)]; exact (below_at hb (at_of (i := 0) h rfl)))))) rfl rfl rfl rfl (fun _ _ => ?_)
      refine s_y (y_not rfl) rfl rfl rfl rfl ?_
      refine s_y (y_pick_t rfl rfl) rfl rfl rfl rfl ?_
      refine s_y (y_assign rfl) rfl rfl rfl rfl ?_
      refine s_nil ?_
      refine g_then ?_
      refine g_ret ?_
      rw [show (!(xs.any (outB n.toNat))) = false from by cases hh : xs.any (outB n.toNat) with | true => rfl | false => exact absurd ⟨by omega, by omega, hh⟩ hno]
      exact g_end trivial (fun a w ha hq_ => res1 ha rfl rfl  w) (fun w h => ⟨rfl, h.below⟩)
    · (try simp at cq2)
      refine s_no rfl rfl rfl ?_
      refine s_no rfl rfl rfl ?_
      refine s_no rfl rfl rfl ?_
      refine s_no rfl rfl rfl ?_
      refine s_y (y_pick_f rfl rfl) rfl rfl rfl rfl ?_
      refine s_y (y_assign rfl) rfl rfl rfl rfl ?_
      refine s_nil ?_
      refine g_then ?_
      refine g_ret ?_
      exact g_end trivial (fun a w ha hq_ => res1 ha rfl rfl  w) (fun w h => ⟨rfl, h.below⟩)
  · (try simp at cq1)
    refine s_no rfl rfl rfl ?_
    refine s_no rfl rfl rfl ?_
    refine s_y (y_pick_f rfl rfl) rfl rfl rfl rfl ?_
    refine s_y (y_move rfl) rfl rfl rfl rfl ?_
    refine s_no rfl rfl rfl ?_
    refine s_no rfl rfl rfl ?_
    refine s_no rfl rfl rfl ?_
    refine s_no rfl rfl rfl ?_
    refine s_y (y_pick_f rfl rfl) rfl rfl rfl rfl ?_
    refine s_y (y_assign rfl) rfl rfl rfl rfl ?_
    refine s_nil ?_
    refine g_then ?_
    refine g_ret ?_
    exact g_end trivial (fun a w ha hq_ => res1 ha rfl rfl  w) (fun w h => ⟨rfl, h.below⟩)

theorem CCommon_no (w : World) (n a b : Int) (hno : ¬ (2 ≤ n ∧ n ≤ 16 ∧ [a, b].any (outB n.toNat) = false)) :
    Calls Try.prog 22 [.int .i64 n, .int .i64 a, .int .i64 b].toArray w fun e w' => e = .returned (.tuple #[.slice none 0 0, .int .i64 2]) ∧ Below w.heap.size w w' := by
  obtain ⟨ie3, hi3⟩ := inf_3
  refine enter (N := 34) Try.func22 rfl rfl rfl ?_
  refine g_seq ?_
  refine g_region ?_
  refine s_y (y_assign rfl) rfl rfl rfl rfl ?_
  refine s_y (y_assign rfl) rfl rfl rfl rfl ?_
  refine s_nil ?_
  refine g_then ?_
  refine g_seq ?_
  refine g_region ?_
  refine s_y (y_move rfl) rfl rfl rfl rfl ?_
  refine s_y (y_assign rfl) rfl rfl rfl rfl ?_
  refine s_nil ?_
  refine g_then ?_
  refine g_seq ?_
  refine g_seq ?_
  refine g_region ?_
  refine s_y (y_move rfl) rfl rfl rfl rfl ?_
  refine s_y (y_move rfl) rfl rfl rfl rfl ?_
  refine s_y (y_move rfl) rfl rfl rfl rfl ?_
  refine s_tr (t_build (vs := [(0, .int .i64 a), (1, .int .i64 b)]) (cells := [.int .i64 a, .int .i64 b]) rfl rfl Try.underlying27 hi3.1 hi3.2.1 (by rw [hi3.2.2.1]; rfl) (by rw [hi3.2.2.1]; rfl) (by rw [hi3.2.2.1]; kernel_rfl)) rfl rfl rfl rfl (fun bl hbl => ?_)
  refine s_tr (t_call rfl rfl ent_36 (fun w h => cvalid_f w n _ [a, b] (RdV.own (enc := (Value.int .i64)) (xs := [a, b]) (jk := []) (at_of (i := 0) h rfl) rfl (Nat.le_refl _)) (by simp) hno)) rfl rfl rfl rfl (fun _ _ => ?_)
  refine s_y (y_not_f rfl) rfl rfl rfl rfl ?_
  refine s_nil ?_
  refine g_then ?_
  refine g_cond_t rfl ?_
  refine g_seq ?_
  refine g_region ?_
  refine s_y (y_assign rfl) rfl rfl rfl rfl ?_
  refine s_y (y_assign rfl) rfl rfl rfl rfl ?_
  refine s_nil ?_
  refine g_then ?_
  refine g_ret ?_
  refine g_thenr ?_
  exact g_end trivial (fun a w ha hq_ => res2 ha rfl rfl rfl  w) (fun w h => ⟨rfl, h.below⟩)

theorem CMove_ok (w : World) (n b k : Nat) (hn : 2 ≤ n) (hn2 : n ≤ 16) (hb : b < 2 ^ n) (hk : k < n) :
    Calls Try.prog 26 [.int .i64 (n : Int), .int .i64 (b : Int), .int .i64 (k : Int)].toArray w fun e w' => e = .returned (.tuple #[.int .i64 ((movN n b k : Nat) : Int), .int .i64 0]) ∧ Below w.heap.size w w' := by
  obtain ⟨ie3, hi3⟩ := inf_3
  refine enter (N := 17) Try.func26 rfl rfl rfl ?_
  refine g_seq ?_
  refine g_region ?_
  refine s_y (y_assign rfl) rfl rfl rfl rfl ?_
  refine s_y (y_assign rfl) rfl rfl rfl rfl ?_
  refine s_nil ?_
  refine g_then ?_
  refine g_seq ?_
  refine g_seq ?_
  refine g_region ?_
  refine s_y (y_move rfl) rfl rfl rfl rfl ?_
  refine s_y (y_move rfl) rfl rfl rfl rfl ?_
  refine s_tr (t_build (vs := [(0, .int .i64 (b : Int))]) (cells := [.int .i64 (b : Int)]) rfl rfl Try.underlying27 hi3.1 hi3.2.1 (by rw [hi3.2.2.1]; rfl) (by rw [hi3.2.2.1]; rfl) (by rw [hi3.2.2.1]; kernel_rfl)) rfl rfl rfl rfl (fun bl hbl => ?_)
  refine s_tr (t_call rfl rfl ent_36 (fun w h => cvalid_t w n _ [(b : Int)] (RdV.own (enc := (Value.int .i64)) (xs := [(b : Int)]) (jk := []) (at_of (i := 0) h rfl) rfl (Nat.le_refl _)) (by simp) hn hn2 (by intro x hx; simp only [List.mem_cons, List.not_mem_nil, or_false] at hx; subst hx; exact ⟨by omega, by exact_mod_cast hb⟩))) rfl rfl rfl rfl (fun _ _ => ?_)
  refine s_y (y_not_t rfl) rfl rfl rfl rfl ?_
  refine s_nil ?_
  refine g_then ?_
  refine g_cond_f rfl ?_
  refine g_skip ?_
  refine g_then ?_
  refine g_seq ?_
  refine g_region ?_
  refine s_y (y_move rfl) rfl rfl rfl rfl ?_
  refine s_y (y_move rfl) rfl rfl rfl rfl ?_
  refine s_y (y_move rfl) rfl rfl rfl rfl ?_
  refine s_tr (t_call rfl rfl ent_47 (fun w h => cmove_any w n b k hn hn2 hb hk)) rfl rfl rfl rfl (fun _ _ => ?_)
  refine s_y (y_assign rfl) rfl rfl rfl rfl ?_
  refine s_y (y_assign rfl) rfl rfl rfl rfl ?_
  refine s_nil ?_
  refine g_then ?_
  refine g_ret ?_
  exact g_end trivial (fun a w ha hq_ => res2 ha rfl rfl rfl  w) (fun w h => ⟨rfl, h.below⟩)

end Go.Proofs.Ytnhflahgbkmloaa
