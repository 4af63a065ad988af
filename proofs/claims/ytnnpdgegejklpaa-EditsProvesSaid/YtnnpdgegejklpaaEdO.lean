/- edits: Min, Max, lists, Heights. -/
import Derived.Test.YtnnpdgegejklpaaEdN
namespace Go.Proofs.Ytnnpdgegejklpaa
open Go.RowKit Go.Sx 
set_option linter.unusedVariables false
set_option linter.unusedSimpArgs false
set_option maxRecDepth 100000
set_option maxHeartbeats 4000000

private theorem sle_46 : Try.prog.underlying 46 = some (.slice (Try.prog.elem 46)) := by kernel_rfl
private theorem size_3 : (Try.prog.info? 3).map (·.size) = some 1 := by kernel_rfl
private theorem agg_3 : isAggB Try.prog 3 = some false := by kernel_rfl
private theorem sle_66 : Try.prog.underlying 66 = some (.slice (Try.prog.elem 66)) := by kernel_rfl
private theorem size_46 : (Try.prog.info? 46).map (·.size) = some 1 := by kernel_rfl
private theorem agg_46 : isAggB Try.prog 46 = some false := by kernel_rfl
private theorem ent_51 : Enters Try.prog 51 := enters_of Try.func51 (by kernel_rfl) rfl
private theorem inf_46 : ∃ ie, Try.prog.info? 46 = some ie ∧ ie.zero = some (.slice none 0 0) ∧ ie.size = 1 ∧ ie.bytes = 24 := info_of (by kernel_rfl) (by kernel_rfl)
private theorem agg_28 : isAggB Try.prog 28 = some true := by kernel_rfl
private theorem size_28 : (Try.prog.info? 28).map (·.size) = some 3 := by kernel_rfl
private theorem ent_62 : Enters Try.prog 62 := enters_of Try.func62 (by kernel_rfl) rfl
private theorem fld_99_3 (b off : Nat) (w : World) : (Instr.fieldAt 99 (.pointer (some ⟨b, off, none⟩)) 3).run Try.prog w = .ok (.pointer (some ⟨b, off + 5, none⟩)) w := by kernel_rfl
private theorem agg_66 : isAggB Try.prog 66 = some false := by kernel_rfl

theorem first_take {xs : List Int} (h : 1 ≤ xs.length) : rdI xs 0 ∈ xs.take 1 ∧ xs.take 1 = [rdI xs 0] := by
  have := rdI_take (xs := xs) (k := 0) (by omega)
  rw [List.take_zero, List.nil_append] at this
  exact ⟨by rw [this]; simp, this⟩
theorem take_min {xs : List Int} {i : Nat} {z : Int} (h : i + 1 < xs.length) (hz : z ∈ xs.take (i + 1) ∧ ∀ x ∈ xs.take (i + 1), z ≤ x) :
    (if rdI xs ((i + 1 : Nat) : Int) < z then rdI xs ((i + 1 : Nat) : Int) else z) ∈ xs.take (i + 1 + 1) ∧ ∀ x ∈ xs.take (i + 1 + 1), (if rdI xs ((i + 1 : Nat) : Int) < z then rdI xs ((i + 1 : Nat) : Int) else z) ≤ x := by
  rw [rdI_take h]
  refine ⟨?_, fun x hx => ?_⟩
  · split
    · simp
    · exact List.mem_append_left _ hz.1
  · rcases List.mem_append.1 hx with hx | hx
    · have := hz.2 x hx; split <;> omega
    · rw [List.mem_singleton] at hx; subst hx; split <;> omega
theorem take_max {xs : List Int} {i : Nat} {z : Int} (h : i + 1 < xs.length) (hz : z ∈ xs.take (i + 1) ∧ ∀ x ∈ xs.take (i + 1), x ≤ z) :
    (if rdI xs ((i + 1 : Nat) : Int) > z then rdI xs ((i + 1 : Nat) : Int) else z) ∈ xs.take (i + 1 + 1) ∧ ∀ x ∈ xs.take (i + 1 + 1), x ≤ (if rdI xs ((i + 1 : Nat) : Int) > z then rdI xs ((i + 1 : Nat) : Int) else z) := by
  rw [rdI_take h]
  refine ⟨?_, fun x hx => ?_⟩
  · split
    · simp
    · exact List.mem_append_left _ hz.1
  · rcases List.mem_append.1 hx with hx | hx
    · have := hz.2 x hx; split <;> omega
    · rw [List.mem_singleton] at hx; subst hx; split <;> omega
theorem rows_app {W : World} {zs : List Value} {hs : List (List Int)} {i : Nat} {vo : Value} (hz : zs.length = min i 16) (hi : i < hs.length) (hlt : (i : Int) < 16) (hold : ∀ (j : Nat) (r : Value) (h : List Int), zs[j]? = some r → ((hs.take (min i 16)).map (·.take 16))[j]? = some h → RdV (Value.int .i64) W r h)
    (hnew : RdV (Value.int .i64) W vo ((rdR hs (i : Int)).take 16)) : ∀ (j : Nat) (r : Value) (h : List Int), (zs ++ [vo])[j]? = some r → ((hs.take (min (i + 1) 16)).map (·.take 16))[j]? = some h → RdV (Value.int .i64) W r h := by
  intro j r h hj hh
  rw [Nat.min_eq_left (by omega)] at hz hold
  rw [Nat.min_eq_left (by omega), rdR_take hi, List.map_append] at hh
  have hl : ((hs.take i).map (·.take 16)).length = i := by simp; omega
  rcases Nat.lt_or_ge j i with c | c
  · rw [List.getElem?_append_left (by omega)] at hj hh
    exact hold j r h hj hh
  · rw [List.getElem?_append_right (by omega)] at hj hh
    rw [hz] at hj
    rw [hl] at hh
    cases hk : j - i with
    | zero => rw [hk] at hj hh; simp at hj hh; subst hj; subst hh; exact hnew
    | succ k => rw [hk] at hj; simp at hj
theorem rows_skip {i : Nat} (hlt : ¬ (i : Int) < 16) : min (i + 1) 16 = min i 16 := by omega

theorem Min_any (w : World) (v : Value) (xs : List Int) (hv : RdV (Value.int .i64) w v xs) (hl : xs.length ≤ 1000000) (h0 : 1 ≤ xs.length) :
    Calls Try.prog 80 [v].toArray w fun e w' => ∃ z : Int, (z ∈ xs ∧ ∀ x ∈ xs, z ≤ x) ∧ e = .returned (.int .i64 z) ∧ Below w.heap.size w w' := by
  refine enter (N := 25) Try.func80 rfl rfl rfl ?_
  refine g_seq ?_
  refine g_region ?_
  refine s_y (y_assign rfl) rfl rfl rfl rfl ?_
  refine s_nil ?_
  refine g_then ?_
  refine g_seq ?_
  refine g_seq ?_
  refine g_region ?_
  refine s_y (y_move rfl) rfl rfl rfl rfl ?_
  refine s_y (y_lenV (n := xs.length) rfl (by obtain ⟨A, c, h1, _⟩ := hv; exact ⟨A, c, h1⟩) sle_46) rfl rfl rfl rfl ?_
  refine s_y (y_lss_f rfl rfl (by omega)) rfl rfl rfl rfl ?_
  refine s_nil ?_
  refine g_then ?_
  refine g_cond_f rfl ?_
  refine g_skip ?_
  refine g_then ?_
  refine g_seq ?_
  refine g_region ?_
  refine s_y (y_move rfl) rfl rfl rfl rfl ?_
  refine s_y (y_idxV (enc := (Value.int .i64)) rfl rfl hv Try.underlying46 size_3 (by omega) (by omega)) rfl rfl rfl rfl ?_
  refine s_y (y_ldV (enc := (Value.int .i64)) (xs := xs) (fun w h => hv.rdl.below h.below) rfl agg_3 (rdI_at (by omega) (by omega))) rfl rfl rfl rfl ?_
  refine s_y (y_assign rfl) rfl rfl rfl rfl ?_
  refine s_nil ?_
  refine g_then ?_
  refine g_seq ?_
  refine g_seq ?_
  refine g_region ?_
  refine s_y (y_assign rfl) rfl rfl rfl rfl ?_
  refine s_nil ?_
  refine g_then ?_
  refine g_block ?_
  refine g_loop (fun (i : Nat) act W => i + 1 ≤ xs.length ∧ ∃ (z : Int) (w1 : World), (z ∈ xs.take (i + 1) ∧ ∀ x ∈ xs.take (i + 1), z ≤ x) ∧ Has 25 [] [(0, v), (2, .int .i64 0), (3, .int .i64 z), (4, .int .i64 ((i + 1 : Nat) : Int))] act ∧ Hp w w1 ([]) W) (fun i => xs.length - i) 0 (fun act W ha hw => ⟨by omega, rdI xs 0, W, (by obtain ⟨h1, h2⟩ := first_take h0; exact ⟨h1, fun x hx => by rw [h2] at hx; simp at hx; omega⟩), ha.weak (sub_get ⟨rfl, rfl, rfl, rfl, trivial⟩), hw.toHq.lookSub (List.Sublist.refl _)⟩) ?_
  intro i act W ⟨hb_i, z, w1, hz, ha, hw⟩
  refine g_go ha hw ?_
  clear ha hw act W
  refine g_seq ?_
  refine g_seq ?_
  refine g_region ?_
  refine s_y (y_move rfl) rfl rfl rfl rfl ?_
  refine s_y (y_move rfl) rfl rfl rfl rfl ?_
  refine s_y (y_lenV (n := xs.length) rfl (by obtain ⟨A, c, h1, _⟩ := hv; exact ⟨A, c, h1⟩) sle_46) rfl rfl rfl rfl ?_
  refine s_y (y_lss rfl rfl) rfl rfl rfl rfl ?_
  refine s_nil ?_
  refine g_then ?_
  refine g_cond rfl (fun cq1 => ?_) (fun cq1 => ?_)
  · (try simp at cq1)
    refine g_skip ?_
    refine g_then ?_
    refine g_seq ?_
    refine g_block ?_
    refine g_region ?_
    refine s_y (y_move rfl) rfl rfl rfl rfl ?_
    refine s_y (y_move rfl) rfl rfl rfl rfl ?_
    refine s_y (y_move rfl) rfl rfl rfl rfl ?_
    refine s_y (y_idxV (enc := (Value.int .i64)) rfl rfl hv Try.underlying46 size_3 (by omega) (by omega)) rfl rfl rfl rfl ?_
    refine s_y (y_ldV (enc := (Value.int .i64)) (xs := xs) (fun w h => hv.rdl.below h.below) rfl agg_3 (rdI_at (by omega) (by omega))) rfl rfl rfl rfl ?_
    refine s_y (y_min rfl rfl) rfl rfl rfl rfl ?_
    refine s_y (y_assign rfl) rfl rfl rfl rfl ?_
    refine s_nil ?_
    refine g_inb ?_
    refine g_then ?_
    refine g_region ?_
    refine s_y (y_move rfl) rfl rfl rfl rfl ?_
    refine s_y (y_add rfl rfl (by omega) (by omega)) rfl rfl rfl rfl ?_
    refine s_y (y_assign rfl) rfl rfl rfl rfl ?_
    refine s_nil ?_
    refine g_then ?_
    exact fun act W ha hw => ⟨i + 1, by omega, by omega, (if (rdI xs ((i + 1 : Nat) : Int)) < z then (rdI xs ((i + 1 : Nat) : Int)) else z), W, (by exact take_min (by omega) hz), ha.weak (sub_get ⟨rfl, rfl, rfl, rfl, trivial⟩), hw.toHq.lookSub (List.Sublist.refl _)⟩
  · (try simp at cq1)
    refine g_exit ?_
    refine g_thenx ?_
    refine g_thenx ?_
    refine g_inbx ?_
    refine g_then ?_
    refine g_seq ?_
    refine g_region ?_
    refine s_y (y_move rfl) rfl rfl rfl rfl ?_
    refine s_y (y_assign rfl) rfl rfl rfl rfl ?_
    refine s_nil ?_
    refine g_then ?_
    refine g_ret ?_
    have hi1 : i + 1 = xs.length := by omega
    rw [hi1, List.take_length] at hz
    exact g_end trivial (fun a w ha hq_ => res1 ha rfl rfl  w) (fun w h => ⟨_, hz, rfl, h.below⟩)

theorem Max_any (w : World) (v : Value) (xs : List Int) (hv : RdV (Value.int .i64) w v xs) (hl : xs.length ≤ 1000000) (h0 : 1 ≤ xs.length) :
    Calls Try.prog 81 [v].toArray w fun e w' => ∃ z : Int, (z ∈ xs ∧ ∀ x ∈ xs, x ≤ z) ∧ e = .returned (.int .i64 z) ∧ Below w.heap.size w w' := by
  refine enter (N := 25) Try.func81 rfl rfl rfl ?_
  refine g_seq ?_
  refine g_region ?_
  refine s_y (y_assign rfl) rfl rfl rfl rfl ?_
  refine s_nil ?_
  refine g_then ?_
  refine g_seq ?_
  refine g_seq ?_
  refine g_region ?_
  refine s_y (y_move rfl) rfl rfl rfl rfl ?_
  refine s_y (y_lenV (n := xs.length) rfl (by obtain ⟨A, c, h1, _⟩ := hv; exact ⟨A, c, h1⟩) sle_46) rfl rfl rfl rfl ?_
  refine s_y (y_lss_f rfl rfl (by omega)) rfl rfl rfl rfl ?_
  refine s_nil ?_
  refine g_then ?_
  refine g_cond_f rfl ?_
  refine g_skip ?_
  refine g_then ?_
  refine g_seq ?_
  refine g_region ?_
  refine s_y (y_move rfl) rfl rfl rfl rfl ?_
  refine s_y (y_idxV (enc := (Value.int .i64)) rfl rfl hv Try.underlying46 size_3 (by omega) (by omega)) rfl rfl rfl rfl ?_
  refine s_y (y_ldV (enc := (Value.int .i64)) (xs := xs) (fun w h => hv.rdl.below h.below) rfl agg_3 (rdI_at (by omega) (by omega))) rfl rfl rfl rfl ?_
  refine s_y (y_assign rfl) rfl rfl rfl rfl ?_
  refine s_nil ?_
  refine g_then ?_
  refine g_seq ?_
  refine g_seq ?_
  refine g_region ?_
  refine s_y (y_assign rfl) rfl rfl rfl rfl ?_
  refine s_nil ?_
  refine g_then ?_
  refine g_block ?_
  refine g_loop (fun (i : Nat) act W => i + 1 ≤ xs.length ∧ ∃ (z : Int) (w1 : World), (z ∈ xs.take (i + 1) ∧ ∀ x ∈ xs.take (i + 1), x ≤ z) ∧ Has 25 [] [(0, v), (2, .int .i64 0), (3, .int .i64 z), (4, .int .i64 ((i + 1 : Nat) : Int))] act ∧ Hp w w1 ([]) W) (fun i => xs.length - i) 0 (fun act W ha hw => ⟨by omega, rdI xs 0, W, (by obtain ⟨h1, h2⟩ := first_take h0; exact ⟨h1, fun x hx => by rw [h2] at hx; simp at hx; omega⟩), ha.weak (sub_get ⟨rfl, rfl, rfl, rfl, trivial⟩), hw.toHq.lookSub (List.Sublist.refl _)⟩) ?_
  intro i act W ⟨hb_i, z, w1, hz, ha, hw⟩
  refine g_go ha hw ?_
  clear ha hw act W
  refine g_seq ?_
  refine g_seq ?_
  refine g_region ?_
  refine s_y (y_move rfl) rfl rfl rfl rfl ?_
  refine s_y (y_move rfl) rfl rfl rfl rfl ?_
  refine s_y (y_lenV (n := xs.length) rfl (by obtain ⟨A, c, h1, _⟩ := hv; exact ⟨A, c, h1⟩) sle_46) rfl rfl rfl rfl ?_
  refine s_y (y_lss rfl rfl) rfl rfl rfl rfl ?_
  refine s_nil ?_
  refine g_then ?_
  refine g_cond rfl (fun cq1 => ?_) (fun cq1 => ?_)
  · (try simp at cq1)
    refine g_skip ?_
    refine g_then ?_
    refine g_seq ?_
    refine g_block ?_
    refine g_region ?_
    refine s_y (y_move rfl) rfl rfl rfl rfl ?_
    refine s_y (y_move rfl) rfl rfl rfl rfl ?_
    refine s_y (y_move rfl) rfl rfl rfl rfl ?_
    refine s_y (y_idxV (enc := (Value.int .i64)) rfl rfl hv Try.underlying46 size_3 (by omega) (by omega)) rfl rfl rfl rfl ?_
    refine s_y (y_ldV (enc := (Value.int .i64)) (xs := xs) (fun w h => hv.rdl.below h.below) rfl agg_3 (rdI_at (by omega) (by omega))) rfl rfl rfl rfl ?_
    refine s_y (y_max rfl rfl) rfl rfl rfl rfl ?_
    refine s_y (y_assign rfl) rfl rfl rfl rfl ?_
    refine s_nil ?_
    refine g_inb ?_
    refine g_then ?_
    refine g_region ?_
    refine s_y (y_move rfl) rfl rfl rfl rfl ?_
    refine s_y (y_add rfl rfl (by omega) (by omega)) rfl rfl rfl rfl ?_
    refine s_y (y_assign rfl) rfl rfl rfl rfl ?_
    refine s_nil ?_
    refine g_then ?_
    exact fun act W ha hw => ⟨i + 1, by omega, by omega, (if (rdI xs ((i + 1 : Nat) : Int)) > z then (rdI xs ((i + 1 : Nat) : Int)) else z), W, (by exact take_max (by omega) hz), ha.weak (sub_get ⟨rfl, rfl, rfl, rfl, trivial⟩), hw.toHq.lookSub (List.Sublist.refl _)⟩
  · (try simp at cq1)
    refine g_exit ?_
    refine g_thenx ?_
    refine g_thenx ?_
    refine g_inbx ?_
    refine g_then ?_
    refine g_seq ?_
    refine g_region ?_
    refine s_y (y_move rfl) rfl rfl rfl rfl ?_
    refine s_y (y_assign rfl) rfl rfl rfl rfl ?_
    refine s_nil ?_
    refine g_then ?_
    refine g_ret ?_
    have hi1 : i + 1 = xs.length := by omega
    rw [hi1, List.take_length] at hz
    exact g_end trivial (fun a w ha hq_ => res1 ha rfl rfl  w) (fun w h => ⟨_, hz, rfl, h.below⟩)

theorem lists_any (w : World) (v : Value) (vs : List Value) (hs : List (List Int)) (hh : RdVV w v vs hs) (hl : hs.length ≤ 9223372036854775807) :
    Calls Try.prog 48 [v].toArray w fun e w' => ∃ y : Value × List Value × List (Nat × Obj), OwnVV y.1 y.2.1 ((hs.take 16).map (·.take 16)) y.2.2 ∧ e = .returned y.1 ∧ Hq w w y.2.2 w' := by
  obtain ⟨ie46, hi46⟩ := inf_46
  refine enter (N := 22) Try.func48 rfl rfl rfl ?_
  refine g_seq ?_
  refine g_region ?_
  refine s_y (y_assign rfl) rfl rfl rfl rfl ?_
  refine s_nil ?_
  refine g_then ?_
  refine g_seq ?_
  refine g_region ?_
  refine s_y (y_assign rfl) rfl rfl rfl rfl ?_
  refine s_nil ?_
  refine g_then ?_
  refine g_seq ?_
  refine g_seq ?_
  refine g_region ?_
  refine s_y (y_move rfl) rfl rfl rfl rfl ?_
  refine s_y (y_lenV (n := hs.length) rfl hh.shape sle_66) rfl rfl rfl rfl ?_
  refine s_y (y_move rfl) rfl rfl rfl rfl ?_
  refine s_nil ?_
  refine g_then ?_
  refine g_block ?_
  refine g_loop (fun (i : Nat) act W => i ≤ hs.length ∧ ∃ (sv : SV) (m : Nat) (zs : List Value) (mm : List (Nat × Obj)) (w1 : World), (sv.ok 1 m (zs.map encV)) ∧ (m ≤ min i 16) ∧ (zs.length = min i 16) ∧ (∀ W : World, (∀ p ∈ mm, W.heap[p.1]? = some p.2) → ∀ (j : Nat) (r : Value) (h : List Int), zs[j]? = some r → ((hs.take (min i 16)).map (·.take 16))[j]? = some h → RdV (Value.int .i64) W r h) ∧ Has 22 [] [(2, .slice none 0 0), (3, sv.val m), (6, v), (7, .int .i64 (hs.length : Nat)), (8, .int .i64 (i : Int))] act ∧ Hp w w1 ((sv.mem 46 (zs.map encV) ++ ((mm ++ ([]))))) W) (fun i => hs.length - i) 0 (fun act W ha hw => ⟨by omega, SV.nil, 0, [], [], W, (by exact ⟨rfl, rfl⟩), (by omega), (by simp), (by intro W _ j r h hj; simp at hj), ha.weak (sub_get ⟨rfl, rfl, rfl, rfl, rfl, trivial⟩), hw.toHq.lookSub (List.Sublist.refl _)⟩) ?_
  intro i act W ⟨hb_i, sv, m, zs, mm, w1, hokz, hmi, hzl, hmm, ha, hw⟩
  refine g_go ha hw ?_
  clear ha hw act W
  refine g_seq ?_
  refine g_region ?_
  refine s_y (y_lss rfl rfl) rfl rfl rfl rfl ?_
  refine s_nil ?_
  refine g_then ?_
  refine g_seq ?_
  refine g_cond rfl (fun cq1 => ?_) (fun cq1 => ?_)
  · (try simp at cq1)
    refine g_skip ?_
    refine g_then ?_
    refine g_seq ?_
    refine g_block ?_
    refine g_seq ?_
    refine g_region ?_
    refine s_y (y_move rfl) rfl rfl rfl rfl ?_
    refine s_y (y_idxR rfl rfl hh Try.underlying66 size_46 (by omega) (by omega)) rfl rfl rfl rfl ?_
    refine s_y (y_ldV (enc := encV) (xs := vs) (fun w h => hh.rdl.below h.below) rfl agg_46 (rdVal_at (by omega) (by have := hh.len; omega))) rfl rfl rfl rfl ?_
    refine s_y (y_assign rfl) rfl rfl rfl rfl ?_
    refine s_y (y_assign rfl) rfl rfl rfl rfl ?_
    refine s_nil ?_
    refine g_then ?_
    refine g_seq ?_
    refine g_region ?_
    refine s_y (y_move rfl) rfl rfl rfl rfl ?_
    refine s_y (y_lss rfl rfl) rfl rfl rfl rfl ?_
    refine s_nil ?_
    refine g_then ?_
    refine g_cond rfl (fun cq2 => ?_) (fun cq2 => ?_)
    · (try simp at cq2)
      have hlt : (i : Int) < 16 := by omega
      refine g_region ?_
      refine s_y (y_move rfl) rfl rfl rfl rfl ?_
      refine s_y (y_move rfl) rfl rfl rfl rfl ?_
      refine s_tr (t_callm rfl rfl ent_51 (fun w h => list_any w _ (rdR hs (i : Int)) ((hh.at_ (i := (i : Int)) (by omega) (by omega)).below h.below))) rfl rfl rfl rfl (fun x4 hx5 => ?_)
      obtain ⟨vo3, mo3⟩ := x4
      obtain ⟨hOo3, hEo3⟩ := hx5
      refine s_tr (t_build (vs := [(0, vo3)]) (cells := [vo3]) rfl rfl Try.underlying66 hi46.1 hi46.2.1 (by rw [hi46.2.2.1]; rfl) (by rw [hi46.2.2.1]; rfl) (by rw [hi46.2.2.1]; exact fill_one hOo3.cells1)) rfl rfl rfl rfl (fun b6 hb6 => ?_)
      refine s_tr (t_appendL (enc := encV) (sv := sv) (xs := zs) (n := m) (v := vo3) ((b6, .cells [vo3].toArray 46 (0, 0)) :: mo3) _ rfl rfl rfl hokz Try.underlying66 hi46.1 hi46.2.1 hi46.2.2.1 hi46.2.2.2 rfl (fun w h => h.toHq.cell (i := 0) rfl rfl) hOo3.one (by omega) (by unfold maxLen; omega)) rfl rfl rfl rfl (fun y10 hy11 => ?_)
      obtain ⟨sv7, gs8⟩ := y10
      obtain ⟨hok9, hok9b, hok9c, hok9j, hok9e⟩ := hy11
      refine s_y (y_assign rfl) rfl rfl rfl rfl ?_
      refine s_nil ?_
      refine g_inb ?_
      refine g_then ?_
      refine g_region ?_
      refine s_y (y_add rfl rfl (by omega) (by omega)) rfl rfl rfl rfl ?_
      refine s_y (y_move rfl) rfl rfl rfl rfl ?_
      refine s_nil ?_
      refine g_then ?_
      exact fun act W ha hw => ⟨i + 1, by omega, by omega, sv7, (m + 1), (zs ++ [vo3]), (mo3 ++ mm), W, (by exact hok9), (by omega), (by (try simp only [List.length_append, List.length_cons, List.length_nil]); omega), (by intro W hW; exact rows_app hzl (by omega) hlt (hmm W fun p hp => hW p (List.mem_append_right _ hp)) (hOo3.rd fun p hp => hW p (List.mem_append_left _ hp))), ha.weak (sub_get ⟨rfl, rfl, rfl, rfl, rfl, trivial⟩), hw.toHq.pick (show ((sv7.mem 46 ((zs ++ [vo3]).map encV) ++ (((mo3 ++ mm) ++ ((b6, .cells [vo3].toArray 46 (0, 0)) :: (gs8 ++ ([])))))) : List (Nat × Obj)).Perm ((b6, .cells [vo3].toArray 46 (0, 0)) :: (mo3 ++ ((sv7.mem 46 ((zs ++ [vo3]).map encV) ++ ((gs8 ++ ((mm ++ ([]))))))))) from List.Perm.trans (List.Perm.of_eq (by first | rfl | simp only [List.append_assoc])) (List.Perm.trans (show ((b6, .cells [vo3].toArray 46 (0, 0)) :: (mo3 ++ ((sv7.mem 46 ((zs ++ [vo3]).map encV) ++ ((gs8 ++ ((mm ++ ([])))))))) : List (Nat × Obj)).Perm ((b6, .cells [vo3].toArray 46 (0, 0)) :: (sv7.mem 46 ((zs ++ [vo3]).map encV) ++ ((mo3 ++ ((gs8 ++ ((mm ++ ([])))))))) : List (Nat × Obj)) from List.Perm.trans (List.Perm.of_eq (by simp only [List.append_assoc, List.cons_append, List.nil_append, List.append_nil])) (List.Perm.trans (List.Perm.append_left ((b6, .cells [vo3].toArray 46 (0, 0)) :: [] : List (Nat × Obj)) (List.perm_append_comm_assoc ((mo3 ++ ([])) : List (Nat × Obj)) ((sv7.mem 46 ((zs ++ [vo3]).map encV) ++ ([])) : List (Nat × Obj)) ((gs8 ++ ((mm ++ ([])))) : List (Nat × Obj)))) (List.Perm.of_eq (by simp only [List.append_assoc, List.cons_append, List.nil_append, List.append_nil])))) (List.Perm.trans (show ((b6, .cells [vo3].toArray 46 (0, 0)) :: (sv7.mem 46 ((zs ++ [vo3]).map encV) ++ ((mo3 ++ ((gs8 ++ ((mm ++ ([])))))))) : List (Nat × Obj)).Perm ((sv7.mem 46 ((zs ++ [vo3]).map encV) ++ ((mo3 ++ ((gs8 ++ ((mm ++ ((b6, .cells [vo3].toArray 46 (0, 0)) :: [])))))))) : List (Nat × Obj)) from List.Perm.trans (List.Perm.of_eq (by simp only [List.append_assoc, List.cons_append, List.nil_append, List.append_nil])) (List.Perm.trans (List.perm_append_comm_assoc ((b6, .cells [vo3].toArray 46 (0, 0)) :: [] : List (Nat × Obj)) ((sv7.mem 46 ((zs ++ [vo3]).map encV) ++ ((mo3 ++ ((gs8 ++ ((mm ++ ([])))))))) : List (Nat × Obj)) ([] : List (Nat × Obj))) (List.Perm.of_eq (by simp only [List.append_assoc, List.cons_append, List.nil_append, List.append_nil])))) (show ((sv7.mem 46 ((zs ++ [vo3]).map encV) ++ ((mo3 ++ ((gs8 ++ ((mm ++ ((b6, .cells [vo3].toArray 46 (0, 0)) :: [])))))))) : List (Nat × Obj)).Perm ((sv7.mem 46 ((zs ++ [vo3]).map encV) ++ ((mo3 ++ ((mm ++ ((b6, .cells [vo3].toArray 46 (0, 0)) :: (gs8 ++ ([])))))))) : List (Nat × Obj)) from List.Perm.trans (List.Perm.of_eq (by simp only [List.append_assoc, List.cons_append, List.nil_append, List.append_nil])) (List.Perm.trans (List.Perm.append_left ((sv7.mem 46 ((zs ++ [vo3]).map encV) ++ ((mo3 ++ ([])))) : List (Nat × Obj)) (List.perm_append_comm_assoc ((gs8 ++ ([])) : List (Nat × Obj)) ((mm ++ ((b6, .cells [vo3].toArray 46 (0, 0)) :: [])) : List (Nat × Obj)) ([] : List (Nat × Obj)))) (List.Perm.of_eq (by simp only [List.append_assoc, List.cons_append, List.nil_append, List.append_nil])))))).symm) (sub_app (sv7.mem 46 ((zs ++ [vo3]).map encV)) (sub_app (mo3 ++ mm) (List.nil_sublist _)))⟩
    · (try simp at cq2)
      have hlt : ¬ (i : Int) < 16 := by omega
      refine g_skip ?_
      refine g_inb ?_
      refine g_then ?_
      refine g_region ?_
      refine s_y (y_add rfl rfl (by omega) (by omega)) rfl rfl rfl rfl ?_
      refine s_y (y_move rfl) rfl rfl rfl rfl ?_
      refine s_nil ?_
      refine g_then ?_
      exact fun act W ha hw => ⟨i + 1, by omega, by omega, sv, m, zs, (mm), W, (by exact hokz), (by omega), (by (try simp only [List.length_append, List.length_cons, List.length_nil]); omega), (by rw [rows_skip hlt]; exact hmm), ha.weak (sub_get ⟨rfl, rfl, rfl, rfl, rfl, trivial⟩), hw.toHq.pick (show ((sv.mem 46 (zs.map encV) ++ (((mm) ++ ([])))) : List (Nat × Obj)).Perm ((sv.mem 46 (zs.map encV) ++ ((mm ++ ([]))))) from List.Perm.trans (List.Perm.of_eq (by first | rfl | simp only [List.append_assoc])) (List.Perm.refl _)) (List.Sublist.refl _)⟩
  · (try simp at cq1)
    refine g_exit ?_
    refine g_thenx ?_
    refine g_thenx ?_
    refine g_inbx ?_
    refine g_then ?_
    refine g_seq ?_
    refine g_region ?_
    refine s_y (y_move rfl) rfl rfl rfl rfl ?_
    refine s_y (y_assign rfl) rfl rfl rfl rfl ?_
    refine s_nil ?_
    refine g_then ?_
    refine g_ret ?_
    obtain rfl : i = hs.length := by omega
    have hcut : hs.take (min hs.length 16) = hs.take 16 := by rcases Nat.le_total hs.length 16 with h | h; rw [Nat.min_eq_left h, List.take_length, List.take_of_length_le h]; rw [Nat.min_eq_right h]
    rw [hcut] at hmm
    exact g_end trivial (fun a w ha hq_ => res1 ha rfl rfl  w) (fun w h => ⟨(_, zs, sv.mem 46 (zs.map encV) ++ (mm ++ [])), (fun W hW => RdVV.sv (e := 46) (vs := zs) (hs := (hs.take 16).map (·.take 16)) hokz (fun p hp => hW p (mem_al _ hp)) (by simp only [List.length_map, List.length_take]; omega) (hmm W fun p hp => hW p (mem_ar _ (mem_al _ hp)))), rfl, h.hand (List.Sublist.refl _)⟩)

theorem Heights_ok (w : World) (a b : ByteArray) (pi po ps : Int) (ha12 : a.size ≤ 12) (hb12 : b.size ≤ 12) (hok : okP pi po ps) :
    Calls Try.prog 46 [.string a, .string b, .agg #[.int .i64 pi, .int .i64 po, .int .i64 ps]].toArray w fun e w' => ∃ x : Nat × Nat × Nat × List Value × List Nat, (x.2.2.2.2.length = a.size + 1) ∧ e = .returned (.tuple #[.slice (some ⟨x.2.1, 0, none⟩) (a.size + 1) x.2.2.1, .int .i64 0]) ∧ Hq w w (gridM a b pi po ps x) w' := by
  refine enter (N := 23) Try.func46 rfl rfl rfl ?_
  refine g_seq ?_
  refine g_region ?_
  refine s_tr (t_box rfl rfl) rfl rfl rfl rfl (fun b1 hb1 => ?_)
  refine s_y (y_assign rfl) rfl rfl rfl rfl ?_
  refine s_y (y_assign rfl) rfl rfl rfl rfl ?_
  refine s_nil ?_
  refine g_then ?_
  refine g_seq ?_
  refine g_region ?_
  refine s_y (y_move rfl) rfl rfl rfl rfl ?_
  refine s_y (y_move rfl) rfl rfl rfl rfl ?_
  refine s_y (y_ldn 0 rfl rfl agg_28 size_28 rfl rfl) rfl rfl rfl rfl ?_
  refine s_tr (t_callm (A := fun x : Nat × Nat × Nat × List Value × List Nat => x.2.2.2.2.length = a.size + 1) (vf := fun x => .tuple #[.pointer (some ⟨x.1, 0, none⟩), .bool true]) rfl rfl ent_62 (fun w hw => (read_ok w a b pi po ps ha12 hb12 hok).mono fun e w' ⟨x, h1, h2, h3⟩ => ⟨x, h1, h2, h3⟩)) rfl rfl rfl rfl (fun xg hxg => ?_)
  obtain ⟨g, bb, cap, jk, Bs⟩ := xg
  have hl : Bs.length = a.size + 1 := hxg
  refine s_y (y_move rfl) rfl rfl rfl rfl ?_
  refine s_y (y_extract rfl rfl) rfl rfl rfl rfl ?_
  refine s_y (y_extract rfl rfl) rfl rfl rfl rfl ?_
  refine s_y (y_assign rfl) rfl rfl rfl rfl ?_
  refine s_y (y_assign rfl) rfl rfl rfl rfl ?_
  refine s_nil ?_
  refine g_then ?_
  refine g_seq ?_
  refine g_seq ?_
  refine g_region ?_
  refine s_y (y_move rfl) rfl rfl rfl rfl ?_
  refine s_y (y_not_t rfl) rfl rfl rfl rfl ?_
  refine s_nil ?_
  refine g_then ?_
  refine g_cond_f rfl ?_
  refine g_skip ?_
  refine g_then ?_
  refine g_seq ?_
  refine g_region ?_
  refine s_y (y_move rfl) rfl rfl rfl rfl ?_
  refine s_y (y_nil rfl) rfl rfl rfl rfl ?_
  refine s_y (y_fld rfl (fun w => fld_99_3 _ _ w)) rfl rfl rfl rfl ?_
  refine s_y (y_ld1 0 rfl rfl agg_66 rfl) rfl rfl rfl rfl ?_
  refine s_y (y_assign rfl) rfl rfl rfl rfl ?_
  refine s_y (y_assign rfl) rfl rfl rfl rfl ?_
  refine s_nil ?_
  refine g_then ?_
  refine g_ret ?_
  exact g_end trivial (fun a w ha hq_ => res2 ha rfl rfl rfl  w) (fun w h => ⟨(g, bb, cap, jk, Bs), hl, rfl, h.hand (List.Sublist.cons_cons _ (List.Sublist.cons_cons _ (sub_here _ _)))⟩)

theorem Heights_bad (w : World) (a b : ByteArray) (pi po ps : Int) (h : ¬ (a.size ≤ 12 ∧ b.size ≤ 12 ∧ okP pi po ps)) :
    Calls Try.prog 46 [.string a, .string b, .agg #[.int .i64 pi, .int .i64 po, .int .i64 ps]].toArray w fun e w' => e = .returned (.tuple #[.slice none 0 0, .int .i64 2]) ∧ Below w.heap.size w w' := by
  refine enter (N := 23) Try.func46 rfl rfl rfl ?_
  refine g_seq ?_
  refine g_region ?_
  refine s_tr (t_box rfl rfl) rfl rfl rfl rfl (fun b1 hb1 => ?_)
  refine s_y (y_assign rfl) rfl rfl rfl rfl ?_
  refine s_y (y_assign rfl) rfl rfl rfl rfl ?_
  refine s_nil ?_
  refine g_then ?_
  refine g_seq ?_
  refine g_region ?_
  refine s_y (y_move rfl) rfl rfl rfl rfl ?_
  refine s_y (y_move rfl) rfl rfl rfl rfl ?_
  refine s_y (y_ldn 0 rfl rfl agg_28 size_28 rfl rfl) rfl rfl rfl rfl ?_
  refine s_tr (t_callm (A := fun _ => True) (vf := fun g : Nat => .tuple #[.pointer (some ⟨g, 0, none⟩), .bool false]) (mm := fun _ => []) rfl rfl ent_62 (fun w hw => (read_bad w a b pi po ps h).mono fun e w' ⟨g, h1, h2⟩ => ⟨g, trivial, h1, Hq.of_below h2⟩)) rfl rfl rfl rfl (fun g _ => ?_)
  refine s_y (y_move rfl) rfl rfl rfl rfl ?_
  refine s_y (y_extract rfl rfl) rfl rfl rfl rfl ?_
  refine s_y (y_extract rfl rfl) rfl rfl rfl rfl ?_
  refine s_y (y_assign rfl) rfl rfl rfl rfl ?_
  refine s_y (y_assign rfl) rfl rfl rfl rfl ?_
  refine s_nil ?_
  refine g_then ?_
  refine g_seq ?_
  refine g_seq ?_
  refine g_region ?_
  refine s_y (y_move rfl) rfl rfl rfl rfl ?_
  refine s_y (y_not_f rfl) rfl rfl rfl rfl ?_
  refine s_nil ?_
  refine g_then ?_
  refine g_cond_t rfl ?_
  refine g_seq ?_
  refine g_region ?_
  refine s_y (y_assign rfl) rfl rfl rfl rfl ?_
  refine s_y (y_assign rfl) rfl rfl rfl rfl ?_
  refine s_nil ?_
  refine g_then ?_
  refine g_ret ?_
  refine g_thenr ?_
  exact g_end trivial (fun a w ha hq_ => res2 ha rfl rfl rfl  w) (fun w h => ⟨rfl, h.below⟩)

theorem map_encV (l : List Value) : l.map encV = l := by
  induction l with
  | nil => rfl
  | cons x l ih => simp only [List.map_cons, ih]
/-- The grid's table, as a row of rows. -/
theorem grid_rows {W : World} {a b : ByteArray} {pi po ps : Int} {x : Nat × Nat × Nat × List Value × List Nat} (hl : x.2.2.2.2.length = a.size + 1) (h : ∀ p ∈ gridM a b pi po ps x, W.heap[p.1]? = some p.2) :
    RdVV W (.slice (some ⟨x.2.1, 0, none⟩) (a.size + 1) x.2.2.1) (x.2.2.2.2.map (rowV (b.size + 1))) (tabD a b pi po ps) := by
  have hb := h _ (List.mem_of_getElem? (i := 1) rfl)
  refine ⟨⟨_, _, by rw [tabD_len]⟩, by rw [tabD_len, List.length_map, hl], ?_, fun j r hr hj hh => ?_⟩
  · have hb' : W.heap[x.2.1]? = some (.cells ((x.2.2.2.2.map (rowV (b.size + 1))).map encV ++ x.2.2.2.1).toArray 46 (0, 0)) := by rw [map_encV]; exact hb
    exact RdL.own hb'
  · rw [List.getElem?_map] at hj
    cases hB : x.2.2.2.2[j]? with
    | none => simp [hB] at hj
    | some B =>
      simp [hB] at hj
      have hjl := (List.getElem?_eq_some_iff.1 hB).1
      have hm := h _ (List.mem_cons_of_mem _ (List.mem_cons_of_mem _ (rowsM_mem (D a b pi po ps) (b.size + 1) x.2.2.2.2 j B hB)))
      have hrow : hr = tabRow (D a b pi po ps) (b.size + 1) j := by
        unfold tabD at hh
        rw [List.getElem?_map, List.getElem?_range (by omega)] at hh
        simpa using hh.symm
      subst hrow
      rw [← hj]
      exact RdV.own (jk := []) (by rw [List.append_nil]; exact hm) (by simp [tabRow]) (Nat.le_refl _)

end Go.Proofs.Ytnnpdgegejklpaa
