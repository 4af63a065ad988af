/- The laws WheelsEnergy and WheelsProducts, walked. -/
import Derived.Test.YtncenmgkdodioaaWhG
import Derived.Test.YtncenmgkdodioaaWhDft
namespace Go.Proofs.Ytncenmgkdodioaa
open Go.RowKit Go.Sx Go.Wh Go.Dft
set_option linter.unusedVariables false
set_option linter.unusedSimpArgs false
set_option maxRecDepth 100000
set_option maxHeartbeats 4000000

private theorem ent_27 : Enters Try.prog 27 := enters_of Try.func27 (by kernel_rfl) rfl
private theorem ent_33 : Enters Try.prog 33 := enters_of Try.func33 (by kernel_rfl) rfl
private theorem ent_29 : Enters Try.prog 29 := enters_of Try.func29 (by kernel_rfl) rfl
private theorem ent_17 : Enters Try.prog 17 := enters_of Try.func17 (by kernel_rfl) rfl
private theorem sle_32 : Try.prog.underlying 32 = some (.slice (Try.prog.elem 32)) := by kernel_rfl
private theorem size_3 : (Try.prog.info? 3).map (·.size) = some 1 := by kernel_rfl
private theorem agg_3 : isAggB Try.prog 3 = some false := by kernel_rfl
private theorem ent_20 : Enters Try.prog 20 := enters_of Try.func20 (by kernel_rfl) rfl
private theorem inf_3 : ∃ ie, Try.prog.info? 3 = some ie ∧ ie.zero = some (.int .i64 0) ∧ ie.size = 1 ∧ ie.bytes = 8 := info_of (by kernel_rfl) (by kernel_rfl)
private theorem ent_34 : Enters Try.prog 34 := enters_of Try.func34 (by kernel_rfl) rfl
private theorem ent_42 : Enters Try.prog 42 := enters_of Try.func42 (by kernel_rfl) rfl
private theorem ent_43 : Enters Try.prog 43 := enters_of Try.func43 (by kernel_rfl) rfl
private theorem ent_35 : Enters Try.prog 35 := enters_of Try.func35 (by kernel_rfl) rfl
private theorem ent_30 : Enters Try.prog 30 := enters_of Try.func30 (by kernel_rfl) rfl

theorem WheelsEnergy_ok (w : World) (n : Nat) (v : Value) (xs : List Int) (hv : RdV (Value.int .i64) w v xs) (hn : 2 ≤ n) (hn2 : n ≤ 16) (hok : okW n (qOf n) xs = true) :
    Calls Try.prog 6 [.int .i64 (n : Int), v].toArray w fun e w' => e = .returned (.bool true) ∧ Below w.heap.size w w' := by
  obtain ⟨hf1, hf2, hf3, hf4, hf5, hf6, hf7⟩ := q_facts hn hn2
  obtain ⟨hxl, hx⟩ := okW_true.1 hok
  have hsq : ∀ j, j ≤ n → 0 ≤ Sm (fun x : Nat => fn xs x * fn xs x) j ∧ Sm (fun x : Nat => fn xs x * fn xs x) j ≤ j * 1000000 := fun j hj => Sm_range fun k hk => by
    have h := at_range hxl hx (i := (k : Int)) (by omega) (by omega)
    have h2 : fn xs k * fn xs k ≤ 1000 * 1000 := Int.mul_le_mul (by show rdI _ _ ≤ _; omega) (by show rdI _ _ ≤ _; omega) h.1 (by decide)
    exact ⟨Int.mul_nonneg h.1 h.1, by omega⟩
  refine enter (N := 101) Try.func6 rfl rfl rfl ?_
  refine g_seq ?_
  refine g_region ?_
  refine s_y (y_assign rfl) rfl rfl rfl rfl ?_
  refine s_nil ?_
  refine g_then ?_
  refine g_seq ?_
  refine g_region ?_
  refine s_y (y_move rfl) rfl rfl rfl rfl ?_
  refine s_y (y_move rfl) rfl rfl rfl rfl ?_
  refine s_tr (t_callm rfl rfl ent_27 (fun w h => list_le w _ xs (hv.below h.below) (by have h_ : (xs).length = n := (okW_true.1 hok).1; omega))) rfl rfl rfl rfl (fun x2 hx3 => ?_)
  obtain ⟨vo1, mo1⟩ := x2
  obtain ⟨hOo1, hEo1⟩ := hx3
  refine s_tr (t_callm (A := New _ _) rfl rfl ent_33 (fun w h => (Power_ok w n _ xs (hOo1.rd fun p hp => h.at_ p (mem_al mo1 hp)) hn hn2 hok).mono fun e w' ⟨b, h1, h2⟩ => ⟨b, ⟨Nat.le_trans h.below.size (h2.ge _ (List.mem_cons_self ..)), Nat.le_trans h.size (h2.ge _ (List.mem_cons_self ..))⟩, h1, h2⟩)) rfl rfl rfl rfl (fun bc4 hbc4 => ?_)
  refine s_y (y_move rfl) rfl rfl rfl rfl ?_
  refine s_y (y_extract rfl rfl) rfl rfl rfl rfl ?_
  refine s_y (y_extract rfl rfl) rfl rfl rfl rfl ?_
  refine s_y (y_assign rfl) rfl rfl rfl rfl ?_
  refine s_y (y_assign rfl) rfl rfl rfl rfl ?_
  refine s_nil ?_
  refine g_then ?_
  refine g_seq ?_
  refine g_seq ?_
  refine g_region ?_
  refine s_y (y_move rfl) rfl rfl rfl rfl ?_
  refine s_y (y_neq_f rfl rfl (by decide)) rfl rfl rfl rfl ?_
  refine s_y (y_move rfl) rfl rfl rfl rfl ?_
  refine s_y (y_move rfl) rfl rfl rfl rfl ?_
  refine s_y (y_move rfl) rfl rfl rfl rfl ?_
  refine s_tr (t_call rfl rfl ent_29 (fun w h => RWheel_t w n _ xs (hv.below h.below) hn hn2 hok)) rfl rfl rfl rfl (fun _ _ => ?_)
  refine s_y (y_not_t rfl) rfl rfl rfl rfl ?_
  refine s_y (y_pick_f rfl rfl) rfl rfl rfl rfl ?_
  refine s_nil ?_
  refine g_then ?_
  refine g_cond_f rfl ?_
  refine g_skip ?_
  refine g_then ?_
  refine g_seq ?_
  refine g_region ?_
  refine s_y (y_move rfl) rfl rfl rfl rfl ?_
  refine s_tr (t_call rfl rfl ent_17 (fun w h => Prime_ok w n hn hn2)) rfl rfl rfl rfl (fun _ _ => ?_)
  refine s_y (y_move rfl) rfl rfl rfl rfl ?_
  refine s_y (y_extract rfl rfl) rfl rfl rfl rfl ?_
  refine s_y (y_extract rfl rfl) rfl rfl rfl rfl ?_
  refine s_y (y_assign rfl) rfl rfl rfl rfl ?_
  refine s_y (y_assign rfl) rfl rfl rfl rfl ?_
  refine s_nil ?_
  refine g_then ?_
  refine g_seq ?_
  refine g_seq ?_
  refine g_region ?_
  refine s_y (y_move rfl) rfl rfl rfl rfl ?_
  refine s_y (y_neq_f rfl rfl (by decide)) rfl rfl rfl rfl ?_
  refine s_y (y_move rfl) rfl rfl rfl rfl ?_
  refine s_y (y_move rfl) rfl rfl rfl rfl ?_
  refine s_y (y_lss_f rfl rfl (by omega)) rfl rfl rfl rfl ?_
  refine s_y (y_pick_f rfl rfl) rfl rfl rfl rfl ?_
  refine s_y (y_move rfl) rfl rfl rfl rfl ?_
  refine s_y (y_move rfl) rfl rfl rfl rfl ?_
  refine s_y (y_gtr_f rfl rfl (by omega)) rfl rfl rfl rfl ?_
  refine s_y (y_pick_f rfl rfl) rfl rfl rfl rfl ?_
  refine s_y (y_move rfl) rfl rfl rfl rfl ?_
  refine s_y (y_move rfl) rfl rfl rfl rfl ?_
  refine s_y (y_lensl rfl sle_32) rfl rfl rfl rfl ?_
  refine s_y (y_move rfl) rfl rfl rfl rfl ?_
  refine s_y (y_neq_f rfl rfl (by omega)) rfl rfl rfl rfl ?_
  refine s_y (y_pick_f rfl rfl) rfl rfl rfl rfl ?_
  refine s_nil ?_
  refine g_then ?_
  refine g_cond_f rfl ?_
  refine g_skip ?_
  refine g_then ?_
  refine g_seq ?_
  refine g_region ?_
  refine s_y (y_assign rfl) rfl rfl rfl rfl ?_
  refine s_y (y_assign rfl) rfl rfl rfl rfl ?_
  refine s_nil ?_
  refine g_then ?_
  refine g_seq ?_
  refine g_seq ?_
  refine g_region ?_
  refine s_y (y_move rfl) rfl rfl rfl rfl ?_
  refine s_y (y_lenV (n := xs.length) rfl (by obtain ⟨A, c, h1, _⟩ := hv; exact ⟨A, c, h1⟩) sle_32) rfl rfl rfl rfl ?_
  refine s_y (y_move rfl) rfl rfl rfl rfl ?_
  refine s_nil ?_
  refine g_then ?_
  refine g_block ?_
  refine g_loop (fun (i : Nat) act W => i ≤ n ∧ ∃ (w1 : World), Has 101 [] [(0, .int .i64 (n : Int)), (1, v), (5, .slice (some ⟨bc4, 0, none⟩) n n), (7, .int .i64 (qOf n)), (9, .int .i64 (Sm (fn (powL (qOf n) (wOf n) n xs)) i)), (10, .int .i64 (Sm (fun x : Nat => fn xs x * fn xs x) i)), (54, .int .i64 (xs.length : Nat)), (55, .int .i64 (i : Int))] act ∧ Hp w w1 ((bc4, .cells ((powL (qOf n) (wOf n) n xs).map (Value.int .i64) ++ []).toArray 3 (0, 0)) :: []) W) (fun i => n - i) 0 (fun act W ha hw => ⟨by omega, W, ha.weak (sub_get ⟨rfl, rfl, rfl, rfl, rfl, rfl, rfl, rfl, trivial⟩), hw.toHq.lookSub (List.Sublist.cons_cons _ (List.nil_sublist _))⟩) ?_
  intro i act W ⟨hb_i, w1, ha, hw⟩
  refine g_go ha hw ?_
  clear ha hw act W
  refine g_seq ?_
  refine g_region ?_
  refine s_y (y_lss rfl rfl) rfl rfl rfl rfl ?_
  refine s_nil ?_
  refine g_then ?_
  refine g_seq ?_
  refine g_cond rfl (fun cq5 => ?_) (fun cq5 => ?_)
  · (try simp at cq5)
    refine g_skip ?_
    refine g_then ?_
    refine g_seq ?_
    refine g_block ?_
    refine g_seq ?_
    refine g_region ?_
    refine s_y (y_move rfl) rfl rfl rfl rfl ?_
    refine s_y (y_assign rfl) rfl rfl rfl rfl ?_
    refine s_nil ?_
    refine g_then ?_
    refine g_seq ?_
    refine g_seq ?_
    have hpr := at_range (okW_true.1 (powL_ok hn hn2 (xs := xs))).1 (okW_true.1 (powL_ok hn hn2 (xs := xs))).2 (i := (i : Int)) (by omega) (by omega)
    have hpl : (powL (qOf n) (wOf n) n xs).length = n := (okW_true.1 (powL_ok hn hn2)).1
    refine g_region ?_
    refine s_y (y_move rfl) rfl rfl rfl rfl ?_
    refine s_y (y_move rfl) rfl rfl rfl rfl ?_
    refine s_y (y_idxb1 rfl rfl Try.underlying32 size_3 (by omega) (by omega)) rfl rfl rfl rfl ?_
    refine s_y (y_ldL (enc := (Value.int .i64)) (xs := powL (qOf n) (wOf n) n xs) (jk := []) 0 rfl rfl agg_3 (rdI_at (by omega) (by omega))) rfl rfl rfl rfl ?_
    refine s_y (y_lss_f rfl rfl (by omega)) rfl rfl rfl rfl ?_
    refine s_y (y_move rfl) rfl rfl rfl rfl ?_
    refine s_y (y_move rfl) rfl rfl rfl rfl ?_
    refine s_y (y_move rfl) rfl rfl rfl rfl ?_
    refine s_y (y_idxb1 rfl rfl Try.underlying32 size_3 (by omega) (by omega)) rfl rfl rfl rfl ?_
    refine s_y (y_ldL (enc := (Value.int .i64)) (xs := powL (qOf n) (wOf n) n xs) (jk := []) 0 rfl rfl agg_3 (rdI_at (by omega) (by omega))) rfl rfl rfl rfl ?_
    refine s_y (y_move rfl) rfl rfl rfl rfl ?_
    refine s_y (y_geq_f rfl rfl (by omega)) rfl rfl rfl rfl ?_
    refine s_y (y_pick_f rfl rfl) rfl rfl rfl rfl ?_
    refine s_nil ?_
    refine g_then ?_
    refine g_cond_f rfl ?_
    refine g_skip ?_
    refine g_then ?_
    refine g_seq ?_
    have hs1 := Sm_range (f := fn (powL (qOf n) (wOf n) n xs)) (c := 1000) (n := i) (fun k hk => by have := at_range (okW_true.1 (powL_ok hn hn2 (xs := xs))).1 (okW_true.1 (powL_ok hn hn2 (xs := xs))).2 (i := (k : Int)) (by omega) (by omega); exact ⟨this.1, by have h := this.2; show rdI _ _ ≤ _; omega⟩)
    refine g_region ?_
    refine s_y (y_move rfl) rfl rfl rfl rfl ?_
    refine s_y (y_move rfl) rfl rfl rfl rfl ?_
    refine s_y (y_move rfl) rfl rfl rfl rfl ?_
    refine s_y (y_idxb1 rfl rfl Try.underlying32 size_3 (by omega) (by omega)) rfl rfl rfl rfl ?_
    refine s_y (y_ldL (enc := (Value.int .i64)) (xs := powL (qOf n) (wOf n) n xs) (jk := []) 0 rfl rfl agg_3 (rdI_at (by omega) (by omega))) rfl rfl rfl rfl ?_
    refine s_y (y_add rfl rfl (by omega) (by omega)) rfl rfl rfl rfl ?_
    refine s_y (y_assign rfl) rfl rfl rfl rfl ?_
    refine s_nil ?_
    refine g_then ?_
    have hxi := at_range hxl hx (i := (i : Int)) (by omega) (by omega)
    have hm := mul_small (a := rdI xs (i : Int)) (b := rdI xs (i : Int)) (by omega) (by omega) (by omega) (by omega)
    have hs2 := hsq i (by omega)
    refine g_draw 12 (by kernel_rfl) ?_
    refine j_p (i := 0) rfl (y_move rfl) (by kernel_rfl) (by kernel_rfl) (by kernel_rfl) rfl rfl rfl rfl rfl (.inr (fun _ h => h)) ?_
    refine j_p (i := 1) rfl (y_move rfl) (by kernel_rfl) (by kernel_rfl) (by kernel_rfl) rfl rfl rfl rfl rfl (.inr (fun _ h => h)) ?_
    refine j_p (i := 2) rfl (y_move rfl) (by kernel_rfl) (by kernel_rfl) (by kernel_rfl) rfl rfl rfl rfl rfl (.inr (fun _ h => h)) ?_
    refine j_p (i := 3) rfl (y_idxV (enc := (Value.int .i64)) rfl rfl hv Try.underlying32 size_3 (by omega) (by omega)) (by kernel_rfl) (by kernel_rfl) (by kernel_rfl) rfl rfl rfl rfl rfl (.inr (fun _ h => h)) ?_
    refine j_l (i := 4) rfl (y_ldV (enc := (Value.int .i64)) (xs := xs) (fun w h => hv.rdl.below h.below) rfl agg_3 (rdI_at (by omega) (by omega))) (by kernel_rfl) (by kernel_rfl) (by kernel_rfl) (by kernel_rfl) rfl rfl rfl rfl rfl (.inr (fun _ h => h)) ?_
    refine j_p (i := 5) rfl (y_move rfl) (by kernel_rfl) (by kernel_rfl) (by kernel_rfl) rfl rfl rfl rfl rfl (.inr (fun _ h => h)) ?_
    refine j_p (i := 6) rfl (y_move rfl) (by kernel_rfl) (by kernel_rfl) (by kernel_rfl) rfl rfl rfl rfl rfl (.inr (fun _ h => h)) ?_
    refine j_p (i := 7) rfl (y_idxV (enc := (Value.int .i64)) rfl rfl hv Try.underlying32 size_3 (by omega) (by omega)) (by kernel_rfl) (by kernel_rfl) (by kernel_rfl) rfl rfl rfl rfl rfl (.inr (fun _ h => h)) ?_
    refine j_l (i := 8) rfl (y_ldV (enc := (Value.int .i64)) (xs := xs) (fun w h => hv.rdl.below h.below) rfl agg_3 (rdI_at (by omega) (by omega))) (by kernel_rfl) (by kernel_rfl) (by kernel_rfl) (by kernel_rfl) rfl rfl rfl rfl rfl (.inr (fun _ h => h)) ?_
    refine j_p (i := 9) rfl (y_mul rfl rfl (by omega) (by omega)) (by kernel_rfl) (by kernel_rfl) (by kernel_rfl) rfl rfl rfl rfl rfl (.inr (fun _ h => h)) ?_
    refine j_p (i := 10) rfl (y_add rfl rfl (by omega) (by omega)) (by kernel_rfl) (by kernel_rfl) (by kernel_rfl) rfl rfl rfl rfl rfl (.inr (fun _ h => h)) ?_
    refine j_p (i := 11) rfl (y_assign rfl) (by kernel_rfl) (by kernel_rfl) (by kernel_rfl) rfl rfl rfl rfl rfl (.inr (fun _ h => h)) ?_
    refine j_nil (by kernel_rfl) ?_
    refine g_inb ?_
    refine g_then ?_
    refine g_region ?_
    refine s_y (y_add rfl rfl (by omega) (by omega)) rfl rfl rfl rfl ?_
    refine s_y (y_move rfl) rfl rfl rfl rfl ?_
    refine s_nil ?_
    refine g_then ?_
    exact fun act W ha hw => ⟨i + 1, by omega, by omega, W, ha.weak (sub_get ⟨rfl, rfl, rfl, rfl, rfl, rfl, rfl, rfl, trivial⟩), hw.toHq.lookSub (List.Sublist.refl _)⟩
  · (try simp at cq5)
    refine g_exit ?_
    refine g_thenx ?_
    refine g_thenx ?_
    refine g_inbx ?_
    refine g_then ?_
    refine g_seq ?_
    obtain rfl : i = n := by omega
    have hs1 := Sm_range (f := fn (powL (qOf i) (wOf i) i xs)) (c := 1000) (n := i) (fun k hk => by have := at_range (okW_true.1 (powL_ok hn hn2 (xs := xs))).1 (okW_true.1 (powL_ok hn hn2 (xs := xs))).2 (i := (k : Int)) (by omega) (by omega); exact ⟨this.1, by have h := this.2; show rdI _ _ ≤ _; omega⟩)
    have hs2 := hsq i (Nat.le_refl _)
    have hm := mul_small (a := Sm (fun x : Nat => fn xs x * fn xs x) i) (b := (i : Int)) (by omega) (by omega) (by omega) (by omega)
    rw [Int.mul_comm] at hm
    refine g_draw 13 (by kernel_rfl) ?_
    refine j_p (i := 0) rfl (y_move rfl) (by kernel_rfl) (by kernel_rfl) (by kernel_rfl) rfl rfl rfl rfl rfl (.inr (fun _ h => h)) ?_
    refine j_p (i := 1) rfl (y_move rfl) (by kernel_rfl) (by kernel_rfl) (by kernel_rfl) rfl rfl rfl rfl rfl (.inr (fun _ h => h)) ?_
    refine j_p (i := 2) rfl (y_rem rfl rfl (by omega) (by omega)) (by kernel_rfl) (by kernel_rfl) (by kernel_rfl) rfl rfl rfl rfl rfl (.inr (fun _ h => h)) ?_
    refine j_p (i := 3) rfl (y_move rfl) (by kernel_rfl) (by kernel_rfl) (by kernel_rfl) rfl rfl rfl rfl rfl (.inr (fun _ h => h)) ?_
    refine j_p (i := 4) rfl (y_move rfl) (by kernel_rfl) (by kernel_rfl) (by kernel_rfl) rfl rfl rfl rfl rfl (.inr (fun _ h => h)) ?_
    refine j_p (i := 5) rfl (y_mul rfl rfl (by omega) (by omega)) (by kernel_rfl) (by kernel_rfl) (by kernel_rfl) rfl rfl rfl rfl rfl (.inr (fun _ h => h)) ?_
    refine j_p (i := 6) rfl (y_move rfl) (by kernel_rfl) (by kernel_rfl) (by kernel_rfl) rfl rfl rfl rfl rfl (.inr (fun _ h => h)) ?_
    refine j_p (i := 7) rfl (y_rem rfl rfl (by omega) (by omega)) (by kernel_rfl) (by kernel_rfl) (by kernel_rfl) rfl rfl rfl rfl rfl (.inr (fun _ h => h)) ?_
    refine j_p (i := 8) rfl (y_eql_t rfl rfl (energy hn hn2 xs)) (by kernel_rfl) (by kernel_rfl) (by kernel_rfl) rfl rfl rfl rfl rfl (.inr (fun _ h => h)) ?_
    refine j_p (i := 9) rfl (y_move rfl) (by kernel_rfl) (by kernel_rfl) (by kernel_rfl) rfl rfl rfl rfl rfl (.inr (fun _ h => h)) ?_
    refine j_tr (i := 10) rfl (t_call rfl rfl ent_20 (fun w h => awake_t w)) (by kernel_rfl) rfl rfl rfl rfl (.inr (fun x w hb h => h)) (fun _ _ => ?_)
    refine j_p (i := 11) rfl (y_pick_t rfl rfl) (by kernel_rfl) (by kernel_rfl) (by kernel_rfl) rfl rfl rfl rfl rfl (.inr (fun _ h => h)) ?_
    refine j_p (i := 12) rfl (y_assign rfl) (by kernel_rfl) (by kernel_rfl) (by kernel_rfl) rfl rfl rfl rfl rfl (.inr (fun _ h => h)) ?_
    refine j_nil (by kernel_rfl) ?_
    refine g_then ?_
    refine g_ret ?_
    exact g_end trivial (fun a w ha hq_ => res1 ha rfl rfl  w) (fun w h => ⟨rfl, h.below⟩)

theorem WheelsEnergy_no (w : World) (n : Int) (v : Value) (xs : List Int) (hv : RdV (Value.int .i64) w v xs) (hno : ¬ (RIn n ∧ okI n xs = true)) :
    Calls Try.prog 6 [.int .i64 n, v].toArray w fun e w' => e = .returned (.bool true) ∧ Below w.heap.size w w' := by
  have hnot := okI_take hno
  refine enter (N := 101) Try.func6 rfl rfl rfl ?_
  refine g_seq ?_
  refine g_region ?_
  refine s_y (y_assign rfl) rfl rfl rfl rfl ?_
  refine s_nil ?_
  refine g_then ?_
  refine g_seq ?_
  refine g_region ?_
  refine s_y (y_move rfl) rfl rfl rfl rfl ?_
  refine s_y (y_move rfl) rfl rfl rfl rfl ?_
  refine s_tr (t_callm rfl rfl ent_27 (fun w h => list_any w _ xs (hv.below h.below))) rfl rfl rfl rfl (fun x2 hx3 => ?_)
  obtain ⟨vo1, mo1⟩ := x2
  obtain ⟨hOo1, hEo1⟩ := hx3
  refine s_tr (t_call rfl rfl ent_33 (fun w h => Power_no w n _ (xs.take 19) (hOo1.rd fun p hp => h.at_ p (mem_al mo1 hp)) hnot)) rfl rfl rfl rfl (fun _ _ => ?_)
  refine s_y (y_move rfl) rfl rfl rfl rfl ?_
  refine s_y (y_extract rfl rfl) rfl rfl rfl rfl ?_
  refine s_y (y_extract rfl rfl) rfl rfl rfl rfl ?_
  refine s_y (y_assign rfl) rfl rfl rfl rfl ?_
  refine s_y (y_assign rfl) rfl rfl rfl rfl ?_
  refine s_nil ?_
  refine g_then ?_
  refine g_seq ?_
  refine g_seq ?_
  refine g_region ?_
  refine s_y (y_move rfl) rfl rfl rfl rfl ?_
  refine s_y (y_neq_t rfl rfl (by decide)) rfl rfl rfl rfl ?_
  refine s_y (y_move rfl) rfl rfl rfl rfl ?_
  refine s_no rfl rfl rfl ?_
  refine s_no rfl rfl rfl ?_
  refine s_no rfl rfl rfl ?_
  refine s_no rfl rfl rfl ?_
  refine s_y (y_pick_t rfl rfl) rfl rfl rfl rfl ?_
  refine s_nil ?_
  refine g_then ?_
  refine g_cond_t rfl ?_
  refine g_seq ?_
  refine g_region ?_
  refine s_y (y_move rfl) rfl rfl rfl rfl ?_
  refine s_y (y_eql_t rfl rfl (by decide)) rfl rfl rfl rfl ?_
  refine s_y (y_move rfl) rfl rfl rfl rfl ?_
  refine s_tr (t_call rfl rfl ent_20 (fun w h => awake_t w)) rfl rfl rfl rfl (fun _ _ => ?_)
  refine s_y (y_pick_t rfl rfl) rfl rfl rfl rfl ?_
  refine s_y (y_assign rfl) rfl rfl rfl rfl ?_
  refine s_nil ?_
  refine g_then ?_
  refine g_ret ?_
  refine g_thenr ?_
  exact g_end trivial (fun a w ha hq_ => res1 ha rfl rfl  w) (fun w h => ⟨rfl, h.below⟩)

theorem WheelsEnergy_law (w : World) (n : Int) (v : Value) (xs : List Int) (_ : (Lit.int .i64 n).wf = true) (hv : RdV (Value.int .i64) w v xs) (_ : xs.length ≤ maxLen) (_ : ∀ x ∈ xs, (Lit.int .i64 x).wf = true) : Calls Try.prog 6 [.int .i64 n, v].toArray w fun e w' => e = .returned (.bool true) ∧ Below w.heap.size w w' := by
  by_cases h : RIn n ∧ okI n xs = true
  · obtain ⟨m, rfl⟩ := Int.eq_ofNat_of_zero_le (show 0 ≤ n by have := h.1.1; omega)
    have h1 := h.1.1
    have h2 := h.1.2
    exact WheelsEnergy_ok w m v xs hv (by omega) (by omega) h.2
  · exact WheelsEnergy_no w n v xs hv h

theorem WheelsProducts_ok (w : World) (n : Nat) (v v' : Value) (xs ys : List Int) (hv : RdV (Value.int .i64) w v xs) (hv' : RdV (Value.int .i64) w v' ys) (hn : 2 ≤ n) (hn2 : n ≤ 16) (hok : okW n (qOf n) xs = true) (hok' : okW n (qOf n) ys = true) :
    Calls Try.prog 9 [.int .i64 (n : Int), v, v'].toArray w fun e w' => e = .returned (.bool true) ∧ Below w.heap.size w w' := by
  obtain ⟨hf1, hf2, hf3, hf4, hf5, hf6, hf7⟩ := q_facts hn hn2
  obtain ⟨hxl, hx⟩ := okW_true.1 hok
  obtain ⟨hyl, hy⟩ := okW_true.1 hok'
  obtain ⟨ie3, hi3⟩ := inf_3
  refine enter (N := 270) Try.func9 rfl rfl rfl ?_
  refine g_seq ?_
  refine g_region ?_
  refine s_y (y_assign rfl) rfl rfl rfl rfl ?_
  refine s_nil ?_
  refine g_then ?_
  refine g_seq ?_
  refine g_seq ?_
  refine g_region ?_
  refine s_y (y_move rfl) rfl rfl rfl rfl ?_
  refine s_y (y_move rfl) rfl rfl rfl rfl ?_
  refine s_tr (t_call rfl rfl ent_29 (fun w h => RWheel_t w n _ xs (hv.below h.below) hn hn2 hok)) rfl rfl rfl rfl (fun _ _ => ?_)
  refine s_y (y_not_t rfl) rfl rfl rfl rfl ?_
  refine s_y (y_move rfl) rfl rfl rfl rfl ?_
  refine s_y (y_move rfl) rfl rfl rfl rfl ?_
  refine s_y (y_move rfl) rfl rfl rfl rfl ?_
  refine s_tr (t_call rfl rfl ent_29 (fun w h => RWheel_t w n _ ys (hv'.below h.below) hn hn2 hok')) rfl rfl rfl rfl (fun _ _ => ?_)
  refine s_y (y_not_t rfl) rfl rfl rfl rfl ?_
  refine s_y (y_pick_f rfl rfl) rfl rfl rfl rfl ?_
  refine s_nil ?_
  refine g_then ?_
  refine g_cond_f rfl ?_
  refine g_skip ?_
  refine g_then ?_
  refine g_seq ?_
  refine g_region ?_
  refine s_y (y_move rfl) rfl rfl rfl rfl ?_
  refine s_tr (t_call rfl rfl ent_17 (fun w h => Prime_ok w n hn hn2)) rfl rfl rfl rfl (fun _ _ => ?_)
  refine s_y (y_move rfl) rfl rfl rfl rfl ?_
  refine s_y (y_extract rfl rfl) rfl rfl rfl rfl ?_
  refine s_y (y_extract rfl rfl) rfl rfl rfl rfl ?_
  refine s_y (y_assign rfl) rfl rfl rfl rfl ?_
  refine s_y (y_assign rfl) rfl rfl rfl rfl ?_
  refine s_nil ?_
  refine g_then ?_
  refine g_seq ?_
  refine g_seq ?_
  refine g_region ?_
  refine s_y (y_move rfl) rfl rfl rfl rfl ?_
  refine s_y (y_neq_f rfl rfl (by decide)) rfl rfl rfl rfl ?_
  refine s_y (y_move rfl) rfl rfl rfl rfl ?_
  refine s_y (y_move rfl) rfl rfl rfl rfl ?_
  refine s_y (y_move rfl) rfl rfl rfl rfl ?_
  refine s_y (y_mul rfl rfl (by omega) (by omega)) rfl rfl rfl rfl ?_
  refine s_y (y_leq_f rfl rfl (by omega)) rfl rfl rfl rfl ?_
  refine s_y (y_pick_f rfl rfl) rfl rfl rfl rfl ?_
  refine s_nil ?_
  refine g_then ?_
  refine g_cond_f rfl ?_
  refine g_skip ?_
  refine g_then ?_
  refine g_seq ?_
  refine g_region ?_
  refine s_y (y_assign rfl) rfl rfl rfl rfl ?_
  refine s_nil ?_
  refine g_then ?_
  refine g_seq ?_
  refine g_seq ?_
  refine g_region ?_
  refine s_y (y_move rfl) rfl rfl rfl rfl ?_
  refine s_y (y_lenV (n := xs.length) rfl (by obtain ⟨A, c, h1, _⟩ := hv; exact ⟨A, c, h1⟩) sle_32) rfl rfl rfl rfl ?_
  refine s_y (y_move rfl) rfl rfl rfl rfl ?_
  refine s_nil ?_
  refine g_then ?_
  refine g_block ?_
  refine g_loop (fun (i : Nat) act W => i ≤ n ∧ ∃ (sv : SV) (zs : List Int) (w1 : World), (sv.ok 1 i (zs.map (Value.int .i64))) ∧ (zs.length = i) ∧ (∀ k : Nat, k < i → rdI zs (k : Int) = (rdI xs (k : Int) + rdI ys (k : Int)) % qOf n) ∧ Has 270 [] [(0, .int .i64 (n : Int)), (1, v), (2, v'), (6, .bool false), (9, .int .i64 (qOf n)), (11, sv.val i), (66, .int .i64 (xs.length : Nat)), (67, .int .i64 (i : Int))] act ∧ Hp w w1 ((sv.mem 3 (zs.map (Value.int .i64)) ++ ([]))) W) (fun i => n - i) 0 (fun act W ha hw => ⟨by omega, SV.nil, [], W, (by exact ⟨rfl, rfl⟩), (by rfl), (by intro k hk; omega), ha.weak (sub_get ⟨rfl, rfl, rfl, rfl, rfl, rfl, rfl, rfl, trivial⟩), hw.toHq.lookSub (List.Sublist.refl _)⟩) ?_
  intro i act W ⟨hb_i, sv, zs, w1, hok3, hzl, hzs, ha, hw⟩
  refine g_go ha hw ?_
  clear ha hw act W
  refine g_seq ?_
  refine g_region ?_
  refine s_y (y_lss rfl rfl) rfl rfl rfl rfl ?_
  refine s_nil ?_
  refine g_then ?_
  refine g_seq ?_
  refine g_cond rfl (fun cq1 => ?_) (fun cq1 => ?_)
  · (try simp at cq1)
    refine g_skip ?_
    refine g_then ?_
    refine g_seq ?_
    refine g_block ?_
    refine g_seq ?_
    refine g_region ?_
    refine s_y (y_move rfl) rfl rfl rfl rfl ?_
    refine s_y (y_assign rfl) rfl rfl rfl rfl ?_
    refine s_nil ?_
    refine g_then ?_
    have hxi := at_range hxl hx (i := (i : Int)) (by omega) (by omega)
    have hyi := at_range hyl hy (i := (i : Int)) (by omega) (by omega)
    refine g_draw 13 (by kernel_rfl) ?_
    refine j_p (i := 0) rfl (y_move rfl) (by kernel_rfl) (by kernel_rfl) (by kernel_rfl) rfl rfl rfl rfl rfl (.inr (fun _ h => h)) ?_
    refine j_p (i := 1) rfl (y_move rfl) (by kernel_rfl) (by kernel_rfl) (by kernel_rfl) rfl rfl rfl rfl rfl (.inr (fun _ h => h)) ?_
    refine j_p (i := 2) rfl (y_move rfl) (by kernel_rfl) (by kernel_rfl) (by kernel_rfl) rfl rfl rfl rfl rfl (.inr (fun _ h => h)) ?_
    refine j_p (i := 3) rfl (y_idxV (enc := (Value.int .i64)) rfl rfl hv Try.underlying32 size_3 (by omega) (by omega)) (by kernel_rfl) (by kernel_rfl) (by kernel_rfl) rfl rfl rfl rfl rfl (.inr (fun _ h => h)) ?_
    refine j_l (i := 4) rfl (y_ldV (enc := (Value.int .i64)) (xs := xs) (fun w h => hv.rdl.below h.below) rfl agg_3 (rdI_at (by omega) (by omega))) (by kernel_rfl) (by kernel_rfl) (by kernel_rfl) (by kernel_rfl) rfl rfl rfl rfl rfl (.inr (fun _ h => h)) ?_
    refine j_p (i := 5) rfl (y_move rfl) (by kernel_rfl) (by kernel_rfl) (by kernel_rfl) rfl rfl rfl rfl rfl (.inr (fun _ h => h)) ?_
    refine j_p (i := 6) rfl (y_move rfl) (by kernel_rfl) (by kernel_rfl) (by kernel_rfl) rfl rfl rfl rfl rfl (.inr (fun _ h => h)) ?_
    refine j_p (i := 7) rfl (y_idxV (enc := (Value.int .i64)) rfl rfl hv' Try.underlying32 size_3 (by omega) (by omega)) (by kernel_rfl) (by kernel_rfl) (by kernel_rfl) rfl rfl rfl rfl rfl (.inr (fun _ h => h)) ?_
    refine j_l (i := 8) rfl (y_ldV (enc := (Value.int .i64)) (xs := ys) (fun w h => hv'.rdl.below h.below) rfl agg_3 (rdI_at (by omega) (by omega))) (by kernel_rfl) (by kernel_rfl) (by kernel_rfl) (by kernel_rfl) rfl rfl rfl rfl rfl (.inr (fun _ h => h)) ?_
    refine j_p (i := 9) rfl (y_add rfl rfl (by omega) (by omega)) (by kernel_rfl) (by kernel_rfl) (by kernel_rfl) rfl rfl rfl rfl rfl (.inr (fun _ h => h)) ?_
    refine j_p (i := 10) rfl (y_move rfl) (by kernel_rfl) (by kernel_rfl) (by kernel_rfl) rfl rfl rfl rfl rfl (.inr (fun _ h => h)) ?_
    refine j_p (i := 11) rfl (y_rem rfl rfl (by omega) (by omega)) (by kernel_rfl) (by kernel_rfl) (by kernel_rfl) rfl rfl rfl rfl rfl (.inr (fun _ h => h)) ?_
    refine j_tr (i := 12) rfl (t_build (vs := [(0, .int .i64 (((rdI xs (i : Int)) + (rdI ys (i : Int))) % (qOf n)))]) (cells := [.int .i64 (((rdI xs (i : Int)) + (rdI ys (i : Int))) % (qOf n))]) rfl rfl Try.underlying32 hi3.1 hi3.2.1 (by rw [hi3.2.2.1]; rfl) (by rw [hi3.2.2.1]; rfl) (by rw [hi3.2.2.1]; kernel_rfl)) (by kernel_rfl) rfl rfl rfl rfl (.inr (fun x w hb h => (h.tail hb.2))) (fun b2 hb2 => ?_)
    refine j_tr (i := 13) rfl (t_appendL (enc := (Value.int .i64)) (sv := sv) (xs := zs) (n := i) (v := ((rdI xs (i : Int)) + (rdI ys (i : Int))) % (qOf n)) [_] _ rfl rfl rfl hok3 Try.underlying32 hi3.1 hi3.2.1 hi3.2.2.1 hi3.2.2.2 rfl (fun w h => h.toHq.cell (i := 0) rfl rfl) rfl (by omega) (by unfold maxLen; omega)) (by kernel_rfl) rfl rfl rfl rfl (.inl rfl) (fun y6 hy7 => ?_)
    obtain ⟨sv3, gs4⟩ := y6
    obtain ⟨hok5, hok5b, hok5c, hok5j, hok5e⟩ := hy7
    refine j_p (i := 14) rfl (y_assign rfl) (by kernel_rfl) (by kernel_rfl) (by kernel_rfl) rfl rfl rfl rfl rfl (.inl rfl) ?_
    refine j_nil (by kernel_rfl) ?_
    refine g_inb ?_
    refine g_then ?_
    refine g_region ?_
    refine s_y (y_add rfl rfl (by omega) (by omega)) rfl rfl rfl rfl ?_
    refine s_y (y_move rfl) rfl rfl rfl rfl ?_
    refine s_nil ?_
    refine g_then ?_
    have hall : ∀ k : Nat, k < i + 1 → rdI (zs ++ [(rdI xs (i : Int) + rdI ys (i : Int)) % qOf n]) (k : Int) = (rdI xs (k : Int) + rdI ys (k : Int)) % qOf n := by
      intro k hk
      rw [rdI_snoc]
      split
      · rename_i h; rw [show k = i by omega]
      · exact hzs k (by omega)
    exact fun act W ha hw => ⟨i + 1, by omega, by omega, sv3, (zs ++ [((rdI xs (i : Int)) + (rdI ys (i : Int))) % (qOf n)]), W, (by exact hok5), (by simp; omega), (by exact hall), ha.weak (sub_get ⟨rfl, rfl, rfl, rfl, rfl, rfl, rfl, rfl, trivial⟩), hw.toHq.lookSub (List.Sublist.cons _ (sub_app (sv3.mem 3 ((zs ++ [((rdI xs (i : Int)) + (rdI ys (i : Int))) % (qOf n)]).map (Value.int .i64))) (List.nil_sublist _)))⟩
  · (try simp at cq1)
    have hin : i = n := by omega
    have hzs2 : ∀ x, x < n → fn zs x = (fn xs x + fn ys x) % qOf n := fun x hx => hzs x (by omega)
    have hzok : okW n (qOf n) zs = true := by rw [eq_map (n := n) (f := fun k => (rdI xs (k : Int) + rdI ys (k : Int)) % qOf n) (by omega) (fun j hj => hzs j (by omega))]; exact okW_true.2 ⟨by simp, map_mod_range (by omega) _⟩
    refine g_exit ?_
    refine g_thenx ?_
    refine g_thenx ?_
    refine g_inbx ?_
    refine g_then ?_
    refine g_seq ?_
    refine g_region ?_
    refine s_y (y_move rfl) rfl rfl rfl rfl ?_
    refine s_y (y_move rfl) rfl rfl rfl rfl ?_
    refine s_tr (t_callm rfl rfl ent_27 (fun w h => list_le w _ xs (hv.below h.below) (by have h_ : (xs).length = n := (okW_true.1 hok).1; omega))) rfl rfl rfl rfl (fun x9 hx10 => ?_)
    obtain ⟨vo8, mo8⟩ := x9
    obtain ⟨hOo8, hEo8⟩ := hx10
    refine s_tr (t_callm (A := New _ _) rfl rfl ent_34 (fun w h => (Spectrum_ok w n _ xs (hOo8.rd fun p hp => h.at_ p (mem_al mo8 hp)) hn hn2 hok).mono fun e w' ⟨b, h1, h2⟩ => ⟨b, ⟨Nat.le_trans h.below.size (h2.ge _ (List.mem_cons_self ..)), Nat.le_trans h.size (h2.ge _ (List.mem_cons_self ..))⟩, h1, h2⟩)) rfl rfl rfl rfl (fun bc11 hbc11 => ?_)
    refine s_y (y_move rfl) rfl rfl rfl rfl ?_
    refine s_y (y_extract rfl rfl) rfl rfl rfl rfl ?_
    refine s_y (y_extract rfl rfl) rfl rfl rfl rfl ?_
    refine s_y (y_assign rfl) rfl rfl rfl rfl ?_
    refine s_y (y_assign rfl) rfl rfl rfl rfl ?_
    refine s_nil ?_
    refine g_then ?_
    refine g_seq ?_
    refine g_region ?_
    refine s_y (y_move rfl) rfl rfl rfl rfl ?_
    refine s_y (y_move rfl) rfl rfl rfl rfl ?_
    refine s_tr (t_callm rfl rfl ent_27 (fun w h => list_le w _ ys (hv'.below h.below) (by have h_ : (ys).length = n := (okW_true.1 hok').1; omega))) rfl rfl rfl rfl (fun x13 hx14 => ?_)
    obtain ⟨vo12, mo12⟩ := x13
    obtain ⟨hOo12, hEo12⟩ := hx14
    refine s_tr (t_callm (A := New _ _) rfl rfl ent_34 (fun w h => (Spectrum_ok w n _ ys (hOo12.rd fun p hp => h.at_ p (mem_al mo12 hp)) hn hn2 hok').mono fun e w' ⟨b, h1, h2⟩ => ⟨b, ⟨Nat.le_trans h.below.size (h2.ge _ (List.mem_cons_self ..)), Nat.le_trans h.size (h2.ge _ (List.mem_cons_self ..))⟩, h1, h2⟩)) rfl rfl rfl rfl (fun bc15 hbc15 => ?_)
    refine s_y (y_move rfl) rfl rfl rfl rfl ?_
    refine s_y (y_extract rfl rfl) rfl rfl rfl rfl ?_
    refine s_y (y_extract rfl rfl) rfl rfl rfl rfl ?_
    refine s_y (y_assign rfl) rfl rfl rfl rfl ?_
    refine s_y (y_assign rfl) rfl rfl rfl rfl ?_
    refine s_nil ?_
    refine g_then ?_
    refine g_seq ?_
    refine g_region ?_
    refine s_y (y_move rfl) rfl rfl rfl rfl ?_
    refine s_y (y_move rfl) rfl rfl rfl rfl ?_
    refine s_tr (t_callm rfl rfl ent_27 (fun w h => list_le w _ xs (hv.below h.below) (by have h_ : (xs).length = n := (okW_true.1 hok).1; omega))) rfl rfl rfl rfl (fun x17 hx18 => ?_)
    obtain ⟨vo16, mo16⟩ := x17
    obtain ⟨hOo16, hEo16⟩ := hx18
    refine s_y (y_move rfl) rfl rfl rfl rfl ?_
    refine s_tr (t_callm rfl rfl ent_27 (fun w h => list_le w _ ys (hv'.below h.below) (by have h_ : (ys).length = n := (okW_true.1 hok').1; omega))) rfl rfl rfl rfl (fun x20 hx21 => ?_)
    obtain ⟨vo19, mo19⟩ := x20
    obtain ⟨hOo19, hEo19⟩ := hx21
    refine s_tr (t_callm (A := New _ _) rfl rfl ent_42 (fun w h => (Times_ok w n _ _ xs ys (hOo16.rd fun p hp => h.at_ p (mem_ar mo19 (mem_al mo16 hp))) (hOo19.rd fun p hp => h.at_ p (mem_al mo19 hp)) hn hn2 hok hok').mono fun e w' ⟨b, h1, h2⟩ => ⟨b, ⟨Nat.le_trans h.below.size (h2.ge _ (List.mem_cons_self ..)), Nat.le_trans h.size (h2.ge _ (List.mem_cons_self ..))⟩, h1, h2⟩)) rfl rfl rfl rfl (fun bc22 hbc22 => ?_)
    refine s_y (y_move rfl) rfl rfl rfl rfl ?_
    refine s_y (y_extract rfl rfl) rfl rfl rfl rfl ?_
    refine s_y (y_extract rfl rfl) rfl rfl rfl rfl ?_
    refine s_y (y_assign rfl) rfl rfl rfl rfl ?_
    refine s_y (y_assign rfl) rfl rfl rfl rfl ?_
    refine s_nil ?_
    refine g_then ?_
    refine g_seq ?_
    refine g_region ?_
    refine s_y (y_move rfl) rfl rfl rfl rfl ?_
    refine s_y (y_move rfl) rfl rfl rfl rfl ?_
    refine s_tr (t_callm rfl rfl ent_27 (fun w h => list_le w _ ys (hv'.below h.below) (by have h_ : (ys).length = n := (okW_true.1 hok').1; omega))) rfl rfl rfl rfl (fun x24 hx25 => ?_)
    obtain ⟨vo23, mo23⟩ := x24
    obtain ⟨hOo23, hEo23⟩ := hx25
    refine s_y (y_move rfl) rfl rfl rfl rfl ?_
    refine s_tr (t_callm rfl rfl ent_27 (fun w h => list_le w _ xs (hv.below h.below) (by have h_ : (xs).length = n := (okW_true.1 hok).1; omega))) rfl rfl rfl rfl (fun x27 hx28 => ?_)
    obtain ⟨vo26, mo26⟩ := x27
    obtain ⟨hOo26, hEo26⟩ := hx28
    refine s_tr (t_callm (A := New _ _) rfl rfl ent_42 (fun w h => (Times_ok w n _ _ ys xs (hOo23.rd fun p hp => h.at_ p (mem_ar mo26 (mem_al mo23 hp))) (hOo26.rd fun p hp => h.at_ p (mem_al mo26 hp)) hn hn2 hok' hok).mono fun e w' ⟨b, h1, h2⟩ => ⟨b, ⟨Nat.le_trans h.below.size (h2.ge _ (List.mem_cons_self ..)), Nat.le_trans h.size (h2.ge _ (List.mem_cons_self ..))⟩, h1, h2⟩)) rfl rfl rfl rfl (fun bc29 hbc29 => ?_)
    refine s_y (y_move rfl) rfl rfl rfl rfl ?_
    refine s_y (y_extract rfl rfl) rfl rfl rfl rfl ?_
    refine s_y (y_extract rfl rfl) rfl rfl rfl rfl ?_
    refine s_y (y_assign rfl) rfl rfl rfl rfl ?_
    refine s_y (y_assign rfl) rfl rfl rfl rfl ?_
    refine s_nil ?_
    refine g_then ?_
    refine g_seq ?_
    refine g_region ?_
    refine s_y (y_move rfl) rfl rfl rfl rfl ?_
    refine s_y (y_move rfl) rfl rfl rfl rfl ?_
    refine s_tr (t_callm rfl rfl ent_43 (fun w h => Clone_any w _ (timL (qOf n) n xs ys) (RdV.own (jk := []) (h.at_ _ (List.mem_cons_of_mem _ (mem_ar mo26 (mem_ar mo23 (List.mem_cons_self ..))))) (by have h_ : (timL (qOf n) n xs ys).length = n := (okW_true.1 (timL_ok hn hn2)).1; omega) (Nat.le_refl _)) (by have h_ : (timL (qOf n) n xs ys).length = n := (okW_true.1 (timL_ok hn hn2)).1; omega))) rfl rfl rfl rfl (fun x31 hx32 => ?_)
    obtain ⟨vo30, mo30⟩ := x31
    obtain ⟨hOo30, hEo30⟩ := hx32
    refine s_tr (t_callm (A := New _ _) rfl rfl ent_34 (fun w h => (Spectrum_ok w n _ (timL (qOf n) n xs ys) (hOo30.rd fun p hp => h.at_ p (mem_al mo30 hp)) hn hn2 (timL_ok hn hn2)).mono fun e w' ⟨b, h1, h2⟩ => ⟨b, ⟨Nat.le_trans h.below.size (h2.ge _ (List.mem_cons_self ..)), Nat.le_trans h.size (h2.ge _ (List.mem_cons_self ..))⟩, h1, h2⟩)) rfl rfl rfl rfl (fun bc33 hbc33 => ?_)
    refine s_y (y_move rfl) rfl rfl rfl rfl ?_
    refine s_y (y_extract rfl rfl) rfl rfl rfl rfl ?_
    refine s_y (y_extract rfl rfl) rfl rfl rfl rfl ?_
    refine s_y (y_assign rfl) rfl rfl rfl rfl ?_
    refine s_y (y_assign rfl) rfl rfl rfl rfl ?_
    refine s_nil ?_
    refine g_then ?_
    refine g_seq ?_
    refine g_region ?_
    refine s_y (y_move rfl) rfl rfl rfl rfl ?_
    refine s_y (y_move rfl) rfl rfl rfl rfl ?_
    refine s_tr (t_callm (A := New _ _) rfl rfl ent_34 (fun w h => (Spectrum_ok w n _ zs (RdV.sv (e := 3) hok3 fun p hp => h.at_ p (List.mem_cons_of_mem _ (mem_ar mo30 (List.mem_cons_of_mem _ (mem_ar mo26 (mem_ar mo23 (List.mem_cons_of_mem _ (mem_ar mo19 (mem_ar mo16 (List.mem_cons_of_mem _ (mem_ar mo12 (List.mem_cons_of_mem _ (mem_ar mo8 (mem_al (sv.mem 3 (zs.map (Value.int .i64))) hp)))))))))))))) hn hn2 hzok).mono fun e w' ⟨b, h1, h2⟩ => ⟨b, ⟨Nat.le_trans h.below.size (h2.ge _ (List.mem_cons_self ..)), Nat.le_trans h.size (h2.ge _ (List.mem_cons_self ..))⟩, h1, h2⟩)) rfl rfl rfl rfl (fun bc34 hbc34 => ?_)
    refine s_y (y_move rfl) rfl rfl rfl rfl ?_
    refine s_y (y_extract rfl rfl) rfl rfl rfl rfl ?_
    refine s_y (y_extract rfl rfl) rfl rfl rfl rfl ?_
    refine s_y (y_assign rfl) rfl rfl rfl rfl ?_
    refine s_y (y_assign rfl) rfl rfl rfl rfl ?_
    refine s_nil ?_
    refine g_then ?_
    refine g_seq ?_
    refine g_region ?_
    refine s_y (y_move rfl) rfl rfl rfl rfl ?_
    refine s_y (y_move rfl) rfl rfl rfl rfl ?_
    refine s_tr (t_callm rfl rfl ent_43 (fun w h => Clone_any w _ (turnL (qOf n) (wOf n) n xs) (RdV.own (jk := []) (h.at_ _ (List.mem_cons_of_mem _ (List.mem_cons_of_mem _ (mem_ar mo30 (List.mem_cons_of_mem _ (mem_ar mo26 (mem_ar mo23 (List.mem_cons_of_mem _ (mem_ar mo19 (mem_ar mo16 (List.mem_cons_of_mem _ (mem_ar mo12 (List.mem_cons_self ..))))))))))))) (by have h_ : (turnL (qOf n) (wOf n) n xs).length = n := (okW_true.1 (turnL_ok hn hn2)).1; omega) (Nat.le_refl _)) (by have h_ : (turnL (qOf n) (wOf n) n xs).length = n := (okW_true.1 (turnL_ok hn hn2)).1; omega))) rfl rfl rfl rfl (fun x36 hx37 => ?_)
    obtain ⟨vo35, mo35⟩ := x36
    obtain ⟨hOo35, hEo35⟩ := hx37
    refine s_tr (t_callm (A := New _ _) rfl rfl ent_35 (fun w h => (Back_ok w n _ (turnL (qOf n) (wOf n) n xs) (hOo35.rd fun p hp => h.at_ p (mem_al mo35 hp)) hn hn2 (turnL_ok hn hn2)).mono fun e w' ⟨b, h1, h2⟩ => ⟨b, ⟨Nat.le_trans h.below.size (h2.ge _ (List.mem_cons_self ..)), Nat.le_trans h.size (h2.ge _ (List.mem_cons_self ..))⟩, h1, h2⟩)) rfl rfl rfl rfl (fun bc38 hbc38 => ?_)
    refine s_y (y_move rfl) rfl rfl rfl rfl ?_
    refine s_y (y_extract rfl rfl) rfl rfl rfl rfl ?_
    refine s_y (y_extract rfl rfl) rfl rfl rfl rfl ?_
    refine s_y (y_assign rfl) rfl rfl rfl rfl ?_
    refine s_y (y_assign rfl) rfl rfl rfl rfl ?_
    refine s_nil ?_
    refine g_then ?_
    refine g_seq ?_
    refine g_seq ?_
    refine g_region ?_
    refine s_y (y_move rfl) rfl rfl rfl rfl ?_
    refine s_y (y_neq_f rfl rfl (by decide)) rfl rfl rfl rfl ?_
    refine s_y (y_move rfl) rfl rfl rfl rfl ?_
    refine s_y (y_move rfl) rfl rfl rfl rfl ?_
    refine s_y (y_neq_f rfl rfl (by decide)) rfl rfl rfl rfl ?_
    refine s_y (y_pick_f rfl rfl) rfl rfl rfl rfl ?_
    refine s_y (y_move rfl) rfl rfl rfl rfl ?_
    refine s_y (y_move rfl) rfl rfl rfl rfl ?_
    refine s_y (y_neq_f rfl rfl (by decide)) rfl rfl rfl rfl ?_
    refine s_y (y_pick_f rfl rfl) rfl rfl rfl rfl ?_
    refine s_y (y_move rfl) rfl rfl rfl rfl ?_
    refine s_y (y_move rfl) rfl rfl rfl rfl ?_
    refine s_y (y_neq_f rfl rfl (by decide)) rfl rfl rfl rfl ?_
    refine s_y (y_pick_f rfl rfl) rfl rfl rfl rfl ?_
    refine s_y (y_move rfl) rfl rfl rfl rfl ?_
    refine s_y (y_move rfl) rfl rfl rfl rfl ?_
    refine s_y (y_neq_f rfl rfl (by decide)) rfl rfl rfl rfl ?_
    refine s_y (y_pick_f rfl rfl) rfl rfl rfl rfl ?_
    refine s_y (y_move rfl) rfl rfl rfl rfl ?_
    refine s_y (y_move rfl) rfl rfl rfl rfl ?_
    refine s_y (y_neq_f rfl rfl (by decide)) rfl rfl rfl rfl ?_
    refine s_y (y_pick_f rfl rfl) rfl rfl rfl rfl ?_
    refine s_y (y_move rfl) rfl rfl rfl rfl ?_
    refine s_y (y_move rfl) rfl rfl rfl rfl ?_
    refine s_y (y_neq_f rfl rfl (by decide)) rfl rfl rfl rfl ?_
    refine s_y (y_pick_f rfl rfl) rfl rfl rfl rfl ?_
    refine s_y (y_move rfl) rfl rfl rfl rfl ?_
    refine s_y (y_move rfl) rfl rfl rfl rfl ?_
    refine s_y (y_move rfl) rfl rfl rfl rfl ?_
    refine s_tr (t_call rfl rfl ent_30 (fun w h => Equal_t w _ _ (backL (qOf n) (wOf n) n (turnL (qOf n) (wOf n) n xs)) xs (RdV.own (jk := []) (at_of (i := 0) h rfl) (by have h_ : (backL (qOf n) (wOf n) n (turnL (qOf n) (wOf n) n xs)).length = n := (okW_true.1 (backL_ok hn hn2)).1; omega) (Nat.le_refl _)) (hv.below h.below) (by have h_ : (backL (qOf n) (wOf n) n (turnL (qOf n) (wOf n) n xs)).length = n := (okW_true.1 (backL_ok hn hn2)).1; omega) (back_spec hn hn2 hok))) rfl rfl rfl rfl (fun _ _ => ?_)
    refine s_y (y_not_t rfl) rfl rfl rfl rfl ?_
    refine s_y (y_pick_f rfl rfl) rfl rfl rfl rfl ?_
    refine s_y (y_move rfl) rfl rfl rfl rfl ?_
    refine s_y (y_move rfl) rfl rfl rfl rfl ?_
    refine s_y (y_move rfl) rfl rfl rfl rfl ?_
    refine s_tr (t_call rfl rfl ent_30 (fun w h => Equal_t w _ _ (timL (qOf n) n xs ys) (timL (qOf n) n ys xs) (RdV.own (jk := []) (h.at_ _ (List.mem_cons_of_mem _ (mem_ar mo35 (List.mem_cons_of_mem _ (List.mem_cons_of_mem _ (mem_ar mo30 (List.mem_cons_of_mem _ (mem_ar mo26 (mem_ar mo23 (List.mem_cons_self ..)))))))))) (by have h_ : (timL (qOf n) n xs ys).length = n := (okW_true.1 (timL_ok hn hn2)).1; omega) (Nat.le_refl _)) (RdV.own (jk := []) (h.at_ _ (List.mem_cons_of_mem _ (mem_ar mo35 (List.mem_cons_of_mem _ (List.mem_cons_of_mem _ (mem_ar mo30 (List.mem_cons_self ..))))))) (by have h_ : (timL (qOf n) n ys xs).length = n := (okW_true.1 (timL_ok hn hn2)).1; omega) (Nat.le_refl _)) (by have h_ : (timL (qOf n) n xs ys).length = n := (okW_true.1 (timL_ok hn hn2)).1; omega) (tim_comm hn xs ys))) rfl rfl rfl rfl (fun _ _ => ?_)
    refine s_y (y_not_t rfl) rfl rfl rfl rfl ?_
    refine s_y (y_pick_f rfl rfl) rfl rfl rfl rfl ?_
    refine s_y (y_move rfl) rfl rfl rfl rfl ?_
    refine s_y (y_move rfl) rfl rfl rfl rfl ?_
    refine s_y (y_lensl rfl sle_32) rfl rfl rfl rfl ?_
    refine s_y (y_move rfl) rfl rfl rfl rfl ?_
    refine s_y (y_neq_f rfl rfl (by omega)) rfl rfl rfl rfl ?_
    refine s_y (y_pick_f rfl rfl) rfl rfl rfl rfl ?_
    refine s_y (y_move rfl) rfl rfl rfl rfl ?_
    refine s_y (y_move rfl) rfl rfl rfl rfl ?_
    refine s_y (y_lensl rfl sle_32) rfl rfl rfl rfl ?_
    refine s_y (y_move rfl) rfl rfl rfl rfl ?_
    refine s_y (y_neq_f rfl rfl (by omega)) rfl rfl rfl rfl ?_
    refine s_y (y_pick_f rfl rfl) rfl rfl rfl rfl ?_
    refine s_y (y_move rfl) rfl rfl rfl rfl ?_
    refine s_y (y_move rfl) rfl rfl rfl rfl ?_
    refine s_y (y_lensl rfl sle_32) rfl rfl rfl rfl ?_
    refine s_y (y_move rfl) rfl rfl rfl rfl ?_
    refine s_y (y_neq_f rfl rfl (by omega)) rfl rfl rfl rfl ?_
    refine s_y (y_pick_f rfl rfl) rfl rfl rfl rfl ?_
    refine s_y (y_move rfl) rfl rfl rfl rfl ?_
    refine s_y (y_move rfl) rfl rfl rfl rfl ?_
    refine s_y (y_lensl rfl sle_32) rfl rfl rfl rfl ?_
    refine s_y (y_move rfl) rfl rfl rfl rfl ?_
    refine s_y (y_neq_f rfl rfl (by omega)) rfl rfl rfl rfl ?_
    refine s_y (y_pick_f rfl rfl) rfl rfl rfl rfl ?_
    refine s_nil ?_
    refine g_then ?_
    refine g_cond_f rfl ?_
    refine g_skip ?_
    refine g_then ?_
    refine g_seq ?_
    refine g_seq ?_
    refine g_region ?_
    refine s_y (y_move rfl) rfl rfl rfl rfl ?_
    refine s_y (y_lensl rfl sle_32) rfl rfl rfl rfl ?_
    refine s_y (y_move rfl) rfl rfl rfl rfl ?_
    refine s_nil ?_
    refine g_then ?_
    refine g_block ?_
    refine g_loop (fun (j : Nat) act W => j ≤ n ∧ ∃ (w1 : World), Has 270 [] [(9, .int .i64 (qOf n)), (13, .slice (some ⟨bc11, 0, none⟩) n n), (15, .slice (some ⟨bc15, 0, none⟩) n n), (21, .slice (some ⟨bc33, 0, none⟩) n n), (23, .slice (some ⟨bc34, 0, none⟩) n n), (200, .int .i64 (n : Nat)), (201, .int .i64 (j : Int))] act ∧ Hp w w1 ((bc38, .cells ((backL (qOf n) (wOf n) n (turnL (qOf n) (wOf n) n xs)).map (Value.int .i64) ++ []).toArray 3 (0, 0)) :: (bc34, .cells ((turnL (qOf n) (wOf n) n zs).map (Value.int .i64) ++ []).toArray 3 (0, 0)) :: (bc33, .cells ((turnL (qOf n) (wOf n) n (timL (qOf n) n xs ys)).map (Value.int .i64) ++ []).toArray 3 (0, 0)) :: (bc29, .cells ((timL (qOf n) n ys xs).map (Value.int .i64) ++ []).toArray 3 (0, 0)) :: (bc22, .cells ((timL (qOf n) n xs ys).map (Value.int .i64) ++ []).toArray 3 (0, 0)) :: (bc15, .cells ((turnL (qOf n) (wOf n) n ys).map (Value.int .i64) ++ []).toArray 3 (0, 0)) :: (bc11, .cells ((turnL (qOf n) (wOf n) n xs).map (Value.int .i64) ++ []).toArray 3 (0, 0)) :: (sv.mem 3 (zs.map (Value.int .i64)) ++ ([]))) W) (fun j => n - j) 0 (fun act W ha hw => ⟨by omega, W, ha.weak (sub_get ⟨rfl, rfl, rfl, rfl, rfl, rfl, rfl, trivial⟩), hw.toHq.lookSub (List.Sublist.cons_cons _ (sub_skip mo35 (List.Sublist.cons_cons _ (List.Sublist.cons_cons _ (sub_skip mo30 (List.Sublist.cons_cons _ (sub_skip mo26 (sub_skip mo23 (List.Sublist.cons_cons _ (sub_skip mo19 (sub_skip mo16 (List.Sublist.cons_cons _ (sub_skip mo12 (List.Sublist.cons_cons _ (sub_skip mo8 (List.Sublist.refl _))))))))))))))))⟩) ?_
    intro j act W ⟨hb_j, w1, ha, hw⟩
    refine g_go ha hw ?_
    clear ha hw act W
    refine g_seq ?_
    refine g_region ?_
    refine s_y (y_lss rfl rfl) rfl rfl rfl rfl ?_
    refine s_nil ?_
    refine g_then ?_
    refine g_seq ?_
    refine g_cond rfl (fun cq39 => ?_) (fun cq39 => ?_)
    · (try simp at cq39)
      refine g_skip ?_
      refine g_then ?_
      refine g_seq ?_
      refine g_block ?_
      refine g_seq ?_
      refine g_region ?_
      refine s_y (y_move rfl) rfl rfl rfl rfl ?_
      refine s_y (y_assign rfl) rfl rfl rfl rfl ?_
      refine s_nil ?_
      refine g_then ?_
      refine g_seq ?_
      have hl1 : (turnL (qOf n) (wOf n) n xs).length = n := turnL_len
      have hl2 : (turnL (qOf n) (wOf n) n ys).length = n := turnL_len
      have hl3 : (turnL (qOf n) (wOf n) n (timL (qOf n) n xs ys)).length = n := turnL_len
      have hl4 : (turnL (qOf n) (wOf n) n zs).length = n := turnL_len
      have h1 := at_range (okW_true.1 (turnL_ok hn hn2 (r := wOf n) (xs := xs))).1 (okW_true.1 (turnL_ok hn hn2 (r := wOf n) (xs := xs))).2 (i := (j : Int)) (by omega) (by omega)
      have h2 := at_range (okW_true.1 (turnL_ok hn hn2 (r := wOf n) (xs := ys))).1 (okW_true.1 (turnL_ok hn hn2 (r := wOf n) (xs := ys))).2 (i := (j : Int)) (by omega) (by omega)
      have hm := mul_small (a := rdI (turnL (qOf n) (wOf n) n xs) (j : Int)) (b := rdI (turnL (qOf n) (wOf n) n ys) (j : Int)) (by omega) (by omega) (by omega) (by omega)
      refine g_draw 64 (by kernel_rfl) ?_
      refine j_p (i := 0) rfl (y_move rfl) (by kernel_rfl) (by kernel_rfl) (by kernel_rfl) rfl rfl rfl rfl rfl (.inr (fun _ h => h)) ?_
      refine j_p (i := 1) rfl (y_move rfl) (by kernel_rfl) (by kernel_rfl) (by kernel_rfl) rfl rfl rfl rfl rfl (.inr (fun _ h => h)) ?_
      refine j_p (i := 2) rfl (y_idxb1 rfl rfl Try.underlying32 size_3 (by omega) (by omega)) (by kernel_rfl) (by kernel_rfl) (by kernel_rfl) rfl rfl rfl rfl rfl (.inr (fun _ h => h)) ?_
      refine j_l (i := 3) rfl (y_ldL (enc := (Value.int .i64)) (xs := turnL (qOf n) (wOf n) n xs) (jk := []) 6 rfl rfl agg_3 (rdI_at (by omega) (by omega))) (by kernel_rfl) (by kernel_rfl) (by kernel_rfl) (by kernel_rfl) rfl rfl rfl rfl rfl (.inr (fun _ h => h)) ?_
      refine j_p (i := 4) rfl (y_lss_f rfl rfl (by omega)) (by kernel_rfl) (by kernel_rfl) (by kernel_rfl) rfl rfl rfl rfl rfl (.inr (fun _ h => h)) ?_
      refine j_p (i := 5) rfl (y_move rfl) (by kernel_rfl) (by kernel_rfl) (by kernel_rfl) rfl rfl rfl rfl rfl (.inr (fun _ h => h)) ?_
      refine j_p (i := 6) rfl (y_move rfl) (by kernel_rfl) (by kernel_rfl) (by kernel_rfl) rfl rfl rfl rfl rfl (.inr (fun _ h => h)) ?_
      refine j_p (i := 7) rfl (y_move rfl) (by kernel_rfl) (by kernel_rfl) (by kernel_rfl) rfl rfl rfl rfl rfl (.inr (fun _ h => h)) ?_
      refine j_p (i := 8) rfl (y_idxb1 rfl rfl Try.underlying32 size_3 (by omega) (by omega)) (by kernel_rfl) (by kernel_rfl) (by kernel_rfl) rfl rfl rfl rfl rfl (.inr (fun _ h => h)) ?_
      refine j_l (i := 9) rfl (y_ldL (enc := (Value.int .i64)) (xs := turnL (qOf n) (wOf n) n xs) (jk := []) 6 rfl rfl agg_3 (rdI_at (by omega) (by omega))) (by kernel_rfl) (by kernel_rfl) (by kernel_rfl) (by kernel_rfl) rfl rfl rfl rfl rfl (.inr (fun _ h => h)) ?_
      refine j_p (i := 10) rfl (y_move rfl) (by kernel_rfl) (by kernel_rfl) (by kernel_rfl) rfl rfl rfl rfl rfl (.inr (fun _ h => h)) ?_
      refine j_p (i := 11) rfl (y_geq_f rfl rfl (by omega)) (by kernel_rfl) (by kernel_rfl) (by kernel_rfl) rfl rfl rfl rfl rfl (.inr (fun _ h => h)) ?_
      refine j_p (i := 12) rfl (y_pick_f rfl rfl) (by kernel_rfl) (by kernel_rfl) (by kernel_rfl) rfl rfl rfl rfl rfl (.inr (fun _ h => h)) ?_
      refine j_p (i := 13) rfl (y_move rfl) (by kernel_rfl) (by kernel_rfl) (by kernel_rfl) rfl rfl rfl rfl rfl (.inr (fun _ h => h)) ?_
      refine j_p (i := 14) rfl (y_move rfl) (by kernel_rfl) (by kernel_rfl) (by kernel_rfl) rfl rfl rfl rfl rfl (.inr (fun _ h => h)) ?_
      refine j_p (i := 15) rfl (y_move rfl) (by kernel_rfl) (by kernel_rfl) (by kernel_rfl) rfl rfl rfl rfl rfl (.inr (fun _ h => h)) ?_
      refine j_p (i := 16) rfl (y_idxb1 rfl rfl Try.underlying32 size_3 (by omega) (by omega)) (by kernel_rfl) (by kernel_rfl) (by kernel_rfl) rfl rfl rfl rfl rfl (.inr (fun _ h => h)) ?_
      refine j_l (i := 17) rfl (y_ldL (enc := (Value.int .i64)) (xs := turnL (qOf n) (wOf n) n ys) (jk := []) 5 rfl rfl agg_3 (rdI_at (by omega) (by omega))) (by kernel_rfl) (by kernel_rfl) (by kernel_rfl) (by kernel_rfl) rfl rfl rfl rfl rfl (.inr (fun _ h => h)) ?_
      refine j_p (i := 18) rfl (y_lss_f rfl rfl (by omega)) (by kernel_rfl) (by kernel_rfl) (by kernel_rfl) rfl rfl rfl rfl rfl (.inr (fun _ h => h)) ?_
      refine j_p (i := 19) rfl (y_pick_f rfl rfl) (by kernel_rfl) (by kernel_rfl) (by kernel_rfl) rfl rfl rfl rfl rfl (.inr (fun _ h => h)) ?_
      refine j_p (i := 20) rfl (y_move rfl) (by kernel_rfl) (by kernel_rfl) (by kernel_rfl) rfl rfl rfl rfl rfl (.inr (fun _ h => h)) ?_
      refine j_p (i := 21) rfl (y_move rfl) (by kernel_rfl) (by kernel_rfl) (by kernel_rfl) rfl rfl rfl rfl rfl (.inr (fun _ h => h)) ?_
      refine j_p (i := 22) rfl (y_move rfl) (by kernel_rfl) (by kernel_rfl) (by kernel_rfl) rfl rfl rfl rfl rfl (.inr (fun _ h => h)) ?_
      refine j_p (i := 23) rfl (y_idxb1 rfl rfl Try.underlying32 size_3 (by omega) (by omega)) (by kernel_rfl) (by kernel_rfl) (by kernel_rfl) rfl rfl rfl rfl rfl (.inr (fun _ h => h)) ?_
      refine j_l (i := 24) rfl (y_ldL (enc := (Value.int .i64)) (xs := turnL (qOf n) (wOf n) n ys) (jk := []) 5 rfl rfl agg_3 (rdI_at (by omega) (by omega))) (by kernel_rfl) (by kernel_rfl) (by kernel_rfl) (by kernel_rfl) rfl rfl rfl rfl rfl (.inr (fun _ h => h)) ?_
      refine j_p (i := 25) rfl (y_move rfl) (by kernel_rfl) (by kernel_rfl) (by kernel_rfl) rfl rfl rfl rfl rfl (.inr (fun _ h => h)) ?_
      refine j_p (i := 26) rfl (y_geq_f rfl rfl (by omega)) (by kernel_rfl) (by kernel_rfl) (by kernel_rfl) rfl rfl rfl rfl rfl (.inr (fun _ h => h)) ?_
      refine j_p (i := 27) rfl (y_pick_f rfl rfl) (by kernel_rfl) (by kernel_rfl) (by kernel_rfl) rfl rfl rfl rfl rfl (.inr (fun _ h => h)) ?_
      refine j_p (i := 28) rfl (y_move rfl) (by kernel_rfl) (by kernel_rfl) (by kernel_rfl) rfl rfl rfl rfl rfl (.inr (fun _ h => h)) ?_
      refine j_p (i := 29) rfl (y_move rfl) (by kernel_rfl) (by kernel_rfl) (by kernel_rfl) rfl rfl rfl rfl rfl (.inr (fun _ h => h)) ?_
      refine j_p (i := 30) rfl (y_move rfl) (by kernel_rfl) (by kernel_rfl) (by kernel_rfl) rfl rfl rfl rfl rfl (.inr (fun _ h => h)) ?_
      refine j_p (i := 31) rfl (y_idxb1 rfl rfl Try.underlying32 size_3 (by omega) (by omega)) (by kernel_rfl) (by kernel_rfl) (by kernel_rfl) rfl rfl rfl rfl rfl (.inr (fun _ h => h)) ?_
      refine j_l (i := 32) rfl (y_ldL (enc := (Value.int .i64)) (xs := turnL (qOf n) (wOf n) n (timL (qOf n) n xs ys)) (jk := []) 2 rfl rfl agg_3 (rdI_at (by omega) (by omega))) (by kernel_rfl) (by kernel_rfl) (by kernel_rfl) (by kernel_rfl) rfl rfl rfl rfl rfl (.inr (fun _ h => h)) ?_
      refine j_p (i := 33) rfl (y_move rfl) (by kernel_rfl) (by kernel_rfl) (by kernel_rfl) rfl rfl rfl rfl rfl (.inr (fun _ h => h)) ?_
      refine j_p (i := 34) rfl (y_move rfl) (by kernel_rfl) (by kernel_rfl) (by kernel_rfl) rfl rfl rfl rfl rfl (.inr (fun _ h => h)) ?_
      refine j_p (i := 35) rfl (y_idxb1 rfl rfl Try.underlying32 size_3 (by omega) (by omega)) (by kernel_rfl) (by kernel_rfl) (by kernel_rfl) rfl rfl rfl rfl rfl (.inr (fun _ h => h)) ?_
      refine j_l (i := 36) rfl (y_ldL (enc := (Value.int .i64)) (xs := turnL (qOf n) (wOf n) n xs) (jk := []) 6 rfl rfl agg_3 (rdI_at (by omega) (by omega))) (by kernel_rfl) (by kernel_rfl) (by kernel_rfl) (by kernel_rfl) rfl rfl rfl rfl rfl (.inr (fun _ h => h)) ?_
      refine j_p (i := 37) rfl (y_move rfl) (by kernel_rfl) (by kernel_rfl) (by kernel_rfl) rfl rfl rfl rfl rfl (.inr (fun _ h => h)) ?_
      refine j_p (i := 38) rfl (y_move rfl) (by kernel_rfl) (by kernel_rfl) (by kernel_rfl) rfl rfl rfl rfl rfl (.inr (fun _ h => h)) ?_
      refine j_p (i := 39) rfl (y_idxb1 rfl rfl Try.underlying32 size_3 (by omega) (by omega)) (by kernel_rfl) (by kernel_rfl) (by kernel_rfl) rfl rfl rfl rfl rfl (.inr (fun _ h => h)) ?_
      refine j_l (i := 40) rfl (y_ldL (enc := (Value.int .i64)) (xs := turnL (qOf n) (wOf n) n ys) (jk := []) 5 rfl rfl agg_3 (rdI_at (by omega) (by omega))) (by kernel_rfl) (by kernel_rfl) (by kernel_rfl) (by kernel_rfl) rfl rfl rfl rfl rfl (.inr (fun _ h => h)) ?_
      refine j_p (i := 41) rfl (y_mul rfl rfl (by omega) (by omega)) (by kernel_rfl) (by kernel_rfl) (by kernel_rfl) rfl rfl rfl rfl rfl (.inr (fun _ h => h)) ?_
      refine j_p (i := 42) rfl (y_move rfl) (by kernel_rfl) (by kernel_rfl) (by kernel_rfl) rfl rfl rfl rfl rfl (.inr (fun _ h => h)) ?_
      refine j_p (i := 43) rfl (y_rem rfl rfl (by omega) (by omega)) (by kernel_rfl) (by kernel_rfl) (by kernel_rfl) rfl rfl rfl rfl rfl (.inr (fun _ h => h)) ?_
      refine j_p (i := 44) rfl (y_neq_f rfl rfl (spec_tim hn hn2 xs ys (by omega))) (by kernel_rfl) (by kernel_rfl) (by kernel_rfl) rfl rfl rfl rfl rfl (.inr (fun _ h => h)) ?_
      refine j_p (i := 45) rfl (y_pick_f rfl rfl) (by kernel_rfl) (by kernel_rfl) (by kernel_rfl) rfl rfl rfl rfl rfl (.inr (fun _ h => h)) ?_
      refine j_p (i := 46) rfl (y_move rfl) (by kernel_rfl) (by kernel_rfl) (by kernel_rfl) rfl rfl rfl rfl rfl (.inr (fun _ h => h)) ?_
      refine j_p (i := 47) rfl (y_move rfl) (by kernel_rfl) (by kernel_rfl) (by kernel_rfl) rfl rfl rfl rfl rfl (.inr (fun _ h => h)) ?_
      refine j_p (i := 48) rfl (y_move rfl) (by kernel_rfl) (by kernel_rfl) (by kernel_rfl) rfl rfl rfl rfl rfl (.inr (fun _ h => h)) ?_
      refine j_p (i := 49) rfl (y_idxb1 rfl rfl Try.underlying32 size_3 (by omega) (by omega)) (by kernel_rfl) (by kernel_rfl) (by kernel_rfl) rfl rfl rfl rfl rfl (.inr (fun _ h => h)) ?_
      refine j_l (i := 50) rfl (y_ldL (enc := (Value.int .i64)) (xs := turnL (qOf n) (wOf n) n zs) (jk := []) 1 rfl rfl agg_3 (rdI_at (by omega) (by omega))) (by kernel_rfl) (by kernel_rfl) (by kernel_rfl) (by kernel_rfl) rfl rfl rfl rfl rfl (.inr (fun _ h => h)) ?_
      refine j_p (i := 51) rfl (y_move rfl) (by kernel_rfl) (by kernel_rfl) (by kernel_rfl) rfl rfl rfl rfl rfl (.inr (fun _ h => h)) ?_
      refine j_p (i := 52) rfl (y_move rfl) (by kernel_rfl) (by kernel_rfl) (by kernel_rfl) rfl rfl rfl rfl rfl (.inr (fun _ h => h)) ?_
      refine j_p (i := 53) rfl (y_idxb1 rfl rfl Try.underlying32 size_3 (by omega) (by omega)) (by kernel_rfl) (by kernel_rfl) (by kernel_rfl) rfl rfl rfl rfl rfl (.inr (fun _ h => h)) ?_
      refine j_l (i := 54) rfl (y_ldL (enc := (Value.int .i64)) (xs := turnL (qOf n) (wOf n) n xs) (jk := []) 6 rfl rfl agg_3 (rdI_at (by omega) (by omega))) (by kernel_rfl) (by kernel_rfl) (by kernel_rfl) (by kernel_rfl) rfl rfl rfl rfl rfl (.inr (fun _ h => h)) ?_
      refine j_p (i := 55) rfl (y_move rfl) (by kernel_rfl) (by kernel_rfl) (by kernel_rfl) rfl rfl rfl rfl rfl (.inr (fun _ h => h)) ?_
      refine j_p (i := 56) rfl (y_move rfl) (by kernel_rfl) (by kernel_rfl) (by kernel_rfl) rfl rfl rfl rfl rfl (.inr (fun _ h => h)) ?_
      refine j_p (i := 57) rfl (y_idxb1 rfl rfl Try.underlying32 size_3 (by omega) (by omega)) (by kernel_rfl) (by kernel_rfl) (by kernel_rfl) rfl rfl rfl rfl rfl (.inr (fun _ h => h)) ?_
      refine j_l (i := 58) rfl (y_ldL (enc := (Value.int .i64)) (xs := turnL (qOf n) (wOf n) n ys) (jk := []) 5 rfl rfl agg_3 (rdI_at (by omega) (by omega))) (by kernel_rfl) (by kernel_rfl) (by kernel_rfl) (by kernel_rfl) rfl rfl rfl rfl rfl (.inr (fun _ h => h)) ?_
      refine j_p (i := 59) rfl (y_add rfl rfl (by omega) (by omega)) (by kernel_rfl) (by kernel_rfl) (by kernel_rfl) rfl rfl rfl rfl rfl (.inr (fun _ h => h)) ?_
      refine j_p (i := 60) rfl (y_move rfl) (by kernel_rfl) (by kernel_rfl) (by kernel_rfl) rfl rfl rfl rfl rfl (.inr (fun _ h => h)) ?_
      refine j_p (i := 61) rfl (y_rem rfl rfl (by omega) (by omega)) (by kernel_rfl) (by kernel_rfl) (by kernel_rfl) rfl rfl rfl rfl rfl (.inr (fun _ h => h)) ?_
      refine j_p (i := 62) rfl (y_neq_f rfl rfl (spec_add xs ys zs hzs2 (by omega))) (by kernel_rfl) (by kernel_rfl) (by kernel_rfl) rfl rfl rfl rfl rfl (.inr (fun _ h => h)) ?_
      refine j_p (i := 63) rfl (y_pick_f rfl rfl) (by kernel_rfl) (by kernel_rfl) (by kernel_rfl) rfl rfl rfl rfl rfl (.inr (fun _ h => h)) ?_
      refine j_nil (by kernel_rfl) ?_
      refine g_then ?_
      refine g_cond_f rfl ?_
      refine g_skip ?_
      refine g_inb ?_
      refine g_then ?_
      refine g_region ?_
      refine s_y (y_add rfl rfl (by omega) (by omega)) rfl rfl rfl rfl ?_
      refine s_y (y_move rfl) rfl rfl rfl rfl ?_
      refine s_nil ?_
      refine g_then ?_
      exact fun act W ha hw => ⟨j + 1, by omega, by omega, W, ha.weak (sub_get ⟨rfl, rfl, rfl, rfl, rfl, rfl, rfl, trivial⟩), hw.toHq.lookSub (List.Sublist.refl _)⟩
    · (try simp at cq39)
      refine g_exit ?_
      refine g_thenx ?_
      refine g_thenx ?_
      refine g_inbx ?_
      refine g_then ?_
      refine g_seq ?_
      refine g_region ?_
      refine s_tr (t_call rfl rfl ent_20 (fun w h => awake_t w)) rfl rfl rfl rfl (fun _ _ => ?_)
      refine s_y (y_assign rfl) rfl rfl rfl rfl ?_
      refine s_nil ?_
      refine g_then ?_
      refine g_ret ?_
      exact g_end trivial (fun a w ha hq_ => res1 ha rfl rfl  w) (fun w h => ⟨rfl, h.below⟩)

theorem WheelsProducts_no1 (w : World) (n : Int) (v v' : Value) (xs ys : List Int) (hv : RdV (Value.int .i64) w v xs) (hv' : RdV (Value.int .i64) w v' ys) (hno : ¬ (RIn n ∧ okI n xs = true)) :
    Calls Try.prog 9 [.int .i64 n, v, v'].toArray w fun e w' => e = .returned (.bool true) ∧ Below w.heap.size w w' := by
  have hnot2 : ¬ (RIn n ∧ okI n (xs.take 19) = true ∧ okI n (ys.take 19) = true) := fun h => okI_take hno ⟨h.1, h.2.1⟩
  refine enter (N := 270) Try.func9 rfl rfl rfl ?_
  refine g_seq ?_
  refine g_region ?_
  refine s_y (y_assign rfl) rfl rfl rfl rfl ?_
  refine s_nil ?_
  refine g_then ?_
  refine g_seq ?_
  refine g_seq ?_
  refine g_region ?_
  refine s_y (y_move rfl) rfl rfl rfl rfl ?_
  refine s_y (y_move rfl) rfl rfl rfl rfl ?_
  refine s_tr (t_call rfl rfl ent_29 (fun w h => RWheel_f w n _ xs (hv.below h.below) hno)) rfl rfl rfl rfl (fun _ _ => ?_)
  refine s_y (y_not_f rfl) rfl rfl rfl rfl ?_
  refine s_y (y_move rfl) rfl rfl rfl rfl ?_
  refine s_no rfl rfl rfl ?_
  refine s_no rfl rfl rfl ?_
  refine s_no rfl rfl rfl ?_
  refine s_no rfl rfl rfl ?_
  refine s_y (y_pick_t rfl rfl) rfl rfl rfl rfl ?_
  refine s_nil ?_
  refine g_then ?_
  refine g_cond_t rfl ?_
  refine g_seq ?_
  refine g_region ?_
  refine s_y (y_move rfl) rfl rfl rfl rfl ?_
  refine s_y (y_move rfl) rfl rfl rfl rfl ?_
  refine s_tr (t_callm rfl rfl ent_27 (fun w h => list_any w _ xs (hv.below h.below))) rfl rfl rfl rfl (fun x2 hx3 => ?_)
  obtain ⟨vo1, mo1⟩ := x2
  obtain ⟨hOo1, hEo1⟩ := hx3
  refine s_y (y_move rfl) rfl rfl rfl rfl ?_
  refine s_tr (t_callm rfl rfl ent_27 (fun w h => list_any w _ ys (hv'.below h.below))) rfl rfl rfl rfl (fun x5 hx6 => ?_)
  obtain ⟨vo4, mo4⟩ := x5
  obtain ⟨hOo4, hEo4⟩ := hx6
  refine s_tr (t_call rfl rfl ent_42 (fun w h => Times_no w n _ _ (xs.take 19) (ys.take 19) (hOo1.rd fun p hp => h.at_ p (mem_ar mo4 (mem_al mo1 hp))) (hOo4.rd fun p hp => h.at_ p (mem_al mo4 hp)) hnot2)) rfl rfl rfl rfl (fun _ _ => ?_)
  refine s_y (y_move rfl) rfl rfl rfl rfl ?_
  refine s_y (y_extract rfl rfl) rfl rfl rfl rfl ?_
  refine s_y (y_extract rfl rfl) rfl rfl rfl rfl ?_
  refine s_y (y_assign rfl) rfl rfl rfl rfl ?_
  refine s_y (y_assign rfl) rfl rfl rfl rfl ?_
  refine s_nil ?_
  refine g_then ?_
  refine g_seq ?_
  refine g_region ?_
  refine s_y (y_move rfl) rfl rfl rfl rfl ?_
  refine s_y (y_eql_t rfl rfl (by decide)) rfl rfl rfl rfl ?_
  refine s_y (y_move rfl) rfl rfl rfl rfl ?_
  refine s_tr (t_call rfl rfl ent_20 (fun w h => awake_t w)) rfl rfl rfl rfl (fun _ _ => ?_)
  refine s_y (y_pick_t rfl rfl) rfl rfl rfl rfl ?_
  refine s_y (y_assign rfl) rfl rfl rfl rfl ?_
  refine s_nil ?_
  refine g_then ?_
  refine g_ret ?_
  refine g_thenr ?_
  exact g_end trivial (fun a w ha hq_ => res1 ha rfl rfl  w) (fun w h => ⟨rfl, h.below⟩)

theorem WheelsProducts_no2 (w : World) (n : Int) (v v' : Value) (xs ys : List Int) (hv : RdV (Value.int .i64) w v xs) (hv' : RdV (Value.int .i64) w v' ys) (hyes : RIn n ∧ okI n xs = true) (hno' : ¬ (RIn n ∧ okI n ys = true)) :
    Calls Try.prog 9 [.int .i64 n, v, v'].toArray w fun e w' => e = .returned (.bool true) ∧ Below w.heap.size w w' := by
  have hnot2 : ¬ (RIn n ∧ okI n (xs.take 19) = true ∧ okI n (ys.take 19) = true) := fun h => okI_take hno' ⟨h.1, h.2.2⟩
  refine enter (N := 270) Try.func9 rfl rfl rfl ?_
  refine g_seq ?_
  refine g_region ?_
  refine s_y (y_assign rfl) rfl rfl rfl rfl ?_
  refine s_nil ?_
  refine g_then ?_
  refine g_seq ?_
  refine g_seq ?_
  refine g_region ?_
  refine s_y (y_move rfl) rfl rfl rfl rfl ?_
  refine s_y (y_move rfl) rfl rfl rfl rfl ?_
  refine s_tr (t_call rfl rfl ent_29 (fun w h => RWheel_tI w n _ xs (hv.below h.below) hyes)) rfl rfl rfl rfl (fun _ _ => ?_)
  refine s_y (y_not_t rfl) rfl rfl rfl rfl ?_
  refine s_y (y_move rfl) rfl rfl rfl rfl ?_
  refine s_y (y_move rfl) rfl rfl rfl rfl ?_
  refine s_y (y_move rfl) rfl rfl rfl rfl ?_
  refine s_tr (t_call rfl rfl ent_29 (fun w h => RWheel_f w n _ ys (hv'.below h.below) hno')) rfl rfl rfl rfl (fun _ _ => ?_)
  refine s_y (y_not_f rfl) rfl rfl rfl rfl ?_
  refine s_y (y_pick_f rfl rfl) rfl rfl rfl rfl ?_
  refine s_nil ?_
  refine g_then ?_
  refine g_cond_t rfl ?_
  refine g_seq ?_
  refine g_region ?_
  refine s_y (y_move rfl) rfl rfl rfl rfl ?_
  refine s_y (y_move rfl) rfl rfl rfl rfl ?_
  refine s_tr (t_callm rfl rfl ent_27 (fun w h => list_any w _ xs (hv.below h.below))) rfl rfl rfl rfl (fun x2 hx3 => ?_)
  obtain ⟨vo1, mo1⟩ := x2
  obtain ⟨hOo1, hEo1⟩ := hx3
  refine s_y (y_move rfl) rfl rfl rfl rfl ?_
  refine s_tr (t_callm rfl rfl ent_27 (fun w h => list_any w _ ys (hv'.below h.below))) rfl rfl rfl rfl (fun x5 hx6 => ?_)
  obtain ⟨vo4, mo4⟩ := x5
  obtain ⟨hOo4, hEo4⟩ := hx6
  refine s_tr (t_call rfl rfl ent_42 (fun w h => Times_no w n _ _ (xs.take 19) (ys.take 19) (hOo1.rd fun p hp => h.at_ p (mem_ar mo4 (mem_al mo1 hp))) (hOo4.rd fun p hp => h.at_ p (mem_al mo4 hp)) hnot2)) rfl rfl rfl rfl (fun _ _ => ?_)
  refine s_y (y_move rfl) rfl rfl rfl rfl ?_
  refine s_y (y_extract rfl rfl) rfl rfl rfl rfl ?_
  refine s_y (y_extract rfl rfl) rfl rfl rfl rfl ?_
  refine s_y (y_assign rfl) rfl rfl rfl rfl ?_
  refine s_y (y_assign rfl) rfl rfl rfl rfl ?_
  refine s_nil ?_
  refine g_then ?_
  refine g_seq ?_
  refine g_region ?_
  refine s_y (y_move rfl) rfl rfl rfl rfl ?_
  refine s_y (y_eql_t rfl rfl (by decide)) rfl rfl rfl rfl ?_
  refine s_y (y_move rfl) rfl rfl rfl rfl ?_
  refine s_tr (t_call rfl rfl ent_20 (fun w h => awake_t w)) rfl rfl rfl rfl (fun _ _ => ?_)
  refine s_y (y_pick_t rfl rfl) rfl rfl rfl rfl ?_
  refine s_y (y_assign rfl) rfl rfl rfl rfl ?_
  refine s_nil ?_
  refine g_then ?_
  refine g_ret ?_
  refine g_thenr ?_
  exact g_end trivial (fun a w ha hq_ => res1 ha rfl rfl  w) (fun w h => ⟨rfl, h.below⟩)

theorem WheelsProducts_law (w : World) (n : Int) (v : Value) (xs : List Int) (v' : Value) (ys : List Int) (_ : (Lit.int .i64 n).wf = true) (hv : RdV (Value.int .i64) w v xs) (_ : xs.length ≤ maxLen) (_ : ∀ x ∈ xs, (Lit.int .i64 x).wf = true) (hv' : RdV (Value.int .i64) w v' ys) (_ : ys.length ≤ maxLen) (_ : ∀ x ∈ ys, (Lit.int .i64 x).wf = true) : Calls Try.prog 9 [.int .i64 n, v, v'].toArray w fun e w' => e = .returned (.bool true) ∧ Below w.heap.size w w' := by
  by_cases h : RIn n ∧ okI n xs = true
  · by_cases h' : RIn n ∧ okI n ys = true
    · obtain ⟨m, rfl⟩ := Int.eq_ofNat_of_zero_le (show 0 ≤ n by have := h.1.1; omega)
      have h1 := h.1.1
      have h2 := h.1.2
      exact WheelsProducts_ok w m v v' xs ys hv hv' (by omega) (by omega) h.2 h'.2
    · exact WheelsProducts_no2 w n v v' xs ys hv hv' h h'
  · exact WheelsProducts_no1 w n v v' xs ys hv hv' h

end Go.Proofs.Ytncenmgkdodioaa
