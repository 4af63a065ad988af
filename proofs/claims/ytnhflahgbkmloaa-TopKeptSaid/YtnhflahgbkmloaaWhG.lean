/- wheels: what Times, Divide, Move, Turn, Index and Contains hand back. -/
import Derived.Test.YtnhflahgbkmloaaWhE
namespace Go.Proofs.Ytnhflahgbkmloaa
open Go.RowKit Go.Sx Go.Wh
set_option linter.unusedVariables false
set_option linter.unusedSimpArgs false
set_option maxRecDepth 100000
set_option maxHeartbeats 4000000

private theorem agg_27 : isAggB Try.prog 27 = some false := by kernel_rfl
private theorem sle_27 : Try.prog.underlying 27 = some (.slice (Try.prog.elem 27)) := by kernel_rfl
private theorem size_3 : (Try.prog.info? 3).map (·.size) = some 1 := by kernel_rfl
private theorem agg_3 : isAggB Try.prog 3 = some false := by kernel_rfl
private theorem inf_27 : ∃ ie, Try.prog.info? 27 = some ie ∧ ie.zero = some (.slice none 0 0) ∧ ie.size = 1 ∧ ie.bytes = 24 := info_of (by kernel_rfl) (by kernel_rfl)
private theorem ent_54 : Enters Try.prog 54 := enters_of Try.func54 (by kernel_rfl) rfl
private theorem zero_74 : (Try.prog.info? 74).bind (·.zero) = some (.agg #[(.int .i64 0), (.int .i64 0), (.int .i64 0)]) := by kernel_rfl
private theorem size_74 : (Try.prog.info? 74).map (·.size) = some 3 := by kernel_rfl
private theorem agg_74 : isAggB Try.prog 74 = some true := by kernel_rfl
private theorem ent_55 : Enters Try.prog 55 := enters_of Try.func55 (by kernel_rfl) rfl
private theorem ent_56 : Enters Try.prog 56 := enters_of Try.func56 (by kernel_rfl) rfl

theorem Times1_any (w : World) (k n : Nat) (bl bm bn : Nat) (v v' : Value) (xs ys : List Int) (hn : 2 ≤ n) (hn2 : n ≤ 16) (hok : okW n (qOf n) xs = true) (hok' : okW n (qOf n) ys = true) (hk : k < n) (hv : RdV (Value.int .i64) w v xs) (hv' : RdV (Value.int .i64) w v' ys) (hbl : w.heap[bl]? = some (.cells [v].toArray 27 (0, 0))) (hbm : w.heap[bm]? = some (.cells [v'].toArray 27 (0, 0))) (hbn : w.heap[bn]? = some (.cells [.int .i64 (n : Int)].toArray 3 (0, 0))) :
    Calls Try.prog 56 [.int .i64 (k : Int), .pointer (some ⟨bl, 0, none⟩), .pointer (some ⟨bm, 0, none⟩), .pointer (some ⟨bn, 0, none⟩)].toArray w fun e w' => e = .returned (.int .i64 (tms n xs ys k n)) ∧ Below w.heap.size w w' := by
  obtain ⟨hf1, hf2, hf3, hf4, hf5, hf6, hf7⟩ := q_facts hn hn2
  obtain ⟨hxl, hx⟩ := okW_true.1 hok
  obtain ⟨hyl, hy⟩ := okW_true.1 hok'
  refine enter (N := 32) Try.func56 rfl rfl rfl ?_
  refine g_seq ?_
  refine g_region ?_
  refine s_y (y_assign rfl) rfl rfl rfl rfl ?_
  refine s_nil ?_
  refine g_then ?_
  refine g_seq ?_
  refine g_region ?_
  refine s_y (y_assign rfl) rfl rfl rfl rfl ?_
  refine s_nil ?_
  refine g_then ?_
  refine g_seq ?_
  refine g_seq ?_
  refine g_region ?_
  refine s_y (y_ldO1 hbl rfl agg_27 rfl) rfl rfl rfl rfl ?_
  refine s_y (y_lenV (n := xs.length) rfl (by obtain ⟨A, c, h1, _⟩ := hv; exact ⟨A, c, h1⟩) sle_27) rfl rfl rfl rfl ?_
  refine s_y (y_move rfl) rfl rfl rfl rfl ?_
  refine s_nil ?_
  refine g_then ?_
  refine g_block ?_
  refine g_loop (fun (j : Nat) act W => j ≤ n ∧ ∃ (w1 : World), Has 32 [] [(0, .int .i64 (k : Int)), (2, .pointer (some ⟨bm, 0, none⟩)), (3, .pointer (some ⟨bn, 0, none⟩)), (5, .int .i64 0), (6, .int .i64 (tms n xs ys k j)), (9, v), (10, .int .i64 (xs.length : Nat)), (11, .int .i64 (j : Int))] act ∧ Hp w w1 ([]) W) (fun j => n - j) 0 (fun act W ha hw => ⟨by omega, W, ha.weak (sub_get ⟨rfl, rfl, rfl, rfl, rfl, rfl, rfl, rfl, trivial⟩), hw.toHq.lookSub (List.Sublist.refl _)⟩) ?_
  intro j act W ⟨hb_j, w1, ha, hw⟩
  refine g_go ha hw ?_
  clear ha hw act W
  refine g_seq ?_
  refine g_region ?_
  refine s_y (y_lss rfl rfl) rfl rfl rfl rfl ?_
  refine s_nil ?_
  refine g_then ?_
  refine g_seq ?_
  refine g_cond rfl (fun cq1 => ?_) (fun cq1 => ?_)
  · (try simp at cq1)
    refine g_skip ?_
    refine g_then ?_
    refine g_seq ?_
    refine g_block ?_
    refine g_seq ?_
    refine g_region ?_
    refine s_y (y_move rfl) rfl rfl rfl rfl ?_
    refine s_y (y_idxV (enc := (Value.int .i64)) rfl rfl hv Try.underlying27 size_3 (by omega) (by omega)) rfl rfl rfl rfl ?_
    refine s_y (y_ldV (enc := (Value.int .i64)) (xs := xs) (fun w h => hv.rdl.below h.below) rfl agg_3 (rdI_at (by omega) (by omega))) rfl rfl rfl rfl ?_
    refine s_y (y_assign rfl) rfl rfl rfl rfl ?_
    refine s_y (y_assign rfl) rfl rfl rfl rfl ?_
    refine s_nil ?_
    refine g_then ?_
    have hxj := at_range hxl hx (i := (j : Int)) (by omega) (by omega)
    have hmr := mod_range (show 0 < n by omega) ((k : Int) - (j : Int) + (n : Int))
    have hyj := at_range hyl hy hmr.1 hmr.2
    have hm := mul_small (a := rdI xs (j : Int)) (b := rdI ys (((k : Int) - (j : Int) + (n : Int)) % (n : Int))) (by omega) (by omega) (by omega) (by omega)
    have ht := tms_range (show 0 < n by omega) (show qOf n ≤ 1000 by omega) hxl hyl hx hy k j (by omega)
    refine g_draw 15 (by kernel_rfl) ?_
    refine j_p (i := 0) rfl (y_move rfl) (by kernel_rfl) (by kernel_rfl) (by kernel_rfl) rfl rfl rfl rfl rfl (.inr (fun _ h => h)) ?_
    refine j_p (i := 1) rfl (y_move rfl) (by kernel_rfl) (by kernel_rfl) (by kernel_rfl) rfl rfl rfl rfl rfl (.inr (fun _ h => h)) ?_
    refine j_l (i := 2) rfl (y_ldO1 hbm rfl agg_27 rfl) (by kernel_rfl) (by kernel_rfl) (by kernel_rfl) (by kernel_rfl) rfl rfl rfl rfl rfl (.inr (fun _ h => h)) ?_
    refine j_p (i := 3) rfl (y_move rfl) (by kernel_rfl) (by kernel_rfl) (by kernel_rfl) rfl rfl rfl rfl rfl (.inr (fun _ h => h)) ?_
    refine j_p (i := 4) rfl (y_move rfl) (by kernel_rfl) (by kernel_rfl) (by kernel_rfl) rfl rfl rfl rfl rfl (.inr (fun _ h => h)) ?_
    refine j_p (i := 5) rfl (y_sub rfl rfl (by omega) (by omega)) (by kernel_rfl) (by kernel_rfl) (by kernel_rfl) rfl rfl rfl rfl rfl (.inr (fun _ h => h)) ?_
    refine j_l (i := 6) rfl (y_ldO1 hbn rfl agg_3 rfl) (by kernel_rfl) (by kernel_rfl) (by kernel_rfl) (by kernel_rfl) rfl rfl rfl rfl rfl (.inr (fun _ h => h)) ?_
    refine j_p (i := 7) rfl (y_add rfl rfl (by omega) (by omega)) (by kernel_rfl) (by kernel_rfl) (by kernel_rfl) rfl rfl rfl rfl rfl (.inr (fun _ h => h)) ?_
    refine j_l (i := 8) rfl (y_ldO1 hbn rfl agg_3 rfl) (by kernel_rfl) (by kernel_rfl) (by kernel_rfl) (by kernel_rfl) rfl rfl rfl rfl rfl (.inr (fun _ h => h)) ?_
    refine j_p (i := 9) rfl (y_rem rfl rfl (by omega) (by omega)) (by kernel_rfl) (by kernel_rfl) (by kernel_rfl) rfl rfl rfl rfl rfl (.inr (fun _ h => h)) ?_
    refine j_p (i := 10) rfl (y_idxV (enc := (Value.int .i64)) rfl rfl hv' Try.underlying27 size_3 (by omega) (by omega)) (by kernel_rfl) (by kernel_rfl) (by kernel_rfl) rfl rfl rfl rfl rfl (.inr (fun _ h => h)) ?_
    refine j_l (i := 11) rfl (y_ldV (enc := (Value.int .i64)) (xs := ys) (fun w h => hv'.rdl.below h.below) rfl agg_3 (rdI_at (by omega) (by omega))) (by kernel_rfl) (by kernel_rfl) (by kernel_rfl) (by kernel_rfl) rfl rfl rfl rfl rfl (.inr (fun _ h => h)) ?_
    refine j_p (i := 12) rfl (y_mul rfl rfl (by omega) (by omega)) (by kernel_rfl) (by kernel_rfl) (by kernel_rfl) rfl rfl rfl rfl rfl (.inr (fun _ h => h)) ?_
    refine j_p (i := 13) rfl (y_add rfl rfl (by omega) (by omega)) (by kernel_rfl) (by kernel_rfl) (by kernel_rfl) rfl rfl rfl rfl rfl (.inr (fun _ h => h)) ?_
    refine j_p (i := 14) rfl (y_assign rfl) (by kernel_rfl) (by kernel_rfl) (by kernel_rfl) rfl rfl rfl rfl rfl (.inr (fun _ h => h)) ?_
    refine j_nil (by kernel_rfl) ?_
    refine g_inb ?_
    refine g_then ?_
    refine g_region ?_
    refine s_y (y_add rfl rfl (by omega) (by omega)) rfl rfl rfl rfl ?_
    refine s_y (y_move rfl) rfl rfl rfl rfl ?_
    refine s_nil ?_
    refine g_then ?_
    exact fun act W ha hw => ⟨j + 1, by omega, by omega, W, ha.weak (sub_get ⟨rfl, rfl, rfl, rfl, rfl, rfl, rfl, rfl, trivial⟩), hw.toHq.lookSub (List.Sublist.refl _)⟩
  · (try simp at cq1)
    refine g_exit ?_
    refine g_thenx ?_
    refine g_thenx ?_
    refine g_inbx ?_
    refine g_then ?_
    refine g_seq ?_
    refine g_region ?_
    refine s_y (y_move rfl) rfl rfl rfl rfl ?_
    refine s_y (y_assign rfl) rfl rfl rfl rfl ?_
    refine s_nil ?_
    refine g_then ?_
    refine g_ret ?_
    obtain rfl : j = n := by omega
    exact g_end trivial (fun a w ha hq_ => res1 ha rfl rfl  w) (fun w h => ⟨rfl, h.below⟩)

theorem Times_ok (w : World) (n : Nat) (v v' : Value) (xs ys : List Int) (hv : RdV (Value.int .i64) w v xs) (hv' : RdV (Value.int .i64) w v' ys) (hn : 2 ≤ n) (hn2 : n ≤ 16) (hok : okW n (qOf n) xs = true) (hok' : okW n (qOf n) ys = true) :
    Calls Try.prog 32 [.int .i64 (n : Int), v, v'].toArray w fun e w' => ∃ b : Nat, e = .returned (.tuple #[.slice (some ⟨b, 0, none⟩) n n, .int .i64 0]) ∧ Hq w w [(b, .cells ((timL (qOf n) n xs ys).map (Value.int .i64) ++ []).toArray 3 (0, 0))] w' := by
  obtain ⟨hf1, hf2, hf3, hf4, hf5, hf6, hf7⟩ := q_facts hn hn2
  obtain ⟨hxl, hx⟩ := okW_true.1 hok
  obtain ⟨hyl, hy⟩ := okW_true.1 hok'
  obtain ⟨ie27, hi27⟩ := inf_27
  refine enter (N := 23) Try.func32 rfl rfl rfl ?_
  refine g_seq ?_
  refine g_region ?_
  refine s_tr (t_box rfl rfl) rfl rfl rfl rfl (fun bn hbn => ?_)
  refine s_tr (t_box rfl hv.cells1) rfl rfl rfl rfl (fun bl hbl => ?_)
  refine s_tr (t_box rfl hv'.cells1) rfl rfl rfl rfl (fun bm hbm => ?_)
  refine s_y (y_assign rfl) rfl rfl rfl rfl ?_
  refine s_y (y_assign rfl) rfl rfl rfl rfl ?_
  refine s_nil ?_
  refine g_then ?_
  refine g_seq ?_
  refine g_region ?_
  refine s_y (y_ld1 2 rfl rfl agg_3 rfl) rfl rfl rfl rfl ?_
  refine s_y (y_ld1 1 rfl rfl agg_27 rfl) rfl rfl rfl rfl ?_
  refine s_y (y_ld1 0 rfl rfl agg_27 rfl) rfl rfl rfl rfl ?_
  refine s_tr (t_build (vs := [(0, v), (1, v')]) (cells := [v, v']) rfl rfl Try.underlying75 hi27.1 hi27.2.1 (by rw [hi27.2.2.1]; rfl) (by rw [hi27.2.2.1]; rfl) (by rw [hi27.2.2.1]; exact fill_two hv.cells1 hv'.cells1)) rfl rfl rfl rfl (fun b1 hb1 => ?_)
  refine s_tr (t_call rfl rfl ent_54 (fun w h => read_yes w n _ [v, v'] hn hn2 (RdV.own (enc := encV) (xs := [v, v']) (jk := []) (at_of (i := 0) h rfl) rfl (Nat.le_refl _)) (by simp) (by simp only [List.mem_cons, List.not_mem_nil, or_false, forall_eq_or_imp, forall_eq]; exact ⟨⟨xs, hv.below h.below, hok⟩, ⟨ys, hv'.below h.below, hok'⟩⟩))) rfl rfl rfl rfl (fun _ _ => ?_)
  refine s_y (y_move rfl) rfl rfl rfl rfl ?_
  refine s_y (y_extract rfl rfl) rfl rfl rfl rfl ?_
  refine s_y (y_extract rfl rfl) rfl rfl rfl rfl ?_
  refine s_tr (t_alloc zero_74 rfl) rfl rfl rfl rfl (fun b2 hb2 => ?_)
  refine s_tr0 (t_store 0 rfl rfl rfl rfl size_74 rfl rfl) rfl rfl rfl (fun _ _ => ?_)
  refine s_y (y_assign rfl) rfl rfl rfl rfl ?_
  refine s_nil ?_
  refine g_then ?_
  refine g_seq ?_
  refine g_seq ?_
  refine g_region ?_
  refine s_y (y_move rfl) rfl rfl rfl rfl ?_
  refine s_y (y_not_t rfl) rfl rfl rfl rfl ?_
  refine s_nil ?_
  refine g_then ?_
  refine g_cond_f rfl ?_
  refine g_skip ?_
  refine g_then ?_
  refine g_seq ?_
  refine g_region ?_
  refine s_y (y_ldn 0 rfl rfl agg_74 size_74 rfl rfl) rfl rfl rfl rfl ?_
  refine s_y (y_func rfl rfl) rfl rfl rfl rfl ?_
  refine s_tr (t_callm (A := New _ _) rfl rfl ent_55 (fun w h => (wheel_any w n (qOf n) (wOf n) 56 [.pointer (some ⟨bl, 0, none⟩), .pointer (some ⟨bm, 0, none⟩), .pointer (some ⟨bn, 0, none⟩)] (fun x : Nat => tms n xs ys x n) (by omega) (by omega) (by omega) (fun x hk => by have := tms_range (show 0 < n by omega) (show qOf n ≤ 1000 by omega) hxl hyl hx hy x n (Nat.le_refl _); omega) ent_56 (fun k W hk hb => Times1_any W k n bl bm bn v v' xs ys hn hn2 hok hok' hk (hv.below (h.below.trans (hb.mono h.below.size))) (hv'.below (h.below.trans (hb.mono h.below.size))) (below_at hb (at_of (i := 3) h rfl)) (below_at hb (at_of (i := 2) h rfl)) (below_at hb (at_of (i := 4) h rfl)))).mono fun e w' ⟨b, h1, h2⟩ => ⟨b, ⟨Nat.le_trans h.below.size (h2.ge _ (List.mem_cons_self ..)), Nat.le_trans h.size (h2.ge _ (List.mem_cons_self ..))⟩, h1, h2⟩)) rfl rfl rfl rfl (fun bc3 hbc3 => ?_)
  refine s_y (y_assign rfl) rfl rfl rfl rfl ?_
  refine s_y (y_assign rfl) rfl rfl rfl rfl ?_
  refine s_nil ?_
  refine g_then ?_
  refine g_ret ?_
  exact g_end trivial (fun a w ha hq_ => res2 ha rfl rfl rfl  w) (fun w h => ⟨bc3, rfl, h.hand (List.Sublist.cons_cons _ (List.nil_sublist _))⟩)

theorem Times_no (w : World) (n : Int) (v v' : Value) (xs ys : List Int) (hv : RdV (Value.int .i64) w v xs) (hv' : RdV (Value.int .i64) w v' ys) (hno : ¬ (RIn n ∧ okI n xs = true ∧ okI n ys = true)) :
    Calls Try.prog 32 [.int .i64 n, v, v'].toArray w fun e w' => e = .returned (.tuple #[.slice none 0 0, .int .i64 2]) ∧ Below w.heap.size w w' := by
  obtain ⟨ie27, hi27⟩ := inf_27
  refine enter (N := 23) Try.func32 rfl rfl rfl ?_
  refine g_seq ?_
  refine g_region ?_
  refine s_tr (t_box rfl rfl) rfl rfl rfl rfl (fun b1 hb1 => ?_)
  refine s_tr (t_box rfl hv.cells1) rfl rfl rfl rfl (fun b2 hb2 => ?_)
  refine s_tr (t_box rfl hv'.cells1) rfl rfl rfl rfl (fun b3 hb3 => ?_)
  refine s_y (y_assign rfl) rfl rfl rfl rfl ?_
  refine s_y (y_assign rfl) rfl rfl rfl rfl ?_
  refine s_nil ?_
  refine g_then ?_
  refine g_seq ?_
  refine g_region ?_
  refine s_y (y_ld1 2 rfl rfl agg_3 rfl) rfl rfl rfl rfl ?_
  refine s_y (y_ld1 1 rfl rfl agg_27 rfl) rfl rfl rfl rfl ?_
  refine s_y (y_ld1 0 rfl rfl agg_27 rfl) rfl rfl rfl rfl ?_
  refine s_tr (t_build (vs := [(0, v), (1, v')]) (cells := [v, v']) rfl rfl Try.underlying75 hi27.1 hi27.2.1 (by rw [hi27.2.2.1]; rfl) (by rw [hi27.2.2.1]; rfl) (by rw [hi27.2.2.1]; exact fill_two hv.cells1 hv'.cells1)) rfl rfl rfl rfl (fun b4 hb4 => ?_)
  refine s_tr (t_callm rfl rfl ent_54 (fun w h => read_no w n _ [v, v'] (RdV.own (enc := encV) (xs := [v, v']) (jk := []) (at_of (i := 0) h rfl) rfl (Nat.le_refl _)) (by simp) (by simp only [List.mem_cons, List.not_mem_nil, or_false, forall_eq_or_imp, forall_eq]; exact ⟨⟨xs, hv.below h.below⟩, ⟨ys, hv'.below h.below⟩⟩) (by intro hR; rcases Bool.eq_false_or_eq_true (okI n xs) with c | c; exact ⟨v', by simp, ys, hv'.below h.below, by cases c' : okI n ys; rfl; exact absurd ⟨hR, c, c'⟩ hno⟩; exact ⟨v, by simp, xs, hv.below h.below, c⟩))) rfl rfl rfl rfl (fun x5 _ => ?_)
  refine s_y (y_move rfl) rfl rfl rfl rfl ?_
  refine s_y (y_extract rfl rfl) rfl rfl rfl rfl ?_
  refine s_y (y_extract rfl rfl) rfl rfl rfl rfl ?_
  refine s_tr (t_alloc zero_74 rfl) rfl rfl rfl rfl (fun b6 hb6 => ?_)
  refine s_tr0 (t_store 0 rfl rfl rfl rfl size_74 rfl rfl) rfl rfl rfl (fun _ _ => ?_)
  refine s_y (y_assign rfl) rfl rfl rfl rfl ?_
  refine s_nil ?_
  refine g_then ?_
  refine g_seq ?_
  refine g_seq ?_
  refine g_region ?_
  refine s_y (y_move rfl) rfl rfl rfl rfl ?_
  refine s_y (y_not_f rfl) rfl rfl rfl rfl ?_
  refine s_nil ?_
  refine g_then ?_
  refine g_cond_t rfl ?_
  refine g_seq ?_
  refine g_region ?_
  refine s_y (y_assign rfl) rfl rfl rfl rfl ?_
  refine s_y (y_assign rfl) rfl rfl rfl rfl ?_
  refine s_nil ?_
  refine g_then ?_
  refine g_ret ?_
  refine g_thenr ?_
  exact g_end trivial (fun a w ha hq_ => res2 ha rfl rfl rfl  w) (fun w h => ⟨rfl, h.below⟩)

end Go.Proofs.Ytnhflahgbkmloaa
