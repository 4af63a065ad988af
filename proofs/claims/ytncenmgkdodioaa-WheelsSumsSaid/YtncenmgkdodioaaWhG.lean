/- wheels: what Times, Divide, Move, Turn, Index and Contains hand back. -/
import Derived.Test.YtncenmgkdodioaaWhF
namespace Go.Proofs.Ytncenmgkdodioaa
open Go.RowKit Go.Sx Go.Wh
set_option linter.unusedVariables false
set_option linter.unusedSimpArgs false
set_option maxRecDepth 100000
set_option maxHeartbeats 4000000

private theorem agg_32 : isAggB Try.prog 32 = some false := by kernel_rfl
private theorem sle_32 : Try.prog.underlying 32 = some (.slice (Try.prog.elem 32)) := by kernel_rfl
private theorem size_3 : (Try.prog.info? 3).map (·.size) = some 1 := by kernel_rfl
private theorem agg_3 : isAggB Try.prog 3 = some false := by kernel_rfl
private theorem inf_32 : ∃ ie, Try.prog.info? 32 = some ie ∧ ie.zero = some (.slice none 0 0) ∧ ie.size = 1 ∧ ie.bytes = 24 := info_of (by kernel_rfl) (by kernel_rfl)
private theorem ent_57 : Enters Try.prog 57 := enters_of Try.func57 (by kernel_rfl) rfl
private theorem zero_56 : (Try.prog.info? 56).bind (·.zero) = some (.agg #[(.int .i64 0), (.int .i64 0), (.int .i64 0)]) := by kernel_rfl
private theorem size_56 : (Try.prog.info? 56).map (·.size) = some 3 := by kernel_rfl
private theorem agg_56 : isAggB Try.prog 56 = some true := by kernel_rfl
private theorem ent_61 : Enters Try.prog 61 := enters_of Try.func61 (by kernel_rfl) rfl
private theorem ent_68 : Enters Try.prog 68 := enters_of Try.func68 (by kernel_rfl) rfl
private theorem ent_62 : Enters Try.prog 62 := enters_of Try.func62 (by kernel_rfl) rfl
private theorem ent_63 : Enters Try.prog 63 := enters_of Try.func63 (by kernel_rfl) rfl
private theorem ent_52 : Enters Try.prog 52 := enters_of Try.func52 (by kernel_rfl) rfl
private theorem ent_72 : Enters Try.prog 72 := enters_of Try.func72 (by kernel_rfl) rfl
private theorem ent_64 : Enters Try.prog 64 := enters_of Try.func64 (by kernel_rfl) rfl
private theorem zero_32 : (Try.prog.info? 32).bind (·.zero) = some (.slice none 0 0) := by kernel_rfl
private theorem size_32 : (Try.prog.info? 32).map (·.size) = some 1 := by kernel_rfl
private theorem ent_56 : Enters Try.prog 56 := enters_of Try.func56 (by kernel_rfl) rfl
private theorem ent_71 : Enters Try.prog 71 := enters_of Try.func71 (by kernel_rfl) rfl
private theorem ent_65 : Enters Try.prog 65 := enters_of Try.func65 (by kernel_rfl) rfl

theorem Times1_any (w : World) (k n : Nat) (bl bm bn : Nat) (v v' : Value) (xs ys : List Int) (hn : 2 ≤ n) (hn2 : n ≤ 16) (hok : okW n (qOf n) xs = true) (hok' : okW n (qOf n) ys = true) (hk : k < n) (hv : RdV (Value.int .i64) w v xs) (hv' : RdV (Value.int .i64) w v' ys) (hbl : w.heap[bl]? = some (.cells [v].toArray 32 (0, 0))) (hbm : w.heap[bm]? = some (.cells [v'].toArray 32 (0, 0))) (hbn : w.heap[bn]? = some (.cells [.int .i64 (n : Int)].toArray 3 (0, 0))) :
    Calls Try.prog 68 [.int .i64 (k : Int), .pointer (some ⟨bl, 0, none⟩), .pointer (some ⟨bm, 0, none⟩), .pointer (some ⟨bn, 0, none⟩)].toArray w fun e w' => e = .returned (.int .i64 (tms n xs ys k n)) ∧ Below w.heap.size w w' := by
  obtain ⟨hf1, hf2, hf3, hf4, hf5, hf6, hf7⟩ := q_facts hn hn2
  obtain ⟨hxl, hx⟩ := okW_true.1 hok
  obtain ⟨hyl, hy⟩ := okW_true.1 hok'
  refine enter (N := 32) Try.func68 rfl rfl rfl ?_
  refine g_seq ?_
  refine g_region ?_
  refine s_y (y_assign rfl) rfl rfl rfl rfl ?_
  refine s_nil ?_
  refine g_then ?_
  refine g_seq ?_
  refine g_region ?_
  refine s_y (y_assign rfl) rfl rfl rfl rfl ?_
  refine s_nil ?_
  refine g_then ?_
  refine g_seq ?_
  refine g_seq ?_
  refine g_region ?_
  refine s_y (y_ldO1 hbl rfl agg_32 rfl) rfl rfl rfl rfl ?_
  refine s_y (y_lenV (n := xs.length) rfl (by obtain ⟨A, c, h1, _⟩ := hv; exact ⟨A, c, h1⟩) sle_32) rfl rfl rfl rfl ?_
  refine s_y (y_move rfl) rfl rfl rfl rfl ?_
  refine s_nil ?_
  refine g_then ?_
  refine g_block ?_
  refine g_loop (fun (j : Nat) act W => j ≤ n ∧ ∃ (w1 : World), Has 32 [] [(0, .int .i64 (k : Int)), (2, .pointer (some ⟨bm, 0, none⟩)), (3, .pointer (some ⟨bn, 0, none⟩)), (5, .int .i64 0), (6, .int .i64 (tms n xs ys k j)), (9, v), (10, .int .i64 (xs.length : Nat)), (11, .int .i64 (j : Int))] act ∧ Hp w w1 ([]) W) (fun j => n - j) 0 (fun act W ha hw => ⟨by omega, W, ha.weak (sub_get ⟨rfl, rfl, rfl, rfl, rfl, rfl, rfl, rfl, trivial⟩), hw.toHq.lookSub (List.Sublist.refl _)⟩) ?_
  intro j act W ⟨hb_j, w1, ha, hw⟩
  refine g_go ha hw ?_
  clear ha hw act W
  refine g_seq ?_
  refine g_region ?_
  refine s_y (y_lss rfl rfl) rfl rfl rfl rfl ?_
  refine s_nil ?_
  refine g_then ?_
  refine g_seq ?_
  refine g_cond rfl (fun cq1 => ?_) (fun cq1 => ?_)
  · (try simp at cq1)
    refine g_skip ?_
    refine g_then ?_
    refine g_seq ?_
    refine g_block ?_
    refine g_seq ?_
    refine g_region ?_
    refine s_y (y_move rfl) rfl rfl rfl rfl ?_
    refine s_y (y_idxV (enc := (Value.int .i64)) rfl rfl hv Try.underlying32 size_3 (by omega) (by omega)) rfl rfl rfl rfl ?_
    refine s_y (y_ldV (enc := (Value.int .i64)) (xs := xs) (fun w h => hv.rdl.below h.below) rfl agg_3 (rdI_at (by omega) (by omega))) rfl rfl rfl rfl ?_
    refine s_y (y_assign rfl) rfl rfl rfl rfl ?_
    refine s_y (y_assign rfl) rfl rfl rfl rfl ?_
    refine s_nil ?_
    refine g_then ?_
    have hxj := at_range hxl hx (i := (j : Int)) (by omega) (by omega)
    have hmr := mod_range (show 0 < n by omega) ((k : Int) - (j : Int) + (n : Int))
    have hyj := at_range hyl hy hmr.1 hmr.2
    have hm := mul_small (a := rdI xs (j : Int)) (b := rdI ys (((k : Int) - (j : Int) + (n : Int)) % (n : Int))) (by omega) (by omega) (by omega) (by omega)
    have ht := tms_range (show 0 < n by omega) (show qOf n ≤ 1000 by omega) hxl hyl hx hy k j (by omega)
    refine g_draw 15 (by kernel_rfl) ?_
    refine j_p (i := 0) rfl (y_move rfl) (by kernel_rfl) (by kernel_rfl) (by kernel_rfl) rfl rfl rfl rfl rfl (.inr (fun _ h => h)) ?_
    refine j_p (i := 1) rfl (y_move rfl) (by kernel_rfl) (by kernel_rfl) (by kernel_rfl) rfl rfl rfl rfl rfl (.inr (fun _ h => h)) ?_
    refine j_l (i := 2) rfl (y_ldO1 hbm rfl agg_32 rfl) (by kernel_rfl) (by kernel_rfl) (by kernel_rfl) (by kernel_rfl) rfl rfl rfl rfl rfl (.inr (fun _ h => h)) ?_
    refine j_p (i := 3) rfl (y_move rfl) (by kernel_rfl) (by kernel_rfl) (by kernel_rfl) rfl rfl rfl rfl rfl (.inr (fun _ h => h)) ?_
    refine j_p (i := 4) rfl (y_move rfl) (by kernel_rfl) (by kernel_rfl) (by kernel_rfl) rfl rfl rfl rfl rfl (.inr (fun _ h => h)) ?_
    refine j_p (i := 5) rfl (y_sub rfl rfl (by omega) (by omega)) (by kernel_rfl) (by kernel_rfl) (by kernel_rfl) rfl rfl rfl rfl rfl (.inr (fun _ h => h)) ?_
    refine j_l (i := 6) rfl (y_ldO1 hbn rfl agg_3 rfl) (by kernel_rfl) (by kernel_rfl) (by kernel_rfl) (by kernel_rfl) rfl rfl rfl rfl rfl (.inr (fun _ h => h)) ?_
    refine j_p (i := 7) rfl (y_add rfl rfl (by omega) (by omega)) (by kernel_rfl) (by kernel_rfl) (by kernel_rfl) rfl rfl rfl rfl rfl (.inr (fun _ h => h)) ?_
    refine j_l (i := 8) rfl (y_ldO1 hbn rfl agg_3 rfl) (by kernel_rfl) (by kernel_rfl) (by kernel_rfl) (by kernel_rfl) rfl rfl rfl rfl rfl (.inr (fun _ h => h)) ?_
    refine j_p (i := 9) rfl (y_rem rfl rfl (by omega) (by omega)) (by kernel_rfl) (by kernel_rfl) (by kernel_rfl) rfl rfl rfl rfl rfl (.inr (fun _ h => h)) ?_
    refine j_p (i := 10) rfl (y_idxV (enc := (Value.int .i64)) rfl rfl hv' Try.underlying32 size_3 (by omega) (by omega)) (by kernel_rfl) (by kernel_rfl) (by kernel_rfl) rfl rfl rfl rfl rfl (.inr (fun _ h => h)) ?_
    refine j_l (i := 11) rfl (y_ldV (enc := (Value.int .i64)) (xs := ys) (fun w h => hv'.rdl.below h.below) rfl agg_3 (rdI_at (by omega) (by omega))) (by kernel_rfl) (by kernel_rfl) (by kernel_rfl) (by kernel_rfl) rfl rfl rfl rfl rfl (.inr (fun _ h => h)) ?_
    refine j_p (i := 12) rfl (y_mul rfl rfl (by omega) (by omega)) (by kernel_rfl) (by kernel_rfl) (by kernel_rfl) rfl rfl rfl rfl rfl (.inr (fun _ h => h)) ?_
    refine j_p (i := 13) rfl (y_add rfl rfl (by omega) (by omega)) (by kernel_rfl) (by kernel_rfl) (by kernel_rfl) rfl rfl rfl rfl rfl (.inr (fun _ h => h)) ?_
    refine j_p (i := 14) rfl (y_assign rfl) (by kernel_rfl) (by kernel_rfl) (by kernel_rfl) rfl rfl rfl rfl rfl (.inr (fun _ h => h)) ?_
    refine j_nil (by kernel_rfl) ?_
    refine g_inb ?_
    refine g_then ?_
    refine g_region ?_
    refine s_y (y_add rfl rfl (by omega) (by omega)) rfl rfl rfl rfl ?_
    refine s_y (y_move rfl) rfl rfl rfl rfl ?_
    refine s_nil ?_
    refine g_then ?_
    exact fun act W ha hw => ⟨j + 1, by omega, by omega, W, ha.weak (sub_get ⟨rfl, rfl, rfl, rfl, rfl, rfl, rfl, rfl, trivial⟩), hw.toHq.lookSub (List.Sublist.refl _)⟩
  · (try simp at cq1)
    refine g_exit ?_
    refine g_thenx ?_
    refine g_thenx ?_
    refine g_inbx ?_
    refine g_then ?_
    refine g_seq ?_
    refine g_region ?_
    refine s_y (y_move rfl) rfl rfl rfl rfl ?_
    refine s_y (y_assign rfl) rfl rfl rfl rfl ?_
    refine s_nil ?_
    refine g_then ?_
    refine g_ret ?_
    obtain rfl : j = n := by omega
    exact g_end trivial (fun a w ha hq_ => res1 ha rfl rfl  w) (fun w h => ⟨rfl, h.below⟩)

theorem Times_ok (w : World) (n : Nat) (v v' : Value) (xs ys : List Int) (hv : RdV (Value.int .i64) w v xs) (hv' : RdV (Value.int .i64) w v' ys) (hn : 2 ≤ n) (hn2 : n ≤ 16) (hok : okW n (qOf n) xs = true) (hok' : okW n (qOf n) ys = true) :
    Calls Try.prog 42 [.int .i64 (n : Int), v, v'].toArray w fun e w' => ∃ b : Nat, e = .returned (.tuple #[.slice (some ⟨b, 0, none⟩) n n, .int .i64 0]) ∧ Hq w w [(b, .cells ((timL (qOf n) n xs ys).map (Value.int .i64) ++ []).toArray 3 (0, 0))] w' := by
  obtain ⟨hf1, hf2, hf3, hf4, hf5, hf6, hf7⟩ := q_facts hn hn2
  obtain ⟨hxl, hx⟩ := okW_true.1 hok
  obtain ⟨hyl, hy⟩ := okW_true.1 hok'
  obtain ⟨ie32, hi32⟩ := inf_32
  refine enter (N := 23) Try.func42 rfl rfl rfl ?_
  refine g_seq ?_
  refine g_region ?_
  refine s_tr (t_box rfl rfl) rfl rfl rfl rfl (fun bn hbn => ?_)
  refine s_tr (t_box rfl hv.cells1) rfl rfl rfl rfl (fun bl hbl => ?_)
  refine s_tr (t_box rfl hv'.cells1) rfl rfl rfl rfl (fun bm hbm => ?_)
  refine s_y (y_assign rfl) rfl rfl rfl rfl ?_
  refine s_y (y_assign rfl) rfl rfl rfl rfl ?_
  refine s_nil ?_
  refine g_then ?_
  refine g_seq ?_
  refine g_region ?_
  refine s_y (y_ld1 2 rfl rfl agg_3 rfl) rfl rfl rfl rfl ?_
  refine s_y (y_ld1 1 rfl rfl agg_32 rfl) rfl rfl rfl rfl ?_
  refine s_y (y_ld1 0 rfl rfl agg_32 rfl) rfl rfl rfl rfl ?_
  refine s_tr (t_build (vs := [(0, v), (1, v')]) (cells := [v, v']) rfl rfl Try.underlying60 hi32.1 hi32.2.1 (by rw [hi32.2.2.1]; rfl) (by rw [hi32.2.2.1]; rfl) (by rw [hi32.2.2.1]; exact fill_two hv.cells1 hv'.cells1)) rfl rfl rfl rfl (fun b1 hb1 => ?_)
  refine s_tr (t_call rfl rfl ent_57 (fun w h => read_yes w n _ [v, v'] hn hn2 (RdV.own (enc := encV) (xs := [v, v']) (jk := []) (at_of (i := 0) h rfl) rfl (Nat.le_refl _)) (by simp) (by simp only [List.mem_cons, List.not_mem_nil, or_false, forall_eq_or_imp, forall_eq]; exact ⟨⟨xs, hv.below h.below, hok⟩, ⟨ys, hv'.below h.below, hok'⟩⟩))) rfl rfl rfl rfl (fun _ _ => ?_)
  refine s_y (y_move rfl) rfl rfl rfl rfl ?_
  refine s_y (y_extract rfl rfl) rfl rfl rfl rfl ?_
  refine s_y (y_extract rfl rfl) rfl rfl rfl rfl ?_
  refine s_tr (t_alloc zero_56 rfl) rfl rfl rfl rfl (fun b2 hb2 => ?_)
  refine s_tr0 (t_store 0 rfl rfl rfl rfl size_56 rfl rfl) rfl rfl rfl (fun _ _ => ?_)
  refine s_y (y_assign rfl) rfl rfl rfl rfl ?_
  refine s_nil ?_
  refine g_then ?_
  refine g_seq ?_
  refine g_seq ?_
  refine g_region ?_
  refine s_y (y_move rfl) rfl rfl rfl rfl ?_
  refine s_y (y_not_t rfl) rfl rfl rfl rfl ?_
  refine s_nil ?_
  refine g_then ?_
  refine g_cond_f rfl ?_
  refine g_skip ?_
  refine g_then ?_
  refine g_seq ?_
  refine g_region ?_
  refine s_y (y_ldn 0 rfl rfl agg_56 size_56 rfl rfl) rfl rfl rfl rfl ?_
  refine s_y (y_func rfl rfl) rfl rfl rfl rfl ?_
  refine s_tr (t_callm (A := New _ _) rfl rfl ent_61 (fun w h => (wheel_any w n (qOf n) (wOf n) 68 [.pointer (some ⟨bl, 0, none⟩), .pointer (some ⟨bm, 0, none⟩), .pointer (some ⟨bn, 0, none⟩)] (fun x : Nat => tms n xs ys x n) (by omega) (by omega) (by omega) (fun x hk => by have := tms_range (show 0 < n by omega) (show qOf n ≤ 1000 by omega) hxl hyl hx hy x n (Nat.le_refl _); omega) ent_68 (fun k W hk hb => Times1_any W k n bl bm bn v v' xs ys hn hn2 hok hok' hk (hv.below (h.below.trans (hb.mono h.below.size))) (hv'.below (h.below.trans (hb.mono h.below.size))) (below_at hb (at_of (i := 3) h rfl)) (below_at hb (at_of (i := 2) h rfl)) (below_at hb (at_of (i := 4) h rfl)))).mono fun e w' ⟨b, h1, h2⟩ => ⟨b, ⟨Nat.le_trans h.below.size (h2.ge _ (List.mem_cons_self ..)), Nat.le_trans h.size (h2.ge _ (List.mem_cons_self ..))⟩, h1, h2⟩)) rfl rfl rfl rfl (fun bc3 hbc3 => ?_)
  refine s_y (y_assign rfl) rfl rfl rfl rfl ?_
  refine s_y (y_assign rfl) rfl rfl rfl rfl ?_
  refine s_nil ?_
  refine g_then ?_
  refine g_ret ?_
  exact g_end trivial (fun a w ha hq_ => res2 ha rfl rfl rfl  w) (fun w h => ⟨bc3, rfl, h.hand (List.Sublist.cons_cons _ (List.nil_sublist _))⟩)

theorem Times_no (w : World) (n : Int) (v v' : Value) (xs ys : List Int) (hv : RdV (Value.int .i64) w v xs) (hv' : RdV (Value.int .i64) w v' ys) (hno : ¬ (RIn n ∧ okI n xs = true ∧ okI n ys = true)) :
    Calls Try.prog 42 [.int .i64 n, v, v'].toArray w fun e w' => e = .returned (.tuple #[.slice none 0 0, .int .i64 2]) ∧ Below w.heap.size w w' := by
  obtain ⟨ie32, hi32⟩ := inf_32
  refine enter (N := 23) Try.func42 rfl rfl rfl ?_
  refine g_seq ?_
  refine g_region ?_
  refine s_tr (t_box rfl rfl) rfl rfl rfl rfl (fun b1 hb1 => ?_)
  refine s_tr (t_box rfl hv.cells1) rfl rfl rfl rfl (fun b2 hb2 => ?_)
  refine s_tr (t_box rfl hv'.cells1) rfl rfl rfl rfl (fun b3 hb3 => ?_)
  refine s_y (y_assign rfl) rfl rfl rfl rfl ?_
  refine s_y (y_assign rfl) rfl rfl rfl rfl ?_
  refine s_nil ?_
  refine g_then ?_
  refine g_seq ?_
  refine g_region ?_
  refine s_y (y_ld1 2 rfl rfl agg_3 rfl) rfl rfl rfl rfl ?_
  refine s_y (y_ld1 1 rfl rfl agg_32 rfl) rfl rfl rfl rfl ?_
  refine s_y (y_ld1 0 rfl rfl agg_32 rfl) rfl rfl rfl rfl ?_
  refine s_tr (t_build (vs := [(0, v), (1, v')]) (cells := [v, v']) rfl rfl Try.underlying60 hi32.1 hi32.2.1 (by rw [hi32.2.2.1]; rfl) (by rw [hi32.2.2.1]; rfl) (by rw [hi32.2.2.1]; exact fill_two hv.cells1 hv'.cells1)) rfl rfl rfl rfl (fun b4 hb4 => ?_)
  refine s_tr (t_callm rfl rfl ent_57 (fun w h => read_no w n _ [v, v'] (RdV.own (enc := encV) (xs := [v, v']) (jk := []) (at_of (i := 0) h rfl) rfl (Nat.le_refl _)) (by simp) (by simp only [List.mem_cons, List.not_mem_nil, or_false, forall_eq_or_imp, forall_eq]; exact ⟨⟨xs, hv.below h.below⟩, ⟨ys, hv'.below h.below⟩⟩) (by intro hR; rcases Bool.eq_false_or_eq_true (okI n xs) with c | c; exact ⟨v', by simp, ys, hv'.below h.below, by cases c' : okI n ys; rfl; exact absurd ⟨hR, c, c'⟩ hno⟩; exact ⟨v, by simp, xs, hv.below h.below, c⟩))) rfl rfl rfl rfl (fun x5 _ => ?_)
  refine s_y (y_move rfl) rfl rfl rfl rfl ?_
  refine s_y (y_extract rfl rfl) rfl rfl rfl rfl ?_
  refine s_y (y_extract rfl rfl) rfl rfl rfl rfl ?_
  refine s_tr (t_alloc zero_56 rfl) rfl rfl rfl rfl (fun b6 hb6 => ?_)
  refine s_tr0 (t_store 0 rfl rfl rfl rfl size_56 rfl rfl) rfl rfl rfl (fun _ _ => ?_)
  refine s_y (y_assign rfl) rfl rfl rfl rfl ?_
  refine s_nil ?_
  refine g_then ?_
  refine g_seq ?_
  refine g_seq ?_
  refine g_region ?_
  refine s_y (y_move rfl) rfl rfl rfl rfl ?_
  refine s_y (y_not_f rfl) rfl rfl rfl rfl ?_
  refine s_nil ?_
  refine g_then ?_
  refine g_cond_t rfl ?_
  refine g_seq ?_
  refine g_region ?_
  refine s_y (y_assign rfl) rfl rfl rfl rfl ?_
  refine s_y (y_assign rfl) rfl rfl rfl rfl ?_
  refine s_nil ?_
  refine g_then ?_
  refine g_ret ?_
  refine g_thenr ?_
  exact g_end trivial (fun a w ha hq_ => res2 ha rfl rfl rfl  w) (fun w h => ⟨rfl, h.below⟩)

theorem Move1_any (w : World) (k n : Nat) (k' : Int) (bl bk bn : Nat) (v : Value) (xs : List Int) (hn : 2 ≤ n) (hn2 : n ≤ 16) (hok : okW n (qOf n) xs = true) (hk : k < n) (hk0 : 0 ≤ k') (hk1 : k' < (n : Int)) (hv : RdV (Value.int .i64) w v xs) (hbl : w.heap[bl]? = some (.cells [v].toArray 32 (0, 0))) (hbk : w.heap[bk]? = some (.cells [.int .i64 k'].toArray 3 (0, 0))) (hbn : w.heap[bn]? = some (.cells [.int .i64 (n : Int)].toArray 3 (0, 0))) :
    Calls Try.prog 62 [.int .i64 (k : Int), .pointer (some ⟨bl, 0, none⟩), .pointer (some ⟨bk, 0, none⟩), .pointer (some ⟨bn, 0, none⟩)].toArray w fun e w' => e = .returned (.int .i64 (rdI xs (((k : Int) - k' + (n : Int)) % (n : Int)))) ∧ Below w.heap.size w w' := by
  obtain ⟨hf1, hf2, hf3, hf4, hf5, hf6, hf7⟩ := q_facts hn hn2
  obtain ⟨hxl, hx⟩ := okW_true.1 hok
  refine enter (N := 16) Try.func62 rfl rfl rfl ?_
  refine g_seq ?_
  refine g_region ?_
  refine s_y (y_assign rfl) rfl rfl rfl rfl ?_
  refine s_nil ?_
  refine g_then ?_
  refine g_seq ?_
  have hmr := mod_range (show 0 < n by omega) ((k : Int) - k' + (n : Int))
  refine g_draw 11 (by kernel_rfl) ?_
  refine j_l (i := 0) rfl (y_ldO1 hbl rfl agg_32 rfl) (by kernel_rfl) (by kernel_rfl) (by kernel_rfl) (by kernel_rfl) rfl rfl rfl rfl rfl (.inr (fun _ h => h)) ?_
  refine j_p (i := 1) rfl (y_move rfl) (by kernel_rfl) (by kernel_rfl) (by kernel_rfl) rfl rfl rfl rfl rfl (.inr (fun _ h => h)) ?_
  refine j_l (i := 2) rfl (y_ldO1 hbk rfl agg_3 rfl) (by kernel_rfl) (by kernel_rfl) (by kernel_rfl) (by kernel_rfl) rfl rfl rfl rfl rfl (.inr (fun _ h => h)) ?_
  refine j_p (i := 3) rfl (y_sub rfl rfl (by omega) (by omega)) (by kernel_rfl) (by kernel_rfl) (by kernel_rfl) rfl rfl rfl rfl rfl (.inr (fun _ h => h)) ?_
  refine j_l (i := 4) rfl (y_ldO1 hbn rfl agg_3 rfl) (by kernel_rfl) (by kernel_rfl) (by kernel_rfl) (by kernel_rfl) rfl rfl rfl rfl rfl (.inr (fun _ h => h)) ?_
  refine j_p (i := 5) rfl (y_add rfl rfl (by omega) (by omega)) (by kernel_rfl) (by kernel_rfl) (by kernel_rfl) rfl rfl rfl rfl rfl (.inr (fun _ h => h)) ?_
  refine j_l (i := 6) rfl (y_ldO1 hbn rfl agg_3 rfl) (by kernel_rfl) (by kernel_rfl) (by kernel_rfl) (by kernel_rfl) rfl rfl rfl rfl rfl (.inr (fun _ h => h)) ?_
  refine j_p (i := 7) rfl (y_rem rfl rfl (by omega) (by omega)) (by kernel_rfl) (by kernel_rfl) (by kernel_rfl) rfl rfl rfl rfl rfl (.inr (fun _ h => h)) ?_
  refine j_p (i := 8) rfl (y_idxV (enc := (Value.int .i64)) rfl rfl hv Try.underlying32 size_3 (by omega) (by omega)) (by kernel_rfl) (by kernel_rfl) (by kernel_rfl) rfl rfl rfl rfl rfl (.inr (fun _ h => h)) ?_
  refine j_l (i := 9) rfl (y_ldV (enc := (Value.int .i64)) (xs := xs) (fun w h => hv.rdl.below h.below) rfl agg_3 (rdI_at (by omega) (by omega))) (by kernel_rfl) (by kernel_rfl) (by kernel_rfl) (by kernel_rfl) rfl rfl rfl rfl rfl (.inr (fun _ h => h)) ?_
  refine j_p (i := 10) rfl (y_assign rfl) (by kernel_rfl) (by kernel_rfl) (by kernel_rfl) rfl rfl rfl rfl rfl (.inr (fun _ h => h)) ?_
  refine j_nil (by kernel_rfl) ?_
  refine g_then ?_
  refine g_ret ?_
  exact g_end trivial (fun a w ha hq_ => res1 ha rfl rfl  w) (fun w h => ⟨rfl, h.below⟩)

theorem Move_ok (w : World) (n : Nat) (v : Value) (xs : List Int) (k' : Int) (hv : RdV (Value.int .i64) w v xs) (hn : 2 ≤ n) (hn2 : n ≤ 16) (hok : okW n (qOf n) xs = true) :
    Calls Try.prog 26 [.int .i64 (n : Int), v, .int .i64 k'].toArray w fun e w' => ∃ b : Nat, e = .returned (.tuple #[.slice (some ⟨b, 0, none⟩) n n, .int .i64 0]) ∧ Hq w w [(b, .cells ((movL n (kOf n k') xs).map (Value.int .i64) ++ []).toArray 3 (0, 0))] w' := by
  obtain ⟨hf1, hf2, hf3, hf4, hf5, hf6, hf7⟩ := q_facts hn hn2
  obtain ⟨hxl, hx⟩ := okW_true.1 hok
  obtain ⟨ie32, hi32⟩ := inf_32
  refine enter (N := 29) Try.func26 rfl rfl rfl ?_
  refine g_seq ?_
  refine g_region ?_
  refine s_tr (t_box rfl rfl) rfl rfl rfl rfl (fun bn hbn => ?_)
  refine s_tr (t_box rfl hv.cells1) rfl rfl rfl rfl (fun bl hbl => ?_)
  refine s_tr (t_box rfl rfl) rfl rfl rfl rfl (fun bk hbk => ?_)
  refine s_y (y_assign rfl) rfl rfl rfl rfl ?_
  refine s_y (y_assign rfl) rfl rfl rfl rfl ?_
  refine s_nil ?_
  refine g_then ?_
  refine g_seq ?_
  refine g_region ?_
  refine s_y (y_ld1 2 rfl rfl agg_3 rfl) rfl rfl rfl rfl ?_
  refine s_y (y_ld1 1 rfl rfl agg_32 rfl) rfl rfl rfl rfl ?_
  refine s_tr (t_build (vs := [(0, v)]) (cells := [v]) rfl rfl Try.underlying60 hi32.1 hi32.2.1 (by rw [hi32.2.2.1]; rfl) (by rw [hi32.2.2.1]; rfl) (by rw [hi32.2.2.1]; exact fill_one hv.cells1)) rfl rfl rfl rfl (fun b1 hb1 => ?_)
  refine s_tr (t_call rfl rfl ent_57 (fun w h => read_yes w n _ [v] hn hn2 (RdV.own (enc := encV) (xs := [v]) (jk := []) (at_of (i := 0) h rfl) rfl (Nat.le_refl _)) (by simp) (by simp only [List.mem_cons, List.not_mem_nil, or_false, forall_eq]; exact ⟨xs, hv.below h.below, hok⟩))) rfl rfl rfl rfl (fun _ _ => ?_)
  refine s_y (y_move rfl) rfl rfl rfl rfl ?_
  refine s_y (y_extract rfl rfl) rfl rfl rfl rfl ?_
  refine s_y (y_extract rfl rfl) rfl rfl rfl rfl ?_
  refine s_tr (t_alloc zero_56 rfl) rfl rfl rfl rfl (fun b2 hb2 => ?_)
  refine s_tr0 (t_store 0 rfl rfl rfl rfl size_56 rfl rfl) rfl rfl rfl (fun _ _ => ?_)
  refine s_y (y_assign rfl) rfl rfl rfl rfl ?_
  refine s_nil ?_
  refine g_then ?_
  refine g_seq ?_
  refine g_seq ?_
  refine g_region ?_
  refine s_y (y_move rfl) rfl rfl rfl rfl ?_
  refine s_y (y_not_t rfl) rfl rfl rfl rfl ?_
  refine s_nil ?_
  refine g_then ?_
  refine g_cond_f rfl ?_
  refine g_skip ?_
  refine g_then ?_
  refine g_seq ?_
  have htm := tmod_range (show 0 < n by omega) k'
  have hkr := kOf_range (show 0 < n by omega) k'
  refine g_draw 7 (by kernel_rfl) ?_
  refine j_l (i := 0) rfl (y_ld1 2 rfl rfl agg_3 rfl) (by kernel_rfl) (by kernel_rfl) (by kernel_rfl) (by kernel_rfl) rfl rfl rfl rfl rfl (.inr (fun _ h => h)) ?_
  refine j_l (i := 1) rfl (y_ld1 4 rfl rfl agg_3 rfl) (by kernel_rfl) (by kernel_rfl) (by kernel_rfl) (by kernel_rfl) rfl rfl rfl rfl rfl (.inr (fun _ h => h)) ?_
  refine j_p (i := 2) rfl (y_remt rfl rfl (by omega)) (by kernel_rfl) (by kernel_rfl) (by kernel_rfl) rfl rfl rfl rfl rfl (.inr (fun _ h => h)) ?_
  refine j_l (i := 3) rfl (y_ld1 4 rfl rfl agg_3 rfl) (by kernel_rfl) (by kernel_rfl) (by kernel_rfl) (by kernel_rfl) rfl rfl rfl rfl rfl (.inr (fun _ h => h)) ?_
  refine j_p (i := 4) rfl (y_add rfl rfl (by omega) (by omega)) (by kernel_rfl) (by kernel_rfl) (by kernel_rfl) rfl rfl rfl rfl rfl (.inr (fun _ h => h)) ?_
  refine j_l (i := 5) rfl (y_ld1 4 rfl rfl agg_3 rfl) (by kernel_rfl) (by kernel_rfl) (by kernel_rfl) (by kernel_rfl) rfl rfl rfl rfl rfl (.inr (fun _ h => h)) ?_
  refine j_p (i := 6) rfl (y_rem rfl rfl (by omega) (by omega)) (by kernel_rfl) (by kernel_rfl) (by kernel_rfl) rfl rfl rfl rfl rfl (.inr (fun _ h => h)) ?_
  refine j_tr0 (i := 7) rfl (t_store 2 rfl rfl rfl rfl size_3 rfl rfl) (by kernel_rfl) rfl rfl rfl (.inl rfl) (fun _ _ => ?_)
  refine j_nil (by kernel_rfl) ?_
  refine g_then ?_
  refine g_seq ?_
  refine g_region ?_
  refine s_y (y_ldn 0 rfl rfl agg_56 size_56 rfl rfl) rfl rfl rfl rfl ?_
  refine s_y (y_func rfl rfl) rfl rfl rfl rfl ?_
  refine s_tr (t_callm (A := New _ _) rfl rfl ent_61 (fun w h => (wheel_any w n (qOf n) (wOf n) 62 [.pointer (some ⟨bl, 0, none⟩), .pointer (some ⟨bk, 0, none⟩), .pointer (some ⟨bn, 0, none⟩)] (fun x : Nat => rdI xs (((x : Int) - kOf n k' + (n : Int)) % (n : Int))) (by omega) (by omega) (by omega) (fun x hk => by have h1 := mod_range (show 0 < n by omega) ((x : Int) - kOf n k' + (n : Int)); have h2 := at_range hxl hx h1.1 h1.2; omega) ent_62 (fun k W hk hb => Move1_any W k n (kOf n k') bl bk bn v xs hn hn2 hok hk hkr.1 hkr.2 (hv.below (h.below.trans (hb.mono h.below.size))) (below_at hb (at_of (i := 3) h rfl)) (below_at hb (at_of (i := 2) h rfl)) (below_at hb (at_of (i := 4) h rfl)))).mono fun e w' ⟨b, h1, h2⟩ => ⟨b, ⟨Nat.le_trans h.below.size (h2.ge _ (List.mem_cons_self ..)), Nat.le_trans h.size (h2.ge _ (List.mem_cons_self ..))⟩, h1, h2⟩)) rfl rfl rfl rfl (fun bc3 hbc3 => ?_)
  refine s_y (y_assign rfl) rfl rfl rfl rfl ?_
  refine s_y (y_assign rfl) rfl rfl rfl rfl ?_
  refine s_nil ?_
  refine g_then ?_
  refine g_ret ?_
  rw [movL_q (q := qOf n) (by omega) hxl hx]
  exact g_end trivial (fun a w ha hq_ => res2 ha rfl rfl rfl  w) (fun w h => ⟨bc3, rfl, h.hand (List.Sublist.cons_cons _ (List.nil_sublist _))⟩)

theorem Move_no (w : World) (n : Int) (v : Value) (xs : List Int) (k' : Int) (hv : RdV (Value.int .i64) w v xs) (hno : ¬ (RIn n ∧ okI n xs = true)) :
    Calls Try.prog 26 [.int .i64 n, v, .int .i64 k'].toArray w fun e w' => e = .returned (.tuple #[.slice none 0 0, .int .i64 2]) ∧ Below w.heap.size w w' := by
  obtain ⟨ie32, hi32⟩ := inf_32
  refine enter (N := 29) Try.func26 rfl rfl rfl ?_
  refine g_seq ?_
  refine g_region ?_
  refine s_tr (t_box rfl rfl) rfl rfl rfl rfl (fun b1 hb1 => ?_)
  refine s_tr (t_box rfl hv.cells1) rfl rfl rfl rfl (fun b2 hb2 => ?_)
  refine s_tr (t_box rfl rfl) rfl rfl rfl rfl (fun b3 hb3 => ?_)
  refine s_y (y_assign rfl) rfl rfl rfl rfl ?_
  refine s_y (y_assign rfl) rfl rfl rfl rfl ?_
  refine s_nil ?_
  refine g_then ?_
  refine g_seq ?_
  refine g_region ?_
  refine s_y (y_ld1 2 rfl rfl agg_3 rfl) rfl rfl rfl rfl ?_
  refine s_y (y_ld1 1 rfl rfl agg_32 rfl) rfl rfl rfl rfl ?_
  refine s_tr (t_build (vs := [(0, v)]) (cells := [v]) rfl rfl Try.underlying60 hi32.1 hi32.2.1 (by rw [hi32.2.2.1]; rfl) (by rw [hi32.2.2.1]; rfl) (by rw [hi32.2.2.1]; exact fill_one hv.cells1)) rfl rfl rfl rfl (fun b4 hb4 => ?_)
  refine s_tr (t_callm rfl rfl ent_57 (fun w h => read_no w n _ [v] (RdV.own (enc := encV) (xs := [v]) (jk := []) (at_of (i := 0) h rfl) rfl (Nat.le_refl _)) (by simp) (by simp only [List.mem_cons, List.not_mem_nil, or_false, forall_eq]; exact ⟨xs, hv.below h.below⟩) (by intro hR; exact ⟨v, by simp, xs, hv.below h.below, by cases c : okI n xs <;> simp_all⟩))) rfl rfl rfl rfl (fun x5 _ => ?_)
  refine s_y (y_move rfl) rfl rfl rfl rfl ?_
  refine s_y (y_extract rfl rfl) rfl rfl rfl rfl ?_
  refine s_y (y_extract rfl rfl) rfl rfl rfl rfl ?_
  refine s_tr (t_alloc zero_56 rfl) rfl rfl rfl rfl (fun b6 hb6 => ?_)
  refine s_tr0 (t_store 0 rfl rfl rfl rfl size_56 rfl rfl) rfl rfl rfl (fun _ _ => ?_)
  refine s_y (y_assign rfl) rfl rfl rfl rfl ?_
  refine s_nil ?_
  refine g_then ?_
  refine g_seq ?_
  refine g_seq ?_
  refine g_region ?_
  refine s_y (y_move rfl) rfl rfl rfl rfl ?_
  refine s_y (y_not_f rfl) rfl rfl rfl rfl ?_
  refine s_nil ?_
  refine g_then ?_
  refine g_cond_t rfl ?_
  refine g_seq ?_
  refine g_region ?_
  refine s_y (y_assign rfl) rfl rfl rfl rfl ?_
  refine s_y (y_assign rfl) rfl rfl rfl rfl ?_
  refine s_nil ?_
  refine g_then ?_
  refine g_ret ?_
  refine g_thenr ?_
  exact g_end trivial (fun a w ha hq_ => res2 ha rfl rfl rfl  w) (fun w h => ⟨rfl, h.below⟩)

theorem Turn1_any (w : World) (k n : Nat) (bl bn : Nat) (v : Value) (xs : List Int) (hn : 2 ≤ n) (hn2 : n ≤ 16) (hok : okW n (qOf n) xs = true) (hk : k < n) (hv : RdV (Value.int .i64) w v xs) (hbl : w.heap[bl]? = some (.cells [v].toArray 32 (0, 0))) (hbn : w.heap[bn]? = some (.cells [.int .i64 (n : Int)].toArray 3 (0, 0))) :
    Calls Try.prog 63 [.int .i64 (k : Int), .pointer (some ⟨bl, 0, none⟩), .pointer (some ⟨bn, 0, none⟩)].toArray w fun e w' => e = .returned (.int .i64 (rdI xs (((n : Int) - (k : Int)) % (n : Int)))) ∧ Below w.heap.size w w' := by
  obtain ⟨hf1, hf2, hf3, hf4, hf5, hf6, hf7⟩ := q_facts hn hn2
  obtain ⟨hxl, hx⟩ := okW_true.1 hok
  refine enter (N := 13) Try.func63 rfl rfl rfl ?_
  refine g_seq ?_
  refine g_region ?_
  refine s_y (y_assign rfl) rfl rfl rfl rfl ?_
  refine s_nil ?_
  refine g_then ?_
  refine g_seq ?_
  have hmr := mod_range (show 0 < n by omega) ((n : Int) - (k : Int))
  refine g_draw 9 (by kernel_rfl) ?_
  refine j_l (i := 0) rfl (y_ldO1 hbl rfl agg_32 rfl) (by kernel_rfl) (by kernel_rfl) (by kernel_rfl) (by kernel_rfl) rfl rfl rfl rfl rfl (.inr (fun _ h => h)) ?_
  refine j_l (i := 1) rfl (y_ldO1 hbn rfl agg_3 rfl) (by kernel_rfl) (by kernel_rfl) (by kernel_rfl) (by kernel_rfl) rfl rfl rfl rfl rfl (.inr (fun _ h => h)) ?_
  refine j_p (i := 2) rfl (y_move rfl) (by kernel_rfl) (by kernel_rfl) (by kernel_rfl) rfl rfl rfl rfl rfl (.inr (fun _ h => h)) ?_
  refine j_p (i := 3) rfl (y_sub rfl rfl (by omega) (by omega)) (by kernel_rfl) (by kernel_rfl) (by kernel_rfl) rfl rfl rfl rfl rfl (.inr (fun _ h => h)) ?_
  refine j_l (i := 4) rfl (y_ldO1 hbn rfl agg_3 rfl) (by kernel_rfl) (by kernel_rfl) (by kernel_rfl) (by kernel_rfl) rfl rfl rfl rfl rfl (.inr (fun _ h => h)) ?_
  refine j_p (i := 5) rfl (y_rem rfl rfl (by omega) (by omega)) (by kernel_rfl) (by kernel_rfl) (by kernel_rfl) rfl rfl rfl rfl rfl (.inr (fun _ h => h)) ?_
  refine j_p (i := 6) rfl (y_idxV (enc := (Value.int .i64)) rfl rfl hv Try.underlying32 size_3 (by omega) (by omega)) (by kernel_rfl) (by kernel_rfl) (by kernel_rfl) rfl rfl rfl rfl rfl (.inr (fun _ h => h)) ?_
  refine j_l (i := 7) rfl (y_ldV (enc := (Value.int .i64)) (xs := xs) (fun w h => hv.rdl.below h.below) rfl agg_3 (rdI_at (by omega) (by omega))) (by kernel_rfl) (by kernel_rfl) (by kernel_rfl) (by kernel_rfl) rfl rfl rfl rfl rfl (.inr (fun _ h => h)) ?_
  refine j_p (i := 8) rfl (y_assign rfl) (by kernel_rfl) (by kernel_rfl) (by kernel_rfl) rfl rfl rfl rfl rfl (.inr (fun _ h => h)) ?_
  refine j_nil (by kernel_rfl) ?_
  refine g_then ?_
  refine g_ret ?_
  exact g_end trivial (fun a w ha hq_ => res1 ha rfl rfl  w) (fun w h => ⟨rfl, h.below⟩)

theorem Turn_ok (w : World) (n : Nat) (v : Value) (xs : List Int) (hv : RdV (Value.int .i64) w v xs) (hn : 2 ≤ n) (hn2 : n ≤ 16) (hok : okW n (qOf n) xs = true) :
    Calls Try.prog 28 [.int .i64 (n : Int), v].toArray w fun e w' => ∃ b : Nat, e = .returned (.tuple #[.slice (some ⟨b, 0, none⟩) n n, .int .i64 0]) ∧ Hq w w [(b, .cells ((trnL n xs).map (Value.int .i64) ++ []).toArray 3 (0, 0))] w' := by
  obtain ⟨hf1, hf2, hf3, hf4, hf5, hf6, hf7⟩ := q_facts hn hn2
  obtain ⟨hxl, hx⟩ := okW_true.1 hok
  obtain ⟨ie32, hi32⟩ := inf_32
  refine enter (N := 20) Try.func28 rfl rfl rfl ?_
  refine g_seq ?_
  refine g_region ?_
  refine s_tr (t_box rfl rfl) rfl rfl rfl rfl (fun bn hbn => ?_)
  refine s_tr (t_box rfl hv.cells1) rfl rfl rfl rfl (fun bl hbl => ?_)
  refine s_y (y_assign rfl) rfl rfl rfl rfl ?_
  refine s_y (y_assign rfl) rfl rfl rfl rfl ?_
  refine s_nil ?_
  refine g_then ?_
  refine g_seq ?_
  refine g_region ?_
  refine s_y (y_ld1 1 rfl rfl agg_3 rfl) rfl rfl rfl rfl ?_
  refine s_y (y_ld1 0 rfl rfl agg_32 rfl) rfl rfl rfl rfl ?_
  refine s_tr (t_build (vs := [(0, v)]) (cells := [v]) rfl rfl Try.underlying60 hi32.1 hi32.2.1 (by rw [hi32.2.2.1]; rfl) (by rw [hi32.2.2.1]; rfl) (by rw [hi32.2.2.1]; exact fill_one hv.cells1)) rfl rfl rfl rfl (fun b1 hb1 => ?_)
  refine s_tr (t_call rfl rfl ent_57 (fun w h => read_yes w n _ [v] hn hn2 (RdV.own (enc := encV) (xs := [v]) (jk := []) (at_of (i := 0) h rfl) rfl (Nat.le_refl _)) (by simp) (by simp only [List.mem_cons, List.not_mem_nil, or_false, forall_eq]; exact ⟨xs, hv.below h.below, hok⟩))) rfl rfl rfl rfl (fun _ _ => ?_)
  refine s_y (y_move rfl) rfl rfl rfl rfl ?_
  refine s_y (y_extract rfl rfl) rfl rfl rfl rfl ?_
  refine s_y (y_extract rfl rfl) rfl rfl rfl rfl ?_
  refine s_tr (t_alloc zero_56 rfl) rfl rfl rfl rfl (fun b2 hb2 => ?_)
  refine s_tr0 (t_store 0 rfl rfl rfl rfl size_56 rfl rfl) rfl rfl rfl (fun _ _ => ?_)
  refine s_y (y_assign rfl) rfl rfl rfl rfl ?_
  refine s_nil ?_
  refine g_then ?_
  refine g_seq ?_
  refine g_seq ?_
  refine g_region ?_
  refine s_y (y_move rfl) rfl rfl rfl rfl ?_
  refine s_y (y_not_t rfl) rfl rfl rfl rfl ?_
  refine s_nil ?_
  refine g_then ?_
  refine g_cond_f rfl ?_
  refine g_skip ?_
  refine g_then ?_
  refine g_seq ?_
  refine g_region ?_
  refine s_y (y_ldn 0 rfl rfl agg_56 size_56 rfl rfl) rfl rfl rfl rfl ?_
  refine s_y (y_func rfl rfl) rfl rfl rfl rfl ?_
  refine s_tr (t_callm (A := New _ _) rfl rfl ent_61 (fun w h => (wheel_any w n (qOf n) (wOf n) 63 [.pointer (some ⟨bl, 0, none⟩), .pointer (some ⟨bn, 0, none⟩)] (fun x : Nat => rdI xs (((n : Int) - (x : Int)) % (n : Int))) (by omega) (by omega) (by omega) (fun x hk => by have h1 := mod_range (show 0 < n by omega) ((n : Int) - (x : Int)); have h2 := at_range hxl hx h1.1 h1.2; omega) ent_63 (fun k W hk hb => Turn1_any W k n bl bn v xs hn hn2 hok hk (hv.below (h.below.trans (hb.mono h.below.size))) (below_at hb (at_of (i := 2) h rfl)) (below_at hb (at_of (i := 3) h rfl)))).mono fun e w' ⟨b, h1, h2⟩ => ⟨b, ⟨Nat.le_trans h.below.size (h2.ge _ (List.mem_cons_self ..)), Nat.le_trans h.size (h2.ge _ (List.mem_cons_self ..))⟩, h1, h2⟩)) rfl rfl rfl rfl (fun bc3 hbc3 => ?_)
  refine s_y (y_assign rfl) rfl rfl rfl rfl ?_
  refine s_y (y_assign rfl) rfl rfl rfl rfl ?_
  refine s_nil ?_
  refine g_then ?_
  refine g_ret ?_
  rw [trnL_q (q := qOf n) (by omega) hxl hx]
  exact g_end trivial (fun a w ha hq_ => res2 ha rfl rfl rfl  w) (fun w h => ⟨bc3, rfl, h.hand (List.Sublist.cons_cons _ (List.nil_sublist _))⟩)

theorem Turn_no (w : World) (n : Int) (v : Value) (xs : List Int) (hv : RdV (Value.int .i64) w v xs) (hno : ¬ (RIn n ∧ okI n xs = true)) :
    Calls Try.prog 28 [.int .i64 n, v].toArray w fun e w' => e = .returned (.tuple #[.slice none 0 0, .int .i64 2]) ∧ Below w.heap.size w w' := by
  obtain ⟨ie32, hi32⟩ := inf_32
  refine enter (N := 20) Try.func28 rfl rfl rfl ?_
  refine g_seq ?_
  refine g_region ?_
  refine s_tr (t_box rfl rfl) rfl rfl rfl rfl (fun b1 hb1 => ?_)
  refine s_tr (t_box rfl hv.cells1) rfl rfl rfl rfl (fun b2 hb2 => ?_)
  refine s_y (y_assign rfl) rfl rfl rfl rfl ?_
  refine s_y (y_assign rfl) rfl rfl rfl rfl ?_
  refine s_nil ?_
  refine g_then ?_
  refine g_seq ?_
  refine g_region ?_
  refine s_y (y_ld1 1 rfl rfl agg_3 rfl) rfl rfl rfl rfl ?_
  refine s_y (y_ld1 0 rfl rfl agg_32 rfl) rfl rfl rfl rfl ?_
  refine s_tr (t_build (vs := [(0, v)]) (cells := [v]) rfl rfl Try.underlying60 hi32.1 hi32.2.1 (by rw [hi32.2.2.1]; rfl) (by rw [hi32.2.2.1]; rfl) (by rw [hi32.2.2.1]; exact fill_one hv.cells1)) rfl rfl rfl rfl (fun b3 hb3 => ?_)
  refine s_tr (t_callm rfl rfl ent_57 (fun w h => read_no w n _ [v] (RdV.own (enc := encV) (xs := [v]) (jk := []) (at_of (i := 0) h rfl) rfl (Nat.le_refl _)) (by simp) (by simp only [List.mem_cons, List.not_mem_nil, or_false, forall_eq]; exact ⟨xs, hv.below h.below⟩) (by intro hR; exact ⟨v, by simp, xs, hv.below h.below, by cases c : okI n xs <;> simp_all⟩))) rfl rfl rfl rfl (fun x4 _ => ?_)
  refine s_y (y_move rfl) rfl rfl rfl rfl ?_
  refine s_y (y_extract rfl rfl) rfl rfl rfl rfl ?_
  refine s_y (y_extract rfl rfl) rfl rfl rfl rfl ?_
  refine s_tr (t_alloc zero_56 rfl) rfl rfl rfl rfl (fun b5 hb5 => ?_)
  refine s_tr0 (t_store 0 rfl rfl rfl rfl size_56 rfl rfl) rfl rfl rfl (fun _ _ => ?_)
  refine s_y (y_assign rfl) rfl rfl rfl rfl ?_
  refine s_nil ?_
  refine g_then ?_
  refine g_seq ?_
  refine g_seq ?_
  refine g_region ?_
  refine s_y (y_move rfl) rfl rfl rfl rfl ?_
  refine s_y (y_not_f rfl) rfl rfl rfl rfl ?_
  refine s_nil ?_
  refine g_then ?_
  refine g_cond_t rfl ?_
  refine g_seq ?_
  refine g_region ?_
  refine s_y (y_assign rfl) rfl rfl rfl rfl ?_
  refine s_y (y_assign rfl) rfl rfl rfl rfl ?_
  refine s_nil ?_
  refine g_then ?_
  refine g_ret ?_
  refine g_thenr ?_
  exact g_end trivial (fun a w ha hq_ => res2 ha rfl rfl rfl  w) (fun w h => ⟨rfl, h.below⟩)

theorem Index_any (w : World) (v : Value) (xs : List Int) (x : Int) (hv : RdV (Value.int .i64) w v xs) (hl : xs.length ≤ 1000000) :
    Calls Try.prog 52 [v, .int .i64 x].toArray w fun e w' => e = .returned (.int .i64 (ixI xs x)) ∧ Below w.heap.size w w' := by
  refine enter (N := 19) Try.func52 rfl rfl rfl ?_
  refine g_seq ?_
  refine g_region ?_
  refine s_y (y_assign rfl) rfl rfl rfl rfl ?_
  refine s_nil ?_
  refine g_then ?_
  refine g_seq ?_
  refine g_seq ?_
  refine g_region ?_
  refine s_y (y_move rfl) rfl rfl rfl rfl ?_
  refine s_y (y_lenV (n := xs.length) rfl (by obtain ⟨A, c, h1, _⟩ := hv; exact ⟨A, c, h1⟩) sle_32) rfl rfl rfl rfl ?_
  refine s_y (y_move rfl) rfl rfl rfl rfl ?_
  refine s_nil ?_
  refine g_then ?_
  refine g_block ?_
  refine g_loop (fun (i : Nat) act W => (i ≤ xs.length ∧ ∀ j : Nat, j < i → x ≠ rdI xs (j : Int)) ∧ ∃ (w1 : World), Has 19 [] [(0, v), (1, .int .i64 x), (7, .int .i64 (xs.length : Nat)), (8, .int .i64 (i : Int))] act ∧ Hp w w1 ([]) W) (fun i => xs.length - i) 0 (fun act W ha hw => ⟨⟨by omega, fun j hj => by omega⟩, W, ha.weak (sub_get ⟨rfl, rfl, rfl, rfl, trivial⟩), hw.toHq.lookSub (List.Sublist.refl _)⟩) ?_
  intro i act W ⟨hb_i, w1, ha, hw⟩
  refine g_go ha hw ?_
  clear ha hw act W
  refine g_seq ?_
  refine g_region ?_
  refine s_y (y_lss rfl rfl) rfl rfl rfl rfl ?_
  refine s_nil ?_
  refine g_then ?_
  refine g_seq ?_
  refine g_cond rfl (fun cq1 => ?_) (fun cq1 => ?_)
  · (try simp at cq1)
    refine g_skip ?_
    refine g_then ?_
    refine g_seq ?_
    refine g_block ?_
    refine g_seq ?_
    refine g_region ?_
    refine s_y (y_move rfl) rfl rfl rfl rfl ?_
    refine s_y (y_assign rfl) rfl rfl rfl rfl ?_
    refine s_nil ?_
    refine g_then ?_
    refine g_seq ?_
    refine g_region ?_
    refine s_y (y_move rfl) rfl rfl rfl rfl ?_
    refine s_y (y_move rfl) rfl rfl rfl rfl ?_
    refine s_y (y_move rfl) rfl rfl rfl rfl ?_
    refine s_y (y_idxV (enc := (Value.int .i64)) rfl rfl hv Try.underlying32 size_3 (by omega) (by omega)) rfl rfl rfl rfl ?_
    refine s_y (y_ldV (enc := (Value.int .i64)) (xs := xs) (fun w h => hv.rdl.below h.below) rfl agg_3 (rdI_at (by omega) (by omega))) rfl rfl rfl rfl ?_
    refine s_y (y_eql rfl rfl) rfl rfl rfl rfl ?_
    refine s_nil ?_
    refine g_then ?_
    refine g_cond rfl (fun cq2 => ?_) (fun cq2 => ?_)
    · (try simp at cq2)
      refine g_seq ?_
      refine g_region ?_
      refine s_y (y_move rfl) rfl rfl rfl rfl ?_
      refine s_y (y_assign rfl) rfl rfl rfl rfl ?_
      refine s_nil ?_
      refine g_then ?_
      refine g_ret ?_
      refine g_inbr ?_
      refine g_thenr ?_
      refine g_thenr ?_
      refine g_inbr ?_
      refine g_thenr ?_
      rw [ixI_some (i := i) (by omega) (by assumption) hb_i.2]
      exact g_end trivial (fun a w ha hq_ => res1 ha rfl rfl  w) (fun w h => ⟨rfl, h.below⟩)
    · (try simp at cq2)
      refine g_skip ?_
      refine g_inb ?_
      refine g_then ?_
      refine g_region ?_
      refine s_y (y_add rfl rfl (by omega) (by omega)) rfl rfl rfl rfl ?_
      refine s_y (y_move rfl) rfl rfl rfl rfl ?_
      refine s_nil ?_
      refine g_then ?_
      have hno : ∀ j : Nat, j < i + 1 → x ≠ rdI xs (j : Int) := by
        intro j hj
        rcases Nat.lt_or_ge j i with h | h
        · exact hb_i.2 j h
        · have : j = i := by omega
          subst this; assumption
      exact fun act W ha hw => ⟨i + 1, by omega, ⟨by omega, hno⟩, W, ha.weak (sub_get ⟨rfl, rfl, rfl, rfl, trivial⟩), hw.toHq.lookSub (List.Sublist.refl _)⟩
  · (try simp at cq1)
    refine g_exit ?_
    refine g_thenx ?_
    refine g_thenx ?_
    refine g_inbx ?_
    refine g_then ?_
    refine g_seq ?_
    refine g_region ?_
    refine s_y (y_assign rfl) rfl rfl rfl rfl ?_
    refine s_nil ?_
    refine g_then ?_
    refine g_ret ?_
    rw [ixI_none (fun j hj => hb_i.2 j (by omega))]
    exact g_end trivial (fun a w ha hq_ => res1 ha rfl rfl  w) (fun w h => ⟨rfl, h.below⟩)

theorem Contains_any (w : World) (v : Value) (xs : List Int) (x : Int) (hv : RdV (Value.int .i64) w v xs) (hl : xs.length ≤ 1000000) :
    Calls Try.prog 56 [v, .int .i64 x].toArray w fun e w' => e = .returned (.bool (decide (x ∈ xs))) ∧ Below w.heap.size w w' := by
  refine enter (N := 9) Try.func56 rfl rfl rfl ?_
  refine g_seq ?_
  refine g_region ?_
  refine s_y (y_assign rfl) rfl rfl rfl rfl ?_
  refine s_nil ?_
  refine g_then ?_
  refine g_seq ?_
  refine g_region ?_
  refine s_y (y_move rfl) rfl rfl rfl rfl ?_
  refine s_y (y_move rfl) rfl rfl rfl rfl ?_
  refine s_tr (t_call rfl rfl ent_52 (fun w h => Index_any w v xs x (hv.below h.below) hl)) rfl rfl rfl rfl (fun _ _ => ?_)
  refine s_y (y_geq rfl rfl) rfl rfl rfl rfl ?_
  refine s_y (y_assign rfl) rfl rfl rfl rfl ?_
  refine s_nil ?_
  refine g_then ?_
  refine g_ret ?_
  rw [← ixI_mem]
  exact g_end trivial (fun a w ha hq_ => res1 ha rfl rfl  w) (fun w h => ⟨rfl, h.below⟩)

theorem Contains_t (w : World) (v : Value) (xs : List Int) (x : Int) (hv : RdV (Value.int .i64) w v xs) (hl : xs.length ≤ 1000000) (hx : x ∈ xs) : Calls Try.prog 56 [v, .int .i64 x].toArray w fun e w' => e = .returned (.bool true) ∧ Below w.heap.size w w' := by have := Contains_any w v xs x hv hl; rwa [decide_eq_true hx] at this
theorem Contains_f (w : World) (v : Value) (xs : List Int) (x : Int) (hv : RdV (Value.int .i64) w v xs) (hl : xs.length ≤ 1000000) (hx : x ∉ xs) : Calls Try.prog 56 [v, .int .i64 x].toArray w fun e w' => e = .returned (.bool false) ∧ Below w.heap.size w w' := by have := Contains_any w v xs x hv hl; rwa [decide_eq_false hx] at this

theorem Divide1_any (w : World) (k n : Nat) (bl bf bm : Nat) (v v' : Value) (xs ys : List Int) (hn : 2 ≤ n) (hn2 : n ≤ 16) (hok : okW n (qOf n) xs = true) (hok' : okW n (qOf n) ys = true) (hk : k < n) (hv : RdV (Value.int .i64) w v xs) (hv' : RdV (Value.int .i64) w v' ys) (hbl : w.heap[bl]? = some (.cells [v].toArray 32 (0, 0))) (hbf : w.heap[bf]? = some (.cells [.int .i64 (n : Int), .int .i64 (qOf n), .int .i64 (wOf n)].toArray 56 (0, 0))) (hbm : w.heap[bm]? = some (.cells [v'].toArray 32 (0, 0))) :
    Calls Try.prog 71 [.int .i64 (k : Int), .pointer (some ⟨bl, 0, none⟩), .pointer (some ⟨bf, 0, none⟩), .pointer (some ⟨bm, 0, none⟩)].toArray w fun e w' => e = .returned (.int .i64 (rdI xs (k : Int) * pw (qOf n) (rdI ys (k : Int)) (qOf n - 2).toNat)) ∧ Below w.heap.size w w' := by
  obtain ⟨hf1, hf2, hf3, hf4, hf5, hf6, hf7⟩ := q_facts hn hn2
  obtain ⟨hxl, hx⟩ := okW_true.1 hok
  obtain ⟨hyl, hy⟩ := okW_true.1 hok'
  refine enter (N := 17) Try.func71 rfl rfl rfl ?_
  refine g_seq ?_
  refine g_region ?_
  refine s_y (y_assign rfl) rfl rfl rfl rfl ?_
  refine s_nil ?_
  refine g_then ?_
  refine g_seq ?_
  have hxj := at_range hxl hx (i := (k : Int)) (by omega) (by omega)
  have hyj := at_range hyl hy (i := (k : Int)) (by omega) (by omega)
  have hp := pw_range (x := rdI ys (k : Int)) (show 2 ≤ qOf n by omega) (qOf n - 2).toNat
  have hm := mul_small (a := rdI xs (k : Int)) (b := pw (qOf n) (rdI ys (k : Int)) (qOf n - 2).toNat) (by omega) (by omega) (by omega) (by omega)
  refine g_draw 12 (by kernel_rfl) ?_
  refine j_l (i := 0) rfl (y_ldO1 hbl rfl agg_32 rfl) (by kernel_rfl) (by kernel_rfl) (by kernel_rfl) (by kernel_rfl) rfl rfl rfl rfl rfl (.inr (fun _ h => h)) ?_
  refine j_p (i := 1) rfl (y_move rfl) (by kernel_rfl) (by kernel_rfl) (by kernel_rfl) rfl rfl rfl rfl rfl (.inr (fun _ h => h)) ?_
  refine j_p (i := 2) rfl (y_idxV (enc := (Value.int .i64)) rfl rfl hv Try.underlying32 size_3 (by omega) (by omega)) (by kernel_rfl) (by kernel_rfl) (by kernel_rfl) rfl rfl rfl rfl rfl (.inr (fun _ h => h)) ?_
  refine j_l (i := 3) rfl (y_ldV (enc := (Value.int .i64)) (xs := xs) (fun w h => hv.rdl.below h.below) rfl agg_3 (rdI_at (by omega) (by omega))) (by kernel_rfl) (by kernel_rfl) (by kernel_rfl) (by kernel_rfl) rfl rfl rfl rfl rfl (.inr (fun _ h => h)) ?_
  refine j_l (i := 4) rfl (y_ldOn hbf rfl agg_56 size_56 rfl rfl) (by kernel_rfl) (by kernel_rfl) (by kernel_rfl) (by kernel_rfl) rfl rfl rfl rfl rfl (.inr (fun _ h => h)) ?_
  refine j_l (i := 5) rfl (y_ldO1 hbm rfl agg_32 rfl) (by kernel_rfl) (by kernel_rfl) (by kernel_rfl) (by kernel_rfl) rfl rfl rfl rfl rfl (.inr (fun _ h => h)) ?_
  refine j_p (i := 6) rfl (y_move rfl) (by kernel_rfl) (by kernel_rfl) (by kernel_rfl) rfl rfl rfl rfl rfl (.inr (fun _ h => h)) ?_
  refine j_p (i := 7) rfl (y_idxV (enc := (Value.int .i64)) rfl rfl hv' Try.underlying32 size_3 (by omega) (by omega)) (by kernel_rfl) (by kernel_rfl) (by kernel_rfl) rfl rfl rfl rfl rfl (.inr (fun _ h => h)) ?_
  refine j_l (i := 8) rfl (y_ldV (enc := (Value.int .i64)) (xs := ys) (fun w h => hv'.rdl.below h.below) rfl agg_3 (rdI_at (by omega) (by omega))) (by kernel_rfl) (by kernel_rfl) (by kernel_rfl) (by kernel_rfl) rfl rfl rfl rfl rfl (.inr (fun _ h => h)) ?_
  refine j_tr (i := 9) rfl (t_call rfl rfl ent_72 (fun w h => inverse_any w n (qOf n) (wOf n) (rdI ys (k : Int)) (by omega) (by omega) hyj.1 (by omega))) (by kernel_rfl) rfl rfl rfl rfl (.inr (fun x w hb h => h)) (fun _ _ => ?_)
  refine j_p (i := 10) rfl (y_mul rfl rfl (by omega) (by omega)) (by kernel_rfl) (by kernel_rfl) (by kernel_rfl) rfl rfl rfl rfl rfl (.inr (fun _ h => h)) ?_
  refine j_p (i := 11) rfl (y_assign rfl) (by kernel_rfl) (by kernel_rfl) (by kernel_rfl) rfl rfl rfl rfl rfl (.inr (fun _ h => h)) ?_
  refine j_nil (by kernel_rfl) ?_
  refine g_then ?_
  refine g_ret ?_
  exact g_end trivial (fun a w ha hq_ => res1 ha rfl rfl  w) (fun w h => ⟨rfl, h.below⟩)

theorem Divide_ok (w : World) (n : Nat) (v v' : Value) (xs ys : List Int) (hv : RdV (Value.int .i64) w v xs) (hv' : RdV (Value.int .i64) w v' ys) (hn : 2 ≤ n) (hn2 : n ≤ 16) (hok : okW n (qOf n) xs = true) (hok' : okW n (qOf n) ys = true) (h0 : (0 : Int) ∉ turnL (qOf n) (wOf n) n ys) :
    Calls Try.prog 47 [.int .i64 (n : Int), v, v'].toArray w fun e w' => ∃ b : Nat, e = .returned (.tuple #[.slice (some ⟨b, 0, none⟩) n n, .int .i64 0]) ∧ Hq w w [(b, .cells ((backL (qOf n) (wOf n) n (quoL (qOf n) (wOf n) n xs ys)).map (Value.int .i64) ++ []).toArray 3 (0, 0))] w' := by
  obtain ⟨hf1, hf2, hf3, hf4, hf5, hf6, hf7⟩ := q_facts hn hn2
  obtain ⟨hxl, hx⟩ := okW_true.1 hok
  obtain ⟨hyl, hy⟩ := okW_true.1 hok'
  obtain ⟨ie32, hi32⟩ := inf_32
  refine enter (N := 35) Try.func47 rfl rfl rfl ?_
  refine g_seq ?_
  refine g_region ?_
  refine s_y (y_assign rfl) rfl rfl rfl rfl ?_
  refine s_y (y_assign rfl) rfl rfl rfl rfl ?_
  refine s_nil ?_
  refine g_then ?_
  refine g_seq ?_
  refine g_region ?_
  refine s_y (y_move rfl) rfl rfl rfl rfl ?_
  refine s_y (y_move rfl) rfl rfl rfl rfl ?_
  refine s_y (y_move rfl) rfl rfl rfl rfl ?_
  refine s_tr (t_build (vs := [(0, v), (1, v')]) (cells := [v, v']) rfl rfl Try.underlying60 hi32.1 hi32.2.1 (by rw [hi32.2.2.1]; rfl) (by rw [hi32.2.2.1]; rfl) (by rw [hi32.2.2.1]; exact fill_two hv.cells1 hv'.cells1)) rfl rfl rfl rfl (fun b1 hb1 => ?_)
  refine s_tr (t_call rfl rfl ent_57 (fun w h => read_yes w n _ [v, v'] hn hn2 (RdV.own (enc := encV) (xs := [v, v']) (jk := []) (at_of (i := 0) h rfl) rfl (Nat.le_refl _)) (by simp) (by simp only [List.mem_cons, List.not_mem_nil, or_false, forall_eq_or_imp, forall_eq]; exact ⟨⟨xs, hv.below h.below, hok⟩, ⟨ys, hv'.below h.below, hok'⟩⟩))) rfl rfl rfl rfl (fun _ _ => ?_)
  refine s_y (y_move rfl) rfl rfl rfl rfl ?_
  refine s_y (y_extract rfl rfl) rfl rfl rfl rfl ?_
  refine s_y (y_extract rfl rfl) rfl rfl rfl rfl ?_
  refine s_tr (t_alloc zero_56 rfl) rfl rfl rfl rfl (fun bf hbf => ?_)
  refine s_tr0 (t_store 0 rfl rfl rfl rfl size_56 rfl rfl) rfl rfl rfl (fun _ _ => ?_)
  refine s_y (y_assign rfl) rfl rfl rfl rfl ?_
  refine s_nil ?_
  refine g_then ?_
  refine g_seq ?_
  refine g_seq ?_
  refine g_region ?_
  refine s_y (y_move rfl) rfl rfl rfl rfl ?_
  refine s_y (y_not_t rfl) rfl rfl rfl rfl ?_
  refine s_nil ?_
  refine g_then ?_
  refine g_cond_f rfl ?_
  refine g_skip ?_
  refine g_then ?_
  refine g_seq ?_
  refine g_draw 10 (by kernel_rfl) ?_
  refine j_l (i := 0) rfl (y_ldn 0 rfl rfl agg_56 size_56 rfl rfl) (by kernel_rfl) (by kernel_rfl) (by kernel_rfl) (by kernel_rfl) rfl rfl rfl rfl rfl (.inr (fun _ h => h)) ?_
  refine j_p (i := 1) rfl (y_move rfl) (by kernel_rfl) (by kernel_rfl) (by kernel_rfl) rfl rfl rfl rfl rfl (.inr (fun _ h => h)) ?_
  refine j_l (i := 3) rfl (y_ldn 0 rfl rfl agg_56 size_56 rfl rfl) (by kernel_rfl) (by kernel_rfl) (by kernel_rfl) (by kernel_rfl) rfl rfl rfl rfl rfl (.inr (fun _ h => h)) ?_
  refine j_p (i := 4) rfl (y_move rfl) (by kernel_rfl) (by kernel_rfl) (by kernel_rfl) rfl rfl rfl rfl rfl (.inr (fun _ h => h)) ?_
  refine j_three 2 6 7 (by kernel_rfl) ?_ ?_ ?_
  · skip
    refine i_tr (i := 2) rfl (t_callm (A := New _ _) rfl rfl ent_64 (fun w h => (spectrum_any w n (qOf n) (wOf n) v xs hn hn2 (by omega) (by omega) (by omega) (by omega) (hv.below h.below) hxl hx).mono fun e w' ⟨b, h1, h2⟩ => ⟨b, ⟨Nat.le_trans h.below.size (h2.ge _ (List.mem_cons_self ..)), Nat.le_trans h.size (h2.ge _ (List.mem_cons_self ..))⟩, h1, h2⟩)) rfl rfl rfl rfl (.inr (fun x w hb h => (h.tail hb.2))) (fun bs hbs => ?_)
    refine j_three 5 6 7 (by kernel_rfl) ?_ ?_ ?_
    · skip
      refine i_tr (i := 5) rfl (t_callm (A := New _ _) rfl rfl ent_64 (fun w h => (spectrum_any w n (qOf n) (wOf n) v' ys hn hn2 (by omega) (by omega) (by omega) (by omega) (hv'.below h.below) hyl hy).mono fun e w' ⟨b, h1, h2⟩ => ⟨b, ⟨Nat.le_trans h.below.size (h2.ge _ (List.mem_cons_self ..)), Nat.le_trans h.size (h2.ge _ (List.mem_cons_self ..))⟩, h1, h2⟩)) rfl rfl rfl rfl (.inr (fun x w hb h => ((h.tail hb.2).tail hbs.2))) (fun bt hbt => ?_)
      refine j_two 6 7 (by kernel_rfl) ?_ ?_
      · skip
        refine i_tr (i := 6) rfl (t_alloc zero_32 rfl) rfl rfl rfl rfl (.inr (fun x w hb h => (((h.tail hb.2).tail hbt.2).tail hbs.2))) (fun bl hbl => ?_)
        refine j_tr (i := 7) rfl (t_alloc zero_32 rfl) (by kernel_rfl) rfl rfl rfl rfl (.inr (fun x w hb h => ((((h.tail hb.2).tail hbl.2).tail hbt.2).tail hbs.2))) (fun bm hbm => ?_)
        refine j_tr0 (i := 8) rfl (t_store 1 rfl rfl rfl rfl size_32 rfl rfl) (by kernel_rfl) rfl rfl rfl (.inr (fun x w hb h => ((((h.tail hbm.2).tail hbl.2).tail hbt.2).tail hbs.2))) (fun _ _ => ?_)
        refine j_tr0 (i := 9) rfl (t_store 0 rfl rfl rfl rfl size_32 rfl rfl) (by kernel_rfl) rfl rfl rfl (.inr (fun x w hb h => ((((h.tail hbm.2).tail hbl.2).tail hbt.2).tail hbs.2))) (fun _ _ => ?_)
        refine j_nil (by kernel_rfl) ?_
        refine g_then ?_
        refine g_seq ?_
        refine g_seq ?_
        refine g_region ?_
        refine s_y (y_ld1 0 rfl rfl agg_32 rfl) rfl rfl rfl rfl ?_
        refine s_tr (t_call rfl rfl ent_56 (fun w h => Contains_f w _ (turnL (qOf n) (wOf n) n ys) 0 (RdV.own (jk := []) (at_of (i := 2) h rfl) (turnL_len ..).symm (Nat.le_refl _)) (by rw [turnL_len]; omega) h0)) rfl rfl rfl rfl (fun _ _ => ?_)
        refine s_nil ?_
        refine g_then ?_
        refine g_cond_f rfl ?_
        refine g_skip ?_
        refine g_then ?_
        refine g_seq ?_
        refine g_draw 7 (by kernel_rfl) ?_
        refine j_l (i := 0) rfl (y_ldn 4 rfl rfl agg_56 size_56 rfl rfl) (by kernel_rfl) (by kernel_rfl) (by kernel_rfl) (by kernel_rfl) rfl rfl rfl rfl rfl (.inr (fun _ h => h)) ?_
        refine j_l (i := 1) rfl (y_ldn 4 rfl rfl agg_56 size_56 rfl rfl) (by kernel_rfl) (by kernel_rfl) (by kernel_rfl) (by kernel_rfl) rfl rfl rfl rfl rfl (.inr (fun _ h => h)) ?_
        refine j_p (i := 2) rfl (y_func rfl rfl) (by kernel_rfl) (by kernel_rfl) (by kernel_rfl) rfl rfl rfl rfl rfl (.inr (fun _ h => h)) ?_
        refine j_tr (i := 3) rfl (t_callm (A := New _ _) rfl rfl ent_61 (fun w h => (wheel_any w n (qOf n) (wOf n) 71 [.pointer (some ⟨bl, 0, none⟩), .pointer (some ⟨bf, 0, none⟩), .pointer (some ⟨bm, 0, none⟩)] (fun k : Nat => rdI (turnL (qOf n) (wOf n) n xs) (k : Int) * pw (qOf n) (rdI (turnL (qOf n) (wOf n) n ys) (k : Int)) (qOf n - 2).toNat) (by omega) (by omega) (by omega) (fun k hk => by have hxj := at_range turnL_len (turnL_range' hn hn2 (wOf n) xs) (i := (k : Int)) (by omega) (by omega); have hyj := at_range turnL_len (turnL_range' hn hn2 (wOf n) ys) (i := (k : Int)) (by omega) (by omega); have hp := pw_range (x := rdI (turnL (qOf n) (wOf n) n ys) (k : Int)) (show 2 ≤ qOf n by omega) (qOf n - 2).toNat; have hm := mul_small (a := rdI (turnL (qOf n) (wOf n) n xs) (k : Int)) (b := pw (qOf n) (rdI (turnL (qOf n) (wOf n) n ys) (k : Int)) (qOf n - 2).toNat) (by omega) (by omega) (by omega) (by omega); omega) ent_71 (fun k W hk hb => Divide1_any W k n bl bf bm _ _ (turnL (qOf n) (wOf n) n xs) (turnL (qOf n) (wOf n) n ys) hn hn2 (turnL_ok hn hn2) (turnL_ok hn hn2) hk (RdV.below (RdV.own (jk := []) (at_of (i := 3) h rfl) (turnL_len ..).symm (Nat.le_refl _)) hb) (RdV.below (RdV.own (jk := []) (at_of (i := 2) h rfl) (turnL_len ..).symm (Nat.le_refl _)) hb) (below_at hb (at_of (i := 1) h rfl)) (below_at hb (at_of (i := 4) h rfl)) (below_at hb (at_of (i := 0) h rfl)))).mono fun e w' ⟨b, h1, h2⟩ => ⟨b, ⟨Nat.le_trans h.below.size (h2.ge _ (List.mem_cons_self ..)), Nat.le_trans h.size (h2.ge _ (List.mem_cons_self ..))⟩, h1, h2⟩)) (by kernel_rfl) rfl rfl rfl rfl (.inr (fun x w hb h => (h.tail hb.2))) (fun bq hbq => ?_)
        refine j_tr (i := 4) rfl (t_callm (A := New _ _) rfl rfl ent_65 (fun w h => (back_any w n (qOf n) (wOf n) _ (quoL (qOf n) (wOf n) n xs ys) hn hn2 (by omega) (by omega) (by omega) (by omega) (RdV.own (jk := []) (at_of (i := 0) h rfl) quoL_len.symm (Nat.le_refl n)) quoL_len (okW_true.1 (quoL_ok hn hn2)).2).mono fun e w' ⟨b, h1, h2⟩ => ⟨b, ⟨Nat.le_trans h.below.size (h2.ge _ (List.mem_cons_self ..)), Nat.le_trans h.size (h2.ge _ (List.mem_cons_self ..))⟩, h1, h2⟩)) (by kernel_rfl) rfl rfl rfl rfl (.inr (fun x w hb h => ((h.tail hb.2).tail hbq.2))) (fun bc2 hbc2 => ?_)
        refine j_p (i := 5) rfl (y_assign rfl) (by kernel_rfl) (by kernel_rfl) (by kernel_rfl) rfl rfl rfl rfl rfl (.inr (fun _ h => ((h.tail hbc2.2).tail hbq.2))) ?_
        refine j_p (i := 6) rfl (y_assign rfl) (by kernel_rfl) (by kernel_rfl) (by kernel_rfl) rfl rfl rfl rfl rfl (.inr (fun _ h => ((h.tail hbc2.2).tail hbq.2))) ?_
        refine j_nil (by kernel_rfl) ?_
        refine g_then ?_
        refine g_ret ?_
        exact g_end trivial (fun a w ha hq_ => res2 ha rfl rfl rfl  w) (fun w h => ⟨bc2, rfl, h.hand (List.Sublist.cons_cons _ (List.nil_sublist _))⟩)
      · skip
        refine i_tr (i := 7) rfl (t_alloc zero_32 rfl) rfl rfl rfl rfl (.inr (fun x w hb h => (((h.tail hb.2).tail hbt.2).tail hbs.2))) (fun bm hbm => ?_)
        refine j_tr (i := 6) rfl (t_alloc zero_32 rfl) (by kernel_rfl) rfl rfl rfl rfl (.inr (fun x w hb h => ((((h.tail hb.2).tail hbm.2).tail hbt.2).tail hbs.2))) (fun bl hbl => ?_)
        refine j_tr0 (i := 8) rfl (t_store 0 rfl rfl rfl rfl size_32 rfl rfl) (by kernel_rfl) rfl rfl rfl (.inr (fun x w hb h => ((((h.tail hbl.2).tail hbm.2).tail hbt.2).tail hbs.2))) (fun _ _ => ?_)
        refine j_tr0 (i := 9) rfl (t_store 1 rfl rfl rfl rfl size_32 rfl rfl) (by kernel_rfl) rfl rfl rfl (.inr (fun x w hb h => ((((h.tail hbl.2).tail hbm.2).tail hbt.2).tail hbs.2))) (fun _ _ => ?_)
        refine j_nil (by kernel_rfl) ?_
        refine g_then ?_
        refine g_seq ?_
        refine g_seq ?_
        refine g_region ?_
        refine s_y (y_ld1 1 rfl rfl agg_32 rfl) rfl rfl rfl rfl ?_
        refine s_tr (t_call rfl rfl ent_56 (fun w h => Contains_f w _ (turnL (qOf n) (wOf n) n ys) 0 (RdV.own (jk := []) (at_of (i := 2) h rfl) (turnL_len ..).symm (Nat.le_refl _)) (by rw [turnL_len]; omega) h0)) rfl rfl rfl rfl (fun _ _ => ?_)
        refine s_nil ?_
        refine g_then ?_
        refine g_cond_f rfl ?_
        refine g_skip ?_
        refine g_then ?_
        refine g_seq ?_
        refine g_draw 7 (by kernel_rfl) ?_
        refine j_l (i := 0) rfl (y_ldn 4 rfl rfl agg_56 size_56 rfl rfl) (by kernel_rfl) (by kernel_rfl) (by kernel_rfl) (by kernel_rfl) rfl rfl rfl rfl rfl (.inr (fun _ h => h)) ?_
        refine j_l (i := 1) rfl (y_ldn 4 rfl rfl agg_56 size_56 rfl rfl) (by kernel_rfl) (by kernel_rfl) (by kernel_rfl) (by kernel_rfl) rfl rfl rfl rfl rfl (.inr (fun _ h => h)) ?_
        refine j_p (i := 2) rfl (y_func rfl rfl) (by kernel_rfl) (by kernel_rfl) (by kernel_rfl) rfl rfl rfl rfl rfl (.inr (fun _ h => h)) ?_
        refine j_tr (i := 3) rfl (t_callm (A := New _ _) rfl rfl ent_61 (fun w h => (wheel_any w n (qOf n) (wOf n) 71 [.pointer (some ⟨bl, 0, none⟩), .pointer (some ⟨bf, 0, none⟩), .pointer (some ⟨bm, 0, none⟩)] (fun k : Nat => rdI (turnL (qOf n) (wOf n) n xs) (k : Int) * pw (qOf n) (rdI (turnL (qOf n) (wOf n) n ys) (k : Int)) (qOf n - 2).toNat) (by omega) (by omega) (by omega) (fun k hk => by have hxj := at_range turnL_len (turnL_range' hn hn2 (wOf n) xs) (i := (k : Int)) (by omega) (by omega); have hyj := at_range turnL_len (turnL_range' hn hn2 (wOf n) ys) (i := (k : Int)) (by omega) (by omega); have hp := pw_range (x := rdI (turnL (qOf n) (wOf n) n ys) (k : Int)) (show 2 ≤ qOf n by omega) (qOf n - 2).toNat; have hm := mul_small (a := rdI (turnL (qOf n) (wOf n) n xs) (k : Int)) (b := pw (qOf n) (rdI (turnL (qOf n) (wOf n) n ys) (k : Int)) (qOf n - 2).toNat) (by omega) (by omega) (by omega) (by omega); omega) ent_71 (fun k W hk hb => Divide1_any W k n bl bf bm _ _ (turnL (qOf n) (wOf n) n xs) (turnL (qOf n) (wOf n) n ys) hn hn2 (turnL_ok hn hn2) (turnL_ok hn hn2) hk (RdV.below (RdV.own (jk := []) (at_of (i := 3) h rfl) (turnL_len ..).symm (Nat.le_refl _)) hb) (RdV.below (RdV.own (jk := []) (at_of (i := 2) h rfl) (turnL_len ..).symm (Nat.le_refl _)) hb) (below_at hb (at_of (i := 0) h rfl)) (below_at hb (at_of (i := 4) h rfl)) (below_at hb (at_of (i := 1) h rfl)))).mono fun e w' ⟨b, h1, h2⟩ => ⟨b, ⟨Nat.le_trans h.below.size (h2.ge _ (List.mem_cons_self ..)), Nat.le_trans h.size (h2.ge _ (List.mem_cons_self ..))⟩, h1, h2⟩)) (by kernel_rfl) rfl rfl rfl rfl (.inr (fun x w hb h => (h.tail hb.2))) (fun bq hbq => ?_)
        refine j_tr (i := 4) rfl (t_callm (A := New _ _) rfl rfl ent_65 (fun w h => (back_any w n (qOf n) (wOf n) _ (quoL (qOf n) (wOf n) n xs ys) hn hn2 (by omega) (by omega) (by omega) (by omega) (RdV.own (jk := []) (at_of (i := 0) h rfl) quoL_len.symm (Nat.le_refl n)) quoL_len (okW_true.1 (quoL_ok hn hn2)).2).mono fun e w' ⟨b, h1, h2⟩ => ⟨b, ⟨Nat.le_trans h.below.size (h2.ge _ (List.mem_cons_self ..)), Nat.le_trans h.size (h2.ge _ (List.mem_cons_self ..))⟩, h1, h2⟩)) (by kernel_rfl) rfl rfl rfl rfl (.inr (fun x w hb h => ((h.tail hb.2).tail hbq.2))) (fun bc3 hbc3 => ?_)
        refine j_p (i := 5) rfl (y_assign rfl) (by kernel_rfl) (by kernel_rfl) (by kernel_rfl) rfl rfl rfl rfl rfl (.inr (fun _ h => ((h.tail hbc3.2).tail hbq.2))) ?_
        refine j_p (i := 6) rfl (y_assign rfl) (by kernel_rfl) (by kernel_rfl) (by kernel_rfl) rfl rfl rfl rfl rfl (.inr (fun _ h => ((h.tail hbc3.2).tail hbq.2))) ?_
        refine j_nil (by kernel_rfl) ?_
        refine g_then ?_
        refine g_ret ?_
        exact g_end trivial (fun a w ha hq_ => res2 ha rfl rfl rfl  w) (fun w h => ⟨bc3, rfl, h.hand (List.Sublist.cons_cons _ (List.nil_sublist _))⟩)
    · skip
      refine i_tr (i := 6) rfl (t_alloc zero_32 rfl) rfl rfl rfl rfl (.inr (fun x w hb h => ((h.tail hb.2).tail hbs.2))) (fun bl hbl => ?_)
      refine j_two 5 7 (by kernel_rfl) ?_ ?_
      · skip
        refine i_tr (i := 5) rfl (t_callm (A := New _ _) rfl rfl ent_64 (fun w h => (spectrum_any w n (qOf n) (wOf n) v' ys hn hn2 (by omega) (by omega) (by omega) (by omega) (hv'.below h.below) hyl hy).mono fun e w' ⟨b, h1, h2⟩ => ⟨b, ⟨Nat.le_trans h.below.size (h2.ge _ (List.mem_cons_self ..)), Nat.le_trans h.size (h2.ge _ (List.mem_cons_self ..))⟩, h1, h2⟩)) rfl rfl rfl rfl (.inr (fun x w hb h => (((h.tail hb.2).tail hbl.2).tail hbs.2))) (fun bt hbt => ?_)
        refine j_tr (i := 7) rfl (t_alloc zero_32 rfl) (by kernel_rfl) rfl rfl rfl rfl (.inr (fun x w hb h => ((((h.tail hb.2).tail hbt.2).tail hbl.2).tail hbs.2))) (fun bm hbm => ?_)
        refine j_tr0 (i := 8) rfl (t_store 2 rfl rfl rfl rfl size_32 rfl rfl) (by kernel_rfl) rfl rfl rfl (.inr (fun x w hb h => ((((h.tail hbm.2).tail hbt.2).tail hbl.2).tail hbs.2))) (fun _ _ => ?_)
        refine j_tr0 (i := 9) rfl (t_store 0 rfl rfl rfl rfl size_32 rfl rfl) (by kernel_rfl) rfl rfl rfl (.inr (fun x w hb h => ((((h.tail hbm.2).tail hbt.2).tail hbl.2).tail hbs.2))) (fun _ _ => ?_)
        refine j_nil (by kernel_rfl) ?_
        refine g_then ?_
        refine g_seq ?_
        refine g_seq ?_
        refine g_region ?_
        refine s_y (y_ld1 0 rfl rfl agg_32 rfl) rfl rfl rfl rfl ?_
        refine s_tr (t_call rfl rfl ent_56 (fun w h => Contains_f w _ (turnL (qOf n) (wOf n) n ys) 0 (RdV.own (jk := []) (at_of (i := 1) h rfl) (turnL_len ..).symm (Nat.le_refl _)) (by rw [turnL_len]; omega) h0)) rfl rfl rfl rfl (fun _ _ => ?_)
        refine s_nil ?_
        refine g_then ?_
        refine g_cond_f rfl ?_
        refine g_skip ?_
        refine g_then ?_
        refine g_seq ?_
        refine g_draw 7 (by kernel_rfl) ?_
        refine j_l (i := 0) rfl (y_ldn 4 rfl rfl agg_56 size_56 rfl rfl) (by kernel_rfl) (by kernel_rfl) (by kernel_rfl) (by kernel_rfl) rfl rfl rfl rfl rfl (.inr (fun _ h => h)) ?_
        refine j_l (i := 1) rfl (y_ldn 4 rfl rfl agg_56 size_56 rfl rfl) (by kernel_rfl) (by kernel_rfl) (by kernel_rfl) (by kernel_rfl) rfl rfl rfl rfl rfl (.inr (fun _ h => h)) ?_
        refine j_p (i := 2) rfl (y_func rfl rfl) (by kernel_rfl) (by kernel_rfl) (by kernel_rfl) rfl rfl rfl rfl rfl (.inr (fun _ h => h)) ?_
        refine j_tr (i := 3) rfl (t_callm (A := New _ _) rfl rfl ent_61 (fun w h => (wheel_any w n (qOf n) (wOf n) 71 [.pointer (some ⟨bl, 0, none⟩), .pointer (some ⟨bf, 0, none⟩), .pointer (some ⟨bm, 0, none⟩)] (fun k : Nat => rdI (turnL (qOf n) (wOf n) n xs) (k : Int) * pw (qOf n) (rdI (turnL (qOf n) (wOf n) n ys) (k : Int)) (qOf n - 2).toNat) (by omega) (by omega) (by omega) (fun k hk => by have hxj := at_range turnL_len (turnL_range' hn hn2 (wOf n) xs) (i := (k : Int)) (by omega) (by omega); have hyj := at_range turnL_len (turnL_range' hn hn2 (wOf n) ys) (i := (k : Int)) (by omega) (by omega); have hp := pw_range (x := rdI (turnL (qOf n) (wOf n) n ys) (k : Int)) (show 2 ≤ qOf n by omega) (qOf n - 2).toNat; have hm := mul_small (a := rdI (turnL (qOf n) (wOf n) n xs) (k : Int)) (b := pw (qOf n) (rdI (turnL (qOf n) (wOf n) n ys) (k : Int)) (qOf n - 2).toNat) (by omega) (by omega) (by omega) (by omega); omega) ent_71 (fun k W hk hb => Divide1_any W k n bl bf bm _ _ (turnL (qOf n) (wOf n) n xs) (turnL (qOf n) (wOf n) n ys) hn hn2 (turnL_ok hn hn2) (turnL_ok hn hn2) hk (RdV.below (RdV.own (jk := []) (at_of (i := 3) h rfl) (turnL_len ..).symm (Nat.le_refl _)) hb) (RdV.below (RdV.own (jk := []) (at_of (i := 1) h rfl) (turnL_len ..).symm (Nat.le_refl _)) hb) (below_at hb (at_of (i := 2) h rfl)) (below_at hb (at_of (i := 4) h rfl)) (below_at hb (at_of (i := 0) h rfl)))).mono fun e w' ⟨b, h1, h2⟩ => ⟨b, ⟨Nat.le_trans h.below.size (h2.ge _ (List.mem_cons_self ..)), Nat.le_trans h.size (h2.ge _ (List.mem_cons_self ..))⟩, h1, h2⟩)) (by kernel_rfl) rfl rfl rfl rfl (.inr (fun x w hb h => (h.tail hb.2))) (fun bq hbq => ?_)
        refine j_tr (i := 4) rfl (t_callm (A := New _ _) rfl rfl ent_65 (fun w h => (back_any w n (qOf n) (wOf n) _ (quoL (qOf n) (wOf n) n xs ys) hn hn2 (by omega) (by omega) (by omega) (by omega) (RdV.own (jk := []) (at_of (i := 0) h rfl) quoL_len.symm (Nat.le_refl n)) quoL_len (okW_true.1 (quoL_ok hn hn2)).2).mono fun e w' ⟨b, h1, h2⟩ => ⟨b, ⟨Nat.le_trans h.below.size (h2.ge _ (List.mem_cons_self ..)), Nat.le_trans h.size (h2.ge _ (List.mem_cons_self ..))⟩, h1, h2⟩)) (by kernel_rfl) rfl rfl rfl rfl (.inr (fun x w hb h => ((h.tail hb.2).tail hbq.2))) (fun bc4 hbc4 => ?_)
        refine j_p (i := 5) rfl (y_assign rfl) (by kernel_rfl) (by kernel_rfl) (by kernel_rfl) rfl rfl rfl rfl rfl (.inr (fun _ h => ((h.tail hbc4.2).tail hbq.2))) ?_
        refine j_p (i := 6) rfl (y_assign rfl) (by kernel_rfl) (by kernel_rfl) (by kernel_rfl) rfl rfl rfl rfl rfl (.inr (fun _ h => ((h.tail hbc4.2).tail hbq.2))) ?_
        refine j_nil (by kernel_rfl) ?_
        refine g_then ?_
        refine g_ret ?_
        exact g_end trivial (fun a w ha hq_ => res2 ha rfl rfl rfl  w) (fun w h => ⟨bc4, rfl, h.hand (List.Sublist.cons_cons _ (List.nil_sublist _))⟩)
      · skip
        refine i_tr (i := 7) rfl (t_alloc zero_32 rfl) rfl rfl rfl rfl (.inr (fun x w hb h => (((h.tail hb.2).tail hbl.2).tail hbs.2))) (fun bm hbm => ?_)
        refine j_tr (i := 5) rfl (t_callm (A := New _ _) rfl rfl ent_64 (fun w h => (spectrum_any w n (qOf n) (wOf n) v' ys hn hn2 (by omega) (by omega) (by omega) (by omega) (hv'.below h.below) hyl hy).mono fun e w' ⟨b, h1, h2⟩ => ⟨b, ⟨Nat.le_trans h.below.size (h2.ge _ (List.mem_cons_self ..)), Nat.le_trans h.size (h2.ge _ (List.mem_cons_self ..))⟩, h1, h2⟩)) (by kernel_rfl) rfl rfl rfl rfl (.inr (fun x w hb h => ((((h.tail hb.2).tail hbm.2).tail hbl.2).tail hbs.2))) (fun bt hbt => ?_)
        refine j_tr0 (i := 8) rfl (t_store 2 rfl rfl rfl rfl size_32 rfl rfl) (by kernel_rfl) rfl rfl rfl (.inr (fun x w hb h => ((((h.tail hbt.2).tail hbm.2).tail hbl.2).tail hbs.2))) (fun _ _ => ?_)
        refine j_tr0 (i := 9) rfl (t_store 1 rfl rfl rfl rfl size_32 rfl rfl) (by kernel_rfl) rfl rfl rfl (.inr (fun x w hb h => ((((h.tail hbt.2).tail hbm.2).tail hbl.2).tail hbs.2))) (fun _ _ => ?_)
        refine j_nil (by kernel_rfl) ?_
        refine g_then ?_
        refine g_seq ?_
        refine g_seq ?_
        refine g_region ?_
        refine s_y (y_ld1 1 rfl rfl agg_32 rfl) rfl rfl rfl rfl ?_
        refine s_tr (t_call rfl rfl ent_56 (fun w h => Contains_f w _ (turnL (qOf n) (wOf n) n ys) 0 (RdV.own (jk := []) (at_of (i := 0) h rfl) (turnL_len ..).symm (Nat.le_refl _)) (by rw [turnL_len]; omega) h0)) rfl rfl rfl rfl (fun _ _ => ?_)
        refine s_nil ?_
        refine g_then ?_
        refine g_cond_f rfl ?_
        refine g_skip ?_
        refine g_then ?_
        refine g_seq ?_
        refine g_draw 7 (by kernel_rfl) ?_
        refine j_l (i := 0) rfl (y_ldn 4 rfl rfl agg_56 size_56 rfl rfl) (by kernel_rfl) (by kernel_rfl) (by kernel_rfl) (by kernel_rfl) rfl rfl rfl rfl rfl (.inr (fun _ h => h)) ?_
        refine j_l (i := 1) rfl (y_ldn 4 rfl rfl agg_56 size_56 rfl rfl) (by kernel_rfl) (by kernel_rfl) (by kernel_rfl) (by kernel_rfl) rfl rfl rfl rfl rfl (.inr (fun _ h => h)) ?_
        refine j_p (i := 2) rfl (y_func rfl rfl) (by kernel_rfl) (by kernel_rfl) (by kernel_rfl) rfl rfl rfl rfl rfl (.inr (fun _ h => h)) ?_
        refine j_tr (i := 3) rfl (t_callm (A := New _ _) rfl rfl ent_61 (fun w h => (wheel_any w n (qOf n) (wOf n) 71 [.pointer (some ⟨bl, 0, none⟩), .pointer (some ⟨bf, 0, none⟩), .pointer (some ⟨bm, 0, none⟩)] (fun k : Nat => rdI (turnL (qOf n) (wOf n) n xs) (k : Int) * pw (qOf n) (rdI (turnL (qOf n) (wOf n) n ys) (k : Int)) (qOf n - 2).toNat) (by omega) (by omega) (by omega) (fun k hk => by have hxj := at_range turnL_len (turnL_range' hn hn2 (wOf n) xs) (i := (k : Int)) (by omega) (by omega); have hyj := at_range turnL_len (turnL_range' hn hn2 (wOf n) ys) (i := (k : Int)) (by omega) (by omega); have hp := pw_range (x := rdI (turnL (qOf n) (wOf n) n ys) (k : Int)) (show 2 ≤ qOf n by omega) (qOf n - 2).toNat; have hm := mul_small (a := rdI (turnL (qOf n) (wOf n) n xs) (k : Int)) (b := pw (qOf n) (rdI (turnL (qOf n) (wOf n) n ys) (k : Int)) (qOf n - 2).toNat) (by omega) (by omega) (by omega) (by omega); omega) ent_71 (fun k W hk hb => Divide1_any W k n bl bf bm _ _ (turnL (qOf n) (wOf n) n xs) (turnL (qOf n) (wOf n) n ys) hn hn2 (turnL_ok hn hn2) (turnL_ok hn hn2) hk (RdV.below (RdV.own (jk := []) (at_of (i := 3) h rfl) (turnL_len ..).symm (Nat.le_refl _)) hb) (RdV.below (RdV.own (jk := []) (at_of (i := 0) h rfl) (turnL_len ..).symm (Nat.le_refl _)) hb) (below_at hb (at_of (i := 2) h rfl)) (below_at hb (at_of (i := 4) h rfl)) (below_at hb (at_of (i := 1) h rfl)))).mono fun e w' ⟨b, h1, h2⟩ => ⟨b, ⟨Nat.le_trans h.below.size (h2.ge _ (List.mem_cons_self ..)), Nat.le_trans h.size (h2.ge _ (List.mem_cons_self ..))⟩, h1, h2⟩)) (by kernel_rfl) rfl rfl rfl rfl (.inr (fun x w hb h => (h.tail hb.2))) (fun bq hbq => ?_)
        refine j_tr (i := 4) rfl (t_callm (A := New _ _) rfl rfl ent_65 (fun w h => (back_any w n (qOf n) (wOf n) _ (quoL (qOf n) (wOf n) n xs ys) hn hn2 (by omega) (by omega) (by omega) (by omega) (RdV.own (jk := []) (at_of (i := 0) h rfl) quoL_len.symm (Nat.le_refl n)) quoL_len (okW_true.1 (quoL_ok hn hn2)).2).mono fun e w' ⟨b, h1, h2⟩ => ⟨b, ⟨Nat.le_trans h.below.size (h2.ge _ (List.mem_cons_self ..)), Nat.le_trans h.size (h2.ge _ (List.mem_cons_self ..))⟩, h1, h2⟩)) (by kernel_rfl) rfl rfl rfl rfl (.inr (fun x w hb h => ((h.tail hb.2).tail hbq.2))) (fun bc5 hbc5 => ?_)
        refine j_p (i := 5) rfl (y_assign rfl) (by kernel_rfl) (by kernel_rfl) (by kernel_rfl) rfl rfl rfl rfl rfl (.inr (fun _ h => ((h.tail hbc5.2).tail hbq.2))) ?_
        refine j_p (i := 6) rfl (y_assign rfl) (by kernel_rfl) (by kernel_rfl) (by kernel_rfl) rfl rfl rfl rfl rfl (.inr (fun _ h => ((h.tail hbc5.2).tail hbq.2))) ?_
        refine j_nil (by kernel_rfl) ?_
        refine g_then ?_
        refine g_ret ?_
        exact g_end trivial (fun a w ha hq_ => res2 ha rfl rfl rfl  w) (fun w h => ⟨bc5, rfl, h.hand (List.Sublist.cons_cons _ (List.nil_sublist _))⟩)
    · skip
      refine i_tr (i := 7) rfl (t_alloc zero_32 rfl) rfl rfl rfl rfl (.inr (fun x w hb h => ((h.tail hb.2).tail hbs.2))) (fun bm hbm => ?_)
      refine j_two 5 6 (by kernel_rfl) ?_ ?_
      · skip
        refine i_tr (i := 5) rfl (t_callm (A := New _ _) rfl rfl ent_64 (fun w h => (spectrum_any w n (qOf n) (wOf n) v' ys hn hn2 (by omega) (by omega) (by omega) (by omega) (hv'.below h.below) hyl hy).mono fun e w' ⟨b, h1, h2⟩ => ⟨b, ⟨Nat.le_trans h.below.size (h2.ge _ (List.mem_cons_self ..)), Nat.le_trans h.size (h2.ge _ (List.mem_cons_self ..))⟩, h1, h2⟩)) rfl rfl rfl rfl (.inr (fun x w hb h => (((h.tail hb.2).tail hbm.2).tail hbs.2))) (fun bt hbt => ?_)
        refine j_tr (i := 6) rfl (t_alloc zero_32 rfl) (by kernel_rfl) rfl rfl rfl rfl (.inr (fun x w hb h => ((((h.tail hb.2).tail hbt.2).tail hbm.2).tail hbs.2))) (fun bl hbl => ?_)
        refine j_tr0 (i := 8) rfl (t_store 0 rfl rfl rfl rfl size_32 rfl rfl) (by kernel_rfl) rfl rfl rfl (.inr (fun x w hb h => ((((h.tail hbl.2).tail hbt.2).tail hbm.2).tail hbs.2))) (fun _ _ => ?_)
        refine j_tr0 (i := 9) rfl (t_store 2 rfl rfl rfl rfl size_32 rfl rfl) (by kernel_rfl) rfl rfl rfl (.inr (fun x w hb h => ((((h.tail hbl.2).tail hbt.2).tail hbm.2).tail hbs.2))) (fun _ _ => ?_)
        refine j_nil (by kernel_rfl) ?_
        refine g_then ?_
        refine g_seq ?_
        refine g_seq ?_
        refine g_region ?_
        refine s_y (y_ld1 2 rfl rfl agg_32 rfl) rfl rfl rfl rfl ?_
        refine s_tr (t_call rfl rfl ent_56 (fun w h => Contains_f w _ (turnL (qOf n) (wOf n) n ys) 0 (RdV.own (jk := []) (at_of (i := 1) h rfl) (turnL_len ..).symm (Nat.le_refl _)) (by rw [turnL_len]; omega) h0)) rfl rfl rfl rfl (fun _ _ => ?_)
        refine s_nil ?_
        refine g_then ?_
        refine g_cond_f rfl ?_
        refine g_skip ?_
        refine g_then ?_
        refine g_seq ?_
        refine g_draw 7 (by kernel_rfl) ?_
        refine j_l (i := 0) rfl (y_ldn 4 rfl rfl agg_56 size_56 rfl rfl) (by kernel_rfl) (by kernel_rfl) (by kernel_rfl) (by kernel_rfl) rfl rfl rfl rfl rfl (.inr (fun _ h => h)) ?_
        refine j_l (i := 1) rfl (y_ldn 4 rfl rfl agg_56 size_56 rfl rfl) (by kernel_rfl) (by kernel_rfl) (by kernel_rfl) (by kernel_rfl) rfl rfl rfl rfl rfl (.inr (fun _ h => h)) ?_
        refine j_p (i := 2) rfl (y_func rfl rfl) (by kernel_rfl) (by kernel_rfl) (by kernel_rfl) rfl rfl rfl rfl rfl (.inr (fun _ h => h)) ?_
        refine j_tr (i := 3) rfl (t_callm (A := New _ _) rfl rfl ent_61 (fun w h => (wheel_any w n (qOf n) (wOf n) 71 [.pointer (some ⟨bl, 0, none⟩), .pointer (some ⟨bf, 0, none⟩), .pointer (some ⟨bm, 0, none⟩)] (fun k : Nat => rdI (turnL (qOf n) (wOf n) n xs) (k : Int) * pw (qOf n) (rdI (turnL (qOf n) (wOf n) n ys) (k : Int)) (qOf n - 2).toNat) (by omega) (by omega) (by omega) (fun k hk => by have hxj := at_range turnL_len (turnL_range' hn hn2 (wOf n) xs) (i := (k : Int)) (by omega) (by omega); have hyj := at_range turnL_len (turnL_range' hn hn2 (wOf n) ys) (i := (k : Int)) (by omega) (by omega); have hp := pw_range (x := rdI (turnL (qOf n) (wOf n) n ys) (k : Int)) (show 2 ≤ qOf n by omega) (qOf n - 2).toNat; have hm := mul_small (a := rdI (turnL (qOf n) (wOf n) n xs) (k : Int)) (b := pw (qOf n) (rdI (turnL (qOf n) (wOf n) n ys) (k : Int)) (qOf n - 2).toNat) (by omega) (by omega) (by omega) (by omega); omega) ent_71 (fun k W hk hb => Divide1_any W k n bl bf bm _ _ (turnL (qOf n) (wOf n) n xs) (turnL (qOf n) (wOf n) n ys) hn hn2 (turnL_ok hn hn2) (turnL_ok hn hn2) hk (RdV.below (RdV.own (jk := []) (at_of (i := 3) h rfl) (turnL_len ..).symm (Nat.le_refl _)) hb) (RdV.below (RdV.own (jk := []) (at_of (i := 1) h rfl) (turnL_len ..).symm (Nat.le_refl _)) hb) (below_at hb (at_of (i := 0) h rfl)) (below_at hb (at_of (i := 4) h rfl)) (below_at hb (at_of (i := 2) h rfl)))).mono fun e w' ⟨b, h1, h2⟩ => ⟨b, ⟨Nat.le_trans h.below.size (h2.ge _ (List.mem_cons_self ..)), Nat.le_trans h.size (h2.ge _ (List.mem_cons_self ..))⟩, h1, h2⟩)) (by kernel_rfl) rfl rfl rfl rfl (.inr (fun x w hb h => (h.tail hb.2))) (fun bq hbq => ?_)
        refine j_tr (i := 4) rfl (t_callm (A := New _ _) rfl rfl ent_65 (fun w h => (back_any w n (qOf n) (wOf n) _ (quoL (qOf n) (wOf n) n xs ys) hn hn2 (by omega) (by omega) (by omega) (by omega) (RdV.own (jk := []) (at_of (i := 0) h rfl) quoL_len.symm (Nat.le_refl n)) quoL_len (okW_true.1 (quoL_ok hn hn2)).2).mono fun e w' ⟨b, h1, h2⟩ => ⟨b, ⟨Nat.le_trans h.below.size (h2.ge _ (List.mem_cons_self ..)), Nat.le_trans h.size (h2.ge _ (List.mem_cons_self ..))⟩, h1, h2⟩)) (by kernel_rfl) rfl rfl rfl rfl (.inr (fun x w hb h => ((h.tail hb.2).tail hbq.2))) (fun bc6 hbc6 => ?_)
        refine j_p (i := 5) rfl (y_assign rfl) (by kernel_rfl) (by kernel_rfl) (by kernel_rfl) rfl rfl rfl rfl rfl (.inr (fun _ h => ((h.tail hbc6.2).tail hbq.2))) ?_
        refine j_p (i := 6) rfl (y_assign rfl) (by kernel_rfl) (by kernel_rfl) (by kernel_rfl) rfl rfl rfl rfl rfl (.inr (fun _ h => ((h.tail hbc6.2).tail hbq.2))) ?_
        refine j_nil (by kernel_rfl) ?_
        refine g_then ?_
        refine g_ret ?_
        exact g_end trivial (fun a w ha hq_ => res2 ha rfl rfl rfl  w) (fun w h => ⟨bc6, rfl, h.hand (List.Sublist.cons_cons _ (List.nil_sublist _))⟩)
      · skip
        refine i_tr (i := 6) rfl (t_alloc zero_32 rfl) rfl rfl rfl rfl (.inr (fun x w hb h => (((h.tail hb.2).tail hbm.2).tail hbs.2))) (fun bl hbl => ?_)
        refine j_tr (i := 5) rfl (t_callm (A := New _ _) rfl rfl ent_64 (fun w h => (spectrum_any w n (qOf n) (wOf n) v' ys hn hn2 (by omega) (by omega) (by omega) (by omega) (hv'.below h.below) hyl hy).mono fun e w' ⟨b, h1, h2⟩ => ⟨b, ⟨Nat.le_trans h.below.size (h2.ge _ (List.mem_cons_self ..)), Nat.le_trans h.size (h2.ge _ (List.mem_cons_self ..))⟩, h1, h2⟩)) (by kernel_rfl) rfl rfl rfl rfl (.inr (fun x w hb h => ((((h.tail hb.2).tail hbl.2).tail hbm.2).tail hbs.2))) (fun bt hbt => ?_)
        refine j_tr0 (i := 8) rfl (t_store 1 rfl rfl rfl rfl size_32 rfl rfl) (by kernel_rfl) rfl rfl rfl (.inr (fun x w hb h => ((((h.tail hbt.2).tail hbl.2).tail hbm.2).tail hbs.2))) (fun _ _ => ?_)
        refine j_tr0 (i := 9) rfl (t_store 2 rfl rfl rfl rfl size_32 rfl rfl) (by kernel_rfl) rfl rfl rfl (.inr (fun x w hb h => ((((h.tail hbt.2).tail hbl.2).tail hbm.2).tail hbs.2))) (fun _ _ => ?_)
        refine j_nil (by kernel_rfl) ?_
        refine g_then ?_
        refine g_seq ?_
        refine g_seq ?_
        refine g_region ?_
        refine s_y (y_ld1 2 rfl rfl agg_32 rfl) rfl rfl rfl rfl ?_
        refine s_tr (t_call rfl rfl ent_56 (fun w h => Contains_f w _ (turnL (qOf n) (wOf n) n ys) 0 (RdV.own (jk := []) (at_of (i := 0) h rfl) (turnL_len ..).symm (Nat.le_refl _)) (by rw [turnL_len]; omega) h0)) rfl rfl rfl rfl (fun _ _ => ?_)
        refine s_nil ?_
        refine g_then ?_
        refine g_cond_f rfl ?_
        refine g_skip ?_
        refine g_then ?_
        refine g_seq ?_
        refine g_draw 7 (by kernel_rfl) ?_
        refine j_l (i := 0) rfl (y_ldn 4 rfl rfl agg_56 size_56 rfl rfl) (by kernel_rfl) (by kernel_rfl) (by kernel_rfl) (by kernel_rfl) rfl rfl rfl rfl rfl (.inr (fun _ h => h)) ?_
        refine j_l (i := 1) rfl (y_ldn 4 rfl rfl agg_56 size_56 rfl rfl) (by kernel_rfl) (by kernel_rfl) (by kernel_rfl) (by kernel_rfl) rfl rfl rfl rfl rfl (.inr (fun _ h => h)) ?_
        refine j_p (i := 2) rfl (y_func rfl rfl) (by kernel_rfl) (by kernel_rfl) (by kernel_rfl) rfl rfl rfl rfl rfl (.inr (fun _ h => h)) ?_
        refine j_tr (i := 3) rfl (t_callm (A := New _ _) rfl rfl ent_61 (fun w h => (wheel_any w n (qOf n) (wOf n) 71 [.pointer (some ⟨bl, 0, none⟩), .pointer (some ⟨bf, 0, none⟩), .pointer (some ⟨bm, 0, none⟩)] (fun k : Nat => rdI (turnL (qOf n) (wOf n) n xs) (k : Int) * pw (qOf n) (rdI (turnL (qOf n) (wOf n) n ys) (k : Int)) (qOf n - 2).toNat) (by omega) (by omega) (by omega) (fun k hk => by have hxj := at_range turnL_len (turnL_range' hn hn2 (wOf n) xs) (i := (k : Int)) (by omega) (by omega); have hyj := at_range turnL_len (turnL_range' hn hn2 (wOf n) ys) (i := (k : Int)) (by omega) (by omega); have hp := pw_range (x := rdI (turnL (qOf n) (wOf n) n ys) (k : Int)) (show 2 ≤ qOf n by omega) (qOf n - 2).toNat; have hm := mul_small (a := rdI (turnL (qOf n) (wOf n) n xs) (k : Int)) (b := pw (qOf n) (rdI (turnL (qOf n) (wOf n) n ys) (k : Int)) (qOf n - 2).toNat) (by omega) (by omega) (by omega) (by omega); omega) ent_71 (fun k W hk hb => Divide1_any W k n bl bf bm _ _ (turnL (qOf n) (wOf n) n xs) (turnL (qOf n) (wOf n) n ys) hn hn2 (turnL_ok hn hn2) (turnL_ok hn hn2) hk (RdV.below (RdV.own (jk := []) (at_of (i := 3) h rfl) (turnL_len ..).symm (Nat.le_refl _)) hb) (RdV.below (RdV.own (jk := []) (at_of (i := 0) h rfl) (turnL_len ..).symm (Nat.le_refl _)) hb) (below_at hb (at_of (i := 1) h rfl)) (below_at hb (at_of (i := 4) h rfl)) (below_at hb (at_of (i := 2) h rfl)))).mono fun e w' ⟨b, h1, h2⟩ => ⟨b, ⟨Nat.le_trans h.below.size (h2.ge _ (List.mem_cons_self ..)), Nat.le_trans h.size (h2.ge _ (List.mem_cons_self ..))⟩, h1, h2⟩)) (by kernel_rfl) rfl rfl rfl rfl (.inr (fun x w hb h => (h.tail hb.2))) (fun bq hbq => ?_)
        refine j_tr (i := 4) rfl (t_callm (A := New _ _) rfl rfl ent_65 (fun w h => (back_any w n (qOf n) (wOf n) _ (quoL (qOf n) (wOf n) n xs ys) hn hn2 (by omega) (by omega) (by omega) (by omega) (RdV.own (jk := []) (at_of (i := 0) h rfl) quoL_len.symm (Nat.le_refl n)) quoL_len (okW_true.1 (quoL_ok hn hn2)).2).mono fun e w' ⟨b, h1, h2⟩ => ⟨b, ⟨Nat.le_trans h.below.size (h2.ge _ (List.mem_cons_self ..)), Nat.le_trans h.size (h2.ge _ (List.mem_cons_self ..))⟩, h1, h2⟩)) (by kernel_rfl) rfl rfl rfl rfl (.inr (fun x w hb h => ((h.tail hb.2).tail hbq.2))) (fun bc7 hbc7 => ?_)
        refine j_p (i := 5) rfl (y_assign rfl) (by kernel_rfl) (by kernel_rfl) (by kernel_rfl) rfl rfl rfl rfl rfl (.inr (fun _ h => ((h.tail hbc7.2).tail hbq.2))) ?_
        refine j_p (i := 6) rfl (y_assign rfl) (by kernel_rfl) (by kernel_rfl) (by kernel_rfl) rfl rfl rfl rfl rfl (.inr (fun _ h => ((h.tail hbc7.2).tail hbq.2))) ?_
        refine j_nil (by kernel_rfl) ?_
        refine g_then ?_
        refine g_ret ?_
        exact g_end trivial (fun a w ha hq_ => res2 ha rfl rfl rfl  w) (fun w h => ⟨bc7, rfl, h.hand (List.Sublist.cons_cons _ (List.nil_sublist _))⟩)
  · skip
    refine i_tr (i := 6) rfl (t_alloc zero_32 rfl) rfl rfl rfl rfl (.inr (fun x w hb h => (h.tail hb.2))) (fun bl hbl => ?_)
    refine j_two 2 7 (by kernel_rfl) ?_ ?_
    · skip
      refine i_tr (i := 2) rfl (t_callm (A := New _ _) rfl rfl ent_64 (fun w h => (spectrum_any w n (qOf n) (wOf n) v xs hn hn2 (by omega) (by omega) (by omega) (by omega) (hv.below h.below) hxl hx).mono fun e w' ⟨b, h1, h2⟩ => ⟨b, ⟨Nat.le_trans h.below.size (h2.ge _ (List.mem_cons_self ..)), Nat.le_trans h.size (h2.ge _ (List.mem_cons_self ..))⟩, h1, h2⟩)) rfl rfl rfl rfl (.inr (fun x w hb h => ((h.tail hb.2).tail hbl.2))) (fun bs hbs => ?_)
      refine j_two 5 7 (by kernel_rfl) ?_ ?_
      · skip
        refine i_tr (i := 5) rfl (t_callm (A := New _ _) rfl rfl ent_64 (fun w h => (spectrum_any w n (qOf n) (wOf n) v' ys hn hn2 (by omega) (by omega) (by omega) (by omega) (hv'.below h.below) hyl hy).mono fun e w' ⟨b, h1, h2⟩ => ⟨b, ⟨Nat.le_trans h.below.size (h2.ge _ (List.mem_cons_self ..)), Nat.le_trans h.size (h2.ge _ (List.mem_cons_self ..))⟩, h1, h2⟩)) rfl rfl rfl rfl (.inr (fun x w hb h => (((h.tail hb.2).tail hbs.2).tail hbl.2))) (fun bt hbt => ?_)
        refine j_tr (i := 7) rfl (t_alloc zero_32 rfl) (by kernel_rfl) rfl rfl rfl rfl (.inr (fun x w hb h => ((((h.tail hb.2).tail hbt.2).tail hbs.2).tail hbl.2))) (fun bm hbm => ?_)
        refine j_tr0 (i := 8) rfl (t_store 3 rfl rfl rfl rfl size_32 rfl rfl) (by kernel_rfl) rfl rfl rfl (.inr (fun x w hb h => ((((h.tail hbm.2).tail hbt.2).tail hbs.2).tail hbl.2))) (fun _ _ => ?_)
        refine j_tr0 (i := 9) rfl (t_store 0 rfl rfl rfl rfl size_32 rfl rfl) (by kernel_rfl) rfl rfl rfl (.inr (fun x w hb h => ((((h.tail hbm.2).tail hbt.2).tail hbs.2).tail hbl.2))) (fun _ _ => ?_)
        refine j_nil (by kernel_rfl) ?_
        refine g_then ?_
        refine g_seq ?_
        refine g_seq ?_
        refine g_region ?_
        refine s_y (y_ld1 0 rfl rfl agg_32 rfl) rfl rfl rfl rfl ?_
        refine s_tr (t_call rfl rfl ent_56 (fun w h => Contains_f w _ (turnL (qOf n) (wOf n) n ys) 0 (RdV.own (jk := []) (at_of (i := 1) h rfl) (turnL_len ..).symm (Nat.le_refl _)) (by rw [turnL_len]; omega) h0)) rfl rfl rfl rfl (fun _ _ => ?_)
        refine s_nil ?_
        refine g_then ?_
        refine g_cond_f rfl ?_
        refine g_skip ?_
        refine g_then ?_
        refine g_seq ?_
        refine g_draw 7 (by kernel_rfl) ?_
        refine j_l (i := 0) rfl (y_ldn 4 rfl rfl agg_56 size_56 rfl rfl) (by kernel_rfl) (by kernel_rfl) (by kernel_rfl) (by kernel_rfl) rfl rfl rfl rfl rfl (.inr (fun _ h => h)) ?_
        refine j_l (i := 1) rfl (y_ldn 4 rfl rfl agg_56 size_56 rfl rfl) (by kernel_rfl) (by kernel_rfl) (by kernel_rfl) (by kernel_rfl) rfl rfl rfl rfl rfl (.inr (fun _ h => h)) ?_
        refine j_p (i := 2) rfl (y_func rfl rfl) (by kernel_rfl) (by kernel_rfl) (by kernel_rfl) rfl rfl rfl rfl rfl (.inr (fun _ h => h)) ?_
        refine j_tr (i := 3) rfl (t_callm (A := New _ _) rfl rfl ent_61 (fun w h => (wheel_any w n (qOf n) (wOf n) 71 [.pointer (some ⟨bl, 0, none⟩), .pointer (some ⟨bf, 0, none⟩), .pointer (some ⟨bm, 0, none⟩)] (fun k : Nat => rdI (turnL (qOf n) (wOf n) n xs) (k : Int) * pw (qOf n) (rdI (turnL (qOf n) (wOf n) n ys) (k : Int)) (qOf n - 2).toNat) (by omega) (by omega) (by omega) (fun k hk => by have hxj := at_range turnL_len (turnL_range' hn hn2 (wOf n) xs) (i := (k : Int)) (by omega) (by omega); have hyj := at_range turnL_len (turnL_range' hn hn2 (wOf n) ys) (i := (k : Int)) (by omega) (by omega); have hp := pw_range (x := rdI (turnL (qOf n) (wOf n) n ys) (k : Int)) (show 2 ≤ qOf n by omega) (qOf n - 2).toNat; have hm := mul_small (a := rdI (turnL (qOf n) (wOf n) n xs) (k : Int)) (b := pw (qOf n) (rdI (turnL (qOf n) (wOf n) n ys) (k : Int)) (qOf n - 2).toNat) (by omega) (by omega) (by omega) (by omega); omega) ent_71 (fun k W hk hb => Divide1_any W k n bl bf bm _ _ (turnL (qOf n) (wOf n) n xs) (turnL (qOf n) (wOf n) n ys) hn hn2 (turnL_ok hn hn2) (turnL_ok hn hn2) hk (RdV.below (RdV.own (jk := []) (at_of (i := 2) h rfl) (turnL_len ..).symm (Nat.le_refl _)) hb) (RdV.below (RdV.own (jk := []) (at_of (i := 1) h rfl) (turnL_len ..).symm (Nat.le_refl _)) hb) (below_at hb (at_of (i := 3) h rfl)) (below_at hb (at_of (i := 4) h rfl)) (below_at hb (at_of (i := 0) h rfl)))).mono fun e w' ⟨b, h1, h2⟩ => ⟨b, ⟨Nat.le_trans h.below.size (h2.ge _ (List.mem_cons_self ..)), Nat.le_trans h.size (h2.ge _ (List.mem_cons_self ..))⟩, h1, h2⟩)) (by kernel_rfl) rfl rfl rfl rfl (.inr (fun x w hb h => (h.tail hb.2))) (fun bq hbq => ?_)
        refine j_tr (i := 4) rfl (t_callm (A := New _ _) rfl rfl ent_65 (fun w h => (back_any w n (qOf n) (wOf n) _ (quoL (qOf n) (wOf n) n xs ys) hn hn2 (by omega) (by omega) (by omega) (by omega) (RdV.own (jk := []) (at_of (i := 0) h rfl) quoL_len.symm (Nat.le_refl n)) quoL_len (okW_true.1 (quoL_ok hn hn2)).2).mono fun e w' ⟨b, h1, h2⟩ => ⟨b, ⟨Nat.le_trans h.below.size (h2.ge _ (List.mem_cons_self ..)), Nat.le_trans h.size (h2.ge _ (List.mem_cons_self ..))⟩, h1, h2⟩)) (by kernel_rfl) rfl rfl rfl rfl (.inr (fun x w hb h => ((h.tail hb.2).tail hbq.2))) (fun bc8 hbc8 => ?_)
        refine j_p (i := 5) rfl (y_assign rfl) (by kernel_rfl) (by kernel_rfl) (by kernel_rfl) rfl rfl rfl rfl rfl (.inr (fun _ h => ((h.tail hbc8.2).tail hbq.2))) ?_
        refine j_p (i := 6) rfl (y_assign rfl) (by kernel_rfl) (by kernel_rfl) (by kernel_rfl) rfl rfl rfl rfl rfl (.inr (fun _ h => ((h.tail hbc8.2).tail hbq.2))) ?_
        refine j_nil (by kernel_rfl) ?_
        refine g_then ?_
        refine g_ret ?_
        exact g_end trivial (fun a w ha hq_ => res2 ha rfl rfl rfl  w) (fun w h => ⟨bc8, rfl, h.hand (List.Sublist.cons_cons _ (List.nil_sublist _))⟩)
      · skip
        refine i_tr (i := 7) rfl (t_alloc zero_32 rfl) rfl rfl rfl rfl (.inr (fun x w hb h => (((h.tail hb.2).tail hbs.2).tail hbl.2))) (fun bm hbm => ?_)
        refine j_tr (i := 5) rfl (t_callm (A := New _ _) rfl rfl ent_64 (fun w h => (spectrum_any w n (qOf n) (wOf n) v' ys hn hn2 (by omega) (by omega) (by omega) (by omega) (hv'.below h.below) hyl hy).mono fun e w' ⟨b, h1, h2⟩ => ⟨b, ⟨Nat.le_trans h.below.size (h2.ge _ (List.mem_cons_self ..)), Nat.le_trans h.size (h2.ge _ (List.mem_cons_self ..))⟩, h1, h2⟩)) (by kernel_rfl) rfl rfl rfl rfl (.inr (fun x w hb h => ((((h.tail hb.2).tail hbm.2).tail hbs.2).tail hbl.2))) (fun bt hbt => ?_)
        refine j_tr0 (i := 8) rfl (t_store 3 rfl rfl rfl rfl size_32 rfl rfl) (by kernel_rfl) rfl rfl rfl (.inr (fun x w hb h => ((((h.tail hbt.2).tail hbm.2).tail hbs.2).tail hbl.2))) (fun _ _ => ?_)
        refine j_tr0 (i := 9) rfl (t_store 1 rfl rfl rfl rfl size_32 rfl rfl) (by kernel_rfl) rfl rfl rfl (.inr (fun x w hb h => ((((h.tail hbt.2).tail hbm.2).tail hbs.2).tail hbl.2))) (fun _ _ => ?_)
        refine j_nil (by kernel_rfl) ?_
        refine g_then ?_
        refine g_seq ?_
        refine g_seq ?_
        refine g_region ?_
        refine s_y (y_ld1 1 rfl rfl agg_32 rfl) rfl rfl rfl rfl ?_
        refine s_tr (t_call rfl rfl ent_56 (fun w h => Contains_f w _ (turnL (qOf n) (wOf n) n ys) 0 (RdV.own (jk := []) (at_of (i := 0) h rfl) (turnL_len ..).symm (Nat.le_refl _)) (by rw [turnL_len]; omega) h0)) rfl rfl rfl rfl (fun _ _ => ?_)
        refine s_nil ?_
        refine g_then ?_
        refine g_cond_f rfl ?_
        refine g_skip ?_
        refine g_then ?_
        refine g_seq ?_
        refine g_draw 7 (by kernel_rfl) ?_
        refine j_l (i := 0) rfl (y_ldn 4 rfl rfl agg_56 size_56 rfl rfl) (by kernel_rfl) (by kernel_rfl) (by kernel_rfl) (by kernel_rfl) rfl rfl rfl rfl rfl (.inr (fun _ h => h)) ?_
        refine j_l (i := 1) rfl (y_ldn 4 rfl rfl agg_56 size_56 rfl rfl) (by kernel_rfl) (by kernel_rfl) (by kernel_rfl) (by kernel_rfl) rfl rfl rfl rfl rfl (.inr (fun _ h => h)) ?_
        refine j_p (i := 2) rfl (y_func rfl rfl) (by kernel_rfl) (by kernel_rfl) (by kernel_rfl) rfl rfl rfl rfl rfl (.inr (fun _ h => h)) ?_
        refine j_tr (i := 3) rfl (t_callm (A := New _ _) rfl rfl ent_61 (fun w h => (wheel_any w n (qOf n) (wOf n) 71 [.pointer (some ⟨bl, 0, none⟩), .pointer (some ⟨bf, 0, none⟩), .pointer (some ⟨bm, 0, none⟩)] (fun k : Nat => rdI (turnL (qOf n) (wOf n) n xs) (k : Int) * pw (qOf n) (rdI (turnL (qOf n) (wOf n) n ys) (k : Int)) (qOf n - 2).toNat) (by omega) (by omega) (by omega) (fun k hk => by have hxj := at_range turnL_len (turnL_range' hn hn2 (wOf n) xs) (i := (k : Int)) (by omega) (by omega); have hyj := at_range turnL_len (turnL_range' hn hn2 (wOf n) ys) (i := (k : Int)) (by omega) (by omega); have hp := pw_range (x := rdI (turnL (qOf n) (wOf n) n ys) (k : Int)) (show 2 ≤ qOf n by omega) (qOf n - 2).toNat; have hm := mul_small (a := rdI (turnL (qOf n) (wOf n) n xs) (k : Int)) (b := pw (qOf n) (rdI (turnL (qOf n) (wOf n) n ys) (k : Int)) (qOf n - 2).toNat) (by omega) (by omega) (by omega) (by omega); omega) ent_71 (fun k W hk hb => Divide1_any W k n bl bf bm _ _ (turnL (qOf n) (wOf n) n xs) (turnL (qOf n) (wOf n) n ys) hn hn2 (turnL_ok hn hn2) (turnL_ok hn hn2) hk (RdV.below (RdV.own (jk := []) (at_of (i := 2) h rfl) (turnL_len ..).symm (Nat.le_refl _)) hb) (RdV.below (RdV.own (jk := []) (at_of (i := 0) h rfl) (turnL_len ..).symm (Nat.le_refl _)) hb) (below_at hb (at_of (i := 3) h rfl)) (below_at hb (at_of (i := 4) h rfl)) (below_at hb (at_of (i := 1) h rfl)))).mono fun e w' ⟨b, h1, h2⟩ => ⟨b, ⟨Nat.le_trans h.below.size (h2.ge _ (List.mem_cons_self ..)), Nat.le_trans h.size (h2.ge _ (List.mem_cons_self ..))⟩, h1, h2⟩)) (by kernel_rfl) rfl rfl rfl rfl (.inr (fun x w hb h => (h.tail hb.2))) (fun bq hbq => ?_)
        refine j_tr (i := 4) rfl (t_callm (A := New _ _) rfl rfl ent_65 (fun w h => (back_any w n (qOf n) (wOf n) _ (quoL (qOf n) (wOf n) n xs ys) hn hn2 (by omega) (by omega) (by omega) (by omega) (RdV.own (jk := []) (at_of (i := 0) h rfl) quoL_len.symm (Nat.le_refl n)) quoL_len (okW_true.1 (quoL_ok hn hn2)).2).mono fun e w' ⟨b, h1, h2⟩ => ⟨b, ⟨Nat.le_trans h.below.size (h2.ge _ (List.mem_cons_self ..)), Nat.le_trans h.size (h2.ge _ (List.mem_cons_self ..))⟩, h1, h2⟩)) (by kernel_rfl) rfl rfl rfl rfl (.inr (fun x w hb h => ((h.tail hb.2).tail hbq.2))) (fun bc9 hbc9 => ?_)
        refine j_p (i := 5) rfl (y_assign rfl) (by kernel_rfl) (by kernel_rfl) (by kernel_rfl) rfl rfl rfl rfl rfl (.inr (fun _ h => ((h.tail hbc9.2).tail hbq.2))) ?_
        refine j_p (i := 6) rfl (y_assign rfl) (by kernel_rfl) (by kernel_rfl) (by kernel_rfl) rfl rfl rfl rfl rfl (.inr (fun _ h => ((h.tail hbc9.2).tail hbq.2))) ?_
        refine j_nil (by kernel_rfl) ?_
        refine g_then ?_
        refine g_ret ?_
        exact g_end trivial (fun a w ha hq_ => res2 ha rfl rfl rfl  w) (fun w h => ⟨bc9, rfl, h.hand (List.Sublist.cons_cons _ (List.nil_sublist _))⟩)
    · skip
      refine i_tr (i := 7) rfl (t_alloc zero_32 rfl) rfl rfl rfl rfl (.inr (fun x w hb h => ((h.tail hb.2).tail hbl.2))) (fun bm hbm => ?_)
      refine j_tr (i := 2) rfl (t_callm (A := New _ _) rfl rfl ent_64 (fun w h => (spectrum_any w n (qOf n) (wOf n) v xs hn hn2 (by omega) (by omega) (by omega) (by omega) (hv.below h.below) hxl hx).mono fun e w' ⟨b, h1, h2⟩ => ⟨b, ⟨Nat.le_trans h.below.size (h2.ge _ (List.mem_cons_self ..)), Nat.le_trans h.size (h2.ge _ (List.mem_cons_self ..))⟩, h1, h2⟩)) (by kernel_rfl) rfl rfl rfl rfl (.inr (fun x w hb h => (((h.tail hb.2).tail hbm.2).tail hbl.2))) (fun bs hbs => ?_)
      refine j_tr (i := 5) rfl (t_callm (A := New _ _) rfl rfl ent_64 (fun w h => (spectrum_any w n (qOf n) (wOf n) v' ys hn hn2 (by omega) (by omega) (by omega) (by omega) (hv'.below h.below) hyl hy).mono fun e w' ⟨b, h1, h2⟩ => ⟨b, ⟨Nat.le_trans h.below.size (h2.ge _ (List.mem_cons_self ..)), Nat.le_trans h.size (h2.ge _ (List.mem_cons_self ..))⟩, h1, h2⟩)) (by kernel_rfl) rfl rfl rfl rfl (.inr (fun x w hb h => ((((h.tail hb.2).tail hbs.2).tail hbm.2).tail hbl.2))) (fun bt hbt => ?_)
      refine j_tr0 (i := 8) rfl (t_store 3 rfl rfl rfl rfl size_32 rfl rfl) (by kernel_rfl) rfl rfl rfl (.inr (fun x w hb h => ((((h.tail hbt.2).tail hbs.2).tail hbm.2).tail hbl.2))) (fun _ _ => ?_)
      refine j_tr0 (i := 9) rfl (t_store 2 rfl rfl rfl rfl size_32 rfl rfl) (by kernel_rfl) rfl rfl rfl (.inr (fun x w hb h => ((((h.tail hbt.2).tail hbs.2).tail hbm.2).tail hbl.2))) (fun _ _ => ?_)
      refine j_nil (by kernel_rfl) ?_
      refine g_then ?_
      refine g_seq ?_
      refine g_seq ?_
      refine g_region ?_
      refine s_y (y_ld1 2 rfl rfl agg_32 rfl) rfl rfl rfl rfl ?_
      refine s_tr (t_call rfl rfl ent_56 (fun w h => Contains_f w _ (turnL (qOf n) (wOf n) n ys) 0 (RdV.own (jk := []) (at_of (i := 0) h rfl) (turnL_len ..).symm (Nat.le_refl _)) (by rw [turnL_len]; omega) h0)) rfl rfl rfl rfl (fun _ _ => ?_)
      refine s_nil ?_
      refine g_then ?_
      refine g_cond_f rfl ?_
      refine g_skip ?_
      refine g_then ?_
      refine g_seq ?_
      refine g_draw 7 (by kernel_rfl) ?_
      refine j_l (i := 0) rfl (y_ldn 4 rfl rfl agg_56 size_56 rfl rfl) (by kernel_rfl) (by kernel_rfl) (by kernel_rfl) (by kernel_rfl) rfl rfl rfl rfl rfl (.inr (fun _ h => h)) ?_
      refine j_l (i := 1) rfl (y_ldn 4 rfl rfl agg_56 size_56 rfl rfl) (by kernel_rfl) (by kernel_rfl) (by kernel_rfl) (by kernel_rfl) rfl rfl rfl rfl rfl (.inr (fun _ h => h)) ?_
      refine j_p (i := 2) rfl (y_func rfl rfl) (by kernel_rfl) (by kernel_rfl) (by kernel_rfl) rfl rfl rfl rfl rfl (.inr (fun _ h => h)) ?_
      refine j_tr (i := 3) rfl (t_callm (A := New _ _) rfl rfl ent_61 (fun w h => (wheel_any w n (qOf n) (wOf n) 71 [.pointer (some ⟨bl, 0, none⟩), .pointer (some ⟨bf, 0, none⟩), .pointer (some ⟨bm, 0, none⟩)] (fun k : Nat => rdI (turnL (qOf n) (wOf n) n xs) (k : Int) * pw (qOf n) (rdI (turnL (qOf n) (wOf n) n ys) (k : Int)) (qOf n - 2).toNat) (by omega) (by omega) (by omega) (fun k hk => by have hxj := at_range turnL_len (turnL_range' hn hn2 (wOf n) xs) (i := (k : Int)) (by omega) (by omega); have hyj := at_range turnL_len (turnL_range' hn hn2 (wOf n) ys) (i := (k : Int)) (by omega) (by omega); have hp := pw_range (x := rdI (turnL (qOf n) (wOf n) n ys) (k : Int)) (show 2 ≤ qOf n by omega) (qOf n - 2).toNat; have hm := mul_small (a := rdI (turnL (qOf n) (wOf n) n xs) (k : Int)) (b := pw (qOf n) (rdI (turnL (qOf n) (wOf n) n ys) (k : Int)) (qOf n - 2).toNat) (by omega) (by omega) (by omega) (by omega); omega) ent_71 (fun k W hk hb => Divide1_any W k n bl bf bm _ _ (turnL (qOf n) (wOf n) n xs) (turnL (qOf n) (wOf n) n ys) hn hn2 (turnL_ok hn hn2) (turnL_ok hn hn2) hk (RdV.below (RdV.own (jk := []) (at_of (i := 1) h rfl) (turnL_len ..).symm (Nat.le_refl _)) hb) (RdV.below (RdV.own (jk := []) (at_of (i := 0) h rfl) (turnL_len ..).symm (Nat.le_refl _)) hb) (below_at hb (at_of (i := 3) h rfl)) (below_at hb (at_of (i := 4) h rfl)) (below_at hb (at_of (i := 2) h rfl)))).mono fun e w' ⟨b, h1, h2⟩ => ⟨b, ⟨Nat.le_trans h.below.size (h2.ge _ (List.mem_cons_self ..)), Nat.le_trans h.size (h2.ge _ (List.mem_cons_self ..))⟩, h1, h2⟩)) (by kernel_rfl) rfl rfl rfl rfl (.inr (fun x w hb h => (h.tail hb.2))) (fun bq hbq => ?_)
      refine j_tr (i := 4) rfl (t_callm (A := New _ _) rfl rfl ent_65 (fun w h => (back_any w n (qOf n) (wOf n) _ (quoL (qOf n) (wOf n) n xs ys) hn hn2 (by omega) (by omega) (by omega) (by omega) (RdV.own (jk := []) (at_of (i := 0) h rfl) quoL_len.symm (Nat.le_refl n)) quoL_len (okW_true.1 (quoL_ok hn hn2)).2).mono fun e w' ⟨b, h1, h2⟩ => ⟨b, ⟨Nat.le_trans h.below.size (h2.ge _ (List.mem_cons_self ..)), Nat.le_trans h.size (h2.ge _ (List.mem_cons_self ..))⟩, h1, h2⟩)) (by kernel_rfl) rfl rfl rfl rfl (.inr (fun x w hb h => ((h.tail hb.2).tail hbq.2))) (fun bc10 hbc10 => ?_)
      refine j_p (i := 5) rfl (y_assign rfl) (by kernel_rfl) (by kernel_rfl) (by kernel_rfl) rfl rfl rfl rfl rfl (.inr (fun _ h => ((h.tail hbc10.2).tail hbq.2))) ?_
      refine j_p (i := 6) rfl (y_assign rfl) (by kernel_rfl) (by kernel_rfl) (by kernel_rfl) rfl rfl rfl rfl rfl (.inr (fun _ h => ((h.tail hbc10.2).tail hbq.2))) ?_
      refine j_nil (by kernel_rfl) ?_
      refine g_then ?_
      refine g_ret ?_
      exact g_end trivial (fun a w ha hq_ => res2 ha rfl rfl rfl  w) (fun w h => ⟨bc10, rfl, h.hand (List.Sublist.cons_cons _ (List.nil_sublist _))⟩)
  · skip
    refine i_tr (i := 7) rfl (t_alloc zero_32 rfl) rfl rfl rfl rfl (.inr (fun x w hb h => (h.tail hb.2))) (fun bm hbm => ?_)
    refine j_two 2 6 (by kernel_rfl) ?_ ?_
    · skip
      refine i_tr (i := 2) rfl (t_callm (A := New _ _) rfl rfl ent_64 (fun w h => (spectrum_any w n (qOf n) (wOf n) v xs hn hn2 (by omega) (by omega) (by omega) (by omega) (hv.below h.below) hxl hx).mono fun e w' ⟨b, h1, h2⟩ => ⟨b, ⟨Nat.le_trans h.below.size (h2.ge _ (List.mem_cons_self ..)), Nat.le_trans h.size (h2.ge _ (List.mem_cons_self ..))⟩, h1, h2⟩)) rfl rfl rfl rfl (.inr (fun x w hb h => ((h.tail hb.2).tail hbm.2))) (fun bs hbs => ?_)
      refine j_two 5 6 (by kernel_rfl) ?_ ?_
      · skip
        refine i_tr (i := 5) rfl (t_callm (A := New _ _) rfl rfl ent_64 (fun w h => (spectrum_any w n (qOf n) (wOf n) v' ys hn hn2 (by omega) (by omega) (by omega) (by omega) (hv'.below h.below) hyl hy).mono fun e w' ⟨b, h1, h2⟩ => ⟨b, ⟨Nat.le_trans h.below.size (h2.ge _ (List.mem_cons_self ..)), Nat.le_trans h.size (h2.ge _ (List.mem_cons_self ..))⟩, h1, h2⟩)) rfl rfl rfl rfl (.inr (fun x w hb h => (((h.tail hb.2).tail hbs.2).tail hbm.2))) (fun bt hbt => ?_)
        refine j_tr (i := 6) rfl (t_alloc zero_32 rfl) (by kernel_rfl) rfl rfl rfl rfl (.inr (fun x w hb h => ((((h.tail hb.2).tail hbt.2).tail hbs.2).tail hbm.2))) (fun bl hbl => ?_)
        refine j_tr0 (i := 8) rfl (t_store 0 rfl rfl rfl rfl size_32 rfl rfl) (by kernel_rfl) rfl rfl rfl (.inr (fun x w hb h => ((((h.tail hbl.2).tail hbt.2).tail hbs.2).tail hbm.2))) (fun _ _ => ?_)
        refine j_tr0 (i := 9) rfl (t_store 3 rfl rfl rfl rfl size_32 rfl rfl) (by kernel_rfl) rfl rfl rfl (.inr (fun x w hb h => ((((h.tail hbl.2).tail hbt.2).tail hbs.2).tail hbm.2))) (fun _ _ => ?_)
        refine j_nil (by kernel_rfl) ?_
        refine g_then ?_
        refine g_seq ?_
        refine g_seq ?_
        refine g_region ?_
        refine s_y (y_ld1 3 rfl rfl agg_32 rfl) rfl rfl rfl rfl ?_
        refine s_tr (t_call rfl rfl ent_56 (fun w h => Contains_f w _ (turnL (qOf n) (wOf n) n ys) 0 (RdV.own (jk := []) (at_of (i := 1) h rfl) (turnL_len ..).symm (Nat.le_refl _)) (by rw [turnL_len]; omega) h0)) rfl rfl rfl rfl (fun _ _ => ?_)
        refine s_nil ?_
        refine g_then ?_
        refine g_cond_f rfl ?_
        refine g_skip ?_
        refine g_then ?_
        refine g_seq ?_
        refine g_draw 7 (by kernel_rfl) ?_
        refine j_l (i := 0) rfl (y_ldn 4 rfl rfl agg_56 size_56 rfl rfl) (by kernel_rfl) (by kernel_rfl) (by kernel_rfl) (by kernel_rfl) rfl rfl rfl rfl rfl (.inr (fun _ h => h)) ?_
        refine j_l (i := 1) rfl (y_ldn 4 rfl rfl agg_56 size_56 rfl rfl) (by kernel_rfl) (by kernel_rfl) (by kernel_rfl) (by kernel_rfl) rfl rfl rfl rfl rfl (.inr (fun _ h => h)) ?_
        refine j_p (i := 2) rfl (y_func rfl rfl) (by kernel_rfl) (by kernel_rfl) (by kernel_rfl) rfl rfl rfl rfl rfl (.inr (fun _ h => h)) ?_
        refine j_tr (i := 3) rfl (t_callm (A := New _ _) rfl rfl ent_61 (fun w h => (wheel_any w n (qOf n) (wOf n) 71 [.pointer (some ⟨bl, 0, none⟩), .pointer (some ⟨bf, 0, none⟩), .pointer (some ⟨bm, 0, none⟩)] (fun k : Nat => rdI (turnL (qOf n) (wOf n) n xs) (k : Int) * pw (qOf n) (rdI (turnL (qOf n) (wOf n) n ys) (k : Int)) (qOf n - 2).toNat) (by omega) (by omega) (by omega) (fun k hk => by have hxj := at_range turnL_len (turnL_range' hn hn2 (wOf n) xs) (i := (k : Int)) (by omega) (by omega); have hyj := at_range turnL_len (turnL_range' hn hn2 (wOf n) ys) (i := (k : Int)) (by omega) (by omega); have hp := pw_range (x := rdI (turnL (qOf n) (wOf n) n ys) (k : Int)) (show 2 ≤ qOf n by omega) (qOf n - 2).toNat; have hm := mul_small (a := rdI (turnL (qOf n) (wOf n) n xs) (k : Int)) (b := pw (qOf n) (rdI (turnL (qOf n) (wOf n) n ys) (k : Int)) (qOf n - 2).toNat) (by omega) (by omega) (by omega) (by omega); omega) ent_71 (fun k W hk hb => Divide1_any W k n bl bf bm _ _ (turnL (qOf n) (wOf n) n xs) (turnL (qOf n) (wOf n) n ys) hn hn2 (turnL_ok hn hn2) (turnL_ok hn hn2) hk (RdV.below (RdV.own (jk := []) (at_of (i := 2) h rfl) (turnL_len ..).symm (Nat.le_refl _)) hb) (RdV.below (RdV.own (jk := []) (at_of (i := 1) h rfl) (turnL_len ..).symm (Nat.le_refl _)) hb) (below_at hb (at_of (i := 0) h rfl)) (below_at hb (at_of (i := 4) h rfl)) (below_at hb (at_of (i := 3) h rfl)))).mono fun e w' ⟨b, h1, h2⟩ => ⟨b, ⟨Nat.le_trans h.below.size (h2.ge _ (List.mem_cons_self ..)), Nat.le_trans h.size (h2.ge _ (List.mem_cons_self ..))⟩, h1, h2⟩)) (by kernel_rfl) rfl rfl rfl rfl (.inr (fun x w hb h => (h.tail hb.2))) (fun bq hbq => ?_)
        refine j_tr (i := 4) rfl (t_callm (A := New _ _) rfl rfl ent_65 (fun w h => (back_any w n (qOf n) (wOf n) _ (quoL (qOf n) (wOf n) n xs ys) hn hn2 (by omega) (by omega) (by omega) (by omega) (RdV.own (jk := []) (at_of (i := 0) h rfl) quoL_len.symm (Nat.le_refl n)) quoL_len (okW_true.1 (quoL_ok hn hn2)).2).mono fun e w' ⟨b, h1, h2⟩ => ⟨b, ⟨Nat.le_trans h.below.size (h2.ge _ (List.mem_cons_self ..)), Nat.le_trans h.size (h2.ge _ (List.mem_cons_self ..))⟩, h1, h2⟩)) (by kernel_rfl) rfl rfl rfl rfl (.inr (fun x w hb h => ((h.tail hb.2).tail hbq.2))) (fun bc11 hbc11 => ?_)
        refine j_p (i := 5) rfl (y_assign rfl) (by kernel_rfl) (by kernel_rfl) (by kernel_rfl) rfl rfl rfl rfl rfl (.inr (fun _ h => ((h.tail hbc11.2).tail hbq.2))) ?_
        refine j_p (i := 6) rfl (y_assign rfl) (by kernel_rfl) (by kernel_rfl) (by kernel_rfl) rfl rfl rfl rfl rfl (.inr (fun _ h => ((h.tail hbc11.2).tail hbq.2))) ?_
        refine j_nil (by kernel_rfl) ?_
        refine g_then ?_
        refine g_ret ?_
        exact g_end trivial (fun a w ha hq_ => res2 ha rfl rfl rfl  w) (fun w h => ⟨bc11, rfl, h.hand (List.Sublist.cons_cons _ (List.nil_sublist _))⟩)
      · skip
        refine i_tr (i := 6) rfl (t_alloc zero_32 rfl) rfl rfl rfl rfl (.inr (fun x w hb h => (((h.tail hb.2).tail hbs.2).tail hbm.2))) (fun bl hbl => ?_)
        refine j_tr (i := 5) rfl (t_callm (A := New _ _) rfl rfl ent_64 (fun w h => (spectrum_any w n (qOf n) (wOf n) v' ys hn hn2 (by omega) (by omega) (by omega) (by omega) (hv'.below h.below) hyl hy).mono fun e w' ⟨b, h1, h2⟩ => ⟨b, ⟨Nat.le_trans h.below.size (h2.ge _ (List.mem_cons_self ..)), Nat.le_trans h.size (h2.ge _ (List.mem_cons_self ..))⟩, h1, h2⟩)) (by kernel_rfl) rfl rfl rfl rfl (.inr (fun x w hb h => ((((h.tail hb.2).tail hbl.2).tail hbs.2).tail hbm.2))) (fun bt hbt => ?_)
        refine j_tr0 (i := 8) rfl (t_store 1 rfl rfl rfl rfl size_32 rfl rfl) (by kernel_rfl) rfl rfl rfl (.inr (fun x w hb h => ((((h.tail hbt.2).tail hbl.2).tail hbs.2).tail hbm.2))) (fun _ _ => ?_)
        refine j_tr0 (i := 9) rfl (t_store 3 rfl rfl rfl rfl size_32 rfl rfl) (by kernel_rfl) rfl rfl rfl (.inr (fun x w hb h => ((((h.tail hbt.2).tail hbl.2).tail hbs.2).tail hbm.2))) (fun _ _ => ?_)
        refine j_nil (by kernel_rfl) ?_
        refine g_then ?_
        refine g_seq ?_
        refine g_seq ?_
        refine g_region ?_
        refine s_y (y_ld1 3 rfl rfl agg_32 rfl) rfl rfl rfl rfl ?_
        refine s_tr (t_call rfl rfl ent_56 (fun w h => Contains_f w _ (turnL (qOf n) (wOf n) n ys) 0 (RdV.own (jk := []) (at_of (i := 0) h rfl) (turnL_len ..).symm (Nat.le_refl _)) (by rw [turnL_len]; omega) h0)) rfl rfl rfl rfl (fun _ _ => ?_)
        refine s_nil ?_
        refine g_then ?_
        refine g_cond_f rfl ?_
        refine g_skip ?_
        refine g_then ?_
        refine g_seq ?_
        refine g_draw 7 (by kernel_rfl) ?_
        refine j_l (i := 0) rfl (y_ldn 4 rfl rfl agg_56 size_56 rfl rfl) (by kernel_rfl) (by kernel_rfl) (by kernel_rfl) (by kernel_rfl) rfl rfl rfl rfl rfl (.inr (fun _ h => h)) ?_
        refine j_l (i := 1) rfl (y_ldn 4 rfl rfl agg_56 size_56 rfl rfl) (by kernel_rfl) (by kernel_rfl) (by kernel_rfl) (by kernel_rfl) rfl rfl rfl rfl rfl (.inr (fun _ h => h)) ?_
        refine j_p (i := 2) rfl (y_func rfl rfl) (by kernel_rfl) (by kernel_rfl) (by kernel_rfl) rfl rfl rfl rfl rfl (.inr (fun _ h => h)) ?_
        refine j_tr (i := 3) rfl (t_callm (A := New _ _) rfl rfl ent_61 (fun w h => (wheel_any w n (qOf n) (wOf n) 71 [.pointer (some ⟨bl, 0, none⟩), .pointer (some ⟨bf, 0, none⟩), .pointer (some ⟨bm, 0, none⟩)] (fun k : Nat => rdI (turnL (qOf n) (wOf n) n xs) (k : Int) * pw (qOf n) (rdI (turnL (qOf n) (wOf n) n ys) (k : Int)) (qOf n - 2).toNat) (by omega) (by omega) (by omega) (fun k hk => by have hxj := at_range turnL_len (turnL_range' hn hn2 (wOf n) xs) (i := (k : Int)) (by omega) (by omega); have hyj := at_range turnL_len (turnL_range' hn hn2 (wOf n) ys) (i := (k : Int)) (by omega) (by omega); have hp := pw_range (x := rdI (turnL (qOf n) (wOf n) n ys) (k : Int)) (show 2 ≤ qOf n by omega) (qOf n - 2).toNat; have hm := mul_small (a := rdI (turnL (qOf n) (wOf n) n xs) (k : Int)) (b := pw (qOf n) (rdI (turnL (qOf n) (wOf n) n ys) (k : Int)) (qOf n - 2).toNat) (by omega) (by omega) (by omega) (by omega); omega) ent_71 (fun k W hk hb => Divide1_any W k n bl bf bm _ _ (turnL (qOf n) (wOf n) n xs) (turnL (qOf n) (wOf n) n ys) hn hn2 (turnL_ok hn hn2) (turnL_ok hn hn2) hk (RdV.below (RdV.own (jk := []) (at_of (i := 2) h rfl) (turnL_len ..).symm (Nat.le_refl _)) hb) (RdV.below (RdV.own (jk := []) (at_of (i := 0) h rfl) (turnL_len ..).symm (Nat.le_refl _)) hb) (below_at hb (at_of (i := 1) h rfl)) (below_at hb (at_of (i := 4) h rfl)) (below_at hb (at_of (i := 3) h rfl)))).mono fun e w' ⟨b, h1, h2⟩ => ⟨b, ⟨Nat.le_trans h.below.size (h2.ge _ (List.mem_cons_self ..)), Nat.le_trans h.size (h2.ge _ (List.mem_cons_self ..))⟩, h1, h2⟩)) (by kernel_rfl) rfl rfl rfl rfl (.inr (fun x w hb h => (h.tail hb.2))) (fun bq hbq => ?_)
        refine j_tr (i := 4) rfl (t_callm (A := New _ _) rfl rfl ent_65 (fun w h => (back_any w n (qOf n) (wOf n) _ (quoL (qOf n) (wOf n) n xs ys) hn hn2 (by omega) (by omega) (by omega) (by omega) (RdV.own (jk := []) (at_of (i := 0) h rfl) quoL_len.symm (Nat.le_refl n)) quoL_len (okW_true.1 (quoL_ok hn hn2)).2).mono fun e w' ⟨b, h1, h2⟩ => ⟨b, ⟨Nat.le_trans h.below.size (h2.ge _ (List.mem_cons_self ..)), Nat.le_trans h.size (h2.ge _ (List.mem_cons_self ..))⟩, h1, h2⟩)) (by kernel_rfl) rfl rfl rfl rfl (.inr (fun x w hb h => ((h.tail hb.2).tail hbq.2))) (fun bc12 hbc12 => ?_)
        refine j_p (i := 5) rfl (y_assign rfl) (by kernel_rfl) (by kernel_rfl) (by kernel_rfl) rfl rfl rfl rfl rfl (.inr (fun _ h => ((h.tail hbc12.2).tail hbq.2))) ?_
        refine j_p (i := 6) rfl (y_assign rfl) (by kernel_rfl) (by kernel_rfl) (by kernel_rfl) rfl rfl rfl rfl rfl (.inr (fun _ h => ((h.tail hbc12.2).tail hbq.2))) ?_
        refine j_nil (by kernel_rfl) ?_
        refine g_then ?_
        refine g_ret ?_
        exact g_end trivial (fun a w ha hq_ => res2 ha rfl rfl rfl  w) (fun w h => ⟨bc12, rfl, h.hand (List.Sublist.cons_cons _ (List.nil_sublist _))⟩)
    · skip
      refine i_tr (i := 6) rfl (t_alloc zero_32 rfl) rfl rfl rfl rfl (.inr (fun x w hb h => ((h.tail hb.2).tail hbm.2))) (fun bl hbl => ?_)
      refine j_tr (i := 2) rfl (t_callm (A := New _ _) rfl rfl ent_64 (fun w h => (spectrum_any w n (qOf n) (wOf n) v xs hn hn2 (by omega) (by omega) (by omega) (by omega) (hv.below h.below) hxl hx).mono fun e w' ⟨b, h1, h2⟩ => ⟨b, ⟨Nat.le_trans h.below.size (h2.ge _ (List.mem_cons_self ..)), Nat.le_trans h.size (h2.ge _ (List.mem_cons_self ..))⟩, h1, h2⟩)) (by kernel_rfl) rfl rfl rfl rfl (.inr (fun x w hb h => (((h.tail hb.2).tail hbl.2).tail hbm.2))) (fun bs hbs => ?_)
      refine j_tr (i := 5) rfl (t_callm (A := New _ _) rfl rfl ent_64 (fun w h => (spectrum_any w n (qOf n) (wOf n) v' ys hn hn2 (by omega) (by omega) (by omega) (by omega) (hv'.below h.below) hyl hy).mono fun e w' ⟨b, h1, h2⟩ => ⟨b, ⟨Nat.le_trans h.below.size (h2.ge _ (List.mem_cons_self ..)), Nat.le_trans h.size (h2.ge _ (List.mem_cons_self ..))⟩, h1, h2⟩)) (by kernel_rfl) rfl rfl rfl rfl (.inr (fun x w hb h => ((((h.tail hb.2).tail hbs.2).tail hbl.2).tail hbm.2))) (fun bt hbt => ?_)
      refine j_tr0 (i := 8) rfl (t_store 2 rfl rfl rfl rfl size_32 rfl rfl) (by kernel_rfl) rfl rfl rfl (.inr (fun x w hb h => ((((h.tail hbt.2).tail hbs.2).tail hbl.2).tail hbm.2))) (fun _ _ => ?_)
      refine j_tr0 (i := 9) rfl (t_store 3 rfl rfl rfl rfl size_32 rfl rfl) (by kernel_rfl) rfl rfl rfl (.inr (fun x w hb h => ((((h.tail hbt.2).tail hbs.2).tail hbl.2).tail hbm.2))) (fun _ _ => ?_)
      refine j_nil (by kernel_rfl) ?_
      refine g_then ?_
      refine g_seq ?_
      refine g_seq ?_
      refine g_region ?_
      refine s_y (y_ld1 3 rfl rfl agg_32 rfl) rfl rfl rfl rfl ?_
      refine s_tr (t_call rfl rfl ent_56 (fun w h => Contains_f w _ (turnL (qOf n) (wOf n) n ys) 0 (RdV.own (jk := []) (at_of (i := 0) h rfl) (turnL_len ..).symm (Nat.le_refl _)) (by rw [turnL_len]; omega) h0)) rfl rfl rfl rfl (fun _ _ => ?_)
      refine s_nil ?_
      refine g_then ?_
      refine g_cond_f rfl ?_
      refine g_skip ?_
      refine g_then ?_
      refine g_seq ?_
      refine g_draw 7 (by kernel_rfl) ?_
      refine j_l (i := 0) rfl (y_ldn 4 rfl rfl agg_56 size_56 rfl rfl) (by kernel_rfl) (by kernel_rfl) (by kernel_rfl) (by kernel_rfl) rfl rfl rfl rfl rfl (.inr (fun _ h => h)) ?_
      refine j_l (i := 1) rfl (y_ldn 4 rfl rfl agg_56 size_56 rfl rfl) (by kernel_rfl) (by kernel_rfl) (by kernel_rfl) (by kernel_rfl) rfl rfl rfl rfl rfl (.inr (fun _ h => h)) ?_
      refine j_p (i := 2) rfl (y_func rfl rfl) (by kernel_rfl) (by kernel_rfl) (by kernel_rfl) rfl rfl rfl rfl rfl (.inr (fun _ h => h)) ?_
      refine j_tr (i := 3) rfl (t_callm (A := New _ _) rfl rfl ent_61 (fun w h => (wheel_any w n (qOf n) (wOf n) 71 [.pointer (some ⟨bl, 0, none⟩), .pointer (some ⟨bf, 0, none⟩), .pointer (some ⟨bm, 0, none⟩)] (fun k : Nat => rdI (turnL (qOf n) (wOf n) n xs) (k : Int) * pw (qOf n) (rdI (turnL (qOf n) (wOf n) n ys) (k : Int)) (qOf n - 2).toNat) (by omega) (by omega) (by omega) (fun k hk => by have hxj := at_range turnL_len (turnL_range' hn hn2 (wOf n) xs) (i := (k : Int)) (by omega) (by omega); have hyj := at_range turnL_len (turnL_range' hn hn2 (wOf n) ys) (i := (k : Int)) (by omega) (by omega); have hp := pw_range (x := rdI (turnL (qOf n) (wOf n) n ys) (k : Int)) (show 2 ≤ qOf n by omega) (qOf n - 2).toNat; have hm := mul_small (a := rdI (turnL (qOf n) (wOf n) n xs) (k : Int)) (b := pw (qOf n) (rdI (turnL (qOf n) (wOf n) n ys) (k : Int)) (qOf n - 2).toNat) (by omega) (by omega) (by omega) (by omega); omega) ent_71 (fun k W hk hb => Divide1_any W k n bl bf bm _ _ (turnL (qOf n) (wOf n) n xs) (turnL (qOf n) (wOf n) n ys) hn hn2 (turnL_ok hn hn2) (turnL_ok hn hn2) hk (RdV.below (RdV.own (jk := []) (at_of (i := 1) h rfl) (turnL_len ..).symm (Nat.le_refl _)) hb) (RdV.below (RdV.own (jk := []) (at_of (i := 0) h rfl) (turnL_len ..).symm (Nat.le_refl _)) hb) (below_at hb (at_of (i := 2) h rfl)) (below_at hb (at_of (i := 4) h rfl)) (below_at hb (at_of (i := 3) h rfl)))).mono fun e w' ⟨b, h1, h2⟩ => ⟨b, ⟨Nat.le_trans h.below.size (h2.ge _ (List.mem_cons_self ..)), Nat.le_trans h.size (h2.ge _ (List.mem_cons_self ..))⟩, h1, h2⟩)) (by kernel_rfl) rfl rfl rfl rfl (.inr (fun x w hb h => (h.tail hb.2))) (fun bq hbq => ?_)
      refine j_tr (i := 4) rfl (t_callm (A := New _ _) rfl rfl ent_65 (fun w h => (back_any w n (qOf n) (wOf n) _ (quoL (qOf n) (wOf n) n xs ys) hn hn2 (by omega) (by omega) (by omega) (by omega) (RdV.own (jk := []) (at_of (i := 0) h rfl) quoL_len.symm (Nat.le_refl n)) quoL_len (okW_true.1 (quoL_ok hn hn2)).2).mono fun e w' ⟨b, h1, h2⟩ => ⟨b, ⟨Nat.le_trans h.below.size (h2.ge _ (List.mem_cons_self ..)), Nat.le_trans h.size (h2.ge _ (List.mem_cons_self ..))⟩, h1, h2⟩)) (by kernel_rfl) rfl rfl rfl rfl (.inr (fun x w hb h => ((h.tail hb.2).tail hbq.2))) (fun bc13 hbc13 => ?_)
      refine j_p (i := 5) rfl (y_assign rfl) (by kernel_rfl) (by kernel_rfl) (by kernel_rfl) rfl rfl rfl rfl rfl (.inr (fun _ h => ((h.tail hbc13.2).tail hbq.2))) ?_
      refine j_p (i := 6) rfl (y_assign rfl) (by kernel_rfl) (by kernel_rfl) (by kernel_rfl) rfl rfl rfl rfl rfl (.inr (fun _ h => ((h.tail hbc13.2).tail hbq.2))) ?_
      refine j_nil (by kernel_rfl) ?_
      refine g_then ?_
      refine g_ret ?_
      exact g_end trivial (fun a w ha hq_ => res2 ha rfl rfl rfl  w) (fun w h => ⟨bc13, rfl, h.hand (List.Sublist.cons_cons _ (List.nil_sublist _))⟩)

theorem Divide_state (w : World) (n : Nat) (v v' : Value) (xs ys : List Int) (hv : RdV (Value.int .i64) w v xs) (hv' : RdV (Value.int .i64) w v' ys) (hn : 2 ≤ n) (hn2 : n ≤ 16) (hok : okW n (qOf n) xs = true) (hok' : okW n (qOf n) ys = true) (h0 : (0 : Int) ∈ turnL (qOf n) (wOf n) n ys) :
    Calls Try.prog 47 [.int .i64 (n : Int), v, v'].toArray w fun e w' => e = .returned (.tuple #[.slice none 0 0, .int .i64 5]) ∧ Below w.heap.size w w' := by
  obtain ⟨hf1, hf2, hf3, hf4, hf5, hf6, hf7⟩ := q_facts hn hn2
  obtain ⟨hxl, hx⟩ := okW_true.1 hok
  obtain ⟨hyl, hy⟩ := okW_true.1 hok'
  obtain ⟨ie32, hi32⟩ := inf_32
  refine enter (N := 35) Try.func47 rfl rfl rfl ?_
  refine g_seq ?_
  refine g_region ?_
  refine s_y (y_assign rfl) rfl rfl rfl rfl ?_
  refine s_y (y_assign rfl) rfl rfl rfl rfl ?_
  refine s_nil ?_
  refine g_then ?_
  refine g_seq ?_
  refine g_region ?_
  refine s_y (y_move rfl) rfl rfl rfl rfl ?_
  refine s_y (y_move rfl) rfl rfl rfl rfl ?_
  refine s_y (y_move rfl) rfl rfl rfl rfl ?_
  refine s_tr (t_build (vs := [(0, v), (1, v')]) (cells := [v, v']) rfl rfl Try.underlying60 hi32.1 hi32.2.1 (by rw [hi32.2.2.1]; rfl) (by rw [hi32.2.2.1]; rfl) (by rw [hi32.2.2.1]; exact fill_two hv.cells1 hv'.cells1)) rfl rfl rfl rfl (fun b1 hb1 => ?_)
  refine s_tr (t_call rfl rfl ent_57 (fun w h => read_yes w n _ [v, v'] hn hn2 (RdV.own (enc := encV) (xs := [v, v']) (jk := []) (at_of (i := 0) h rfl) rfl (Nat.le_refl _)) (by simp) (by simp only [List.mem_cons, List.not_mem_nil, or_false, forall_eq_or_imp, forall_eq]; exact ⟨⟨xs, hv.below h.below, hok⟩, ⟨ys, hv'.below h.below, hok'⟩⟩))) rfl rfl rfl rfl (fun _ _ => ?_)
  refine s_y (y_move rfl) rfl rfl rfl rfl ?_
  refine s_y (y_extract rfl rfl) rfl rfl rfl rfl ?_
  refine s_y (y_extract rfl rfl) rfl rfl rfl rfl ?_
  refine s_tr (t_alloc zero_56 rfl) rfl rfl rfl rfl (fun bf hbf => ?_)
  refine s_tr0 (t_store 0 rfl rfl rfl rfl size_56 rfl rfl) rfl rfl rfl (fun _ _ => ?_)
  refine s_y (y_assign rfl) rfl rfl rfl rfl ?_
  refine s_nil ?_
  refine g_then ?_
  refine g_seq ?_
  refine g_seq ?_
  refine g_region ?_
  refine s_y (y_move rfl) rfl rfl rfl rfl ?_
  refine s_y (y_not_t rfl) rfl rfl rfl rfl ?_
  refine s_nil ?_
  refine g_then ?_
  refine g_cond_f rfl ?_
  refine g_skip ?_
  refine g_then ?_
  refine g_seq ?_
  refine g_draw 10 (by kernel_rfl) ?_
  refine j_l (i := 0) rfl (y_ldn 0 rfl rfl agg_56 size_56 rfl rfl) (by kernel_rfl) (by kernel_rfl) (by kernel_rfl) (by kernel_rfl) rfl rfl rfl rfl rfl (.inr (fun _ h => h)) ?_
  refine j_p (i := 1) rfl (y_move rfl) (by kernel_rfl) (by kernel_rfl) (by kernel_rfl) rfl rfl rfl rfl rfl (.inr (fun _ h => h)) ?_
  refine j_l (i := 3) rfl (y_ldn 0 rfl rfl agg_56 size_56 rfl rfl) (by kernel_rfl) (by kernel_rfl) (by kernel_rfl) (by kernel_rfl) rfl rfl rfl rfl rfl (.inr (fun _ h => h)) ?_
  refine j_p (i := 4) rfl (y_move rfl) (by kernel_rfl) (by kernel_rfl) (by kernel_rfl) rfl rfl rfl rfl rfl (.inr (fun _ h => h)) ?_
  refine j_three 2 6 7 (by kernel_rfl) ?_ ?_ ?_
  · skip
    refine i_tr (i := 2) rfl (t_callm (A := New _ _) rfl rfl ent_64 (fun w h => (spectrum_any w n (qOf n) (wOf n) v xs hn hn2 (by omega) (by omega) (by omega) (by omega) (hv.below h.below) hxl hx).mono fun e w' ⟨b, h1, h2⟩ => ⟨b, ⟨Nat.le_trans h.below.size (h2.ge _ (List.mem_cons_self ..)), Nat.le_trans h.size (h2.ge _ (List.mem_cons_self ..))⟩, h1, h2⟩)) rfl rfl rfl rfl (.inr (fun x w hb h => (h.tail hb.2))) (fun bs hbs => ?_)
    refine j_three 5 6 7 (by kernel_rfl) ?_ ?_ ?_
    · skip
      refine i_tr (i := 5) rfl (t_callm (A := New _ _) rfl rfl ent_64 (fun w h => (spectrum_any w n (qOf n) (wOf n) v' ys hn hn2 (by omega) (by omega) (by omega) (by omega) (hv'.below h.below) hyl hy).mono fun e w' ⟨b, h1, h2⟩ => ⟨b, ⟨Nat.le_trans h.below.size (h2.ge _ (List.mem_cons_self ..)), Nat.le_trans h.size (h2.ge _ (List.mem_cons_self ..))⟩, h1, h2⟩)) rfl rfl rfl rfl (.inr (fun x w hb h => ((h.tail hb.2).tail hbs.2))) (fun bt hbt => ?_)
      refine j_two 6 7 (by kernel_rfl) ?_ ?_
      · skip
        refine i_tr (i := 6) rfl (t_alloc zero_32 rfl) rfl rfl rfl rfl (.inr (fun x w hb h => (((h.tail hb.2).tail hbt.2).tail hbs.2))) (fun bl hbl => ?_)
        refine j_tr (i := 7) rfl (t_alloc zero_32 rfl) (by kernel_rfl) rfl rfl rfl rfl (.inr (fun x w hb h => ((((h.tail hb.2).tail hbl.2).tail hbt.2).tail hbs.2))) (fun bm hbm => ?_)
        refine j_tr0 (i := 8) rfl (t_store 1 rfl rfl rfl rfl size_32 rfl rfl) (by kernel_rfl) rfl rfl rfl (.inr (fun x w hb h => ((((h.tail hbm.2).tail hbl.2).tail hbt.2).tail hbs.2))) (fun _ _ => ?_)
        refine j_tr0 (i := 9) rfl (t_store 0 rfl rfl rfl rfl size_32 rfl rfl) (by kernel_rfl) rfl rfl rfl (.inr (fun x w hb h => ((((h.tail hbm.2).tail hbl.2).tail hbt.2).tail hbs.2))) (fun _ _ => ?_)
        refine j_nil (by kernel_rfl) ?_
        refine g_then ?_
        refine g_seq ?_
        refine g_seq ?_
        refine g_region ?_
        refine s_y (y_ld1 0 rfl rfl agg_32 rfl) rfl rfl rfl rfl ?_
        refine s_tr (t_call rfl rfl ent_56 (fun w h => Contains_t w _ (turnL (qOf n) (wOf n) n ys) 0 (RdV.own (jk := []) (at_of (i := 2) h rfl) (turnL_len ..).symm (Nat.le_refl _)) (by rw [turnL_len]; omega) h0)) rfl rfl rfl rfl (fun _ _ => ?_)
        refine s_nil ?_
        refine g_then ?_
        refine g_cond_t rfl ?_
        refine g_seq ?_
        refine g_region ?_
        refine s_y (y_assign rfl) rfl rfl rfl rfl ?_
        refine s_y (y_assign rfl) rfl rfl rfl rfl ?_
        refine s_nil ?_
        refine g_then ?_
        refine g_ret ?_
        refine g_thenr ?_
        exact g_end trivial (fun a w ha hq_ => res2 ha rfl rfl rfl  w) (fun w h => ⟨rfl, h.below⟩)
      · skip
        refine i_tr (i := 7) rfl (t_alloc zero_32 rfl) rfl rfl rfl rfl (.inr (fun x w hb h => (((h.tail hb.2).tail hbt.2).tail hbs.2))) (fun bm hbm => ?_)
        refine j_tr (i := 6) rfl (t_alloc zero_32 rfl) (by kernel_rfl) rfl rfl rfl rfl (.inr (fun x w hb h => ((((h.tail hb.2).tail hbm.2).tail hbt.2).tail hbs.2))) (fun bl hbl => ?_)
        refine j_tr0 (i := 8) rfl (t_store 0 rfl rfl rfl rfl size_32 rfl rfl) (by kernel_rfl) rfl rfl rfl (.inr (fun x w hb h => ((((h.tail hbl.2).tail hbm.2).tail hbt.2).tail hbs.2))) (fun _ _ => ?_)
        refine j_tr0 (i := 9) rfl (t_store 1 rfl rfl rfl rfl size_32 rfl rfl) (by kernel_rfl) rfl rfl rfl (.inr (fun x w hb h => ((((h.tail hbl.2).tail hbm.2).tail hbt.2).tail hbs.2))) (fun _ _ => ?_)
        refine j_nil (by kernel_rfl) ?_
        refine g_then ?_
        refine g_seq ?_
        refine g_seq ?_
        refine g_region ?_
        refine s_y (y_ld1 1 rfl rfl agg_32 rfl) rfl rfl rfl rfl ?_
        refine s_tr (t_call rfl rfl ent_56 (fun w h => Contains_t w _ (turnL (qOf n) (wOf n) n ys) 0 (RdV.own (jk := []) (at_of (i := 2) h rfl) (turnL_len ..).symm (Nat.le_refl _)) (by rw [turnL_len]; omega) h0)) rfl rfl rfl rfl (fun _ _ => ?_)
        refine s_nil ?_
        refine g_then ?_
        refine g_cond_t rfl ?_
        refine g_seq ?_
        refine g_region ?_
        refine s_y (y_assign rfl) rfl rfl rfl rfl ?_
        refine s_y (y_assign rfl) rfl rfl rfl rfl ?_
        refine s_nil ?_
        refine g_then ?_
        refine g_ret ?_
        refine g_thenr ?_
        exact g_end trivial (fun a w ha hq_ => res2 ha rfl rfl rfl  w) (fun w h => ⟨rfl, h.below⟩)
    · skip
      refine i_tr (i := 6) rfl (t_alloc zero_32 rfl) rfl rfl rfl rfl (.inr (fun x w hb h => ((h.tail hb.2).tail hbs.2))) (fun bl hbl => ?_)
      refine j_two 5 7 (by kernel_rfl) ?_ ?_
      · skip
        refine i_tr (i := 5) rfl (t_callm (A := New _ _) rfl rfl ent_64 (fun w h => (spectrum_any w n (qOf n) (wOf n) v' ys hn hn2 (by omega) (by omega) (by omega) (by omega) (hv'.below h.below) hyl hy).mono fun e w' ⟨b, h1, h2⟩ => ⟨b, ⟨Nat.le_trans h.below.size (h2.ge _ (List.mem_cons_self ..)), Nat.le_trans h.size (h2.ge _ (List.mem_cons_self ..))⟩, h1, h2⟩)) rfl rfl rfl rfl (.inr (fun x w hb h => (((h.tail hb.2).tail hbl.2).tail hbs.2))) (fun bt hbt => ?_)
        refine j_tr (i := 7) rfl (t_alloc zero_32 rfl) (by kernel_rfl) rfl rfl rfl rfl (.inr (fun x w hb h => ((((h.tail hb.2).tail hbt.2).tail hbl.2).tail hbs.2))) (fun bm hbm => ?_)
        refine j_tr0 (i := 8) rfl (t_store 2 rfl rfl rfl rfl size_32 rfl rfl) (by kernel_rfl) rfl rfl rfl (.inr (fun x w hb h => ((((h.tail hbm.2).tail hbt.2).tail hbl.2).tail hbs.2))) (fun _ _ => ?_)
        refine j_tr0 (i := 9) rfl (t_store 0 rfl rfl rfl rfl size_32 rfl rfl) (by kernel_rfl) rfl rfl rfl (.inr (fun x w hb h => ((((h.tail hbm.2).tail hbt.2).tail hbl.2).tail hbs.2))) (fun _ _ => ?_)
        refine j_nil (by kernel_rfl) ?_
        refine g_then ?_
        refine g_seq ?_
        refine g_seq ?_
        refine g_region ?_
        refine s_y (y_ld1 0 rfl rfl agg_32 rfl) rfl rfl rfl rfl ?_
        refine s_tr (t_call rfl rfl ent_56 (fun w h => Contains_t w _ (turnL (qOf n) (wOf n) n ys) 0 (RdV.own (jk := []) (at_of (i := 1) h rfl) (turnL_len ..).symm (Nat.le_refl _)) (by rw [turnL_len]; omega) h0)) rfl rfl rfl rfl (fun _ _ => ?_)
        refine s_nil ?_
        refine g_then ?_
        refine g_cond_t rfl ?_
        refine g_seq ?_
        refine g_region ?_
        refine s_y (y_assign rfl) rfl rfl rfl rfl ?_
        refine s_y (y_assign rfl) rfl rfl rfl rfl ?_
        refine s_nil ?_
        refine g_then ?_
        refine g_ret ?_
        refine g_thenr ?_
        exact g_end trivial (fun a w ha hq_ => res2 ha rfl rfl rfl  w) (fun w h => ⟨rfl, h.below⟩)
      · skip
        refine i_tr (i := 7) rfl (t_alloc zero_32 rfl) rfl rfl rfl rfl (.inr (fun x w hb h => (((h.tail hb.2).tail hbl.2).tail hbs.2))) (fun bm hbm => ?_)
        refine j_tr (i := 5) rfl (t_callm (A := New _ _) rfl rfl ent_64 (fun w h => (spectrum_any w n (qOf n) (wOf n) v' ys hn hn2 (by omega) (by omega) (by omega) (by omega) (hv'.below h.below) hyl hy).mono fun e w' ⟨b, h1, h2⟩ => ⟨b, ⟨Nat.le_trans h.below.size (h2.ge _ (List.mem_cons_self ..)), Nat.le_trans h.size (h2.ge _ (List.mem_cons_self ..))⟩, h1, h2⟩)) (by kernel_rfl) rfl rfl rfl rfl (.inr (fun x w hb h => ((((h.tail hb.2).tail hbm.2).tail hbl.2).tail hbs.2))) (fun bt hbt => ?_)
        refine j_tr0 (i := 8) rfl (t_store 2 rfl rfl rfl rfl size_32 rfl rfl) (by kernel_rfl) rfl rfl rfl (.inr (fun x w hb h => ((((h.tail hbt.2).tail hbm.2).tail hbl.2).tail hbs.2))) (fun _ _ => ?_)
        refine j_tr0 (i := 9) rfl (t_store 1 rfl rfl rfl rfl size_32 rfl rfl) (by kernel_rfl) rfl rfl rfl (.inr (fun x w hb h => ((((h.tail hbt.2).tail hbm.2).tail hbl.2).tail hbs.2))) (fun _ _ => ?_)
        refine j_nil (by kernel_rfl) ?_
        refine g_then ?_
        refine g_seq ?_
        refine g_seq ?_
        refine g_region ?_
        refine s_y (y_ld1 1 rfl rfl agg_32 rfl) rfl rfl rfl rfl ?_
        refine s_tr (t_call rfl rfl ent_56 (fun w h => Contains_t w _ (turnL (qOf n) (wOf n) n ys) 0 (RdV.own (jk := []) (at_of (i := 0) h rfl) (turnL_len ..).symm (Nat.le_refl _)) (by rw [turnL_len]; omega) h0)) rfl rfl rfl rfl (fun _ _ => ?_)
        refine s_nil ?_
        refine g_then ?_
        refine g_cond_t rfl ?_
        refine g_seq ?_
        refine g_region ?_
        refine s_y (y_assign rfl) rfl rfl rfl rfl ?_
        refine s_y (y_assign rfl) rfl rfl rfl rfl ?_
        refine s_nil ?_
        refine g_then ?_
        refine g_ret ?_
        refine g_thenr ?_
        exact g_end trivial (fun a w ha hq_ => res2 ha rfl rfl rfl  w) (fun w h => ⟨rfl, h.below⟩)
    · skip
      refine i_tr (i := 7) rfl (t_alloc zero_32 rfl) rfl rfl rfl rfl (.inr (fun x w hb h => ((h.tail hb.2).tail hbs.2))) (fun bm hbm => ?_)
      refine j_two 5 6 (by kernel_rfl) ?_ ?_
      · skip
        refine i_tr (i := 5) rfl (t_callm (A := New _ _) rfl rfl ent_64 (fun w h => (spectrum_any w n (qOf n) (wOf n) v' ys hn hn2 (by omega) (by omega) (by omega) (by omega) (hv'.below h.below) hyl hy).mono fun e w' ⟨b, h1, h2⟩ => ⟨b, ⟨Nat.le_trans h.below.size (h2.ge _ (List.mem_cons_self ..)), Nat.le_trans h.size (h2.ge _ (List.mem_cons_self ..))⟩, h1, h2⟩)) rfl rfl rfl rfl (.inr (fun x w hb h => (((h.tail hb.2).tail hbm.2).tail hbs.2))) (fun bt hbt => ?_)
        refine j_tr (i := 6) rfl (t_alloc zero_32 rfl) (by kernel_rfl) rfl rfl rfl rfl (.inr (fun x w hb h => ((((h.tail hb.2).tail hbt.2).tail hbm.2).tail hbs.2))) (fun bl hbl => ?_)
        refine j_tr0 (i := 8) rfl (t_store 0 rfl rfl rfl rfl size_32 rfl rfl) (by kernel_rfl) rfl rfl rfl (.inr (fun x w hb h => ((((h.tail hbl.2).tail hbt.2).tail hbm.2).tail hbs.2))) (fun _ _ => ?_)
        refine j_tr0 (i := 9) rfl (t_store 2 rfl rfl rfl rfl size_32 rfl rfl) (by kernel_rfl) rfl rfl rfl (.inr (fun x w hb h => ((((h.tail hbl.2).tail hbt.2).tail hbm.2).tail hbs.2))) (fun _ _ => ?_)
        refine j_nil (by kernel_rfl) ?_
        refine g_then ?_
        refine g_seq ?_
        refine g_seq ?_
        refine g_region ?_
        refine s_y (y_ld1 2 rfl rfl agg_32 rfl) rfl rfl rfl rfl ?_
        refine s_tr (t_call rfl rfl ent_56 (fun w h => Contains_t w _ (turnL (qOf n) (wOf n) n ys) 0 (RdV.own (jk := []) (at_of (i := 1) h rfl) (turnL_len ..).symm (Nat.le_refl _)) (by rw [turnL_len]; omega) h0)) rfl rfl rfl rfl (fun _ _ => ?_)
        refine s_nil ?_
        refine g_then ?_
        refine g_cond_t rfl ?_
        refine g_seq ?_
        refine g_region ?_
        refine s_y (y_assign rfl) rfl rfl rfl rfl ?_
        refine s_y (y_assign rfl) rfl rfl rfl rfl ?_
        refine s_nil ?_
        refine g_then ?_
        refine g_ret ?_
        refine g_thenr ?_
        exact g_end trivial (fun a w ha hq_ => res2 ha rfl rfl rfl  w) (fun w h => ⟨rfl, h.below⟩)
      · skip
        refine i_tr (i := 6) rfl (t_alloc zero_32 rfl) rfl rfl rfl rfl (.inr (fun x w hb h => (((h.tail hb.2).tail hbm.2).tail hbs.2))) (fun bl hbl => ?_)
        refine j_tr (i := 5) rfl (t_callm (A := New _ _) rfl rfl ent_64 (fun w h => (spectrum_any w n (qOf n) (wOf n) v' ys hn hn2 (by omega) (by omega) (by omega) (by omega) (hv'.below h.below) hyl hy).mono fun e w' ⟨b, h1, h2⟩ => ⟨b, ⟨Nat.le_trans h.below.size (h2.ge _ (List.mem_cons_self ..)), Nat.le_trans h.size (h2.ge _ (List.mem_cons_self ..))⟩, h1, h2⟩)) (by kernel_rfl) rfl rfl rfl rfl (.inr (fun x w hb h => ((((h.tail hb.2).tail hbl.2).tail hbm.2).tail hbs.2))) (fun bt hbt => ?_)
        refine j_tr0 (i := 8) rfl (t_store 1 rfl rfl rfl rfl size_32 rfl rfl) (by kernel_rfl) rfl rfl rfl (.inr (fun x w hb h => ((((h.tail hbt.2).tail hbl.2).tail hbm.2).tail hbs.2))) (fun _ _ => ?_)
        refine j_tr0 (i := 9) rfl (t_store 2 rfl rfl rfl rfl size_32 rfl rfl) (by kernel_rfl) rfl rfl rfl (.inr (fun x w hb h => ((((h.tail hbt.2).tail hbl.2).tail hbm.2).tail hbs.2))) (fun _ _ => ?_)
        refine j_nil (by kernel_rfl) ?_
        refine g_then ?_
        refine g_seq ?_
        refine g_seq ?_
        refine g_region ?_
        refine s_y (y_ld1 2 rfl rfl agg_32 rfl) rfl rfl rfl rfl ?_
        refine s_tr (t_call rfl rfl ent_56 (fun w h => Contains_t w _ (turnL (qOf n) (wOf n) n ys) 0 (RdV.own (jk := []) (at_of (i := 0) h rfl) (turnL_len ..).symm (Nat.le_refl _)) (by rw [turnL_len]; omega) h0)) rfl rfl rfl rfl (fun _ _ => ?_)
        refine s_nil ?_
        refine g_then ?_
        refine g_cond_t rfl ?_
        refine g_seq ?_
        refine g_region ?_
        refine s_y (y_assign rfl) rfl rfl rfl rfl ?_
        refine s_y (y_assign rfl) rfl rfl rfl rfl ?_
        refine s_nil ?_
        refine g_then ?_
        refine g_ret ?_
        refine g_thenr ?_
        exact g_end trivial (fun a w ha hq_ => res2 ha rfl rfl rfl  w) (fun w h => ⟨rfl, h.below⟩)
  · skip
    refine i_tr (i := 6) rfl (t_alloc zero_32 rfl) rfl rfl rfl rfl (.inr (fun x w hb h => (h.tail hb.2))) (fun bl hbl => ?_)
    refine j_two 2 7 (by kernel_rfl) ?_ ?_
    · skip
      refine i_tr (i := 2) rfl (t_callm (A := New _ _) rfl rfl ent_64 (fun w h => (spectrum_any w n (qOf n) (wOf n) v xs hn hn2 (by omega) (by omega) (by omega) (by omega) (hv.below h.below) hxl hx).mono fun e w' ⟨b, h1, h2⟩ => ⟨b, ⟨Nat.le_trans h.below.size (h2.ge _ (List.mem_cons_self ..)), Nat.le_trans h.size (h2.ge _ (List.mem_cons_self ..))⟩, h1, h2⟩)) rfl rfl rfl rfl (.inr (fun x w hb h => ((h.tail hb.2).tail hbl.2))) (fun bs hbs => ?_)
      refine j_two 5 7 (by kernel_rfl) ?_ ?_
      · skip
        refine i_tr (i := 5) rfl (t_callm (A := New _ _) rfl rfl ent_64 (fun w h => (spectrum_any w n (qOf n) (wOf n) v' ys hn hn2 (by omega) (by omega) (by omega) (by omega) (hv'.below h.below) hyl hy).mono fun e w' ⟨b, h1, h2⟩ => ⟨b, ⟨Nat.le_trans h.below.size (h2.ge _ (List.mem_cons_self ..)), Nat.le_trans h.size (h2.ge _ (List.mem_cons_self ..))⟩, h1, h2⟩)) rfl rfl rfl rfl (.inr (fun x w hb h => (((h.tail hb.2).tail hbs.2).tail hbl.2))) (fun bt hbt => ?_)
        refine j_tr (i := 7) rfl (t_alloc zero_32 rfl) (by kernel_rfl) rfl rfl rfl rfl (.inr (fun x w hb h => ((((h.tail hb.2).tail hbt.2).tail hbs.2).tail hbl.2))) (fun bm hbm => ?_)
        refine j_tr0 (i := 8) rfl (t_store 3 rfl rfl rfl rfl size_32 rfl rfl) (by kernel_rfl) rfl rfl rfl (.inr (fun x w hb h => ((((h.tail hbm.2).tail hbt.2).tail hbs.2).tail hbl.2))) (fun _ _ => ?_)
        refine j_tr0 (i := 9) rfl (t_store 0 rfl rfl rfl rfl size_32 rfl rfl) (by kernel_rfl) rfl rfl rfl (.inr (fun x w hb h => ((((h.tail hbm.2).tail hbt.2).tail hbs.2).tail hbl.2))) (fun _ _ => ?_)
        refine j_nil (by kernel_rfl) ?_
        refine g_then ?_
        refine g_seq ?_
        refine g_seq ?_
        refine g_region ?_
        refine s_y (y_ld1 0 rfl rfl agg_32 rfl) rfl rfl rfl rfl ?_
        refine s_tr (t_call rfl rfl ent_56 (fun w h => Contains_t w _ (turnL (qOf n) (wOf n) n ys) 0 (RdV.own (jk := []) (at_of (i := 1) h rfl) (turnL_len ..).symm (Nat.le_refl _)) (by rw [turnL_len]; omega) h0)) rfl rfl rfl rfl (fun _ _ => ?_)
        refine s_nil ?_
        refine g_then ?_
        refine g_cond_t rfl ?_
        refine g_seq ?_
        refine g_region ?_
        refine s_y (y_assign rfl) rfl rfl rfl rfl ?_
        refine s_y (y_assign rfl) rfl rfl rfl rfl ?_
        refine s_nil ?_
        refine g_then ?_
        refine g_ret ?_
        refine g_thenr ?_
        exact g_end trivial (fun a w ha hq_ => res2 ha rfl rfl rfl  w) (fun w h => ⟨rfl, h.below⟩)
      · skip
        refine i_tr (i := 7) rfl (t_alloc zero_32 rfl) rfl rfl rfl rfl (.inr (fun x w hb h => (((h.tail hb.2).tail hbs.2).tail hbl.2))) (fun bm hbm => ?_)
        refine j_tr (i := 5) rfl (t_callm (A := New _ _) rfl rfl ent_64 (fun w h => (spectrum_any w n (qOf n) (wOf n) v' ys hn hn2 (by omega) (by omega) (by omega) (by omega) (hv'.below h.below) hyl hy).mono fun e w' ⟨b, h1, h2⟩ => ⟨b, ⟨Nat.le_trans h.below.size (h2.ge _ (List.mem_cons_self ..)), Nat.le_trans h.size (h2.ge _ (List.mem_cons_self ..))⟩, h1, h2⟩)) (by kernel_rfl) rfl rfl rfl rfl (.inr (fun x w hb h => ((((h.tail hb.2).tail hbm.2).tail hbs.2).tail hbl.2))) (fun bt hbt => ?_)
        refine j_tr0 (i := 8) rfl (t_store 3 rfl rfl rfl rfl size_32 rfl rfl) (by kernel_rfl) rfl rfl rfl (.inr (fun x w hb h => ((((h.tail hbt.2).tail hbm.2).tail hbs.2).tail hbl.2))) (fun _ _ => ?_)
        refine j_tr0 (i := 9) rfl (t_store 1 rfl rfl rfl rfl size_32 rfl rfl) (by kernel_rfl) rfl rfl rfl (.inr (fun x w hb h => ((((h.tail hbt.2).tail hbm.2).tail hbs.2).tail hbl.2))) (fun _ _ => ?_)
        refine j_nil (by kernel_rfl) ?_
        refine g_then ?_
        refine g_seq ?_
        refine g_seq ?_
        refine g_region ?_
        refine s_y (y_ld1 1 rfl rfl agg_32 rfl) rfl rfl rfl rfl ?_
        refine s_tr (t_call rfl rfl ent_56 (fun w h => Contains_t w _ (turnL (qOf n) (wOf n) n ys) 0 (RdV.own (jk := []) (at_of (i := 0) h rfl) (turnL_len ..).symm (Nat.le_refl _)) (by rw [turnL_len]; omega) h0)) rfl rfl rfl rfl (fun _ _ => ?_)
        refine s_nil ?_
        refine g_then ?_
        refine g_cond_t rfl ?_
        refine g_seq ?_
        refine g_region ?_
        refine s_y (y_assign rfl) rfl rfl rfl rfl ?_
        refine s_y (y_assign rfl) rfl rfl rfl rfl ?_
        refine s_nil ?_
        refine g_then ?_
        refine g_ret ?_
        refine g_thenr ?_
        exact g_end trivial (fun a w ha hq_ => res2 ha rfl rfl rfl  w) (fun w h => ⟨rfl, h.below⟩)
    · skip
      refine i_tr (i := 7) rfl (t_alloc zero_32 rfl) rfl rfl rfl rfl (.inr (fun x w hb h => ((h.tail hb.2).tail hbl.2))) (fun bm hbm => ?_)
      refine j_tr (i := 2) rfl (t_callm (A := New _ _) rfl rfl ent_64 (fun w h => (spectrum_any w n (qOf n) (wOf n) v xs hn hn2 (by omega) (by omega) (by omega) (by omega) (hv.below h.below) hxl hx).mono fun e w' ⟨b, h1, h2⟩ => ⟨b, ⟨Nat.le_trans h.below.size (h2.ge _ (List.mem_cons_self ..)), Nat.le_trans h.size (h2.ge _ (List.mem_cons_self ..))⟩, h1, h2⟩)) (by kernel_rfl) rfl rfl rfl rfl (.inr (fun x w hb h => (((h.tail hb.2).tail hbm.2).tail hbl.2))) (fun bs hbs => ?_)
      refine j_tr (i := 5) rfl (t_callm (A := New _ _) rfl rfl ent_64 (fun w h => (spectrum_any w n (qOf n) (wOf n) v' ys hn hn2 (by omega) (by omega) (by omega) (by omega) (hv'.below h.below) hyl hy).mono fun e w' ⟨b, h1, h2⟩ => ⟨b, ⟨Nat.le_trans h.below.size (h2.ge _ (List.mem_cons_self ..)), Nat.le_trans h.size (h2.ge _ (List.mem_cons_self ..))⟩, h1, h2⟩)) (by kernel_rfl) rfl rfl rfl rfl (.inr (fun x w hb h => ((((h.tail hb.2).tail hbs.2).tail hbm.2).tail hbl.2))) (fun bt hbt => ?_)
      refine j_tr0 (i := 8) rfl (t_store 3 rfl rfl rfl rfl size_32 rfl rfl) (by kernel_rfl) rfl rfl rfl (.inr (fun x w hb h => ((((h.tail hbt.2).tail hbs.2).tail hbm.2).tail hbl.2))) (fun _ _ => ?_)
      refine j_tr0 (i := 9) rfl (t_store 2 rfl rfl rfl rfl size_32 rfl rfl) (by kernel_rfl) rfl rfl rfl (.inr (fun x w hb h => ((((h.tail hbt.2).tail hbs.2).tail hbm.2).tail hbl.2))) (fun _ _ => ?_)
      refine j_nil (by kernel_rfl) ?_
      refine g_then ?_
      refine g_seq ?_
      refine g_seq ?_
      refine g_region ?_
      refine s_y (y_ld1 2 rfl rfl agg_32 rfl) rfl rfl rfl rfl ?_
      refine s_tr (t_call rfl rfl ent_56 (fun w h => Contains_t w _ (turnL (qOf n) (wOf n) n ys) 0 (RdV.own (jk := []) (at_of (i := 0) h rfl) (turnL_len ..).symm (Nat.le_refl _)) (by rw [turnL_len]; omega) h0)) rfl rfl rfl rfl (fun _ _ => ?_)
      refine s_nil ?_
      refine g_then ?_
      refine g_cond_t rfl ?_
      refine g_seq ?_
      refine g_region ?_
      refine s_y (y_assign rfl) rfl rfl rfl rfl ?_
      refine s_y (y_assign rfl) rfl rfl rfl rfl ?_
      refine s_nil ?_
      refine g_then ?_
      refine g_ret ?_
      refine g_thenr ?_
      exact g_end trivial (fun a w ha hq_ => res2 ha rfl rfl rfl  w) (fun w h => ⟨rfl, h.below⟩)
  · skip
    refine i_tr (i := 7) rfl (t_alloc zero_32 rfl) rfl rfl rfl rfl (.inr (fun x w hb h => (h.tail hb.2))) (fun bm hbm => ?_)
    refine j_two 2 6 (by kernel_rfl) ?_ ?_
    · skip
      refine i_tr (i := 2) rfl (t_callm (A := New _ _) rfl rfl ent_64 (fun w h => (spectrum_any w n (qOf n) (wOf n) v xs hn hn2 (by omega) (by omega) (by omega) (by omega) (hv.below h.below) hxl hx).mono fun e w' ⟨b, h1, h2⟩ => ⟨b, ⟨Nat.le_trans h.below.size (h2.ge _ (List.mem_cons_self ..)), Nat.le_trans h.size (h2.ge _ (List.mem_cons_self ..))⟩, h1, h2⟩)) rfl rfl rfl rfl (.inr (fun x w hb h => ((h.tail hb.2).tail hbm.2))) (fun bs hbs => ?_)
      refine j_two 5 6 (by kernel_rfl) ?_ ?_
      · skip
        refine i_tr (i := 5) rfl (t_callm (A := New _ _) rfl rfl ent_64 (fun w h => (spectrum_any w n (qOf n) (wOf n) v' ys hn hn2 (by omega) (by omega) (by omega) (by omega) (hv'.below h.below) hyl hy).mono fun e w' ⟨b, h1, h2⟩ => ⟨b, ⟨Nat.le_trans h.below.size (h2.ge _ (List.mem_cons_self ..)), Nat.le_trans h.size (h2.ge _ (List.mem_cons_self ..))⟩, h1, h2⟩)) rfl rfl rfl rfl (.inr (fun x w hb h => (((h.tail hb.2).tail hbs.2).tail hbm.2))) (fun bt hbt => ?_)
        refine j_tr (i := 6) rfl (t_alloc zero_32 rfl) (by kernel_rfl) rfl rfl rfl rfl (.inr (fun x w hb h => ((((h.tail hb.2).tail hbt.2).tail hbs.2).tail hbm.2))) (fun bl hbl => ?_)
        refine j_tr0 (i := 8) rfl (t_store 0 rfl rfl rfl rfl size_32 rfl rfl) (by kernel_rfl) rfl rfl rfl (.inr (fun x w hb h => ((((h.tail hbl.2).tail hbt.2).tail hbs.2).tail hbm.2))) (fun _ _ => ?_)
        refine j_tr0 (i := 9) rfl (t_store 3 rfl rfl rfl rfl size_32 rfl rfl) (by kernel_rfl) rfl rfl rfl (.inr (fun x w hb h => ((((h.tail hbl.2).tail hbt.2).tail hbs.2).tail hbm.2))) (fun _ _ => ?_)
        refine j_nil (by kernel_rfl) ?_
        refine g_then ?_
        refine g_seq ?_
        refine g_seq ?_
        refine g_region ?_
        refine s_y (y_ld1 3 rfl rfl agg_32 rfl) rfl rfl rfl rfl ?_
        refine s_tr (t_call rfl rfl ent_56 (fun w h => Contains_t w _ (turnL (qOf n) (wOf n) n ys) 0 (RdV.own (jk := []) (at_of (i := 1) h rfl) (turnL_len ..).symm (Nat.le_refl _)) (by rw [turnL_len]; omega) h0)) rfl rfl rfl rfl (fun _ _ => ?_)
        refine s_nil ?_
        refine g_then ?_
        refine g_cond_t rfl ?_
        refine g_seq ?_
        refine g_region ?_
        refine s_y (y_assign rfl) rfl rfl rfl rfl ?_
        refine s_y (y_assign rfl) rfl rfl rfl rfl ?_
        refine s_nil ?_
        refine g_then ?_
        refine g_ret ?_
        refine g_thenr ?_
        exact g_end trivial (fun a w ha hq_ => res2 ha rfl rfl rfl  w) (fun w h => ⟨rfl, h.below⟩)
      · skip
        refine i_tr (i := 6) rfl (t_alloc zero_32 rfl) rfl rfl rfl rfl (.inr (fun x w hb h => (((h.tail hb.2).tail hbs.2).tail hbm.2))) (fun bl hbl => ?_)
        refine j_tr (i := 5) rfl (t_callm (A := New _ _) rfl rfl ent_64 (fun w h => (spectrum_any w n (qOf n) (wOf n) v' ys hn hn2 (by omega) (by omega) (by omega) (by omega) (hv'.below h.below) hyl hy).mono fun e w' ⟨b, h1, h2⟩ => ⟨b, ⟨Nat.le_trans h.below.size (h2.ge _ (List.mem_cons_self ..)), Nat.le_trans h.size (h2.ge _ (List.mem_cons_self ..))⟩, h1, h2⟩)) (by kernel_rfl) rfl rfl rfl rfl (.inr (fun x w hb h => ((((h.tail hb.2).tail hbl.2).tail hbs.2).tail hbm.2))) (fun bt hbt => ?_)
        refine j_tr0 (i := 8) rfl (t_store 1 rfl rfl rfl rfl size_32 rfl rfl) (by kernel_rfl) rfl rfl rfl (.inr (fun x w hb h => ((((h.tail hbt.2).tail hbl.2).tail hbs.2).tail hbm.2))) (fun _ _ => ?_)
        refine j_tr0 (i := 9) rfl (t_store 3 rfl rfl rfl rfl size_32 rfl rfl) (by kernel_rfl) rfl rfl rfl (.inr (fun x w hb h => ((((h.tail hbt.2).tail hbl.2).tail hbs.2).tail hbm.2))) (fun _ _ => ?_)
        refine j_nil (by kernel_rfl) ?_
        refine g_then ?_
        refine g_seq ?_
        refine g_seq ?_
        refine g_region ?_
        refine s_y (y_ld1 3 rfl rfl agg_32 rfl) rfl rfl rfl rfl ?_
        refine s_tr (t_call rfl rfl ent_56 (fun w h => Contains_t w _ (turnL (qOf n) (wOf n) n ys) 0 (RdV.own (jk := []) (at_of (i := 0) h rfl) (turnL_len ..).symm (Nat.le_refl _)) (by rw [turnL_len]; omega) h0)) rfl rfl rfl rfl (fun _ _ => ?_)
        refine s_nil ?_
        refine g_then ?_
        refine g_cond_t rfl ?_
        refine g_seq ?_
        refine g_region ?_
        refine s_y (y_assign rfl) rfl rfl rfl rfl ?_
        refine s_y (y_assign rfl) rfl rfl rfl rfl ?_
        refine s_nil ?_
        refine g_then ?_
        refine g_ret ?_
        refine g_thenr ?_
        exact g_end trivial (fun a w ha hq_ => res2 ha rfl rfl rfl  w) (fun w h => ⟨rfl, h.below⟩)
    · skip
      refine i_tr (i := 6) rfl (t_alloc zero_32 rfl) rfl rfl rfl rfl (.inr (fun x w hb h => ((h.tail hb.2).tail hbm.2))) (fun bl hbl => ?_)
      refine j_tr (i := 2) rfl (t_callm (A := New _ _) rfl rfl ent_64 (fun w h => (spectrum_any w n (qOf n) (wOf n) v xs hn hn2 (by omega) (by omega) (by omega) (by omega) (hv.below h.below) hxl hx).mono fun e w' ⟨b, h1, h2⟩ => ⟨b, ⟨Nat.le_trans h.below.size (h2.ge _ (List.mem_cons_self ..)), Nat.le_trans h.size (h2.ge _ (List.mem_cons_self ..))⟩, h1, h2⟩)) (by kernel_rfl) rfl rfl rfl rfl (.inr (fun x w hb h => (((h.tail hb.2).tail hbl.2).tail hbm.2))) (fun bs hbs => ?_)
      refine j_tr (i := 5) rfl (t_callm (A := New _ _) rfl rfl ent_64 (fun w h => (spectrum_any w n (qOf n) (wOf n) v' ys hn hn2 (by omega) (by omega) (by omega) (by omega) (hv'.below h.below) hyl hy).mono fun e w' ⟨b, h1, h2⟩ => ⟨b, ⟨Nat.le_trans h.below.size (h2.ge _ (List.mem_cons_self ..)), Nat.le_trans h.size (h2.ge _ (List.mem_cons_self ..))⟩, h1, h2⟩)) (by kernel_rfl) rfl rfl rfl rfl (.inr (fun x w hb h => ((((h.tail hb.2).tail hbs.2).tail hbl.2).tail hbm.2))) (fun bt hbt => ?_)
      refine j_tr0 (i := 8) rfl (t_store 2 rfl rfl rfl rfl size_32 rfl rfl) (by kernel_rfl) rfl rfl rfl (.inr (fun x w hb h => ((((h.tail hbt.2).tail hbs.2).tail hbl.2).tail hbm.2))) (fun _ _ => ?_)
      refine j_tr0 (i := 9) rfl (t_store 3 rfl rfl rfl rfl size_32 rfl rfl) (by kernel_rfl) rfl rfl rfl (.inr (fun x w hb h => ((((h.tail hbt.2).tail hbs.2).tail hbl.2).tail hbm.2))) (fun _ _ => ?_)
      refine j_nil (by kernel_rfl) ?_
      refine g_then ?_
      refine g_seq ?_
      refine g_seq ?_
      refine g_region ?_
      refine s_y (y_ld1 3 rfl rfl agg_32 rfl) rfl rfl rfl rfl ?_
      refine s_tr (t_call rfl rfl ent_56 (fun w h => Contains_t w _ (turnL (qOf n) (wOf n) n ys) 0 (RdV.own (jk := []) (at_of (i := 0) h rfl) (turnL_len ..).symm (Nat.le_refl _)) (by rw [turnL_len]; omega) h0)) rfl rfl rfl rfl (fun _ _ => ?_)
      refine s_nil ?_
      refine g_then ?_
      refine g_cond_t rfl ?_
      refine g_seq ?_
      refine g_region ?_
      refine s_y (y_assign rfl) rfl rfl rfl rfl ?_
      refine s_y (y_assign rfl) rfl rfl rfl rfl ?_
      refine s_nil ?_
      refine g_then ?_
      refine g_ret ?_
      refine g_thenr ?_
      exact g_end trivial (fun a w ha hq_ => res2 ha rfl rfl rfl  w) (fun w h => ⟨rfl, h.below⟩)

theorem Divide_no (w : World) (n : Int) (v v' : Value) (xs ys : List Int) (hv : RdV (Value.int .i64) w v xs) (hv' : RdV (Value.int .i64) w v' ys) (hno : ¬ (RIn n ∧ okI n xs = true ∧ okI n ys = true)) :
    Calls Try.prog 47 [.int .i64 n, v, v'].toArray w fun e w' => e = .returned (.tuple #[.slice none 0 0, .int .i64 2]) ∧ Below w.heap.size w w' := by
  obtain ⟨ie32, hi32⟩ := inf_32
  refine enter (N := 35) Try.func47 rfl rfl rfl ?_
  refine g_seq ?_
  refine g_region ?_
  refine s_y (y_assign rfl) rfl rfl rfl rfl ?_
  refine s_y (y_assign rfl) rfl rfl rfl rfl ?_
  refine s_nil ?_
  refine g_then ?_
  refine g_seq ?_
  refine g_region ?_
  refine s_y (y_move rfl) rfl rfl rfl rfl ?_
  refine s_y (y_move rfl) rfl rfl rfl rfl ?_
  refine s_y (y_move rfl) rfl rfl rfl rfl ?_
  refine s_tr (t_build (vs := [(0, v), (1, v')]) (cells := [v, v']) rfl rfl Try.underlying60 hi32.1 hi32.2.1 (by rw [hi32.2.2.1]; rfl) (by rw [hi32.2.2.1]; rfl) (by rw [hi32.2.2.1]; exact fill_two hv.cells1 hv'.cells1)) rfl rfl rfl rfl (fun b1 hb1 => ?_)
  refine s_tr (t_callm rfl rfl ent_57 (fun w h => read_no w n _ [v, v'] (RdV.own (enc := encV) (xs := [v, v']) (jk := []) (at_of (i := 0) h rfl) rfl (Nat.le_refl _)) (by simp) (by simp only [List.mem_cons, List.not_mem_nil, or_false, forall_eq_or_imp, forall_eq]; exact ⟨⟨xs, hv.below h.below⟩, ⟨ys, hv'.below h.below⟩⟩) (by intro hR; rcases Bool.eq_false_or_eq_true (okI n xs) with c | c; exact ⟨v', by simp, ys, hv'.below h.below, by cases c' : okI n ys; rfl; exact absurd ⟨hR, c, c'⟩ hno⟩; exact ⟨v, by simp, xs, hv.below h.below, c⟩))) rfl rfl rfl rfl (fun x2 _ => ?_)
  refine s_y (y_move rfl) rfl rfl rfl rfl ?_
  refine s_y (y_extract rfl rfl) rfl rfl rfl rfl ?_
  refine s_y (y_extract rfl rfl) rfl rfl rfl rfl ?_
  refine s_tr (t_alloc zero_56 rfl) rfl rfl rfl rfl (fun b3 hb3 => ?_)
  refine s_tr0 (t_store 0 rfl rfl rfl rfl size_56 rfl rfl) rfl rfl rfl (fun _ _ => ?_)
  refine s_y (y_assign rfl) rfl rfl rfl rfl ?_
  refine s_nil ?_
  refine g_then ?_
  refine g_seq ?_
  refine g_seq ?_
  refine g_region ?_
  refine s_y (y_move rfl) rfl rfl rfl rfl ?_
  refine s_y (y_not_f rfl) rfl rfl rfl rfl ?_
  refine s_nil ?_
  refine g_then ?_
  refine g_cond_t rfl ?_
  refine g_seq ?_
  refine g_region ?_
  refine s_y (y_assign rfl) rfl rfl rfl rfl ?_
  refine s_y (y_assign rfl) rfl rfl rfl rfl ?_
  refine s_nil ?_
  refine g_then ?_
  refine g_ret ?_
  refine g_thenr ?_
  exact g_end trivial (fun a w ha hq_ => res2 ha rfl rfl rfl  w) (fun w h => ⟨rfl, h.below⟩)

theorem list_le (w : World) (v : Value) (xs : List Int) (hv : RdV (Value.int .i64) w v xs) (hl : xs.length ≤ 19) : Calls Try.prog 27 [v].toArray w fun e w' => ∃ x : Value × List (Nat × Obj), (OwnV (Value.int .i64) x.1 xs x.2 ∧ ∃ W : World, ∀ p ∈ x.2, W.heap[p.1]? = some p.2) ∧ e = .returned (x.1) ∧ Hq w w x.2 w' := by
  have := list_any w v xs hv
  rwa [List.take_of_length_le hl] at this
theorem okI_take {n : Int} {xs : List Int} (h : ¬ (RIn n ∧ okI n xs = true)) : ¬ (RIn n ∧ okI n (xs.take 19) = true) := fun ⟨h1, h2⟩ => by
  have h3 := (okW_true.1 h2).1
  rw [List.length_take] at h3
  have h4 : xs.length ≤ 19 := by have := h1.2; omega
  rw [List.take_of_length_le h4] at h2
  exact h ⟨h1, h2⟩
theorem okI_take_iff {n : Int} {xs : List Int} (hn : RIn n) : okI n (xs.take 19) = okI n xs := by
  rcases Nat.le_total xs.length 19 with h | h
  · rw [List.take_of_length_le h]
  · rcases Nat.lt_or_ge 19 xs.length with h' | h'
    · have h1 := hn.1
      have h2 := hn.2
      unfold okI
      rw [okW_len (by rw [List.length_take]; omega), okW_len (by omega)]
    · rw [List.take_of_length_le h']

theorem RWheel_tI (w : World) (n : Int) (v : Value) (xs : List Int) (hv : RdV (Value.int .i64) w v xs) (h : RIn n ∧ okI n xs = true) : Calls Try.prog 29 [.int .i64 n, v].toArray w fun e w' => e = .returned (.bool true) ∧ Below w.heap.size w w' := by
  obtain ⟨m, rfl⟩ := Int.eq_ofNat_of_zero_le (show 0 ≤ n by have := h.1.1; omega)
  have h1 := h.1.1
  have h2 := h.1.2
  exact RWheel_t w m v xs hv (by omega) (by omega) h.2

end Go.Proofs.Ytncenmgkdodioaa
