/- wheels: the reference's Divide. -/
import Derived.Test.YtncenmgkdodioaaWhG
import Derived.Test.YtncenmgkdodioaaWhDft
namespace Go.Proofs.Ytncenmgkdodioaa
open Go.RowKit Go.Sx Go.Wh Go.Dft
set_option linter.unusedVariables false
set_option linter.unusedSimpArgs false
set_option maxRecDepth 100000
set_option maxHeartbeats 4000000

private theorem ent_21 : Enters Try.prog 21 := enters_of Try.func21 (by kernel_rfl) rfl
private theorem ent_36 : Enters Try.prog 36 := enters_of Try.func36 (by kernel_rfl) rfl
private theorem sle_32 : Try.prog.underlying 32 = some (.slice (Try.prog.elem 32)) := by kernel_rfl
private theorem size_3 : (Try.prog.info? 3).map (·.size) = some 1 := by kernel_rfl
private theorem agg_3 : isAggB Try.prog 3 = some false := by kernel_rfl
private theorem ent_67 : Enters Try.prog 67 := enters_of Try.func67 (by kernel_rfl) rfl
private theorem ent_37 : Enters Try.prog 37 := enters_of Try.func37 (by kernel_rfl) rfl

theorem RDivide_ok (w : World) (n : Nat) (v v' : Value) (xs ys : List Int) (hv : RdV (Value.int .i64) w v xs) (hv' : RdV (Value.int .i64) w v' ys) (hn : 2 ≤ n) (hn2 : n ≤ 16) (hok : okW n (qOf n) xs = true) (hok' : okW n (qOf n) ys = true) (h0 : (0 : Int) ∉ turnL (qOf n) (wOf n) n ys) :
    Calls Try.prog 48 [.int .i64 (n : Int), v, v'].toArray w fun e w' => ∃ b : Nat, e = .returned (.tuple #[.slice (some ⟨b, 0, none⟩) n n, .int .i64 0]) ∧ Hq w w [(b, .cells ((backL (qOf n) (wOf n) n (quoL (qOf n) (wOf n) n xs ys)).map (Value.int .i64) ++ []).toArray 3 (0, 0))] w' := by
  obtain ⟨hf1, hf2, hf3, hf4, hf5, hf6, hf7⟩ := q_facts hn hn2
  obtain ⟨hxl, hx⟩ := okW_true.1 hok
  obtain ⟨hyl, hy⟩ := okW_true.1 hok'
  refine enter (N := 47) Try.func48 rfl rfl rfl ?_
  refine g_seq ?_
  refine g_region ?_
  refine s_y (y_assign rfl) rfl rfl rfl rfl ?_
  refine s_y (y_assign rfl) rfl rfl rfl rfl ?_
  refine s_nil ?_
  refine g_then ?_
  refine g_seq ?_
  refine g_region ?_
  refine s_y (y_move rfl) rfl rfl rfl rfl ?_
  refine s_tr (t_call rfl rfl ent_21 (fun w h => RPrime_any w n hn hn2)) rfl rfl rfl rfl (fun _ _ => ?_)
  refine s_y (y_assign rfl) rfl rfl rfl rfl ?_
  refine s_nil ?_
  refine g_then ?_
  refine g_seq ?_
  refine g_region ?_
  refine s_y (y_move rfl) rfl rfl rfl rfl ?_
  refine s_y (y_move rfl) rfl rfl rfl rfl ?_
  refine s_tr (t_callm (A := New _ _) rfl rfl ent_36 (fun w h => (RSpectrum_ok w n _ xs (hv.below h.below) hn hn2 hok).mono fun e w' ⟨b, h1, h2⟩ => ⟨b, ⟨Nat.le_trans h.below.size (h2.ge _ (List.mem_cons_self ..)), Nat.le_trans h.size (h2.ge _ (List.mem_cons_self ..))⟩, h1, h2⟩)) rfl rfl rfl rfl (fun ba hba => ?_)
  refine s_y (y_move rfl) rfl rfl rfl rfl ?_
  refine s_y (y_move rfl) rfl rfl rfl rfl ?_
  refine s_tr (t_callm (A := New _ _) rfl rfl ent_36 (fun w h => (RSpectrum_ok w n _ ys (hv'.below h.below) hn hn2 hok').mono fun e w' ⟨b, h1, h2⟩ => ⟨b, ⟨Nat.le_trans h.below.size (h2.ge _ (List.mem_cons_self ..)), Nat.le_trans h.size (h2.ge _ (List.mem_cons_self ..))⟩, h1, h2⟩)) rfl rfl rfl rfl (fun bb hbb => ?_)
  refine s_y (y_assign rfl) rfl rfl rfl rfl ?_
  refine s_y (y_assign rfl) rfl rfl rfl rfl ?_
  refine s_nil ?_
  refine g_then ?_
  refine g_seq ?_
  refine g_seq ?_
  refine g_region ?_
  refine s_y (y_move rfl) rfl rfl rfl rfl ?_
  refine s_y (y_lensl rfl sle_32) rfl rfl rfl rfl ?_
  refine s_y (y_move rfl) rfl rfl rfl rfl ?_
  refine s_nil ?_
  refine g_then ?_
  refine g_block ?_
  refine g_loop (fun (i : Nat) act W => i ≤ n ∧ ∃ (zs : List Int) (w1 : World), (zs.length = n) ∧ (∀ k : Nat, k < i → rdI zs (k : Int) = rdI (turnL (qOf n) (wOf n) n xs) (k : Int) * pw (qOf n) (rdI (turnL (qOf n) (wOf n) n ys) (k : Int)) (qOf n - 2).toNat % qOf n) ∧ (∀ k : Nat, i ≤ k → k < n → rdI zs (k : Int) = rdI (turnL (qOf n) (wOf n) n xs) (k : Int)) ∧ Has 47 [] [(0, .int .i64 (n : Int)), (8, .int .i64 (qOf n)), (9, .slice (some ⟨ba, 0, none⟩) n n), (21, .slice (some ⟨bb, 0, none⟩) n n), (22, .int .i64 (n : Nat)), (23, .int .i64 (i : Int))] act ∧ Hp w w1 ((bb, .cells ((turnL (qOf n) (wOf n) n ys).map (Value.int .i64) ++ []).toArray 3 (0, 0)) :: (ba, .cells (zs.map (Value.int .i64) ++ []).toArray 3 (0, 0)) :: []) W) (fun i => n - i) 0 (fun act W ha hw => ⟨by omega, turnL (qOf n) (wOf n) n xs, W, (by exact turnL_len), (by intro k hk; omega), (by intro k _ _; rfl), ha.weak (sub_get ⟨rfl, rfl, rfl, rfl, rfl, rfl, trivial⟩), hw.toHq.lookSub (List.Sublist.refl _)⟩) ?_
  intro i act W ⟨hb_i, zs, w1, hzl, hzs, hz0, ha, hw⟩
  refine g_go ha hw ?_
  clear ha hw act W
  refine g_seq ?_
  refine g_region ?_
  have hlY : (turnL (qOf n) (wOf n) n ys).length = n := turnL_len
  refine s_y (y_lss rfl rfl) rfl rfl rfl rfl ?_
  refine s_nil ?_
  refine g_then ?_
  refine g_seq ?_
  refine g_cond rfl (fun cq1 => ?_) (fun cq1 => ?_)
  · (try simp at cq1)
    refine g_skip ?_
    refine g_then ?_
    refine g_seq ?_
    refine g_block ?_
    refine g_seq ?_
    refine g_region ?_
    refine s_y (y_move rfl) rfl rfl rfl rfl ?_
    refine s_y (y_idxb1 rfl rfl Try.underlying32 size_3 (by omega) (by omega)) rfl rfl rfl rfl ?_
    refine s_y (y_ldL (enc := (Value.int .i64)) (xs := turnL (qOf n) (wOf n) n ys) (jk := []) 0 rfl rfl agg_3 (rdI_at (by omega) (by omega))) rfl rfl rfl rfl ?_
    refine s_y (y_assign rfl) rfl rfl rfl rfl ?_
    refine s_y (y_assign rfl) rfl rfl rfl rfl ?_
    refine s_nil ?_
    refine g_then ?_
    refine g_seq ?_
    refine g_seq ?_
    refine g_region ?_
    refine s_y (y_move rfl) rfl rfl rfl rfl ?_
    refine s_y (y_eql rfl rfl) rfl rfl rfl rfl ?_
    refine s_nil ?_
    refine g_then ?_
    refine g_cond rfl (fun cq2 => ?_) (fun cq2 => ?_)
    · (try simp at cq2)
      exact absurd (rdI_mem (xs := turnL (qOf n) (wOf n) n ys) (i := (i : Int)) (by omega) (by omega)) (by rw [cq2]; exact h0)
    · (try simp at cq2)
      refine g_skip ?_
      refine g_then ?_
      have hxi := at_range turnL_len (turnL_range' hn hn2 (wOf n) xs) (i := (i : Int)) (by omega) (by omega)
      rw [← hz0 i (Nat.le_refl _) (by omega)] at hxi
      have hyi := at_range turnL_len (turnL_range' hn hn2 (wOf n) ys) (i := (i : Int)) (by omega) (by omega)
      have hp := pw_range (x := rdI (turnL (qOf n) (wOf n) n ys) (i : Int)) (show 2 ≤ qOf n by omega) (qOf n - 2).toNat
      have hm := mul_small (a := rdI zs (i : Int)) (b := pw (qOf n) (rdI (turnL (qOf n) (wOf n) n ys) (i : Int)) (qOf n - 2).toNat) (by omega) (by omega) (by omega) (by omega)
      refine g_draw 13 (by kernel_rfl) ?_
      refine j_p (i := 0) rfl (y_move rfl) (by kernel_rfl) (by kernel_rfl) (by kernel_rfl) rfl rfl rfl rfl rfl (.inr (fun _ h => h)) ?_
      refine j_p (i := 1) rfl (y_move rfl) (by kernel_rfl) (by kernel_rfl) (by kernel_rfl) rfl rfl rfl rfl rfl (.inr (fun _ h => h)) ?_
      refine j_p (i := 2) rfl (y_move rfl) (by kernel_rfl) (by kernel_rfl) (by kernel_rfl) rfl rfl rfl rfl rfl (.inr (fun _ h => h)) ?_
      refine j_p (i := 3) rfl (y_move rfl) (by kernel_rfl) (by kernel_rfl) (by kernel_rfl) rfl rfl rfl rfl rfl (.inr (fun _ h => h)) ?_
      refine j_p (i := 4) rfl (y_idxb1 rfl rfl Try.underlying32 size_3 (by omega) (by omega)) (by kernel_rfl) (by kernel_rfl) (by kernel_rfl) rfl rfl rfl rfl rfl (.inr (fun _ h => h)) ?_
      refine j_l (i := 5) rfl (y_ldL (enc := (Value.int .i64)) (xs := zs) (jk := []) 1 rfl rfl agg_3 (rdI_at (by omega) (by omega))) (by kernel_rfl) (by kernel_rfl) (by kernel_rfl) (by kernel_rfl) rfl rfl rfl rfl rfl (.inr (fun _ h => h)) ?_
      refine j_p (i := 6) rfl (y_move rfl) (by kernel_rfl) (by kernel_rfl) (by kernel_rfl) rfl rfl rfl rfl rfl (.inr (fun _ h => h)) ?_
      refine j_p (i := 7) rfl (y_move rfl) (by kernel_rfl) (by kernel_rfl) (by kernel_rfl) rfl rfl rfl rfl rfl (.inr (fun _ h => h)) ?_
      refine j_p (i := 10) rfl (y_move rfl) (by kernel_rfl) (by kernel_rfl) (by kernel_rfl) rfl rfl rfl rfl rfl (.inr (fun _ h => h)) ?_
      refine j_tr (i := 8) rfl (t_call rfl rfl ent_67 (fun w h => Rinverse_any w (qOf n) (rdI (turnL (qOf n) (wOf n) n ys) (i : Int)) (by omega) (by omega) hyi.1 (by omega))) (by kernel_rfl) rfl rfl rfl rfl (.inr (fun x w hb h => h)) (fun _ _ => ?_)
      refine j_p (i := 9) rfl (y_mul rfl rfl (by omega) (by omega)) (by kernel_rfl) (by kernel_rfl) (by kernel_rfl) rfl rfl rfl rfl rfl (.inr (fun _ h => h)) ?_
      refine j_p (i := 11) rfl (y_rem rfl rfl (by omega) (by omega)) (by kernel_rfl) (by kernel_rfl) (by kernel_rfl) rfl rfl rfl rfl rfl (.inr (fun _ h => h)) ?_
      refine j_p (i := 12) rfl (y_idxb1 rfl rfl Try.underlying32 size_3 (by omega) (by omega)) (by kernel_rfl) (by kernel_rfl) (by kernel_rfl) rfl rfl rfl rfl rfl (.inr (fun _ h => h)) ?_
      refine j_tr0 (i := 13) rfl (t_storeL (enc := (Value.int .i64)) (v := ((rdI zs (i : Int)) * (pw (qOf n) (rdI (turnL (qOf n) (wOf n) n ys) (i : Int)) (qOf n - 2).toNat)) % (qOf n)) (xs := zs) (jk := []) 1 rfl rfl rfl rfl rfl size_3 (by omega)) (by kernel_rfl) rfl rfl rfl (.inl rfl) (fun _ _ => ?_)
      refine j_nil (by kernel_rfl) ?_
      refine g_inb ?_
      refine g_then ?_
      refine g_region ?_
      refine s_y (y_add rfl rfl (by omega) (by omega)) rfl rfl rfl rfl ?_
      refine s_y (y_move rfl) rfl rfl rfl rfl ?_
      refine s_nil ?_
      refine g_then ?_
      have hall : ∀ k : Nat, k < i + 1 → rdI (zs.set (i : Int).toNat (rdI zs (i : Int) * pw (qOf n) (rdI (turnL (qOf n) (wOf n) n ys) (i : Int)) (qOf n - 2).toNat % qOf n)) (k : Int) = rdI (turnL (qOf n) (wOf n) n xs) (k : Int) * pw (qOf n) (rdI (turnL (qOf n) (wOf n) n ys) (k : Int)) (qOf n - 2).toNat % qOf n := by
        intro k hk
        rw [rdI_set (by omega)]
        split
        · rename_i h; subst h; rw [hz0 i (Nat.le_refl _) (by omega)]
        · exact hzs k (by omega)
      exact fun act W ha hw => ⟨i + 1, by omega, by omega, (zs.set (((i : Int) : Int).toNat) (((rdI zs (i : Int)) * (pw (qOf n) (rdI (turnL (qOf n) (wOf n) n ys) (i : Int)) (qOf n - 2).toNat)) % (qOf n))), W, (by simp; exact hzl), (by exact hall), (by intro k h1 h2; rw [rdI_set (by omega), if_neg (by omega)]; exact hz0 k (by omega) h2), ha.weak (sub_get ⟨rfl, rfl, rfl, rfl, rfl, rfl, trivial⟩), hw.toHq.lookSub (List.Sublist.refl _)⟩
  · (try simp at cq1)
    have hin : i = n := by omega
    have hqz : zs = quoL (qOf n) (wOf n) n xs ys := eq_map hzl fun k hk => hzs k (by omega)
    have hzok : okW n (qOf n) zs = true := by rw [hqz]; exact quoL_ok hn hn2
    refine g_exit ?_
    refine g_thenx ?_
    refine g_thenx ?_
    refine g_inbx ?_
    refine g_then ?_
    refine g_seq ?_
    refine g_region ?_
    refine s_y (y_move rfl) rfl rfl rfl rfl ?_
    refine s_y (y_move rfl) rfl rfl rfl rfl ?_
    refine s_tr (t_callm (A := New _ _) rfl rfl ent_37 (fun w h => (hqz ▸ RBack_ok w n _ zs (RdV.own (jk := []) (at_of (i := 1) h rfl) (by omega) (Nat.le_refl _)) hn hn2 hzok).mono fun e w' ⟨b, h1, h2⟩ => ⟨b, ⟨Nat.le_trans h.below.size (h2.ge _ (List.mem_cons_self ..)), Nat.le_trans h.size (h2.ge _ (List.mem_cons_self ..))⟩, h1, h2⟩)) rfl rfl rfl rfl (fun bc3 hbc3 => ?_)
    refine s_y (y_assign rfl) rfl rfl rfl rfl ?_
    refine s_y (y_assign rfl) rfl rfl rfl rfl ?_
    refine s_nil ?_
    refine g_then ?_
    refine g_ret ?_
    exact g_end trivial (fun a w ha hq_ => res2 ha rfl rfl rfl  w) (fun w h => ⟨bc3, rfl, h.hand (List.Sublist.cons_cons _ (List.nil_sublist _))⟩)

theorem RDivide_state (w : World) (n : Nat) (v v' : Value) (xs ys : List Int) (hv : RdV (Value.int .i64) w v xs) (hv' : RdV (Value.int .i64) w v' ys) (hn : 2 ≤ n) (hn2 : n ≤ 16) (hok : okW n (qOf n) xs = true) (hok' : okW n (qOf n) ys = true) (h0 : (0 : Int) ∈ turnL (qOf n) (wOf n) n ys) :
    Calls Try.prog 48 [.int .i64 (n : Int), v, v'].toArray w fun e w' => e = .returned (.tuple #[.slice none 0 0, .int .i64 5]) ∧ Below w.heap.size w w' := by
  obtain ⟨hf1, hf2, hf3, hf4, hf5, hf6, hf7⟩ := q_facts hn hn2
  obtain ⟨hxl, hx⟩ := okW_true.1 hok
  obtain ⟨hyl, hy⟩ := okW_true.1 hok'
  refine enter (N := 47) Try.func48 rfl rfl rfl ?_
  refine g_seq ?_
  refine g_region ?_
  refine s_y (y_assign rfl) rfl rfl rfl rfl ?_
  refine s_y (y_assign rfl) rfl rfl rfl rfl ?_
  refine s_nil ?_
  refine g_then ?_
  refine g_seq ?_
  refine g_region ?_
  refine s_y (y_move rfl) rfl rfl rfl rfl ?_
  refine s_tr (t_call rfl rfl ent_21 (fun w h => RPrime_any w n hn hn2)) rfl rfl rfl rfl (fun _ _ => ?_)
  refine s_y (y_assign rfl) rfl rfl rfl rfl ?_
  refine s_nil ?_
  refine g_then ?_
  refine g_seq ?_
  refine g_region ?_
  refine s_y (y_move rfl) rfl rfl rfl rfl ?_
  refine s_y (y_move rfl) rfl rfl rfl rfl ?_
  refine s_tr (t_callm (A := New _ _) rfl rfl ent_36 (fun w h => (RSpectrum_ok w n _ xs (hv.below h.below) hn hn2 hok).mono fun e w' ⟨b, h1, h2⟩ => ⟨b, ⟨Nat.le_trans h.below.size (h2.ge _ (List.mem_cons_self ..)), Nat.le_trans h.size (h2.ge _ (List.mem_cons_self ..))⟩, h1, h2⟩)) rfl rfl rfl rfl (fun ba hba => ?_)
  refine s_y (y_move rfl) rfl rfl rfl rfl ?_
  refine s_y (y_move rfl) rfl rfl rfl rfl ?_
  refine s_tr (t_callm (A := New _ _) rfl rfl ent_36 (fun w h => (RSpectrum_ok w n _ ys (hv'.below h.below) hn hn2 hok').mono fun e w' ⟨b, h1, h2⟩ => ⟨b, ⟨Nat.le_trans h.below.size (h2.ge _ (List.mem_cons_self ..)), Nat.le_trans h.size (h2.ge _ (List.mem_cons_self ..))⟩, h1, h2⟩)) rfl rfl rfl rfl (fun bb hbb => ?_)
  refine s_y (y_assign rfl) rfl rfl rfl rfl ?_
  refine s_y (y_assign rfl) rfl rfl rfl rfl ?_
  refine s_nil ?_
  refine g_then ?_
  refine g_seq ?_
  refine g_seq ?_
  refine g_region ?_
  refine s_y (y_move rfl) rfl rfl rfl rfl ?_
  refine s_y (y_lensl rfl sle_32) rfl rfl rfl rfl ?_
  refine s_y (y_move rfl) rfl rfl rfl rfl ?_
  refine s_nil ?_
  refine g_then ?_
  refine g_block ?_
  refine g_loop (fun (i : Nat) act W => (i ≤ n ∧ ∀ k : Nat, k < i → rdI (turnL (qOf n) (wOf n) n ys) (k : Int) ≠ 0) ∧ ∃ (zs : List Int) (w1 : World), (zs.length = n) ∧ (∀ k : Nat, k < i → rdI zs (k : Int) = rdI (turnL (qOf n) (wOf n) n xs) (k : Int) * pw (qOf n) (rdI (turnL (qOf n) (wOf n) n ys) (k : Int)) (qOf n - 2).toNat % qOf n) ∧ (∀ k : Nat, i ≤ k → k < n → rdI zs (k : Int) = rdI (turnL (qOf n) (wOf n) n xs) (k : Int)) ∧ Has 47 [] [(0, .int .i64 (n : Int)), (8, .int .i64 (qOf n)), (9, .slice (some ⟨ba, 0, none⟩) n n), (21, .slice (some ⟨bb, 0, none⟩) n n), (22, .int .i64 (n : Nat)), (23, .int .i64 (i : Int))] act ∧ Hp w w1 ((bb, .cells ((turnL (qOf n) (wOf n) n ys).map (Value.int .i64) ++ []).toArray 3 (0, 0)) :: (ba, .cells (zs.map (Value.int .i64) ++ []).toArray 3 (0, 0)) :: []) W) (fun i => n - i) 0 (fun act W ha hw => ⟨⟨by omega, fun k hk => by omega⟩, turnL (qOf n) (wOf n) n xs, W, (by exact turnL_len), (by intro k hk; omega), (by intro k _ _; rfl), ha.weak (sub_get ⟨rfl, rfl, rfl, rfl, rfl, rfl, trivial⟩), hw.toHq.lookSub (List.Sublist.refl _)⟩) ?_
  intro i act W ⟨hb_i, zs, w1, hzl, hzs, hz0, ha, hw⟩
  refine g_go ha hw ?_
  clear ha hw act W
  refine g_seq ?_
  refine g_region ?_
  have hlY : (turnL (qOf n) (wOf n) n ys).length = n := turnL_len
  refine s_y (y_lss rfl rfl) rfl rfl rfl rfl ?_
  refine s_nil ?_
  refine g_then ?_
  refine g_seq ?_
  refine g_cond rfl (fun cq1 => ?_) (fun cq1 => ?_)
  · (try simp at cq1)
    refine g_skip ?_
    refine g_then ?_
    refine g_seq ?_
    refine g_block ?_
    refine g_seq ?_
    refine g_region ?_
    refine s_y (y_move rfl) rfl rfl rfl rfl ?_
    refine s_y (y_idxb1 rfl rfl Try.underlying32 size_3 (by omega) (by omega)) rfl rfl rfl rfl ?_
    refine s_y (y_ldL (enc := (Value.int .i64)) (xs := turnL (qOf n) (wOf n) n ys) (jk := []) 0 rfl rfl agg_3 (rdI_at (by omega) (by omega))) rfl rfl rfl rfl ?_
    refine s_y (y_assign rfl) rfl rfl rfl rfl ?_
    refine s_y (y_assign rfl) rfl rfl rfl rfl ?_
    refine s_nil ?_
    refine g_then ?_
    refine g_seq ?_
    refine g_seq ?_
    refine g_region ?_
    refine s_y (y_move rfl) rfl rfl rfl rfl ?_
    refine s_y (y_eql rfl rfl) rfl rfl rfl rfl ?_
    refine s_nil ?_
    refine g_then ?_
    refine g_cond rfl (fun cq2 => ?_) (fun cq2 => ?_)
    · (try simp at cq2)
      refine g_seq ?_
      refine g_region ?_
      refine s_y (y_assign rfl) rfl rfl rfl rfl ?_
      refine s_y (y_assign rfl) rfl rfl rfl rfl ?_
      refine s_nil ?_
      refine g_then ?_
      refine g_ret ?_
      refine g_thenr ?_
      refine g_inbr ?_
      refine g_thenr ?_
      refine g_thenr ?_
      refine g_inbr ?_
      refine g_thenr ?_
      exact g_end trivial (fun a w ha hq_ => res2 ha rfl rfl rfl  w) (fun w h => ⟨rfl, h.below⟩)
    · (try simp at cq2)
      refine g_skip ?_
      refine g_then ?_
      have hxi := at_range turnL_len (turnL_range' hn hn2 (wOf n) xs) (i := (i : Int)) (by omega) (by omega)
      rw [← hz0 i (Nat.le_refl _) (by omega)] at hxi
      have hyi := at_range turnL_len (turnL_range' hn hn2 (wOf n) ys) (i := (i : Int)) (by omega) (by omega)
      have hp := pw_range (x := rdI (turnL (qOf n) (wOf n) n ys) (i : Int)) (show 2 ≤ qOf n by omega) (qOf n - 2).toNat
      have hm := mul_small (a := rdI zs (i : Int)) (b := pw (qOf n) (rdI (turnL (qOf n) (wOf n) n ys) (i : Int)) (qOf n - 2).toNat) (by omega) (by omega) (by omega) (by omega)
      refine g_draw 13 (by kernel_rfl) ?_
      refine j_p (i := 0) rfl (y_move rfl) (by kernel_rfl) (by kernel_rfl) (by kernel_rfl) rfl rfl rfl rfl rfl (.inr (fun _ h => h)) ?_
      refine j_p (i := 1) rfl (y_move rfl) (by kernel_rfl) (by kernel_rfl) (by kernel_rfl) rfl rfl rfl rfl rfl (.inr (fun _ h => h)) ?_
      refine j_p (i := 2) rfl (y_move rfl) (by kernel_rfl) (by kernel_rfl) (by kernel_rfl) rfl rfl rfl rfl rfl (.inr (fun _ h => h)) ?_
      refine j_p (i := 3) rfl (y_move rfl) (by kernel_rfl) (by kernel_rfl) (by kernel_rfl) rfl rfl rfl rfl rfl (.inr (fun _ h => h)) ?_
      refine j_p (i := 4) rfl (y_idxb1 rfl rfl Try.underlying32 size_3 (by omega) (by omega)) (by kernel_rfl) (by kernel_rfl) (by kernel_rfl) rfl rfl rfl rfl rfl (.inr (fun _ h => h)) ?_
      refine j_l (i := 5) rfl (y_ldL (enc := (Value.int .i64)) (xs := zs) (jk := []) 1 rfl rfl agg_3 (rdI_at (by omega) (by omega))) (by kernel_rfl) (by kernel_rfl) (by kernel_rfl) (by kernel_rfl) rfl rfl rfl rfl rfl (.inr (fun _ h => h)) ?_
      refine j_p (i := 6) rfl (y_move rfl) (by kernel_rfl) (by kernel_rfl) (by kernel_rfl) rfl rfl rfl rfl rfl (.inr (fun _ h => h)) ?_
      refine j_p (i := 7) rfl (y_move rfl) (by kernel_rfl) (by kernel_rfl) (by kernel_rfl) rfl rfl rfl rfl rfl (.inr (fun _ h => h)) ?_
      refine j_p (i := 10) rfl (y_move rfl) (by kernel_rfl) (by kernel_rfl) (by kernel_rfl) rfl rfl rfl rfl rfl (.inr (fun _ h => h)) ?_
      refine j_tr (i := 8) rfl (t_call rfl rfl ent_67 (fun w h => Rinverse_any w (qOf n) (rdI (turnL (qOf n) (wOf n) n ys) (i : Int)) (by omega) (by omega) hyi.1 (by omega))) (by kernel_rfl) rfl rfl rfl rfl (.inr (fun x w hb h => h)) (fun _ _ => ?_)
      refine j_p (i := 9) rfl (y_mul rfl rfl (by omega) (by omega)) (by kernel_rfl) (by kernel_rfl) (by kernel_rfl) rfl rfl rfl rfl rfl (.inr (fun _ h => h)) ?_
      refine j_p (i := 11) rfl (y_rem rfl rfl (by omega) (by omega)) (by kernel_rfl) (by kernel_rfl) (by kernel_rfl) rfl rfl rfl rfl rfl (.inr (fun _ h => h)) ?_
      refine j_p (i := 12) rfl (y_idxb1 rfl rfl Try.underlying32 size_3 (by omega) (by omega)) (by kernel_rfl) (by kernel_rfl) (by kernel_rfl) rfl rfl rfl rfl rfl (.inr (fun _ h => h)) ?_
      refine j_tr0 (i := 13) rfl (t_storeL (enc := (Value.int .i64)) (v := ((rdI zs (i : Int)) * (pw (qOf n) (rdI (turnL (qOf n) (wOf n) n ys) (i : Int)) (qOf n - 2).toNat)) % (qOf n)) (xs := zs) (jk := []) 1 rfl rfl rfl rfl rfl size_3 (by omega)) (by kernel_rfl) rfl rfl rfl (.inl rfl) (fun _ _ => ?_)
      refine j_nil (by kernel_rfl) ?_
      refine g_inb ?_
      refine g_then ?_
      refine g_region ?_
      refine s_y (y_add rfl rfl (by omega) (by omega)) rfl rfl rfl rfl ?_
      refine s_y (y_move rfl) rfl rfl rfl rfl ?_
      refine s_nil ?_
      refine g_then ?_
      have hall : ∀ k : Nat, k < i + 1 → rdI (zs.set (i : Int).toNat (rdI zs (i : Int) * pw (qOf n) (rdI (turnL (qOf n) (wOf n) n ys) (i : Int)) (qOf n - 2).toNat % qOf n)) (k : Int) = rdI (turnL (qOf n) (wOf n) n xs) (k : Int) * pw (qOf n) (rdI (turnL (qOf n) (wOf n) n ys) (k : Int)) (qOf n - 2).toNat % qOf n := by
        intro k hk
        rw [rdI_set (by omega)]
        split
        · rename_i h; subst h; rw [hz0 i (Nat.le_refl _) (by omega)]
        · exact hzs k (by omega)
      have hno : ∀ k : Nat, k < i + 1 → rdI (turnL (qOf n) (wOf n) n ys) (k : Int) ≠ 0 := by
        intro k hk
        rcases Nat.lt_or_ge k i with h | h
        · exact hb_i.2 k h
        · have : k = i := by omega
          subst this; assumption
      exact fun act W ha hw => ⟨i + 1, by omega, ⟨by omega, hno⟩, (zs.set (((i : Int) : Int).toNat) (((rdI zs (i : Int)) * (pw (qOf n) (rdI (turnL (qOf n) (wOf n) n ys) (i : Int)) (qOf n - 2).toNat)) % (qOf n))), W, (by simp; exact hzl), (by exact hall), (by intro k h1 h2; rw [rdI_set (by omega), if_neg (by omega)]; exact hz0 k (by omega) h2), ha.weak (sub_get ⟨rfl, rfl, rfl, rfl, rfl, rfl, trivial⟩), hw.toHq.lookSub (List.Sublist.refl _)⟩
  · (try simp at cq1)
    exact absurd (ixI_in h0) (fun ⟨k, _, hk, hk0⟩ => hb_i.2 k (by rw [turnL_len] at hk; omega) hk0)

end Go.Proofs.Ytncenmgkdodioaa
