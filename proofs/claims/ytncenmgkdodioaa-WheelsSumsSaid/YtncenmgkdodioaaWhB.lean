/- wheels: what turned, spectrum, back and powers hand back. -/
import Derived.Test.YtncenmgkdodioaaWhA
namespace Go.Proofs.Ytncenmgkdodioaa
open Go.RowKit Go.Sx Go.Wh
set_option linter.unusedVariables false
set_option linter.unusedSimpArgs false
set_option maxRecDepth 100000
set_option maxHeartbeats 4000000

private theorem agg_32 : isAggB Try.prog 32 = some false := by kernel_rfl
private theorem sle_32 : Try.prog.underlying 32 = some (.slice (Try.prog.elem 32)) := by kernel_rfl
private theorem size_3 : (Try.prog.info? 3).map (·.size) = some 1 := by kernel_rfl
private theorem agg_3 : isAggB Try.prog 3 = some false := by kernel_rfl
private theorem agg_56 : isAggB Try.prog 56 = some true := by kernel_rfl
private theorem size_56 : (Try.prog.info? 56).map (·.size) = some 3 := by kernel_rfl
private theorem fld_56_0 (b off : Nat) (w : World) : (Instr.fieldAt 56 (.pointer (some ⟨b, off, none⟩)) 0).run Try.prog w = .ok (.pointer (some ⟨b, off, none⟩)) w := by kernel_rfl
private theorem fld_56_1 (b off : Nat) (w : World) : (Instr.fieldAt 56 (.pointer (some ⟨b, off, none⟩)) 1).run Try.prog w = .ok (.pointer (some ⟨b, off + 1, none⟩)) w := by kernel_rfl
private theorem ent_85 : Enters Try.prog 85 := enters_of Try.func85 (by kernel_rfl) rfl
private theorem ent_61 : Enters Try.prog 61 := enters_of Try.func61 (by kernel_rfl) rfl
private theorem ent_88 : Enters Try.prog 88 := enters_of Try.func88 (by kernel_rfl) rfl
private theorem fld_56_2 (b off : Nat) (w : World) : (Instr.fieldAt 56 (.pointer (some ⟨b, off, none⟩)) 2).run Try.prog w = .ok (.pointer (some ⟨b, off + 2, none⟩)) w := by kernel_rfl
private theorem ent_83 : Enters Try.prog 83 := enters_of Try.func83 (by kernel_rfl) rfl
private theorem ent_72 : Enters Try.prog 72 := enters_of Try.func72 (by kernel_rfl) rfl
private theorem zero_32 : (Try.prog.info? 32).bind (·.zero) = some (.slice none 0 0) := by kernel_rfl
private theorem size_32 : (Try.prog.info? 32).map (·.size) = some 1 := by kernel_rfl
private theorem ent_84 : Enters Try.prog 84 := enters_of Try.func84 (by kernel_rfl) rfl
private theorem ent_64 : Enters Try.prog 64 := enters_of Try.func64 (by kernel_rfl) rfl
private theorem ent_82 : Enters Try.prog 82 := enters_of Try.func82 (by kernel_rfl) rfl

theorem turned1_any (w : World) (k n : Nat) (q wr r : Int) (bl bf br : Nat) (v : Value) (xs : List Int) (hn : 2 ≤ n) (hn2 : n ≤ 16) (hq : 2 ≤ q) (hq2 : q ≤ 1000) (hr : 0 ≤ r) (hr2 : r ≤ 1000) (hk : k < n) (hv : RdV (Value.int .i64) w v xs) (hxl : xs.length = n) (hx : ∀ x ∈ xs, 0 ≤ x ∧ x < q) (hbl : w.heap[bl]? = some (.cells [v].toArray 32 (0, 0))) (hbf : w.heap[bf]? = some (.cells [.int .i64 (n : Int), .int .i64 q, .int .i64 wr].toArray 56 (0, 0))) (hbr : w.heap[br]? = some (.cells [.int .i64 r].toArray 3 (0, 0))) :
    Calls Try.prog 88 [.int .i64 (k : Int), .pointer (some ⟨bl, 0, none⟩), .pointer (some ⟨bf, 0, none⟩), .pointer (some ⟨br, 0, none⟩)].toArray w fun e w' => e = .returned (.int .i64 (tsm q r n xs k n)) ∧ Below w.heap.size w w' := by
  refine enter (N := 34) Try.func88 rfl rfl rfl ?_
  refine g_seq ?_
  refine g_region ?_
  refine s_y (y_assign rfl) rfl rfl rfl rfl ?_
  refine s_nil ?_
  refine g_then ?_
  refine g_seq ?_
  refine g_region ?_
  refine s_y (y_assign rfl) rfl rfl rfl rfl ?_
  refine s_nil ?_
  refine g_then ?_
  refine g_seq ?_
  refine g_seq ?_
  refine g_region ?_
  refine s_y (y_ldO1 hbl rfl agg_32 rfl) rfl rfl rfl rfl ?_
  refine s_y (y_lenV (n := xs.length) rfl (by obtain ⟨A, c, h1, _⟩ := hv; exact ⟨A, c, h1⟩) sle_32) rfl rfl rfl rfl ?_
  refine s_y (y_move rfl) rfl rfl rfl rfl ?_
  refine s_nil ?_
  refine g_then ?_
  refine g_block ?_
  refine g_loop (fun (j : Nat) act W => j ≤ n ∧ ∃ (w1 : World), Has 34 [] [(0, .int .i64 (k : Int)), (2, .pointer (some ⟨bf, 0, none⟩)), (3, .pointer (some ⟨br, 0, none⟩)), (5, .int .i64 0), (6, .int .i64 (tsm q r n xs k j)), (9, v), (10, .int .i64 (xs.length : Nat)), (11, .int .i64 (j : Int))] act ∧ Hp w w1 ([]) W) (fun j => n - j) 0 (fun act W ha hw => ⟨by omega, W, ha.weak (sub_get ⟨rfl, rfl, rfl, rfl, rfl, rfl, rfl, rfl, trivial⟩), hw.toHq.lookSub (List.Sublist.refl _)⟩) ?_
  intro j act W ⟨hb_j, w1, ha, hw⟩
  refine g_go ha hw ?_
  clear ha hw act W
  refine g_seq ?_
  refine g_region ?_
  refine s_y (y_lss rfl rfl) rfl rfl rfl rfl ?_
  refine s_nil ?_
  refine g_then ?_
  refine g_seq ?_
  refine g_cond rfl (fun cq1 => ?_) (fun cq1 => ?_)
  · (try simp at cq1)
    refine g_skip ?_
    refine g_then ?_
    refine g_seq ?_
    refine g_block ?_
    refine g_seq ?_
    refine g_region ?_
    have e1 : ((k * j % n : Nat) : Int) = (k : Int) * (j : Int) % (n : Int) := by rw [Int.natCast_emod, Int.natCast_mul]
    have hm := mul_small (a := (k : Int)) (b := (j : Int)) (by omega) (by omega) (by omega) (by omega)
    have hxj := hx _ (rdI_mem (xs := xs) (i := (j : Int)) (by omega) (by omega))
    have hp := pw_range (x := r) hq (k * j % n)
    have hm2 := mul_small (a := rdI xs (j : Int)) (b := pw q r (k * j % n)) (by omega) (by omega) (by omega) (by omega)
    have ht := tsm_range r n xs k hq hq2 hx j (by omega)
    have hr0 := Int.emod_nonneg (rdI xs (j : Int) * pw q r (k * j % n)) (show q ≠ 0 by omega)
    have hr1 := Int.emod_lt_of_pos (rdI xs (j : Int) * pw q r (k * j % n)) (show 0 < q by omega)
    refine s_y (y_move rfl) rfl rfl rfl rfl ?_
    refine s_y (y_idxV (enc := (Value.int .i64)) rfl rfl hv Try.underlying32 size_3 (by omega) (by omega)) rfl rfl rfl rfl ?_
    refine s_y (y_ldV (enc := (Value.int .i64)) (xs := xs) (fun w h => hv.rdl.below h.below) rfl agg_3 (rdI_at (by omega) (by omega))) rfl rfl rfl rfl ?_
    refine s_y (y_assign rfl) rfl rfl rfl rfl ?_
    refine s_y (y_assign rfl) rfl rfl rfl rfl ?_
    refine s_nil ?_
    refine g_then ?_
    refine g_draw 17 (by kernel_rfl) ?_
    refine j_p (i := 0) rfl (y_move rfl) (by kernel_rfl) (by kernel_rfl) (by kernel_rfl) rfl rfl rfl rfl rfl (.inr (fun _ h => h)) ?_
    refine j_p (i := 1) rfl (y_move rfl) (by kernel_rfl) (by kernel_rfl) (by kernel_rfl) rfl rfl rfl rfl rfl (.inr (fun _ h => h)) ?_
    refine j_l (i := 2) rfl (y_ldOn hbf rfl agg_56 size_56 rfl rfl) (by kernel_rfl) (by kernel_rfl) (by kernel_rfl) (by kernel_rfl) rfl rfl rfl rfl rfl (.inr (fun _ h => h)) ?_
    refine j_l (i := 3) rfl (y_ldO1 hbr rfl agg_3 rfl) (by kernel_rfl) (by kernel_rfl) (by kernel_rfl) (by kernel_rfl) rfl rfl rfl rfl rfl (.inr (fun _ h => h)) ?_
    refine j_p (i := 4) rfl (y_move rfl) (by kernel_rfl) (by kernel_rfl) (by kernel_rfl) rfl rfl rfl rfl rfl (.inr (fun _ h => h)) ?_
    refine j_p (i := 5) rfl (y_move rfl) (by kernel_rfl) (by kernel_rfl) (by kernel_rfl) rfl rfl rfl rfl rfl (.inr (fun _ h => h)) ?_
    refine j_p (i := 6) rfl (y_mul rfl rfl (by omega) (by omega)) (by kernel_rfl) (by kernel_rfl) (by kernel_rfl) rfl rfl rfl rfl rfl (.inr (fun _ h => h)) ?_
    refine j_p (i := 7) rfl (y_fld rfl (fun w => fld_56_0 _ _ w)) (by kernel_rfl) (by kernel_rfl) (by kernel_rfl) rfl rfl rfl rfl rfl (.inr (fun _ h => h)) ?_
    refine j_l (i := 8) rfl (y_ldO1 hbf rfl agg_3 rfl) (by kernel_rfl) (by kernel_rfl) (by kernel_rfl) (by kernel_rfl) rfl rfl rfl rfl rfl (.inr (fun _ h => h)) ?_
    refine j_p (i := 9) rfl (y_rem rfl rfl (by omega) (by omega)) (by kernel_rfl) (by kernel_rfl) (by kernel_rfl) rfl rfl rfl rfl rfl (.inr (fun _ h => h)) ?_
    refine j_p (i := 12) rfl (y_fld rfl (fun w => fld_56_1 _ _ w)) (by kernel_rfl) (by kernel_rfl) (by kernel_rfl) rfl rfl rfl rfl rfl (.inr (fun _ h => h)) ?_
    refine j_l (i := 13) rfl (y_ldO1 hbf rfl agg_3 rfl) (by kernel_rfl) (by kernel_rfl) (by kernel_rfl) (by kernel_rfl) rfl rfl rfl rfl rfl (.inr (fun _ h => h)) ?_
    refine j_tr (i := 10) rfl (t_call rfl rfl ent_85 (fun w h => (e1 ▸ power_any w n q wr r (k * j % n) hq hq2 hr hr2 (by have := Nat.mod_lt (k * j) (show 0 < n by omega); omega)))) (by kernel_rfl) rfl rfl rfl rfl (.inr (fun x w hb h => h)) (fun _ _ => ?_)
    refine j_p (i := 11) rfl (y_mul rfl rfl (by omega) (by omega)) (by kernel_rfl) (by kernel_rfl) (by kernel_rfl) rfl rfl rfl rfl rfl (.inr (fun _ h => h)) ?_
    refine j_p (i := 14) rfl (y_rem rfl rfl (by omega) (by omega)) (by kernel_rfl) (by kernel_rfl) (by kernel_rfl) rfl rfl rfl rfl rfl (.inr (fun _ h => h)) ?_
    refine j_p (i := 15) rfl (y_add rfl rfl (by omega) (by omega)) (by kernel_rfl) (by kernel_rfl) (by kernel_rfl) rfl rfl rfl rfl rfl (.inr (fun _ h => h)) ?_
    refine j_p (i := 16) rfl (y_assign rfl) (by kernel_rfl) (by kernel_rfl) (by kernel_rfl) rfl rfl rfl rfl rfl (.inr (fun _ h => h)) ?_
    refine j_nil (by kernel_rfl) ?_
    refine g_inb ?_
    refine g_then ?_
    refine g_region ?_
    refine s_y (y_add rfl rfl (by omega) (by omega)) rfl rfl rfl rfl ?_
    refine s_y (y_move rfl) rfl rfl rfl rfl ?_
    refine s_nil ?_
    refine g_then ?_
    exact fun act W ha hw => ⟨j + 1, by omega, by omega, W, ha.weak (sub_get ⟨rfl, rfl, rfl, rfl, rfl, rfl, rfl, rfl, trivial⟩), hw.toHq.lookSub (List.Sublist.refl _)⟩
  · (try simp at cq1)
    refine g_exit ?_
    refine g_thenx ?_
    refine g_thenx ?_
    refine g_inbx ?_
    refine g_then ?_
    refine g_seq ?_
    refine g_region ?_
    refine s_y (y_move rfl) rfl rfl rfl rfl ?_
    refine s_y (y_assign rfl) rfl rfl rfl rfl ?_
    refine s_nil ?_
    refine g_then ?_
    refine g_ret ?_
    obtain rfl : j = n := by omega
    exact g_end trivial (fun a w ha hq_ => res1 ha rfl rfl  w) (fun w h => ⟨rfl, h.below⟩)

theorem turned_any (w : World) (n : Nat) (q wr r : Int) (v : Value) (xs : List Int) (hn : 2 ≤ n) (hn2 : n ≤ 16) (hq : 2 ≤ q) (hq2 : q ≤ 1000) (hr : 0 ≤ r) (hr2 : r ≤ 1000) (hv : RdV (Value.int .i64) w v xs) (hxl : xs.length = n) (hx : ∀ x ∈ xs, 0 ≤ x ∧ x < q) :
    Calls Try.prog 83 [.agg #[.int .i64 (n : Int), .int .i64 q, .int .i64 wr], v, .int .i64 r].toArray w fun e w' => ∃ b : Nat, e = .returned (.slice (some ⟨b, 0, none⟩) n n) ∧ Hq w w [(b, .cells ((turnL q r n xs).map (Value.int .i64) ++ []).toArray 3 (0, 0))] w' := by
  refine enter (N := 10) Try.func83 rfl rfl rfl ?_
  refine g_seq ?_
  refine g_region ?_
  refine s_tr (t_box rfl rfl) rfl rfl rfl rfl (fun bf hbf => ?_)
  refine s_tr (t_box rfl hv.cells1) rfl rfl rfl rfl (fun bl hbl => ?_)
  refine s_tr (t_box rfl rfl) rfl rfl rfl rfl (fun br hbr => ?_)
  refine s_y (y_assign rfl) rfl rfl rfl rfl ?_
  refine s_nil ?_
  refine g_then ?_
  refine g_seq ?_
  refine g_region ?_
  refine s_y (y_ldn 2 rfl rfl agg_56 size_56 rfl rfl) rfl rfl rfl rfl ?_
  refine s_y (y_func rfl rfl) rfl rfl rfl rfl ?_
  refine s_tr (t_callm (A := New _ _) rfl rfl ent_61 (fun w h => (wheel_any w n q wr 88 [.pointer (some ⟨bl, 0, none⟩), .pointer (some ⟨bf, 0, none⟩), .pointer (some ⟨br, 0, none⟩)] (fun k => tsm q r n xs k n) (by omega) (by omega) hq2 (fun k hk => by have := tsm_range r n xs k hq hq2 hx n (by omega); omega) ent_88 (fun k W hk hb => turned1_any W k n q wr r bl bf br v xs hn hn2 hq hq2 hr hr2 hk (hv.below (h.below.trans (hb.mono h.below.size))) hxl hx (below_at hb (at_of (i := 1) h rfl)) (below_at hb (at_of (i := 2) h rfl)) (below_at hb (at_of (i := 0) h rfl)))).mono fun e w' ⟨b, h1, h2⟩ => ⟨b, ⟨Nat.le_trans h.below.size (h2.ge _ (List.mem_cons_self ..)), Nat.le_trans h.size (h2.ge _ (List.mem_cons_self ..))⟩, h1, h2⟩)) rfl rfl rfl rfl (fun bc1 hbc1 => ?_)
  refine s_y (y_assign rfl) rfl rfl rfl rfl ?_
  refine s_nil ?_
  refine g_then ?_
  refine g_ret ?_
  exact g_end trivial (fun a w ha hq_ => res1 ha rfl rfl  w) (fun w h => ⟨bc1, rfl, h.hand (List.Sublist.cons_cons _ (List.nil_sublist _))⟩)

theorem spectrum_any (w : World) (n : Nat) (q wr : Int) (v : Value) (xs : List Int) (hn : 2 ≤ n) (hn2 : n ≤ 16) (hq : 2 ≤ q) (hq2 : q ≤ 1000) (hw : 0 ≤ wr) (hw2 : wr ≤ 1000) (hv : RdV (Value.int .i64) w v xs) (hxl : xs.length = n) (hx : ∀ x ∈ xs, 0 ≤ x ∧ x < q) :
    Calls Try.prog 64 [.agg #[.int .i64 (n : Int), .int .i64 q, .int .i64 wr], v].toArray w fun e w' => ∃ b : Nat, e = .returned (.slice (some ⟨b, 0, none⟩) n n) ∧ Hq w w [(b, .cells ((turnL q wr n xs).map (Value.int .i64) ++ []).toArray 3 (0, 0))] w' := by
  refine enter (N := 10) Try.func64 rfl rfl rfl ?_
  refine g_seq ?_
  refine g_region ?_
  refine s_tr (t_box rfl rfl) rfl rfl rfl rfl (fun b1 hb1 => ?_)
  refine s_y (y_assign rfl) rfl rfl rfl rfl ?_
  refine s_nil ?_
  refine g_then ?_
  refine g_seq ?_
  refine g_region ?_
  refine s_y (y_ldn 0 rfl rfl agg_56 size_56 rfl rfl) rfl rfl rfl rfl ?_
  refine s_y (y_move rfl) rfl rfl rfl rfl ?_
  refine s_y (y_fld rfl (fun w => fld_56_2 _ _ w)) rfl rfl rfl rfl ?_
  refine s_y (y_ld1 0 rfl rfl agg_3 rfl) rfl rfl rfl rfl ?_
  refine s_tr (t_callm (A := New _ _) rfl rfl ent_83 (fun w h => (turned_any w n q wr wr v xs hn hn2 hq hq2 hw hw2 (hv.below h.below) hxl hx).mono fun e w' ⟨b, h1, h2⟩ => ⟨b, ⟨Nat.le_trans h.below.size (h2.ge _ (List.mem_cons_self ..)), Nat.le_trans h.size (h2.ge _ (List.mem_cons_self ..))⟩, h1, h2⟩)) rfl rfl rfl rfl (fun bc2 hbc2 => ?_)
  refine s_y (y_assign rfl) rfl rfl rfl rfl ?_
  refine s_nil ?_
  refine g_then ?_
  refine g_ret ?_
  exact g_end trivial (fun a w ha hq_ => res1 ha rfl rfl  w) (fun w h => ⟨bc2, rfl, h.hand (List.Sublist.cons_cons _ (List.nil_sublist _))⟩)

theorem back1_any (w : World) (k n : Nat) (q wr : Int) (bl bf : Nat) (v : Value) (xs : List Int) (hn : 2 ≤ n) (hn2 : n ≤ 16) (hq : 2 ≤ q) (hq2 : q ≤ 1000) (hk : k < n) (hv : RdV (Value.int .i64) w v xs) (hxl : xs.length = n) (hx : ∀ x ∈ xs, 0 ≤ x ∧ x < q) (hbl : w.heap[bl]? = some (.cells [v].toArray 32 (0, 0))) (hbf : w.heap[bf]? = some (.cells [.int .i64 (n : Int), .int .i64 q, .int .i64 wr].toArray 56 (0, 0))) :
    Calls Try.prog 84 [.int .i64 (k : Int), .pointer (some ⟨bl, 0, none⟩), .pointer (some ⟨bf, 0, none⟩)].toArray w fun e w' => e = .returned (.int .i64 (rdI xs (k : Int) * pw q ((n : Int) % q) (q - 2).toNat)) ∧ Below w.heap.size w w' := by
  refine enter (N := 17) Try.func84 rfl rfl rfl ?_
  refine g_seq ?_
  refine g_region ?_
  refine s_y (y_assign rfl) rfl rfl rfl rfl ?_
  refine s_nil ?_
  refine g_then ?_
  refine g_seq ?_
  have hr0 := Int.emod_nonneg (n : Int) (show q ≠ 0 by omega)
  have hr1 := Int.emod_lt_of_pos (n : Int) (show 0 < q by omega)
  have hxj := hx _ (rdI_mem (xs := xs) (i := (k : Int)) (by omega) (by omega))
  have hp := pw_range (x := (n : Int) % q) hq (q - 2).toNat
  have hm2 := mul_small (a := rdI xs (k : Int)) (b := pw q ((n : Int) % q) (q - 2).toNat) (by omega) (by omega) (by omega) (by omega)
  refine g_draw 13 (by kernel_rfl) ?_
  refine j_l (i := 0) rfl (y_ldO1 hbl rfl agg_32 rfl) (by kernel_rfl) (by kernel_rfl) (by kernel_rfl) (by kernel_rfl) rfl rfl rfl rfl rfl (.inr (fun _ h => h)) ?_
  refine j_p (i := 1) rfl (y_move rfl) (by kernel_rfl) (by kernel_rfl) (by kernel_rfl) rfl rfl rfl rfl rfl (.inr (fun _ h => h)) ?_
  refine j_p (i := 2) rfl (y_idxV (enc := (Value.int .i64)) rfl rfl hv Try.underlying32 size_3 (by omega) (by omega)) (by kernel_rfl) (by kernel_rfl) (by kernel_rfl) rfl rfl rfl rfl rfl (.inr (fun _ h => h)) ?_
  refine j_l (i := 3) rfl (y_ldV (enc := (Value.int .i64)) (xs := xs) (fun w h => hv.rdl.below h.below) rfl agg_3 (rdI_at (by omega) (by omega))) (by kernel_rfl) (by kernel_rfl) (by kernel_rfl) (by kernel_rfl) rfl rfl rfl rfl rfl (.inr (fun _ h => h)) ?_
  refine j_l (i := 4) rfl (y_ldOn hbf rfl agg_56 size_56 rfl rfl) (by kernel_rfl) (by kernel_rfl) (by kernel_rfl) (by kernel_rfl) rfl rfl rfl rfl rfl (.inr (fun _ h => h)) ?_
  refine j_p (i := 5) rfl (y_fld rfl (fun w => fld_56_0 _ _ w)) (by kernel_rfl) (by kernel_rfl) (by kernel_rfl) rfl rfl rfl rfl rfl (.inr (fun _ h => h)) ?_
  refine j_l (i := 6) rfl (y_ldO1 hbf rfl agg_3 rfl) (by kernel_rfl) (by kernel_rfl) (by kernel_rfl) (by kernel_rfl) rfl rfl rfl rfl rfl (.inr (fun _ h => h)) ?_
  refine j_p (i := 7) rfl (y_fld rfl (fun w => fld_56_1 _ _ w)) (by kernel_rfl) (by kernel_rfl) (by kernel_rfl) rfl rfl rfl rfl rfl (.inr (fun _ h => h)) ?_
  refine j_l (i := 8) rfl (y_ldO1 hbf rfl agg_3 rfl) (by kernel_rfl) (by kernel_rfl) (by kernel_rfl) (by kernel_rfl) rfl rfl rfl rfl rfl (.inr (fun _ h => h)) ?_
  refine j_p (i := 9) rfl (y_rem rfl rfl (by omega) (by omega)) (by kernel_rfl) (by kernel_rfl) (by kernel_rfl) rfl rfl rfl rfl rfl (.inr (fun _ h => h)) ?_
  refine j_tr (i := 10) rfl (t_call rfl rfl ent_72 (fun w h => inverse_any w n q wr ((n : Int) % q) hq hq2 hr0 (by omega))) (by kernel_rfl) rfl rfl rfl rfl (.inr (fun x w hb h => h)) (fun _ _ => ?_)
  refine j_p (i := 11) rfl (y_mul rfl rfl (by omega) (by omega)) (by kernel_rfl) (by kernel_rfl) (by kernel_rfl) rfl rfl rfl rfl rfl (.inr (fun _ h => h)) ?_
  refine j_p (i := 12) rfl (y_assign rfl) (by kernel_rfl) (by kernel_rfl) (by kernel_rfl) rfl rfl rfl rfl rfl (.inr (fun _ h => h)) ?_
  refine j_nil (by kernel_rfl) ?_
  refine g_then ?_
  refine g_ret ?_
  exact g_end trivial (fun a w ha hq_ => res1 ha rfl rfl  w) (fun w h => ⟨rfl, h.below⟩)

theorem back_any (w : World) (n : Nat) (q wr : Int) (v : Value) (xs : List Int) (hn : 2 ≤ n) (hn2 : n ≤ 16) (hq : 2 ≤ q) (hq2 : q ≤ 1000) (hw : 0 ≤ wr) (hw2 : wr ≤ 1000) (hv : RdV (Value.int .i64) w v xs) (hxl : xs.length = n) (hx : ∀ x ∈ xs, 0 ≤ x ∧ x < q) :
    Calls Try.prog 65 [.agg #[.int .i64 (n : Int), .int .i64 q, .int .i64 wr], v].toArray w fun e w' => ∃ b : Nat, e = .returned (.slice (some ⟨b, 0, none⟩) n n) ∧ Hq w w [(b, .cells ((backL q wr n xs).map (Value.int .i64) ++ []).toArray 3 (0, 0))] w' := by
  refine enter (N := 16) Try.func65 rfl rfl rfl ?_
  refine g_seq ?_
  refine g_region ?_
  refine s_tr (t_box rfl rfl) rfl rfl rfl rfl (fun bf hbf => ?_)
  refine s_y (y_assign rfl) rfl rfl rfl rfl ?_
  refine s_nil ?_
  refine g_then ?_
  refine g_seq ?_
  have hp := pw_range (x := wr) hq (q - 2).toNat
  have hT := turnL_range (pw q wr (q - 2).toNat) n xs (show 0 < q by omega)
  refine g_draw 9 (by kernel_rfl) ?_
  refine j_l (i := 0) rfl (y_ldn 0 rfl rfl agg_56 size_56 rfl rfl) (by kernel_rfl) (by kernel_rfl) (by kernel_rfl) (by kernel_rfl) rfl rfl rfl rfl rfl (.inr (fun _ h => h)) ?_
  refine j_p (i := 1) rfl (y_move rfl) (by kernel_rfl) (by kernel_rfl) (by kernel_rfl) rfl rfl rfl rfl rfl (.inr (fun _ h => h)) ?_
  refine j_l (i := 2) rfl (y_ldn 0 rfl rfl agg_56 size_56 rfl rfl) (by kernel_rfl) (by kernel_rfl) (by kernel_rfl) (by kernel_rfl) rfl rfl rfl rfl rfl (.inr (fun _ h => h)) ?_
  refine j_p (i := 3) rfl (y_fld rfl (fun w => fld_56_2 _ _ w)) (by kernel_rfl) (by kernel_rfl) (by kernel_rfl) rfl rfl rfl rfl rfl (.inr (fun _ h => h)) ?_
  refine j_l (i := 4) rfl (y_ld1 0 rfl rfl agg_3 rfl) (by kernel_rfl) (by kernel_rfl) (by kernel_rfl) (by kernel_rfl) rfl rfl rfl rfl rfl (.inr (fun _ h => h)) ?_
  refine j_two 5 7 (by kernel_rfl) ?_ ?_
  · skip
    refine i_tr (i := 5) rfl (t_call rfl rfl ent_72 (fun w h => inverse_any w n q wr wr hq hq2 hw hw2)) rfl rfl rfl rfl (.inr (fun x w hb h => h)) (fun _ _ => ?_)
    refine j_two 6 7 (by kernel_rfl) ?_ ?_
    · skip
      refine i_tr (i := 6) rfl (t_callm (A := New _ _) rfl rfl ent_83 (fun w h => (turned_any w n q wr (pw q wr (q - 2).toNat) v xs hn hn2 hq hq2 hp.1 (by omega) (hv.below h.below) hxl hx).mono fun e w' ⟨b, h1, h2⟩ => ⟨b, ⟨Nat.le_trans h.below.size (h2.ge _ (List.mem_cons_self ..)), Nat.le_trans h.size (h2.ge _ (List.mem_cons_self ..))⟩, h1, h2⟩)) rfl rfl rfl rfl (.inr (fun x w hb h => (h.tail hb.2))) (fun bs hbs => ?_)
      refine j_tr (i := 7) rfl (t_alloc zero_32 rfl) (by kernel_rfl) rfl rfl rfl rfl (.inr (fun x w hb h => ((h.tail hb.2).tail hbs.2))) (fun bl hbl => ?_)
      refine j_tr0 (i := 8) rfl (t_store 0 rfl rfl rfl rfl size_32 rfl rfl) (by kernel_rfl) rfl rfl rfl (.inr (fun x w hb h => ((h.tail hbl.2).tail hbs.2))) (fun _ _ => ?_)
      refine j_nil (by kernel_rfl) ?_
      refine g_then ?_
      refine g_seq ?_
      refine g_region ?_
      refine s_y (y_ldn 2 rfl rfl agg_56 size_56 rfl rfl) rfl rfl rfl rfl ?_
      refine s_y (y_func rfl rfl) rfl rfl rfl rfl ?_
      refine s_tr (t_callm (A := New _ _) rfl rfl ent_61 (fun w h => (wheel_any w n q wr 84 [.pointer (some ⟨bl, 0, none⟩), .pointer (some ⟨bf, 0, none⟩)] (fun k : Nat => rdI (turnL q (pw q wr (q - 2).toNat) n xs) (k : Int) * pw q ((n : Int) % q) (q - 2).toNat) (by omega) (by omega) hq2 (fun k hk => by have hxj := hT _ (rdI_mem (xs := turnL q (pw q wr (q - 2).toNat) n xs) (i := (k : Int)) (by omega) (by rw [turnL_len]; omega)); have hp := pw_range (x := (n : Int) % q) hq (q - 2).toNat; have hm2 := mul_small (a := rdI (turnL q (pw q wr (q - 2).toNat) n xs) (k : Int)) (b := pw q ((n : Int) % q) (q - 2).toNat) (by omega) (by omega) (by omega) (by omega); omega) ent_84 (fun k W hk hb => back1_any W k n q wr bl bf _ (turnL q (pw q wr (q - 2).toNat) n xs) hn hn2 hq hq2 hk (RdV.below (RdV.own (jk := []) (at_of (i := 1) h rfl) (turnL_len ..).symm (Nat.le_refl n)) hb) (turnL_len ..) hT (below_at hb (at_of (i := 0) h rfl)) (below_at hb (at_of (i := 2) h rfl)))).mono fun e w' ⟨b, h1, h2⟩ => ⟨b, ⟨Nat.le_trans h.below.size (h2.ge _ (List.mem_cons_self ..)), Nat.le_trans h.size (h2.ge _ (List.mem_cons_self ..))⟩, h1, h2⟩)) rfl rfl rfl rfl (fun bc1 hbc1 => ?_)
      refine s_y (y_assign rfl) rfl rfl rfl rfl ?_
      refine s_nil ?_
      refine g_then ?_
      refine g_ret ?_
      exact g_end trivial (fun a w ha hq_ => res1 ha rfl rfl  w) (fun w h => ⟨bc1, rfl, h.hand (List.Sublist.cons_cons _ (List.nil_sublist _))⟩)
    · skip
      refine i_tr (i := 7) rfl (t_alloc zero_32 rfl) rfl rfl rfl rfl (.inr (fun x w hb h => (h.tail hb.2))) (fun bl hbl => ?_)
      refine j_tr (i := 6) rfl (t_callm (A := New _ _) rfl rfl ent_83 (fun w h => (turned_any w n q wr (pw q wr (q - 2).toNat) v xs hn hn2 hq hq2 hp.1 (by omega) (hv.below h.below) hxl hx).mono fun e w' ⟨b, h1, h2⟩ => ⟨b, ⟨Nat.le_trans h.below.size (h2.ge _ (List.mem_cons_self ..)), Nat.le_trans h.size (h2.ge _ (List.mem_cons_self ..))⟩, h1, h2⟩)) (by kernel_rfl) rfl rfl rfl rfl (.inr (fun x w hb h => ((h.tail hb.2).tail hbl.2))) (fun bs hbs => ?_)
      refine j_tr0 (i := 8) rfl (t_store 1 rfl rfl rfl rfl size_32 rfl rfl) (by kernel_rfl) rfl rfl rfl (.inr (fun x w hb h => ((h.tail hbs.2).tail hbl.2))) (fun _ _ => ?_)
      refine j_nil (by kernel_rfl) ?_
      refine g_then ?_
      refine g_seq ?_
      refine g_region ?_
      refine s_y (y_ldn 2 rfl rfl agg_56 size_56 rfl rfl) rfl rfl rfl rfl ?_
      refine s_y (y_func rfl rfl) rfl rfl rfl rfl ?_
      refine s_tr (t_callm (A := New _ _) rfl rfl ent_61 (fun w h => (wheel_any w n q wr 84 [.pointer (some ⟨bl, 0, none⟩), .pointer (some ⟨bf, 0, none⟩)] (fun k : Nat => rdI (turnL q (pw q wr (q - 2).toNat) n xs) (k : Int) * pw q ((n : Int) % q) (q - 2).toNat) (by omega) (by omega) hq2 (fun k hk => by have hxj := hT _ (rdI_mem (xs := turnL q (pw q wr (q - 2).toNat) n xs) (i := (k : Int)) (by omega) (by rw [turnL_len]; omega)); have hp := pw_range (x := (n : Int) % q) hq (q - 2).toNat; have hm2 := mul_small (a := rdI (turnL q (pw q wr (q - 2).toNat) n xs) (k : Int)) (b := pw q ((n : Int) % q) (q - 2).toNat) (by omega) (by omega) (by omega) (by omega); omega) ent_84 (fun k W hk hb => back1_any W k n q wr bl bf _ (turnL q (pw q wr (q - 2).toNat) n xs) hn hn2 hq hq2 hk (RdV.below (RdV.own (jk := []) (at_of (i := 0) h rfl) (turnL_len ..).symm (Nat.le_refl n)) hb) (turnL_len ..) hT (below_at hb (at_of (i := 1) h rfl)) (below_at hb (at_of (i := 2) h rfl)))).mono fun e w' ⟨b, h1, h2⟩ => ⟨b, ⟨Nat.le_trans h.below.size (h2.ge _ (List.mem_cons_self ..)), Nat.le_trans h.size (h2.ge _ (List.mem_cons_self ..))⟩, h1, h2⟩)) rfl rfl rfl rfl (fun bc2 hbc2 => ?_)
      refine s_y (y_assign rfl) rfl rfl rfl rfl ?_
      refine s_nil ?_
      refine g_then ?_
      refine g_ret ?_
      exact g_end trivial (fun a w ha hq_ => res1 ha rfl rfl  w) (fun w h => ⟨bc2, rfl, h.hand (List.Sublist.cons_cons _ (List.nil_sublist _))⟩)
  · skip
    refine i_tr (i := 7) rfl (t_alloc zero_32 rfl) rfl rfl rfl rfl (.inr (fun x w hb h => (h.tail hb.2))) (fun bl hbl => ?_)
    refine j_tr (i := 5) rfl (t_call rfl rfl ent_72 (fun w h => inverse_any w n q wr wr hq hq2 hw hw2)) (by kernel_rfl) rfl rfl rfl rfl (.inr (fun x w hb h => (h.tail hbl.2))) (fun _ _ => ?_)
    refine j_tr (i := 6) rfl (t_callm (A := New _ _) rfl rfl ent_83 (fun w h => (turned_any w n q wr (pw q wr (q - 2).toNat) v xs hn hn2 hq hq2 hp.1 (by omega) (hv.below h.below) hxl hx).mono fun e w' ⟨b, h1, h2⟩ => ⟨b, ⟨Nat.le_trans h.below.size (h2.ge _ (List.mem_cons_self ..)), Nat.le_trans h.size (h2.ge _ (List.mem_cons_self ..))⟩, h1, h2⟩)) (by kernel_rfl) rfl rfl rfl rfl (.inr (fun x w hb h => ((h.tail hb.2).tail hbl.2))) (fun bs hbs => ?_)
    refine j_tr0 (i := 8) rfl (t_store 1 rfl rfl rfl rfl size_32 rfl rfl) (by kernel_rfl) rfl rfl rfl (.inr (fun x w hb h => ((h.tail hbs.2).tail hbl.2))) (fun _ _ => ?_)
    refine j_nil (by kernel_rfl) ?_
    refine g_then ?_
    refine g_seq ?_
    refine g_region ?_
    refine s_y (y_ldn 2 rfl rfl agg_56 size_56 rfl rfl) rfl rfl rfl rfl ?_
    refine s_y (y_func rfl rfl) rfl rfl rfl rfl ?_
    refine s_tr (t_callm (A := New _ _) rfl rfl ent_61 (fun w h => (wheel_any w n q wr 84 [.pointer (some ⟨bl, 0, none⟩), .pointer (some ⟨bf, 0, none⟩)] (fun k : Nat => rdI (turnL q (pw q wr (q - 2).toNat) n xs) (k : Int) * pw q ((n : Int) % q) (q - 2).toNat) (by omega) (by omega) hq2 (fun k hk => by have hxj := hT _ (rdI_mem (xs := turnL q (pw q wr (q - 2).toNat) n xs) (i := (k : Int)) (by omega) (by rw [turnL_len]; omega)); have hp := pw_range (x := (n : Int) % q) hq (q - 2).toNat; have hm2 := mul_small (a := rdI (turnL q (pw q wr (q - 2).toNat) n xs) (k : Int)) (b := pw q ((n : Int) % q) (q - 2).toNat) (by omega) (by omega) (by omega) (by omega); omega) ent_84 (fun k W hk hb => back1_any W k n q wr bl bf _ (turnL q (pw q wr (q - 2).toNat) n xs) hn hn2 hq hq2 hk (RdV.below (RdV.own (jk := []) (at_of (i := 0) h rfl) (turnL_len ..).symm (Nat.le_refl n)) hb) (turnL_len ..) hT (below_at hb (at_of (i := 1) h rfl)) (below_at hb (at_of (i := 2) h rfl)))).mono fun e w' ⟨b, h1, h2⟩ => ⟨b, ⟨Nat.le_trans h.below.size (h2.ge _ (List.mem_cons_self ..)), Nat.le_trans h.size (h2.ge _ (List.mem_cons_self ..))⟩, h1, h2⟩)) rfl rfl rfl rfl (fun bc3 hbc3 => ?_)
    refine s_y (y_assign rfl) rfl rfl rfl rfl ?_
    refine s_nil ?_
    refine g_then ?_
    refine g_ret ?_
    exact g_end trivial (fun a w ha hq_ => res1 ha rfl rfl  w) (fun w h => ⟨bc3, rfl, h.hand (List.Sublist.cons_cons _ (List.nil_sublist _))⟩)

theorem powers1_any (w : World) (k n : Nat) (q wr : Int) (bl bf : Nat) (v : Value) (xs : List Int) (hn : 2 ≤ n) (hn2 : n ≤ 16) (hq : 2 ≤ q) (hq2 : q ≤ 1000) (hk : k < n) (hv : RdV (Value.int .i64) w v xs) (hxl : xs.length = n) (hx : ∀ x ∈ xs, 0 ≤ x ∧ x < q) (hbl : w.heap[bl]? = some (.cells [v].toArray 32 (0, 0))) (hbf : w.heap[bf]? = some (.cells [.int .i64 (n : Int), .int .i64 q, .int .i64 wr].toArray 56 (0, 0))) :
    Calls Try.prog 82 [.int .i64 (k : Int), .pointer (some ⟨bl, 0, none⟩), .pointer (some ⟨bf, 0, none⟩)].toArray w fun e w' => e = .returned (.int .i64 (rdI xs (k : Int) * rdI xs (((n : Int) - (k : Int)) % (n : Int)))) ∧ Below w.heap.size w w' := by
  refine enter (N := 20) Try.func82 rfl rfl rfl ?_
  refine g_seq ?_
  refine g_region ?_
  refine s_y (y_assign rfl) rfl rfl rfl rfl ?_
  refine s_nil ?_
  refine g_then ?_
  refine g_seq ?_
  have hr0 := Int.emod_nonneg ((n : Int) - (k : Int)) (show (n : Int) ≠ 0 by omega)
  have hr1 := Int.emod_lt_of_pos ((n : Int) - (k : Int)) (show 0 < (n : Int) by omega)
  have hxj := hx _ (rdI_mem (xs := xs) (i := (k : Int)) (by omega) (by omega))
  have hxk := hx _ (rdI_mem (xs := xs) (i := ((n : Int) - (k : Int)) % (n : Int)) (by omega) (by omega))
  have hm2 := mul_small (a := rdI xs (k : Int)) (b := rdI xs (((n : Int) - (k : Int)) % (n : Int))) (by omega) (by omega) (by omega) (by omega)
  refine g_draw 16 (by kernel_rfl) ?_
  refine j_l (i := 0) rfl (y_ldO1 hbl rfl agg_32 rfl) (by kernel_rfl) (by kernel_rfl) (by kernel_rfl) (by kernel_rfl) rfl rfl rfl rfl rfl (.inr (fun _ h => h)) ?_
  refine j_p (i := 1) rfl (y_move rfl) (by kernel_rfl) (by kernel_rfl) (by kernel_rfl) rfl rfl rfl rfl rfl (.inr (fun _ h => h)) ?_
  refine j_p (i := 2) rfl (y_idxV (enc := (Value.int .i64)) rfl rfl hv Try.underlying32 size_3 (by omega) (by omega)) (by kernel_rfl) (by kernel_rfl) (by kernel_rfl) rfl rfl rfl rfl rfl (.inr (fun _ h => h)) ?_
  refine j_l (i := 3) rfl (y_ldV (enc := (Value.int .i64)) (xs := xs) (fun w h => hv.rdl.below h.below) rfl agg_3 (rdI_at (by omega) (by omega))) (by kernel_rfl) (by kernel_rfl) (by kernel_rfl) (by kernel_rfl) rfl rfl rfl rfl rfl (.inr (fun _ h => h)) ?_
  refine j_l (i := 4) rfl (y_ldO1 hbl rfl agg_32 rfl) (by kernel_rfl) (by kernel_rfl) (by kernel_rfl) (by kernel_rfl) rfl rfl rfl rfl rfl (.inr (fun _ h => h)) ?_
  refine j_p (i := 5) rfl (y_fld rfl (fun w => fld_56_0 _ _ w)) (by kernel_rfl) (by kernel_rfl) (by kernel_rfl) rfl rfl rfl rfl rfl (.inr (fun _ h => h)) ?_
  refine j_l (i := 6) rfl (y_ldO1 hbf rfl agg_3 rfl) (by kernel_rfl) (by kernel_rfl) (by kernel_rfl) (by kernel_rfl) rfl rfl rfl rfl rfl (.inr (fun _ h => h)) ?_
  refine j_p (i := 7) rfl (y_move rfl) (by kernel_rfl) (by kernel_rfl) (by kernel_rfl) rfl rfl rfl rfl rfl (.inr (fun _ h => h)) ?_
  refine j_p (i := 8) rfl (y_sub rfl rfl (by omega) (by omega)) (by kernel_rfl) (by kernel_rfl) (by kernel_rfl) rfl rfl rfl rfl rfl (.inr (fun _ h => h)) ?_
  refine j_p (i := 9) rfl (y_fld rfl (fun w => fld_56_0 _ _ w)) (by kernel_rfl) (by kernel_rfl) (by kernel_rfl) rfl rfl rfl rfl rfl (.inr (fun _ h => h)) ?_
  refine j_l (i := 10) rfl (y_ldO1 hbf rfl agg_3 rfl) (by kernel_rfl) (by kernel_rfl) (by kernel_rfl) (by kernel_rfl) rfl rfl rfl rfl rfl (.inr (fun _ h => h)) ?_
  refine j_p (i := 11) rfl (y_rem rfl rfl (by omega) (by omega)) (by kernel_rfl) (by kernel_rfl) (by kernel_rfl) rfl rfl rfl rfl rfl (.inr (fun _ h => h)) ?_
  refine j_p (i := 12) rfl (y_idxV (enc := (Value.int .i64)) rfl rfl hv Try.underlying32 size_3 (by omega) (by omega)) (by kernel_rfl) (by kernel_rfl) (by kernel_rfl) rfl rfl rfl rfl rfl (.inr (fun _ h => h)) ?_
  refine j_l (i := 13) rfl (y_ldV (enc := (Value.int .i64)) (xs := xs) (fun w h => hv.rdl.below h.below) rfl agg_3 (rdI_at (by omega) (by omega))) (by kernel_rfl) (by kernel_rfl) (by kernel_rfl) (by kernel_rfl) rfl rfl rfl rfl rfl (.inr (fun _ h => h)) ?_
  refine j_p (i := 14) rfl (y_mul rfl rfl (by omega) (by omega)) (by kernel_rfl) (by kernel_rfl) (by kernel_rfl) rfl rfl rfl rfl rfl (.inr (fun _ h => h)) ?_
  refine j_p (i := 15) rfl (y_assign rfl) (by kernel_rfl) (by kernel_rfl) (by kernel_rfl) rfl rfl rfl rfl rfl (.inr (fun _ h => h)) ?_
  refine j_nil (by kernel_rfl) ?_
  refine g_then ?_
  refine g_ret ?_
  exact g_end trivial (fun a w ha hq_ => res1 ha rfl rfl  w) (fun w h => ⟨rfl, h.below⟩)

theorem powers_any (w : World) (n : Nat) (q wr : Int) (v : Value) (xs : List Int) (hn : 2 ≤ n) (hn2 : n ≤ 16) (hq : 2 ≤ q) (hq2 : q ≤ 1000) (hw : 0 ≤ wr) (hw2 : wr ≤ 1000) (hv : RdV (Value.int .i64) w v xs) (hxl : xs.length = n) (hx : ∀ x ∈ xs, 0 ≤ x ∧ x < q) :
    Calls Try.prog 60 [.agg #[.int .i64 (n : Int), .int .i64 q, .int .i64 wr], v].toArray w fun e w' => ∃ b : Nat, e = .returned (.slice (some ⟨b, 0, none⟩) n n) ∧ Hq w w [(b, .cells ((powL q wr n xs).map (Value.int .i64) ++ []).toArray 3 (0, 0))] w' := by
  refine enter (N := 12) Try.func60 rfl rfl rfl ?_
  refine g_seq ?_
  refine g_region ?_
  refine s_tr (t_box rfl rfl) rfl rfl rfl rfl (fun bf hbf => ?_)
  refine s_y (y_assign rfl) rfl rfl rfl rfl ?_
  refine s_nil ?_
  refine g_then ?_
  refine g_seq ?_
  have hT := turnL_range wr n xs (show 0 < q by omega)
  refine g_region ?_
  refine s_y (y_ldn 0 rfl rfl agg_56 size_56 rfl rfl) rfl rfl rfl rfl ?_
  refine s_y (y_move rfl) rfl rfl rfl rfl ?_
  refine s_tr (t_callm (A := New _ _) rfl rfl ent_64 (fun w h => (spectrum_any w n q wr v xs hn hn2 hq hq2 hw hw2 (hv.below h.below) hxl hx).mono fun e w' ⟨b, h1, h2⟩ => ⟨b, ⟨Nat.le_trans h.below.size (h2.ge _ (List.mem_cons_self ..)), Nat.le_trans h.size (h2.ge _ (List.mem_cons_self ..))⟩, h1, h2⟩)) rfl rfl rfl rfl (fun bs hbs => ?_)
  refine s_tr (t_alloc zero_32 rfl) rfl rfl rfl rfl (fun bl hbl => ?_)
  refine s_tr0 (t_store 0 rfl rfl rfl rfl size_32 rfl rfl) rfl rfl rfl (fun _ _ => ?_)
  refine s_nil ?_
  refine g_then ?_
  refine g_seq ?_
  refine g_region ?_
  refine s_y (y_ldn 2 rfl rfl agg_56 size_56 rfl rfl) rfl rfl rfl rfl ?_
  refine s_y (y_func rfl rfl) rfl rfl rfl rfl ?_
  refine s_tr (t_callm (A := New _ _) rfl rfl ent_61 (fun w h => (wheel_any w n q wr 82 [.pointer (some ⟨bl, 0, none⟩), .pointer (some ⟨bf, 0, none⟩)] (fun k : Nat => rdI (turnL q wr n xs) (k : Int) * rdI (turnL q wr n xs) (((n : Int) - (k : Int)) % (n : Int))) (by omega) (by omega) hq2 (fun k hk => by have hr0 := Int.emod_nonneg ((n : Int) - (k : Int)) (show (n : Int) ≠ 0 by omega); have hr1 := Int.emod_lt_of_pos ((n : Int) - (k : Int)) (show 0 < (n : Int) by omega); have hxj := hT _ (rdI_mem (xs := turnL q wr n xs) (i := (k : Int)) (by omega) (by rw [turnL_len]; omega)); have hxk := hT _ (rdI_mem (xs := turnL q wr n xs) (i := ((n : Int) - (k : Int)) % (n : Int)) (by omega) (by rw [turnL_len]; omega)); have hm2 := mul_small (a := rdI (turnL q wr n xs) (k : Int)) (b := rdI (turnL q wr n xs) (((n : Int) - (k : Int)) % (n : Int))) (by omega) (by omega) (by omega) (by omega); omega) ent_82 (fun k W hk hb => powers1_any W k n q wr bl bf _ (turnL q wr n xs) hn hn2 hq hq2 hk (RdV.below (RdV.own (jk := []) (at_of (i := 1) h rfl) (turnL_len ..).symm (Nat.le_refl n)) hb) (turnL_len ..) hT (below_at hb (at_of (i := 0) h rfl)) (below_at hb (at_of (i := 2) h rfl)))).mono fun e w' ⟨b, h1, h2⟩ => ⟨b, ⟨Nat.le_trans h.below.size (h2.ge _ (List.mem_cons_self ..)), Nat.le_trans h.size (h2.ge _ (List.mem_cons_self ..))⟩, h1, h2⟩)) rfl rfl rfl rfl (fun bc1 hbc1 => ?_)
  refine s_y (y_assign rfl) rfl rfl rfl rfl ?_
  refine s_nil ?_
  refine g_then ?_
  refine g_ret ?_
  exact g_end trivial (fun a w ha hq_ => res1 ha rfl rfl  w) (fun w h => ⟨bc1, rfl, h.hand (List.Sublist.cons_cons _ (List.nil_sublist _))⟩)

end Go.Proofs.Ytncenmgkdodioaa
