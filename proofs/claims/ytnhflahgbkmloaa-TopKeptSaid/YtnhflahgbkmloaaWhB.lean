/- wheels: what turned, spectrum, back and powers hand back. -/
import Derived.Test.YtnhflahgbkmloaaWhA
namespace Go.Proofs.Ytnhflahgbkmloaa
open Go.RowKit Go.Sx Go.Wh
set_option linter.unusedVariables false
set_option linter.unusedSimpArgs false
set_option maxRecDepth 100000
set_option maxHeartbeats 4000000

private theorem agg_27 : isAggB Try.prog 27 = some false := by kernel_rfl
private theorem sle_27 : Try.prog.underlying 27 = some (.slice (Try.prog.elem 27)) := by kernel_rfl
private theorem size_3 : (Try.prog.info? 3).map (·.size) = some 1 := by kernel_rfl
private theorem agg_3 : isAggB Try.prog 3 = some false := by kernel_rfl
private theorem agg_74 : isAggB Try.prog 74 = some true := by kernel_rfl
private theorem size_74 : (Try.prog.info? 74).map (·.size) = some 3 := by kernel_rfl
private theorem fld_74_0 (b off : Nat) (w : World) : (Instr.fieldAt 74 (.pointer (some ⟨b, off, none⟩)) 0).run Try.prog w = .ok (.pointer (some ⟨b, off, none⟩)) w := by kernel_rfl
private theorem fld_74_1 (b off : Nat) (w : World) : (Instr.fieldAt 74 (.pointer (some ⟨b, off, none⟩)) 1).run Try.prog w = .ok (.pointer (some ⟨b, off + 1, none⟩)) w := by kernel_rfl
private theorem ent_98 : Enters Try.prog 98 := enters_of Try.func98 (by kernel_rfl) rfl
private theorem ent_55 : Enters Try.prog 55 := enters_of Try.func55 (by kernel_rfl) rfl
private theorem ent_97 : Enters Try.prog 97 := enters_of Try.func97 (by kernel_rfl) rfl
private theorem fld_74_2 (b off : Nat) (w : World) : (Instr.fieldAt 74 (.pointer (some ⟨b, off, none⟩)) 2).run Try.prog w = .ok (.pointer (some ⟨b, off + 2, none⟩)) w := by kernel_rfl
private theorem ent_91 : Enters Try.prog 91 := enters_of Try.func91 (by kernel_rfl) rfl

theorem turned1_any (w : World) (k n : Nat) (q wr r : Int) (bl bf br : Nat) (v : Value) (xs : List Int) (hn : 2 ≤ n) (hn2 : n ≤ 16) (hq : 2 ≤ q) (hq2 : q ≤ 1000) (hr : 0 ≤ r) (hr2 : r ≤ 1000) (hk : k < n) (hv : RdV (Value.int .i64) w v xs) (hxl : xs.length = n) (hx : ∀ x ∈ xs, 0 ≤ x ∧ x < q) (hbl : w.heap[bl]? = some (.cells [v].toArray 27 (0, 0))) (hbf : w.heap[bf]? = some (.cells [.int .i64 (n : Int), .int .i64 q, .int .i64 wr].toArray 74 (0, 0))) (hbr : w.heap[br]? = some (.cells [.int .i64 r].toArray 3 (0, 0))) :
    Calls Try.prog 97 [.int .i64 (k : Int), .pointer (some ⟨bl, 0, none⟩), .pointer (some ⟨bf, 0, none⟩), .pointer (some ⟨br, 0, none⟩)].toArray w fun e w' => e = .returned (.int .i64 (tsm q r n xs k n)) ∧ Below w.heap.size w w' := by
  refine enter (N := 34) Try.func97 rfl rfl rfl ?_
  refine g_seq ?_
  refine g_region ?_
  refine s_y (y_assign rfl) rfl rfl rfl rfl ?_
  refine s_nil ?_
  refine g_then ?_
  refine g_seq ?_
  refine g_region ?_
  refine s_y (y_assign rfl) rfl rfl rfl rfl ?_
  refine s_nil ?_
  refine g_then ?_
  refine g_seq ?_
  refine g_seq ?_
  refine g_region ?_
  refine s_y (y_ldO1 hbl rfl agg_27 rfl) rfl rfl rfl rfl ?_
  refine s_y (y_lenV (n := xs.length) rfl (by obtain ⟨A, c, h1, _⟩ := hv; exact ⟨A, c, h1⟩) sle_27) rfl rfl rfl rfl ?_
  refine s_y (y_move rfl) rfl rfl rfl rfl ?_
  refine s_nil ?_
  refine g_then ?_
  refine g_block ?_
  refine g_loop (fun (j : Nat) act W => j ≤ n ∧ ∃ (w1 : World), Has 34 [] [(0, .int .i64 (k : Int)), (2, .pointer (some ⟨bf, 0, none⟩)), (3, .pointer (some ⟨br, 0, none⟩)), (5, .int .i64 0), (6, .int .i64 (tsm q r n xs k j)), (9, v), (10, .int .i64 (xs.length : Nat)), (11, .int .i64 (j : Int))] act ∧ Hp w w1 ([]) W) (fun j => n - j) 0 (fun act W ha hw => ⟨by omega, W, ha.weak (sub_get ⟨rfl, rfl, rfl, rfl, rfl, rfl, rfl, rfl, trivial⟩), hw.toHq.lookSub (List.Sublist.refl _)⟩) ?_
  intro j act W ⟨hb_j, w1, ha, hw⟩
  refine g_go ha hw ?_
  clear ha hw act W
  refine g_seq ?_
  refine g_region ?_
  refine s_y (y_lss rfl rfl) rfl rfl rfl rfl ?_
  refine s_nil ?_
  refine g_then ?_
  refine g_seq ?_
  refine g_cond rfl (fun cq1 => ?_) (fun cq1 => ?_)
  · (try simp at cq1)
    refine g_skip ?_
    refine g_then ?_
    refine g_seq ?_
    refine g_block ?_
    refine g_seq ?_
    refine g_region ?_
    have e1 : ((k * j % n : Nat) : Int) = (k : Int) * (j : Int) % (n : Int) := by rw [Int.natCast_emod, Int.natCast_mul]
    have hm := mul_small (a := (k : Int)) (b := (j : Int)) (by omega) (by omega) (by omega) (by omega)
    have hxj := hx _ (rdI_mem (xs := xs) (i := (j : Int)) (by omega) (by omega))
    have hp := pw_range (x := r) hq (k * j % n)
    have hm2 := mul_small (a := rdI xs (j : Int)) (b := pw q r (k * j % n)) (by omega) (by omega) (by omega) (by omega)
    have ht := tsm_range r n xs k hq hq2 hx j (by omega)
    have hr0 := Int.emod_nonneg (rdI xs (j : Int) * pw q r (k * j % n)) (show q ≠ 0 by omega)
    have hr1 := Int.emod_lt_of_pos (rdI xs (j : Int) * pw q r (k * j % n)) (show 0 < q by omega)
    refine s_y (y_move rfl) rfl rfl rfl rfl ?_
    refine s_y (y_idxV (enc := (Value.int .i64)) rfl rfl hv Try.underlying27 size_3 (by omega) (by omega)) rfl rfl rfl rfl ?_
    refine s_y (y_ldV (enc := (Value.int .i64)) (xs := xs) (fun w h => hv.rdl.below h.below) rfl agg_3 (rdI_at (by omega) (by omega))) rfl rfl rfl rfl ?_
    refine s_y (y_assign rfl) rfl rfl rfl rfl ?_
    refine s_y (y_assign rfl) rfl rfl rfl rfl ?_
    refine s_nil ?_
    refine g_then ?_
    refine g_draw 17 (by kernel_rfl) ?_
    refine j_p (i := 0) rfl (y_move rfl) (by kernel_rfl) (by kernel_rfl) (by kernel_rfl) rfl rfl rfl rfl rfl (.inr (fun _ h => h)) ?_
    refine j_p (i := 1) rfl (y_move rfl) (by kernel_rfl) (by kernel_rfl) (by kernel_rfl) rfl rfl rfl rfl rfl (.inr (fun _ h => h)) ?_
    refine j_l (i := 2) rfl (y_ldOn hbf rfl agg_74 size_74 rfl rfl) (by kernel_rfl) (by kernel_rfl) (by kernel_rfl) (by kernel_rfl) rfl rfl rfl rfl rfl (.inr (fun _ h => h)) ?_
    refine j_l (i := 3) rfl (y_ldO1 hbr rfl agg_3 rfl) (by kernel_rfl) (by kernel_rfl) (by kernel_rfl) (by kernel_rfl) rfl rfl rfl rfl rfl (.inr (fun _ h => h)) ?_
    refine j_p (i := 4) rfl (y_move rfl) (by kernel_rfl) (by kernel_rfl) (by kernel_rfl) rfl rfl rfl rfl rfl (.inr (fun _ h => h)) ?_
    refine j_p (i := 5) rfl (y_move rfl) (by kernel_rfl) (by kernel_rfl) (by kernel_rfl) rfl rfl rfl rfl rfl (.inr (fun _ h => h)) ?_
    refine j_p (i := 6) rfl (y_mul rfl rfl (by omega) (by omega)) (by kernel_rfl) (by kernel_rfl) (by kernel_rfl) rfl rfl rfl rfl rfl (.inr (fun _ h => h)) ?_
    refine j_p (i := 7) rfl (y_fld rfl (fun w => fld_74_0 _ _ w)) (by kernel_rfl) (by kernel_rfl) (by kernel_rfl) rfl rfl rfl rfl rfl (.inr (fun _ h => h)) ?_
    refine j_l (i := 8) rfl (y_ldO1 hbf rfl agg_3 rfl) (by kernel_rfl) (by kernel_rfl) (by kernel_rfl) (by kernel_rfl) rfl rfl rfl rfl rfl (.inr (fun _ h => h)) ?_
    refine j_p (i := 9) rfl (y_rem rfl rfl (by omega) (by omega)) (by kernel_rfl) (by kernel_rfl) (by kernel_rfl) rfl rfl rfl rfl rfl (.inr (fun _ h => h)) ?_
    refine j_p (i := 12) rfl (y_fld rfl (fun w => fld_74_1 _ _ w)) (by kernel_rfl) (by kernel_rfl) (by kernel_rfl) rfl rfl rfl rfl rfl (.inr (fun _ h => h)) ?_
    refine j_l (i := 13) rfl (y_ldO1 hbf rfl agg_3 rfl) (by kernel_rfl) (by kernel_rfl) (by kernel_rfl) (by kernel_rfl) rfl rfl rfl rfl rfl (.inr (fun _ h => h)) ?_
    refine j_tr (i := 10) rfl (t_call rfl rfl ent_98 (fun w h => (e1 ▸ power_any w n q wr r (k * j % n) hq hq2 hr hr2 (by have := Nat.mod_lt (k * j) (show 0 < n by omega); omega)))) (by kernel_rfl) rfl rfl rfl rfl (.inr (fun x w hb h => h)) (fun _ _ => ?_)
    refine j_p (i := 11) rfl (y_mul rfl rfl (by omega) (by omega)) (by kernel_rfl) (by kernel_rfl) (by kernel_rfl) rfl rfl rfl rfl rfl (.inr (fun _ h => h)) ?_
    refine j_p (i := 14) rfl (y_rem rfl rfl (by omega) (by omega)) (by kernel_rfl) (by kernel_rfl) (by kernel_rfl) rfl rfl rfl rfl rfl (.inr (fun _ h => h)) ?_
    refine j_p (i := 15) rfl (y_add rfl rfl (by omega) (by omega)) (by kernel_rfl) (by kernel_rfl) (by kernel_rfl) rfl rfl rfl rfl rfl (.inr (fun _ h => h)) ?_
    refine j_p (i := 16) rfl (y_assign rfl) (by kernel_rfl) (by kernel_rfl) (by kernel_rfl) rfl rfl rfl rfl rfl (.inr (fun _ h => h)) ?_
    refine j_nil (by kernel_rfl) ?_
    refine g_inb ?_
    refine g_then ?_
    refine g_region ?_
    refine s_y (y_add rfl rfl (by omega) (by omega)) rfl rfl rfl rfl ?_
    refine s_y (y_move rfl) rfl rfl rfl rfl ?_
    refine s_nil ?_
    refine g_then ?_
    exact fun act W ha hw => ⟨j + 1, by omega, by omega, W, ha.weak (sub_get ⟨rfl, rfl, rfl, rfl, rfl, rfl, rfl, rfl, trivial⟩), hw.toHq.lookSub (List.Sublist.refl _)⟩
  · (try simp at cq1)
    refine g_exit ?_
    refine g_thenx ?_
    refine g_thenx ?_
    refine g_inbx ?_
    refine g_then ?_
    refine g_seq ?_
    refine g_region ?_
    refine s_y (y_move rfl) rfl rfl rfl rfl ?_
    refine s_y (y_assign rfl) rfl rfl rfl rfl ?_
    refine s_nil ?_
    refine g_then ?_
    refine g_ret ?_
    obtain rfl : j = n := by omega
    exact g_end trivial (fun a w ha hq_ => res1 ha rfl rfl  w) (fun w h => ⟨rfl, h.below⟩)

theorem turned_any (w : World) (n : Nat) (q wr r : Int) (v : Value) (xs : List Int) (hn : 2 ≤ n) (hn2 : n ≤ 16) (hq : 2 ≤ q) (hq2 : q ≤ 1000) (hr : 0 ≤ r) (hr2 : r ≤ 1000) (hv : RdV (Value.int .i64) w v xs) (hxl : xs.length = n) (hx : ∀ x ∈ xs, 0 ≤ x ∧ x < q) :
    Calls Try.prog 91 [.agg #[.int .i64 (n : Int), .int .i64 q, .int .i64 wr], v, .int .i64 r].toArray w fun e w' => ∃ b : Nat, e = .returned (.slice (some ⟨b, 0, none⟩) n n) ∧ Hq w w [(b, .cells ((turnL q r n xs).map (Value.int .i64) ++ []).toArray 3 (0, 0))] w' := by
  refine enter (N := 10) Try.func91 rfl rfl rfl ?_
  refine g_seq ?_
  refine g_region ?_
  refine s_tr (t_box rfl rfl) rfl rfl rfl rfl (fun bf hbf => ?_)
  refine s_tr (t_box rfl hv.cells1) rfl rfl rfl rfl (fun bl hbl => ?_)
  refine s_tr (t_box rfl rfl) rfl rfl rfl rfl (fun br hbr => ?_)
  refine s_y (y_assign rfl) rfl rfl rfl rfl ?_
  refine s_nil ?_
  refine g_then ?_
  refine g_seq ?_
  refine g_region ?_
  refine s_y (y_ldn 2 rfl rfl agg_74 size_74 rfl rfl) rfl rfl rfl rfl ?_
  refine s_y (y_func rfl rfl) rfl rfl rfl rfl ?_
  refine s_tr (t_callm (A := New _ _) rfl rfl ent_55 (fun w h => (wheel_any w n q wr 97 [.pointer (some ⟨bl, 0, none⟩), .pointer (some ⟨bf, 0, none⟩), .pointer (some ⟨br, 0, none⟩)] (fun k => tsm q r n xs k n) (by omega) (by omega) hq2 (fun k hk => by have := tsm_range r n xs k hq hq2 hx n (by omega); omega) ent_97 (fun k W hk hb => turned1_any W k n q wr r bl bf br v xs hn hn2 hq hq2 hr hr2 hk (hv.below (h.below.trans (hb.mono h.below.size))) hxl hx (below_at hb (at_of (i := 1) h rfl)) (below_at hb (at_of (i := 2) h rfl)) (below_at hb (at_of (i := 0) h rfl)))).mono fun e w' ⟨b, h1, h2⟩ => ⟨b, ⟨Nat.le_trans h.below.size (h2.ge _ (List.mem_cons_self ..)), Nat.le_trans h.size (h2.ge _ (List.mem_cons_self ..))⟩, h1, h2⟩)) rfl rfl rfl rfl (fun bc1 hbc1 => ?_)
  refine s_y (y_assign rfl) rfl rfl rfl rfl ?_
  refine s_nil ?_
  refine g_then ?_
  refine g_ret ?_
  exact g_end trivial (fun a w ha hq_ => res1 ha rfl rfl  w) (fun w h => ⟨bc1, rfl, h.hand (List.Sublist.cons_cons _ (List.nil_sublist _))⟩)

theorem spectrum_any (w : World) (n : Nat) (q wr : Int) (v : Value) (xs : List Int) (hn : 2 ≤ n) (hn2 : n ≤ 16) (hq : 2 ≤ q) (hq2 : q ≤ 1000) (hw : 0 ≤ wr) (hw2 : wr ≤ 1000) (hv : RdV (Value.int .i64) w v xs) (hxl : xs.length = n) (hx : ∀ x ∈ xs, 0 ≤ x ∧ x < q) :
    Calls Try.prog 72 [.agg #[.int .i64 (n : Int), .int .i64 q, .int .i64 wr], v].toArray w fun e w' => ∃ b : Nat, e = .returned (.slice (some ⟨b, 0, none⟩) n n) ∧ Hq w w [(b, .cells ((turnL q wr n xs).map (Value.int .i64) ++ []).toArray 3 (0, 0))] w' := by
  refine enter (N := 10) Try.func72 rfl rfl rfl ?_
  refine g_seq ?_
  refine g_region ?_
  refine s_tr (t_box rfl rfl) rfl rfl rfl rfl (fun b1 hb1 => ?_)
  refine s_y (y_assign rfl) rfl rfl rfl rfl ?_
  refine s_nil ?_
  refine g_then ?_
  refine g_seq ?_
  refine g_region ?_
  refine s_y (y_ldn 0 rfl rfl agg_74 size_74 rfl rfl) rfl rfl rfl rfl ?_
  refine s_y (y_move rfl) rfl rfl rfl rfl ?_
  refine s_y (y_fld rfl (fun w => fld_74_2 _ _ w)) rfl rfl rfl rfl ?_
  refine s_y (y_ld1 0 rfl rfl agg_3 rfl) rfl rfl rfl rfl ?_
  refine s_tr (t_callm (A := New _ _) rfl rfl ent_91 (fun w h => (turned_any w n q wr wr v xs hn hn2 hq hq2 hw hw2 (hv.below h.below) hxl hx).mono fun e w' ⟨b, h1, h2⟩ => ⟨b, ⟨Nat.le_trans h.below.size (h2.ge _ (List.mem_cons_self ..)), Nat.le_trans h.size (h2.ge _ (List.mem_cons_self ..))⟩, h1, h2⟩)) rfl rfl rfl rfl (fun bc2 hbc2 => ?_)
  refine s_y (y_assign rfl) rfl rfl rfl rfl ?_
  refine s_nil ?_
  refine g_then ?_
  refine g_ret ?_
  exact g_end trivial (fun a w ha hq_ => res1 ha rfl rfl  w) (fun w h => ⟨bc2, rfl, h.hand (List.Sublist.cons_cons _ (List.nil_sublist _))⟩)

end Go.Proofs.Ytnhflahgbkmloaa
