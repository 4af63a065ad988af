/- top: the law TopKept. -/
import Derived.Test.YtnhflahgbkmloaaTpG
namespace Go.Proofs.Ytnhflahgbkmloaa
open Go.RowKit Go.Sx Go.Wh Go.Dft
set_option linter.unusedVariables false
set_option linter.unusedSimpArgs false
set_option maxRecDepth 100000
set_option maxHeartbeats 4000000

private theorem ent_22 : Enters Try.prog 22 := enters_of Try.func22 (by kernel_rfl) rfl
private theorem ent_23 : Enters Try.prog 23 := enters_of Try.func23 (by kernel_rfl) rfl
private theorem ent_25 : Enters Try.prog 25 := enters_of Try.func25 (by kernel_rfl) rfl
private theorem sle_27 : Try.prog.underlying 27 = some (.slice (Try.prog.elem 27)) := by kernel_rfl
private theorem ent_24 : Enters Try.prog 24 := enters_of Try.func24 (by kernel_rfl) rfl
private theorem ent_26 : Enters Try.prog 26 := enters_of Try.func26 (by kernel_rfl) rfl
private theorem ent_28 : Enters Try.prog 28 := enters_of Try.func28 (by kernel_rfl) rfl
private theorem ent_27 : Enters Try.prog 27 := enters_of Try.func27 (by kernel_rfl) rfl
private theorem size_3 : (Try.prog.info? 3).map (·.size) = some 1 := by kernel_rfl
private theorem agg_3 : isAggB Try.prog 3 = some false := by kernel_rfl

theorem TopKept_ok (w : World) (n a b : Nat) (by_ : Int) (hn : 2 ≤ n) (hn2 : n ≤ 16) (ha : a < 2 ^ n) (hb : b < 2 ^ n) :
    Calls Try.prog 6 [.int .i64 (n : Int), .int .i64 (a : Int), .int .i64 (b : Int), .int .i64 by_].toArray w fun e w' => e = .returned (.bool (true)) ∧ Below w.heap.size w w' := by
  have hpw := pow_small hn2
  have hpp := Nat.two_pow_pos n
  have hun : IntKind.u64.wrap (n : Int) = (n : Int) := u64_nat (by omega)
  obtain ⟨k0, hk0, hk0l⟩ : ∃ k0 : Nat, IntKind.u64.wrap by_ % (n : Int) = (k0 : Int) ∧ k0 < n := by
    have h1 := mod_range (show 0 < n by omega) (IntKind.u64.wrap by_)
    exact ⟨(IntKind.u64.wrap by_ % (n : Int)).toNat, by omega, by omega⟩
  have hz := movN_lt n b k0
  have hzs : bs n (movN n b k0) = bs n b := mov_size hb hk0l
  have e1 := bs_ext ha 16 hn2
  have e2 := bs_ext hb 16 hn2
  have e3 := bs_ext hz 16 hn2
  have hcl := comL_len n a b
  have hcat : rdI (comL n a b) (k0 : Int) = ((bs 16 (a &&& movN n b k0) : Nat) : Int) := comL_at hk0l
  have hb1 := bs_le 16 a
  have hb2 := bs_le 16 (a &&& movN n b k0)
  refine enter (N := 133) Try.func6 rfl rfl rfl ?_
  refine g_seq ?_
  refine g_region ?_
  refine s_y (y_assign rfl) rfl rfl rfl rfl ?_
  refine s_nil ?_
  refine g_then ?_
  refine g_seq ?_
  refine g_region ?_
  refine s_y (y_move rfl) rfl rfl rfl rfl ?_
  refine s_y (y_move rfl) rfl rfl rfl rfl ?_
  refine s_y (y_move rfl) rfl rfl rfl rfl ?_
  refine s_tr (t_callm rfl rfl ent_22 (fun w h => CCommon_ok w n a b hn hn2 ha hb)) rfl rfl rfl rfl (fun x2 hx3 => ?_)
  obtain ⟨vo1, mo1⟩ := x2
  obtain ⟨hOo1, hEo1⟩ := hx3
  refine s_y (y_move rfl) rfl rfl rfl rfl ?_
  refine s_y (y_extract rfl rfl) rfl rfl rfl rfl ?_
  refine s_y (y_extract rfl rfl) rfl rfl rfl rfl ?_
  refine s_y (y_assign rfl) rfl rfl rfl rfl ?_
  refine s_y (y_assign rfl) rfl rfl rfl rfl ?_
  refine s_nil ?_
  refine g_then ?_
  refine g_seq ?_
  refine g_seq ?_
  refine g_region ?_
  refine s_y (y_move rfl) rfl rfl rfl rfl ?_
  refine s_y (y_neq_f rfl rfl (by decide)) rfl rfl rfl rfl ?_
  refine s_y (y_move rfl) rfl rfl rfl rfl ?_
  refine s_y (y_move rfl) rfl rfl rfl rfl ?_
  refine s_y (y_move rfl) rfl rfl rfl rfl ?_
  refine s_tr (t_call rfl rfl ent_23 (fun w h => Valid_t w n a hn hn2 ha)) rfl rfl rfl rfl (fun _ _ => ?_)
  refine s_y (y_not_t rfl) rfl rfl rfl rfl ?_
  refine s_y (y_pick_f rfl rfl) rfl rfl rfl rfl ?_
  refine s_y (y_move rfl) rfl rfl rfl rfl ?_
  refine s_y (y_move rfl) rfl rfl rfl rfl ?_
  refine s_y (y_move rfl) rfl rfl rfl rfl ?_
  refine s_tr (t_call rfl rfl ent_23 (fun w h => Valid_t w n b hn hn2 hb)) rfl rfl rfl rfl (fun _ _ => ?_)
  refine s_y (y_not_t rfl) rfl rfl rfl rfl ?_
  refine s_y (y_pick_f rfl rfl) rfl rfl rfl rfl ?_
  refine s_nil ?_
  refine g_then ?_
  refine g_cond_f rfl ?_
  refine g_skip ?_
  refine g_then ?_
  refine g_seq ?_
  refine g_seq ?_
  refine g_region ?_
  refine s_y (y_move rfl) rfl rfl rfl rfl ?_
  refine s_tr (t_call rfl rfl ent_25 (fun w h => Size_any w a (by omega))) rfl rfl rfl rfl (fun _ _ => ?_)
  refine s_y (y_assign rfl) rfl rfl rfl rfl ?_
  refine s_nil ?_
  refine g_then ?_
  refine g_seq ?_
  refine g_region ?_
  refine s_y (y_move rfl) rfl rfl rfl rfl ?_
  refine s_y (y_move rfl) rfl rfl rfl rfl ?_
  refine s_tr (t_call rfl rfl ent_25 (fun w h => Size_any w b (by omega))) rfl rfl rfl rfl (fun _ _ => ?_)
  refine s_y (y_neq rfl rfl) rfl rfl rfl rfl ?_
  refine s_y (y_move rfl) rfl rfl rfl rfl ?_
  refine g_bool 46 rfl (fun cq4 => ?_) (fun cq4 => ?_)
  · (try simp at cq4)
    refine s_no rfl rfl rfl ?_
    refine s_no rfl rfl rfl ?_
    refine s_y (y_pick_t rfl rfl) rfl rfl rfl rfl ?_
    refine s_y (y_move rfl) rfl rfl rfl rfl ?_
    refine s_no rfl rfl rfl ?_
    refine s_no rfl rfl rfl ?_
    refine s_y (y_pick_t rfl rfl) rfl rfl rfl rfl ?_
    refine s_y (y_move rfl) rfl rfl rfl rfl ?_
    refine s_no rfl rfl rfl ?_
    refine s_no rfl rfl rfl ?_
    refine s_no rfl rfl rfl ?_
    refine s_no rfl rfl rfl ?_
    refine s_y (y_pick_t rfl rfl) rfl rfl rfl rfl ?_
    refine s_nil ?_
    refine g_then ?_
    refine g_cond_t rfl ?_
    refine g_seq ?_
    refine g_region ?_
    refine s_y (y_move rfl) rfl rfl rfl rfl ?_
    refine s_y (y_lenV (n := ((comL n a b).length)) rfl hOo1.1 sle_27) rfl rfl rfl rfl ?_
    refine s_y (y_move rfl) rfl rfl rfl rfl ?_
    refine s_y (y_eql_t rfl rfl (by rw [comL_len])) rfl rfl rfl rfl ?_
    refine s_y (y_move rfl) rfl rfl rfl rfl ?_
    refine s_tr (t_call rfl rfl ent_24 (fun w h => leads_t w)) rfl rfl rfl rfl (fun _ _ => ?_)
    refine s_y (y_pick_t rfl rfl) rfl rfl rfl rfl ?_
    refine s_y (y_assign rfl) rfl rfl rfl rfl ?_
    refine s_nil ?_
    refine g_then ?_
    refine g_ret ?_
    refine g_thenr ?_
    exact g_end trivial (fun a w ha hq_ => res1 ha rfl rfl  w) (fun w h => ⟨rfl, h.below⟩)
  · (try simp at cq4)
    refine s_y (y_move rfl) rfl rfl rfl rfl ?_
    refine s_y (y_lss rfl rfl) rfl rfl rfl rfl ?_
    refine s_y (y_pick_f rfl rfl) rfl rfl rfl rfl ?_
    refine s_y (y_move rfl) rfl rfl rfl rfl ?_
    refine g_bool 50 rfl (fun cq5 => ?_) (fun cq5 => ?_)
    · (try simp at cq5)
      refine s_no rfl rfl rfl ?_
      refine s_no rfl rfl rfl ?_
      refine s_y (y_pick_t rfl rfl) rfl rfl rfl rfl ?_
      refine s_y (y_move rfl) rfl rfl rfl rfl ?_
      refine s_no rfl rfl rfl ?_
      refine s_no rfl rfl rfl ?_
      refine s_no rfl rfl rfl ?_
      refine s_no rfl rfl rfl ?_
      refine s_y (y_pick_t rfl rfl) rfl rfl rfl rfl ?_
      refine s_nil ?_
      refine g_then ?_
      refine g_cond_t rfl ?_
      refine g_seq ?_
      refine g_region ?_
      refine s_y (y_move rfl) rfl rfl rfl rfl ?_
      refine s_y (y_lenV (n := ((comL n a b).length)) rfl hOo1.1 sle_27) rfl rfl rfl rfl ?_
      refine s_y (y_move rfl) rfl rfl rfl rfl ?_
      refine s_y (y_eql_t rfl rfl (by rw [comL_len])) rfl rfl rfl rfl ?_
      refine s_y (y_move rfl) rfl rfl rfl rfl ?_
      refine s_tr (t_call rfl rfl ent_24 (fun w h => leads_t w)) rfl rfl rfl rfl (fun _ _ => ?_)
      refine s_y (y_pick_t rfl rfl) rfl rfl rfl rfl ?_
      refine s_y (y_assign rfl) rfl rfl rfl rfl ?_
      refine s_nil ?_
      refine g_then ?_
      refine g_ret ?_
      refine g_thenr ?_
      exact g_end trivial (fun a w ha hq_ => res1 ha rfl rfl  w) (fun w h => ⟨rfl, h.below⟩)
    · (try simp at cq5)
      refine s_y (y_move rfl) rfl rfl rfl rfl ?_
      refine s_y (y_gtr rfl rfl) rfl rfl rfl rfl ?_
      refine s_y (y_pick_f rfl rfl) rfl rfl rfl rfl ?_
      refine s_y (y_move rfl) rfl rfl rfl rfl ?_
      refine g_bool 54 rfl (fun cq6 => ?_) (fun cq6 => ?_)
      · (try simp at cq6)
        refine s_no rfl rfl rfl ?_
        refine s_no rfl rfl rfl ?_
        refine s_no rfl rfl rfl ?_
        refine s_no rfl rfl rfl ?_
        refine s_y (y_pick_t rfl rfl) rfl rfl rfl rfl ?_
        refine s_nil ?_
        refine g_then ?_
        refine g_cond_t rfl ?_
        refine g_seq ?_
        refine g_region ?_
        refine s_y (y_move rfl) rfl rfl rfl rfl ?_
        refine s_y (y_lenV (n := ((comL n a b).length)) rfl hOo1.1 sle_27) rfl rfl rfl rfl ?_
        refine s_y (y_move rfl) rfl rfl rfl rfl ?_
        refine s_y (y_eql_t rfl rfl (by rw [comL_len])) rfl rfl rfl rfl ?_
        refine s_y (y_move rfl) rfl rfl rfl rfl ?_
        refine s_tr (t_call rfl rfl ent_24 (fun w h => leads_t w)) rfl rfl rfl rfl (fun _ _ => ?_)
        refine s_y (y_pick_t rfl rfl) rfl rfl rfl rfl ?_
        refine s_y (y_assign rfl) rfl rfl rfl rfl ?_
        refine s_nil ?_
        refine g_then ?_
        refine g_ret ?_
        refine g_thenr ?_
        exact g_end trivial (fun a w ha hq_ => res1 ha rfl rfl  w) (fun w h => ⟨rfl, h.below⟩)
      · (try simp at cq6)
        refine s_y (y_move rfl) rfl rfl rfl rfl ?_
        refine s_y (y_lenV (n := ((comL n a b).length)) rfl hOo1.1 sle_27) rfl rfl rfl rfl ?_
        refine s_y (y_move rfl) rfl rfl rfl rfl ?_
        refine s_y (y_neq_f rfl rfl (by rw [comL_len])) rfl rfl rfl rfl ?_
        refine s_y (y_pick_f rfl rfl) rfl rfl rfl rfl ?_
        refine s_nil ?_
        refine g_then ?_
        refine g_cond_f rfl ?_
        refine g_skip ?_
        refine g_then ?_
        refine g_seq ?_
        refine g_region ?_
        refine s_y (y_move rfl) rfl rfl rfl rfl ?_
        refine s_y (y_conv rfl (by kernel_rfl) Try.underlying31 rfl) rfl rfl rfl rfl ?_
        refine s_y (y_move rfl) rfl rfl rfl rfl ?_
        refine s_y (y_conv rfl (by kernel_rfl) Try.underlying31 hun) rfl rfl rfl rfl ?_
        refine s_y (y_remu rfl rfl (u64_range by_).1 (by omega)) rfl rfl rfl rfl ?_
        rw [hk0]
        refine s_y (y_conv rfl (by kernel_rfl) Try.underlying3 (conv_eq trivial (by omega) (by omega))) rfl rfl rfl rfl ?_
        refine s_y (y_assign rfl) rfl rfl rfl rfl ?_
        refine s_nil ?_
        refine g_then ?_
        refine g_seq ?_
        refine g_region ?_
        refine s_y (y_move rfl) rfl rfl rfl rfl ?_
        refine s_y (y_move rfl) rfl rfl rfl rfl ?_
        refine s_y (y_move rfl) rfl rfl rfl rfl ?_
        refine s_tr (t_call rfl rfl ent_26 (fun w h => CMove_ok w n b k0 hn hn2 hb hk0l)) rfl rfl rfl rfl (fun _ _ => ?_)
        refine s_y (y_move rfl) rfl rfl rfl rfl ?_
        refine s_y (y_extract rfl rfl) rfl rfl rfl rfl ?_
        refine s_y (y_extract rfl rfl) rfl rfl rfl rfl ?_
        refine s_y (y_assign rfl) rfl rfl rfl rfl ?_
        refine s_y (y_assign rfl) rfl rfl rfl rfl ?_
        refine s_nil ?_
        refine g_then ?_
        refine g_seq ?_
        refine g_seq ?_
        refine g_region ?_
        refine s_y (y_move rfl) rfl rfl rfl rfl ?_
        refine s_y (y_neq_f rfl rfl (by decide)) rfl rfl rfl rfl ?_
        refine s_y (y_move rfl) rfl rfl rfl rfl ?_
        refine s_y (y_move rfl) rfl rfl rfl rfl ?_
        refine s_y (y_move rfl) rfl rfl rfl rfl ?_
        refine s_tr (t_call rfl rfl ent_23 (fun w h => Valid_t w n (movN n b k0) hn hn2 (movN_lt n b k0))) rfl rfl rfl rfl (fun _ _ => ?_)
        refine s_y (y_not_t rfl) rfl rfl rfl rfl ?_
        refine s_y (y_pick_f rfl rfl) rfl rfl rfl rfl ?_
        refine s_y (y_move rfl) rfl rfl rfl rfl ?_
        refine s_y (y_move rfl) rfl rfl rfl rfl ?_
        refine s_tr (t_call rfl rfl ent_25 (fun w h => Size_any w (movN n b k0) (by omega))) rfl rfl rfl rfl (fun _ _ => ?_)
        refine s_y (y_move rfl) rfl rfl rfl rfl ?_
        refine s_tr (t_call rfl rfl ent_25 (fun w h => Size_any w a (by omega))) rfl rfl rfl rfl (fun _ _ => ?_)
        refine s_y (y_neq_f rfl rfl (by omega)) rfl rfl rfl rfl ?_
        refine s_y (y_pick_f rfl rfl) rfl rfl rfl rfl ?_
        refine s_nil ?_
        refine g_then ?_
        refine g_cond_f rfl ?_
        refine g_skip ?_
        refine g_then ?_
        refine g_seq ?_
        refine g_region ?_
        refine s_y (y_move rfl) rfl rfl rfl rfl ?_
        refine s_y (y_move rfl) rfl rfl rfl rfl ?_
        refine s_y (y_move rfl) rfl rfl rfl rfl ?_
        refine s_tr (t_callm rfl rfl ent_28 (fun w h => tones_any w n a hn hn2 ha)) rfl rfl rfl rfl (fun xo hxo => ?_)
        obtain ⟨vt, mt1⟩ := xo
        obtain ⟨hOt1, hEt1⟩ := hxo
        have hOt1 : OwnV (Value.int .i64) vt (tonesL a n) mt1 := hOt1
        obtain ⟨At1, ct1, hvt⟩ := id hOt1.1
        subst hvt
        refine s_y (y_move rfl) rfl rfl rfl rfl ?_
        refine s_y (y_move rfl) rfl rfl rfl rfl ?_
        refine s_tr (t_callm rfl rfl ent_28 (fun w h => tones_any w n (movN n b k0) hn hn2 (movN_lt n b k0))) rfl rfl rfl rfl (fun xo hxo => ?_)
        obtain ⟨vt, mt2⟩ := xo
        obtain ⟨hOt2, hEt2⟩ := hxo
        have hOt2 : OwnV (Value.int .i64) vt (tonesL (movN n b k0) n) mt2 := hOt2
        obtain ⟨At2, ct2, hvt⟩ := id hOt2.1
        subst hvt
        refine s_tr (t_callm (A := fun z : Int => GoodC (n : Int) (tonesL a n) (tonesL (movN n b k0) n) z) (vf := fun z => .tuple #[.int .i64 z, .int .i64 0]) (mm := fun _ => []) rfl rfl ent_27 (fun w h => (VCost_any (by omega) (by omega) (by rw [tonesL_cnt]; omega) (tonesL_range a n) (tonesL_range (movN n b k0) n) (by rw [tonesL_cnt, tonesL_cnt]; omega) (by rw [tonesL_cnt]; omega) w (hOt1.rd fun p hp => h.at_ p (mem_ar mt2 (mem_al mt1 hp))) (hOt2.rd fun p hp => h.at_ p (mem_al mt2 hp))).mono fun e w' ⟨z, q1, q2, q3⟩ => ⟨z, q1, q2, Hq.of_below q3⟩)) rfl rfl rfl rfl (fun co hco => ?_)
        have hkl := kept_law hn hn2 ha (by omega) hco
        refine s_y (y_move rfl) rfl rfl rfl rfl ?_
        refine s_y (y_extract rfl rfl) rfl rfl rfl rfl ?_
        refine s_y (y_extract rfl rfl) rfl rfl rfl rfl ?_
        refine s_y (y_assign rfl) rfl rfl rfl rfl ?_
        refine s_y (y_assign rfl) rfl rfl rfl rfl ?_
        refine s_nil ?_
        refine g_then ?_
        refine g_seq ?_
        refine g_draw 28 (by kernel_rfl) ?_
        refine j_p (i := 0) rfl (y_move rfl) (by kernel_rfl) (by kernel_rfl) (by kernel_rfl) rfl rfl rfl rfl rfl (.inr (fun _ h => h)) ?_
        refine j_p (i := 1) rfl (y_eql_t rfl rfl (by decide)) (by kernel_rfl) (by kernel_rfl) (by kernel_rfl) rfl rfl rfl rfl rfl (.inr (fun _ h => h)) ?_
        refine j_p (i := 2) rfl (y_move rfl) (by kernel_rfl) (by kernel_rfl) (by kernel_rfl) rfl rfl rfl rfl rfl (.inr (fun _ h => h)) ?_
        refine j_p (i := 3) rfl (y_move rfl) (by kernel_rfl) (by kernel_rfl) (by kernel_rfl) rfl rfl rfl rfl rfl (.inr (fun _ h => h)) ?_
        refine j_p (i := 4) rfl (y_move rfl) (by kernel_rfl) (by kernel_rfl) (by kernel_rfl) rfl rfl rfl rfl rfl (.inr (fun _ h => h)) ?_
        refine j_p (i := 5) rfl (y_idxO (enc := (Value.int .i64)) rfl rfl hOo1 hEo1 Try.underlying27 size_3 (by omega) (by omega)) (by kernel_rfl) (by kernel_rfl) (by kernel_rfl) rfl rfl rfl rfl rfl (.inr (fun _ h => h)) ?_
        refine j_l (i := 6) rfl (y_ldV (enc := (Value.int .i64)) (xs := comL n a b) (fun w h => (hOo1.rd fun p hp => h.at_ p (mem_ar mt2 (mem_ar mt1 (mem_al mo1 hp)))).rdl) rfl agg_3 (rdI_at (by omega) (by omega))) (by kernel_rfl) (by kernel_rfl) (by kernel_rfl) (by kernel_rfl) rfl rfl rfl rfl rfl (.inr (fun _ h => h)) ?_
        refine j_p (i := 7) rfl (y_move rfl) (by kernel_rfl) (by kernel_rfl) (by kernel_rfl) rfl rfl rfl rfl rfl (.inr (fun _ h => h)) ?_
        refine j_p (i := 8) rfl (y_move rfl) (by kernel_rfl) (by kernel_rfl) (by kernel_rfl) rfl rfl rfl rfl rfl (.inr (fun _ h => h)) ?_
        refine j_p (i := 9) rfl (y_andN a (movN n b k0) rfl rfl (by rfl) (by rfl) (by omega) (by omega)) (by kernel_rfl) (by kernel_rfl) (by kernel_rfl) rfl rfl rfl rfl rfl (.inr (fun _ h => h)) ?_
        refine j_tr (i := 10) rfl (t_call rfl rfl ent_25 (fun w h => Size_any w (a &&& (movN n b k0)) (Nat.lt_of_le_of_lt Nat.and_le_left (by omega)))) (by kernel_rfl) rfl rfl rfl rfl (.inr (fun x w hb h => h)) (fun _ _ => ?_)
        refine j_p (i := 11) rfl (y_eql_t rfl rfl (by exact hcat)) (by kernel_rfl) (by kernel_rfl) (by kernel_rfl) rfl rfl rfl rfl rfl (.inr (fun _ h => h)) ?_
        refine j_p (i := 12) rfl (y_pick_t rfl rfl) (by kernel_rfl) (by kernel_rfl) (by kernel_rfl) rfl rfl rfl rfl rfl (.inr (fun _ h => h)) ?_
        refine j_p (i := 13) rfl (y_move rfl) (by kernel_rfl) (by kernel_rfl) (by kernel_rfl) rfl rfl rfl rfl rfl (.inr (fun _ h => h)) ?_
        refine j_p (i := 14) rfl (y_move rfl) (by kernel_rfl) (by kernel_rfl) (by kernel_rfl) rfl rfl rfl rfl rfl (.inr (fun _ h => h)) ?_
        refine j_p (i := 15) rfl (y_move rfl) (by kernel_rfl) (by kernel_rfl) (by kernel_rfl) rfl rfl rfl rfl rfl (.inr (fun _ h => h)) ?_
        refine j_p (i := 17) rfl (y_move rfl) (by kernel_rfl) (by kernel_rfl) (by kernel_rfl) rfl rfl rfl rfl rfl (.inr (fun _ h => h)) ?_
        refine j_p (i := 18) rfl (y_move rfl) (by kernel_rfl) (by kernel_rfl) (by kernel_rfl) rfl rfl rfl rfl rfl (.inr (fun _ h => h)) ?_
        refine j_p (i := 19) rfl (y_idxO (enc := (Value.int .i64)) rfl rfl hOo1 hEo1 Try.underlying27 size_3 (by omega) (by omega)) (by kernel_rfl) (by kernel_rfl) (by kernel_rfl) rfl rfl rfl rfl rfl (.inr (fun _ h => h)) ?_
        refine j_l (i := 20) rfl (y_ldV (enc := (Value.int .i64)) (xs := comL n a b) (fun w h => (hOo1.rd fun p hp => h.at_ p (mem_ar mt2 (mem_ar mt1 (mem_al mo1 hp)))).rdl) rfl agg_3 (rdI_at (by omega) (by omega))) (by kernel_rfl) (by kernel_rfl) (by kernel_rfl) (by kernel_rfl) rfl rfl rfl rfl rfl (.inr (fun _ h => h)) ?_
        refine j_tr (i := 16) rfl (t_call rfl rfl ent_25 (fun w h => Size_any w a (by omega))) (by kernel_rfl) rfl rfl rfl rfl (.inr (fun x w hb h => h)) (fun _ _ => ?_)
        refine j_p (i := 21) rfl (y_sub rfl rfl (by omega) (by omega)) (by kernel_rfl) (by kernel_rfl) (by kernel_rfl) rfl rfl rfl rfl rfl (.inr (fun _ h => h)) ?_
        refine j_p (i := 22) rfl (y_geq_t rfl rfl (by omega)) (by kernel_rfl) (by kernel_rfl) (by kernel_rfl) rfl rfl rfl rfl rfl (.inr (fun _ h => h)) ?_
        refine j_p (i := 23) rfl (y_pick_t rfl rfl) (by kernel_rfl) (by kernel_rfl) (by kernel_rfl) rfl rfl rfl rfl rfl (.inr (fun _ h => h)) ?_
        refine j_p (i := 24) rfl (y_move rfl) (by kernel_rfl) (by kernel_rfl) (by kernel_rfl) rfl rfl rfl rfl rfl (.inr (fun _ h => h)) ?_
        refine j_tr (i := 25) rfl (t_call rfl rfl ent_24 (fun w h => leads_t w)) (by kernel_rfl) rfl rfl rfl rfl (.inr (fun x w hb h => h)) (fun _ _ => ?_)
        refine j_p (i := 26) rfl (y_pick_t rfl rfl) (by kernel_rfl) (by kernel_rfl) (by kernel_rfl) rfl rfl rfl rfl rfl (.inr (fun _ h => h)) ?_
        refine j_p (i := 27) rfl (y_assign rfl) (by kernel_rfl) (by kernel_rfl) (by kernel_rfl) rfl rfl rfl rfl rfl (.inr (fun _ h => h)) ?_
        refine j_nil (by kernel_rfl) ?_
        refine g_then ?_
        refine g_ret ?_
        exact g_end trivial (fun a w ha hq_ => res1 ha rfl rfl  w) (fun w h => ⟨rfl, h.below⟩)

theorem TopKept_no (w : World) (n a b by_ : Int) (hno : ¬ (2 ≤ n ∧ n ≤ 16 ∧ [a, b].any (outB n.toNat) = false)) :
    Calls Try.prog 6 [.int .i64 n, .int .i64 a, .int .i64 b, .int .i64 by_].toArray w fun e w' => e = .returned (.bool (true)) ∧ Below w.heap.size w w' := by
  refine enter (N := 133) Try.func6 rfl rfl rfl ?_
  refine g_seq ?_
  refine g_region ?_
  refine s_y (y_assign rfl) rfl rfl rfl rfl ?_
  refine s_nil ?_
  refine g_then ?_
  refine g_seq ?_
  refine g_region ?_
  refine s_y (y_move rfl) rfl rfl rfl rfl ?_
  refine s_y (y_move rfl) rfl rfl rfl rfl ?_
  refine s_y (y_move rfl) rfl rfl rfl rfl ?_
  refine s_tr (t_call rfl rfl ent_22 (fun w h => CCommon_no w n a b hno)) rfl rfl rfl rfl (fun _ _ => ?_)
  refine s_y (y_move rfl) rfl rfl rfl rfl ?_
  refine s_y (y_extract rfl rfl) rfl rfl rfl rfl ?_
  refine s_y (y_extract rfl rfl) rfl rfl rfl rfl ?_
  refine s_y (y_assign rfl) rfl rfl rfl rfl ?_
  refine s_y (y_assign rfl) rfl rfl rfl rfl ?_
  refine s_nil ?_
  refine g_then ?_
  refine g_seq ?_
  refine g_seq ?_
  refine g_region ?_
  refine s_y (y_move rfl) rfl rfl rfl rfl ?_
  refine s_y (y_neq_t rfl rfl (by decide)) rfl rfl rfl rfl ?_
  refine s_y (y_move rfl) rfl rfl rfl rfl ?_
  refine s_no rfl rfl rfl ?_
  refine s_no rfl rfl rfl ?_
  refine s_no rfl rfl rfl ?_
  refine s_no rfl rfl rfl ?_
  refine s_y (y_pick_t rfl rfl) rfl rfl rfl rfl ?_
  refine s_y (y_move rfl) rfl rfl rfl rfl ?_
  refine s_no rfl rfl rfl ?_
  refine s_no rfl rfl rfl ?_
  refine s_no rfl rfl rfl ?_
  refine s_no rfl rfl rfl ?_
  refine s_y (y_pick_t rfl rfl) rfl rfl rfl rfl ?_
  refine s_nil ?_
  refine g_then ?_
  refine g_cond_t rfl ?_
  refine g_seq ?_
  refine g_region ?_
  refine s_y (y_move rfl) rfl rfl rfl rfl ?_
  refine s_y (y_eql_t rfl rfl (by decide)) rfl rfl rfl rfl ?_
  refine s_y (y_move rfl) rfl rfl rfl rfl ?_
  refine s_tr (t_call rfl rfl ent_24 (fun w h => leads_t w)) rfl rfl rfl rfl (fun _ _ => ?_)
  refine s_y (y_pick_t rfl rfl) rfl rfl rfl rfl ?_
  refine s_y (y_assign rfl) rfl rfl rfl rfl ?_
  refine s_nil ?_
  refine g_then ?_
  refine g_ret ?_
  refine g_thenr ?_
  exact g_end trivial (fun a w ha hq_ => res1 ha rfl rfl  w) (fun w h => ⟨rfl, h.below⟩)

theorem TopKept_law (w : World) (n a b by_ : Int) (_ : (Lit.int .i64 n).wf = true) (_ : (Lit.int .i64 a).wf = true) (_ : (Lit.int .i64 b).wf = true) (_ : (Lit.int .i64 by_).wf = true) : Calls Try.prog 6 [.int .i64 n, .int .i64 a, .int .i64 b, .int .i64 by_].toArray w fun e w' => e = .returned (.bool (true)) ∧ Below w.heap.size w w' := by
  by_cases h : 2 ≤ n ∧ n ≤ 16 ∧ [a, b].any (outB n.toNat) = false
  · obtain ⟨h1, h2, h3⟩ := h
    obtain ⟨m, rfl⟩ := Int.eq_ofNat_of_zero_le (show 0 ≤ n by omega)
    simp only [outB, List.any_cons, List.any_nil, Bool.or_false, Bool.or_eq_false_iff, decide_eq_false_iff_not, Int.toNat_natCast] at h3
    obtain ⟨⟨p1, p2⟩, p3, p4⟩ := h3
    obtain ⟨x, rfl⟩ := Int.eq_ofNat_of_zero_le (show 0 ≤ a by omega)
    obtain ⟨y, rfl⟩ := Int.eq_ofNat_of_zero_le (show 0 ≤ b by omega)
    exact TopKept_ok w m x y by_ (by omega) (by omega) (by omega) (by omega)
  · exact TopKept_no w n a b by_ h

end Go.Proofs.Ytnhflahgbkmloaa
