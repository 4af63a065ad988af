/- The law WheelsTurns, walked. -/
import Derived.Test.YtncenmgkdodioaaWhH
namespace Go.Proofs.Ytncenmgkdodioaa
open Go.RowKit Go.Sx Go.Wh Go.Dft
set_option linter.unusedVariables false
set_option linter.unusedSimpArgs false
set_option maxRecDepth 100000
set_option maxHeartbeats 4000000

private theorem ent_29 : Enters Try.prog 29 := enters_of Try.func29 (by kernel_rfl) rfl
private theorem ent_17 : Enters Try.prog 17 := enters_of Try.func17 (by kernel_rfl) rfl
private theorem ent_18 : Enters Try.prog 18 := enters_of Try.func18 (by kernel_rfl) rfl
private theorem ent_27 : Enters Try.prog 27 := enters_of Try.func27 (by kernel_rfl) rfl
private theorem ent_26 : Enters Try.prog 26 := enters_of Try.func26 (by kernel_rfl) rfl
private theorem ent_28 : Enters Try.prog 28 := enters_of Try.func28 (by kernel_rfl) rfl
private theorem ent_34 : Enters Try.prog 34 := enters_of Try.func34 (by kernel_rfl) rfl
private theorem ent_43 : Enters Try.prog 43 := enters_of Try.func43 (by kernel_rfl) rfl
private theorem ent_33 : Enters Try.prog 33 := enters_of Try.func33 (by kernel_rfl) rfl
private theorem ent_30 : Enters Try.prog 30 := enters_of Try.func30 (by kernel_rfl) rfl
private theorem sle_32 : Try.prog.underlying 32 = some (.slice (Try.prog.elem 32)) := by kernel_rfl
private theorem size_3 : (Try.prog.info? 3).map (·.size) = some 1 := by kernel_rfl
private theorem agg_3 : isAggB Try.prog 3 = some false := by kernel_rfl
private theorem ent_20 : Enters Try.prog 20 := enters_of Try.func20 (by kernel_rfl) rfl

theorem WheelsTurns_ok (w : World) (n : Nat) (v : Value) (xs : List Int) (k : Int) (hv : RdV (Value.int .i64) w v xs) (hn : 2 ≤ n) (hn2 : n ≤ 16) (hok : okW n (qOf n) xs = true) :
    Calls Try.prog 12 [.int .i64 (n : Int), v, .int .i64 k].toArray w fun e w' => e = .returned (.bool true) ∧ Below w.heap.size w w' := by
  obtain ⟨hf1, hf2, hf3, hf4, hf5, hf6, hf7⟩ := q_facts hn hn2
  obtain ⟨hxl, hx⟩ := okW_true.1 hok
  have hu := u64_range k
  have hun : IntKind.u64.wrap (n : Int) = (n : Int) := by unfold IntKind.wrap; simp [IntKind.bits, IntKind.signed]; omega
  have hmk := mod_range (show 0 < n by omega) (IntKind.u64.wrap k)
  obtain ⟨t0, ht0⟩ := Int.eq_ofNat_of_zero_le hmk.1
  have ht0l : t0 < n := by omega
  have hko := kOf_nat ht0l
  refine enter (N := 247) Try.func12 rfl rfl rfl ?_
  refine g_seq ?_
  refine g_region ?_
  refine s_y (y_assign rfl) rfl rfl rfl rfl ?_
  refine s_nil ?_
  refine g_then ?_
  refine g_seq ?_
  refine g_seq ?_
  refine g_region ?_
  refine s_y (y_move rfl) rfl rfl rfl rfl ?_
  refine s_y (y_move rfl) rfl rfl rfl rfl ?_
  refine s_tr (t_call rfl rfl ent_29 (fun w h => RWheel_t w n _ xs (hv.below h.below) hn hn2 hok)) rfl rfl rfl rfl (fun _ _ => ?_)
  refine s_y (y_not_t rfl) rfl rfl rfl rfl ?_
  refine s_nil ?_
  refine g_then ?_
  refine g_cond_f rfl ?_
  refine g_skip ?_
  refine g_then ?_
  refine g_seq ?_
  refine g_region ?_
  refine s_y (y_move rfl) rfl rfl rfl rfl ?_
  refine s_y (y_conv rfl (by kernel_rfl) Try.underlying49 rfl) rfl rfl rfl rfl ?_
  refine s_y (y_move rfl) rfl rfl rfl rfl ?_
  refine s_y (y_conv rfl (by kernel_rfl) Try.underlying49 hun) rfl rfl rfl rfl ?_
  refine s_y (y_remu rfl rfl hu.1 (by omega)) rfl rfl rfl rfl ?_
  refine s_y (y_conv rfl (by kernel_rfl) Try.underlying3 (conv_eq trivial (by omega) (by omega))) rfl rfl rfl rfl ?_
  rw [ht0]
  refine s_y (y_assign rfl) rfl rfl rfl rfl ?_
  refine s_nil ?_
  refine g_then ?_
  refine g_seq ?_
  refine g_region ?_
  refine s_y (y_move rfl) rfl rfl rfl rfl ?_
  refine s_tr (t_call rfl rfl ent_17 (fun w h => Prime_ok w n hn hn2)) rfl rfl rfl rfl (fun _ _ => ?_)
  refine s_y (y_move rfl) rfl rfl rfl rfl ?_
  refine s_y (y_extract rfl rfl) rfl rfl rfl rfl ?_
  refine s_y (y_extract rfl rfl) rfl rfl rfl rfl ?_
  refine s_y (y_assign rfl) rfl rfl rfl rfl ?_
  refine s_y (y_assign rfl) rfl rfl rfl rfl ?_
  refine s_nil ?_
  refine g_then ?_
  refine g_seq ?_
  refine g_region ?_
  refine s_y (y_move rfl) rfl rfl rfl rfl ?_
  refine s_tr (t_call rfl rfl ent_18 (fun w h => Root_ok w n hn hn2)) rfl rfl rfl rfl (fun _ _ => ?_)
  refine s_y (y_move rfl) rfl rfl rfl rfl ?_
  refine s_y (y_extract rfl rfl) rfl rfl rfl rfl ?_
  refine s_y (y_extract rfl rfl) rfl rfl rfl rfl ?_
  refine s_y (y_assign rfl) rfl rfl rfl rfl ?_
  refine s_y (y_assign rfl) rfl rfl rfl rfl ?_
  refine s_nil ?_
  refine g_then ?_
  refine g_seq ?_
  refine g_region ?_
  refine s_y (y_move rfl) rfl rfl rfl rfl ?_
  refine s_y (y_move rfl) rfl rfl rfl rfl ?_
  refine s_tr (t_callm rfl rfl ent_27 (fun w h => list_le w _ xs (hv.below h.below) (by have h_ : (xs).length = n := (okW_true.1 hok).1; omega))) rfl rfl rfl rfl (fun x2 hx3 => ?_)
  obtain ⟨vo1, mo1⟩ := x2
  obtain ⟨hOo1, hEo1⟩ := hx3
  refine s_y (y_move rfl) rfl rfl rfl rfl ?_
  refine s_tr (t_callm (A := New _ _) rfl rfl ent_26 (fun w h => (hko ▸ Move_ok w n _ xs (t0 : Int) (hOo1.rd fun p hp => h.at_ p (mem_al mo1 hp)) hn hn2 hok).mono fun e w' ⟨b, h1, h2⟩ => ⟨b, ⟨Nat.le_trans h.below.size (h2.ge _ (List.mem_cons_self ..)), Nat.le_trans h.size (h2.ge _ (List.mem_cons_self ..))⟩, h1, h2⟩)) rfl rfl rfl rfl (fun bc4 hbc4 => ?_)
  refine s_y (y_move rfl) rfl rfl rfl rfl ?_
  refine s_y (y_extract rfl rfl) rfl rfl rfl rfl ?_
  refine s_y (y_extract rfl rfl) rfl rfl rfl rfl ?_
  refine s_y (y_assign rfl) rfl rfl rfl rfl ?_
  refine s_y (y_assign rfl) rfl rfl rfl rfl ?_
  refine s_nil ?_
  refine g_then ?_
  refine g_seq ?_
  refine g_region ?_
  refine s_y (y_move rfl) rfl rfl rfl rfl ?_
  refine s_y (y_move rfl) rfl rfl rfl rfl ?_
  refine s_tr (t_callm rfl rfl ent_27 (fun w h => list_le w _ xs (hv.below h.below) (by have h_ : (xs).length = n := (okW_true.1 hok).1; omega))) rfl rfl rfl rfl (fun x6 hx7 => ?_)
  obtain ⟨vo5, mo5⟩ := x6
  obtain ⟨hOo5, hEo5⟩ := hx7
  refine s_tr (t_callm (A := New _ _) rfl rfl ent_28 (fun w h => (Turn_ok w n _ xs (hOo5.rd fun p hp => h.at_ p (mem_al mo5 hp)) hn hn2 hok).mono fun e w' ⟨b, h1, h2⟩ => ⟨b, ⟨Nat.le_trans h.below.size (h2.ge _ (List.mem_cons_self ..)), Nat.le_trans h.size (h2.ge _ (List.mem_cons_self ..))⟩, h1, h2⟩)) rfl rfl rfl rfl (fun bc8 hbc8 => ?_)
  refine s_y (y_move rfl) rfl rfl rfl rfl ?_
  refine s_y (y_extract rfl rfl) rfl rfl rfl rfl ?_
  refine s_y (y_extract rfl rfl) rfl rfl rfl rfl ?_
  refine s_y (y_assign rfl) rfl rfl rfl rfl ?_
  refine s_y (y_assign rfl) rfl rfl rfl rfl ?_
  refine s_nil ?_
  refine g_then ?_
  refine g_seq ?_
  refine g_region ?_
  refine s_y (y_move rfl) rfl rfl rfl rfl ?_
  refine s_y (y_move rfl) rfl rfl rfl rfl ?_
  refine s_tr (t_callm rfl rfl ent_27 (fun w h => list_le w _ xs (hv.below h.below) (by have h_ : (xs).length = n := (okW_true.1 hok).1; omega))) rfl rfl rfl rfl (fun x10 hx11 => ?_)
  obtain ⟨vo9, mo9⟩ := x10
  obtain ⟨hOo9, hEo9⟩ := hx11
  refine s_tr (t_callm (A := New _ _) rfl rfl ent_34 (fun w h => (Spectrum_ok w n _ xs (hOo9.rd fun p hp => h.at_ p (mem_al mo9 hp)) hn hn2 hok).mono fun e w' ⟨b, h1, h2⟩ => ⟨b, ⟨Nat.le_trans h.below.size (h2.ge _ (List.mem_cons_self ..)), Nat.le_trans h.size (h2.ge _ (List.mem_cons_self ..))⟩, h1, h2⟩)) rfl rfl rfl rfl (fun bc12 hbc12 => ?_)
  refine s_y (y_move rfl) rfl rfl rfl rfl ?_
  refine s_y (y_extract rfl rfl) rfl rfl rfl rfl ?_
  refine s_y (y_extract rfl rfl) rfl rfl rfl rfl ?_
  refine s_y (y_assign rfl) rfl rfl rfl rfl ?_
  refine s_y (y_assign rfl) rfl rfl rfl rfl ?_
  refine s_nil ?_
  refine g_then ?_
  refine g_seq ?_
  refine g_region ?_
  refine s_y (y_move rfl) rfl rfl rfl rfl ?_
  refine s_y (y_move rfl) rfl rfl rfl rfl ?_
  refine s_tr (t_callm rfl rfl ent_43 (fun w h => Clone_any w _ (movL n (t0 : Int) xs) (RdV.own (jk := []) (h.at_ _ (List.mem_cons_of_mem _ (mem_ar mo9 (List.mem_cons_of_mem _ (mem_ar mo5 (List.mem_cons_self ..)))))) (by have h_ : (movL n (t0 : Int) xs).length = n := (okW_true.1 (movL_ok hn hn2 hok)).1; omega) (Nat.le_refl _)) (by have h_ : (movL n (t0 : Int) xs).length = n := (okW_true.1 (movL_ok hn hn2 hok)).1; omega))) rfl rfl rfl rfl (fun x14 hx15 => ?_)
  obtain ⟨vo13, mo13⟩ := x14
  obtain ⟨hOo13, hEo13⟩ := hx15
  refine s_tr (t_callm (A := New _ _) rfl rfl ent_34 (fun w h => (Spectrum_ok w n _ (movL n (t0 : Int) xs) (hOo13.rd fun p hp => h.at_ p (mem_al mo13 hp)) hn hn2 (movL_ok hn hn2 hok)).mono fun e w' ⟨b, h1, h2⟩ => ⟨b, ⟨Nat.le_trans h.below.size (h2.ge _ (List.mem_cons_self ..)), Nat.le_trans h.size (h2.ge _ (List.mem_cons_self ..))⟩, h1, h2⟩)) rfl rfl rfl rfl (fun bc16 hbc16 => ?_)
  refine s_y (y_move rfl) rfl rfl rfl rfl ?_
  refine s_y (y_extract rfl rfl) rfl rfl rfl rfl ?_
  refine s_y (y_extract rfl rfl) rfl rfl rfl rfl ?_
  refine s_y (y_assign rfl) rfl rfl rfl rfl ?_
  refine s_y (y_assign rfl) rfl rfl rfl rfl ?_
  refine s_nil ?_
  refine g_then ?_
  refine g_seq ?_
  refine g_region ?_
  refine s_y (y_move rfl) rfl rfl rfl rfl ?_
  refine s_y (y_move rfl) rfl rfl rfl rfl ?_
  refine s_tr (t_callm rfl rfl ent_43 (fun w h => Clone_any w _ (trnL n xs) (RdV.own (jk := []) (h.at_ _ (List.mem_cons_of_mem _ (mem_ar mo13 (List.mem_cons_of_mem _ (mem_ar mo9 (List.mem_cons_self ..)))))) (by have h_ : (trnL n xs).length = n := (okW_true.1 (trnL_ok hn hn2 hok)).1; omega) (Nat.le_refl _)) (by have h_ : (trnL n xs).length = n := (okW_true.1 (trnL_ok hn hn2 hok)).1; omega))) rfl rfl rfl rfl (fun x18 hx19 => ?_)
  obtain ⟨vo17, mo17⟩ := x18
  obtain ⟨hOo17, hEo17⟩ := hx19
  refine s_tr (t_callm (A := New _ _) rfl rfl ent_34 (fun w h => (Spectrum_ok w n _ (trnL n xs) (hOo17.rd fun p hp => h.at_ p (mem_al mo17 hp)) hn hn2 (trnL_ok hn hn2 hok)).mono fun e w' ⟨b, h1, h2⟩ => ⟨b, ⟨Nat.le_trans h.below.size (h2.ge _ (List.mem_cons_self ..)), Nat.le_trans h.size (h2.ge _ (List.mem_cons_self ..))⟩, h1, h2⟩)) rfl rfl rfl rfl (fun bc20 hbc20 => ?_)
  refine s_y (y_move rfl) rfl rfl rfl rfl ?_
  refine s_y (y_extract rfl rfl) rfl rfl rfl rfl ?_
  refine s_y (y_extract rfl rfl) rfl rfl rfl rfl ?_
  refine s_y (y_assign rfl) rfl rfl rfl rfl ?_
  refine s_y (y_assign rfl) rfl rfl rfl rfl ?_
  refine s_nil ?_
  refine g_then ?_
  refine g_seq ?_
  refine g_region ?_
  refine s_y (y_move rfl) rfl rfl rfl rfl ?_
  refine s_y (y_move rfl) rfl rfl rfl rfl ?_
  refine s_tr (t_callm rfl rfl ent_27 (fun w h => list_le w _ xs (hv.below h.below) (by have h_ : (xs).length = n := (okW_true.1 hok).1; omega))) rfl rfl rfl rfl (fun x22 hx23 => ?_)
  obtain ⟨vo21, mo21⟩ := x22
  obtain ⟨hOo21, hEo21⟩ := hx23
  refine s_tr (t_callm (A := New _ _) rfl rfl ent_33 (fun w h => (Power_ok w n _ xs (hOo21.rd fun p hp => h.at_ p (mem_al mo21 hp)) hn hn2 hok).mono fun e w' ⟨b, h1, h2⟩ => ⟨b, ⟨Nat.le_trans h.below.size (h2.ge _ (List.mem_cons_self ..)), Nat.le_trans h.size (h2.ge _ (List.mem_cons_self ..))⟩, h1, h2⟩)) rfl rfl rfl rfl (fun bc24 hbc24 => ?_)
  refine s_y (y_move rfl) rfl rfl rfl rfl ?_
  refine s_y (y_extract rfl rfl) rfl rfl rfl rfl ?_
  refine s_y (y_extract rfl rfl) rfl rfl rfl rfl ?_
  refine s_y (y_assign rfl) rfl rfl rfl rfl ?_
  refine s_y (y_assign rfl) rfl rfl rfl rfl ?_
  refine s_nil ?_
  refine g_then ?_
  refine g_seq ?_
  refine g_region ?_
  refine s_y (y_move rfl) rfl rfl rfl rfl ?_
  refine s_y (y_move rfl) rfl rfl rfl rfl ?_
  refine s_tr (t_callm rfl rfl ent_43 (fun w h => Clone_any w _ (movL n (t0 : Int) xs) (RdV.own (jk := []) (h.at_ _ (List.mem_cons_of_mem _ (mem_ar mo21 (List.mem_cons_of_mem _ (mem_ar mo17 (List.mem_cons_of_mem _ (mem_ar mo13 (List.mem_cons_of_mem _ (mem_ar mo9 (List.mem_cons_of_mem _ (mem_ar mo5 (List.mem_cons_self ..)))))))))))) (by have h_ : (movL n (t0 : Int) xs).length = n := (okW_true.1 (movL_ok hn hn2 hok)).1; omega) (Nat.le_refl _)) (by have h_ : (movL n (t0 : Int) xs).length = n := (okW_true.1 (movL_ok hn hn2 hok)).1; omega))) rfl rfl rfl rfl (fun x26 hx27 => ?_)
  obtain ⟨vo25, mo25⟩ := x26
  obtain ⟨hOo25, hEo25⟩ := hx27
  refine s_tr (t_callm (A := New _ _) rfl rfl ent_33 (fun w h => (Power_ok w n _ (movL n (t0 : Int) xs) (hOo25.rd fun p hp => h.at_ p (mem_al mo25 hp)) hn hn2 (movL_ok hn hn2 hok)).mono fun e w' ⟨b, h1, h2⟩ => ⟨b, ⟨Nat.le_trans h.below.size (h2.ge _ (List.mem_cons_self ..)), Nat.le_trans h.size (h2.ge _ (List.mem_cons_self ..))⟩, h1, h2⟩)) rfl rfl rfl rfl (fun bc28 hbc28 => ?_)
  refine s_y (y_move rfl) rfl rfl rfl rfl ?_
  refine s_y (y_extract rfl rfl) rfl rfl rfl rfl ?_
  refine s_y (y_extract rfl rfl) rfl rfl rfl rfl ?_
  refine s_y (y_assign rfl) rfl rfl rfl rfl ?_
  refine s_y (y_assign rfl) rfl rfl rfl rfl ?_
  refine s_nil ?_
  refine g_then ?_
  refine g_seq ?_
  refine g_region ?_
  refine s_y (y_move rfl) rfl rfl rfl rfl ?_
  refine s_y (y_move rfl) rfl rfl rfl rfl ?_
  refine s_tr (t_callm rfl rfl ent_43 (fun w h => Clone_any w _ (trnL n xs) (RdV.own (jk := []) (h.at_ _ (List.mem_cons_of_mem _ (mem_ar mo25 (List.mem_cons_of_mem _ (mem_ar mo21 (List.mem_cons_of_mem _ (mem_ar mo17 (List.mem_cons_of_mem _ (mem_ar mo13 (List.mem_cons_of_mem _ (mem_ar mo9 (List.mem_cons_self ..)))))))))))) (by have h_ : (trnL n xs).length = n := (okW_true.1 (trnL_ok hn hn2 hok)).1; omega) (Nat.le_refl _)) (by have h_ : (trnL n xs).length = n := (okW_true.1 (trnL_ok hn hn2 hok)).1; omega))) rfl rfl rfl rfl (fun x30 hx31 => ?_)
  obtain ⟨vo29, mo29⟩ := x30
  obtain ⟨hOo29, hEo29⟩ := hx31
  refine s_tr (t_callm (A := New _ _) rfl rfl ent_33 (fun w h => (Power_ok w n _ (trnL n xs) (hOo29.rd fun p hp => h.at_ p (mem_al mo29 hp)) hn hn2 (trnL_ok hn hn2 hok)).mono fun e w' ⟨b, h1, h2⟩ => ⟨b, ⟨Nat.le_trans h.below.size (h2.ge _ (List.mem_cons_self ..)), Nat.le_trans h.size (h2.ge _ (List.mem_cons_self ..))⟩, h1, h2⟩)) rfl rfl rfl rfl (fun bc32 hbc32 => ?_)
  refine s_y (y_move rfl) rfl rfl rfl rfl ?_
  refine s_y (y_extract rfl rfl) rfl rfl rfl rfl ?_
  refine s_y (y_extract rfl rfl) rfl rfl rfl rfl ?_
  refine s_y (y_assign rfl) rfl rfl rfl rfl ?_
  refine s_y (y_assign rfl) rfl rfl rfl rfl ?_
  refine s_nil ?_
  refine g_then ?_
  refine g_seq ?_
  refine g_seq ?_
  refine g_region ?_
  refine s_y (y_move rfl) rfl rfl rfl rfl ?_
  refine s_y (y_neq_f rfl rfl (by decide)) rfl rfl rfl rfl ?_
  refine s_y (y_move rfl) rfl rfl rfl rfl ?_
  refine s_y (y_move rfl) rfl rfl rfl rfl ?_
  refine s_y (y_neq_f rfl rfl (by decide)) rfl rfl rfl rfl ?_
  refine s_y (y_pick_f rfl rfl) rfl rfl rfl rfl ?_
  refine s_y (y_move rfl) rfl rfl rfl rfl ?_
  refine s_y (y_move rfl) rfl rfl rfl rfl ?_
  refine s_y (y_neq_f rfl rfl (by decide)) rfl rfl rfl rfl ?_
  refine s_y (y_pick_f rfl rfl) rfl rfl rfl rfl ?_
  refine s_y (y_move rfl) rfl rfl rfl rfl ?_
  refine s_y (y_move rfl) rfl rfl rfl rfl ?_
  refine s_y (y_neq_f rfl rfl (by decide)) rfl rfl rfl rfl ?_
  refine s_y (y_pick_f rfl rfl) rfl rfl rfl rfl ?_
  refine s_y (y_move rfl) rfl rfl rfl rfl ?_
  refine s_y (y_move rfl) rfl rfl rfl rfl ?_
  refine s_y (y_neq_f rfl rfl (by decide)) rfl rfl rfl rfl ?_
  refine s_y (y_pick_f rfl rfl) rfl rfl rfl rfl ?_
  refine s_y (y_move rfl) rfl rfl rfl rfl ?_
  refine s_y (y_move rfl) rfl rfl rfl rfl ?_
  refine s_y (y_neq_f rfl rfl (by decide)) rfl rfl rfl rfl ?_
  refine s_y (y_pick_f rfl rfl) rfl rfl rfl rfl ?_
  refine s_y (y_move rfl) rfl rfl rfl rfl ?_
  refine s_y (y_move rfl) rfl rfl rfl rfl ?_
  refine s_y (y_neq_f rfl rfl (by decide)) rfl rfl rfl rfl ?_
  refine s_y (y_pick_f rfl rfl) rfl rfl rfl rfl ?_
  refine s_y (y_move rfl) rfl rfl rfl rfl ?_
  refine s_y (y_move rfl) rfl rfl rfl rfl ?_
  refine s_y (y_neq_f rfl rfl (by decide)) rfl rfl rfl rfl ?_
  refine s_y (y_pick_f rfl rfl) rfl rfl rfl rfl ?_
  refine s_y (y_move rfl) rfl rfl rfl rfl ?_
  refine s_y (y_move rfl) rfl rfl rfl rfl ?_
  refine s_y (y_neq_f rfl rfl (by decide)) rfl rfl rfl rfl ?_
  refine s_y (y_pick_f rfl rfl) rfl rfl rfl rfl ?_
  refine s_y (y_move rfl) rfl rfl rfl rfl ?_
  refine s_y (y_move rfl) rfl rfl rfl rfl ?_
  refine s_y (y_neq_f rfl rfl (by decide)) rfl rfl rfl rfl ?_
  refine s_y (y_pick_f rfl rfl) rfl rfl rfl rfl ?_
  refine s_y (y_move rfl) rfl rfl rfl rfl ?_
  refine s_y (y_move rfl) rfl rfl rfl rfl ?_
  refine s_y (y_move rfl) rfl rfl rfl rfl ?_
  refine s_tr (t_call rfl rfl ent_30 (fun w h => Equal_t w _ _ (powL (qOf n) (wOf n) n xs) (powL (qOf n) (wOf n) n (movL n (t0 : Int) xs)) (RdV.own (jk := []) (h.at_ _ (List.mem_cons_of_mem _ (mem_ar mo29 (List.mem_cons_of_mem _ (mem_ar mo25 (List.mem_cons_self ..)))))) (by have h_ : (powL (qOf n) (wOf n) n xs).length = n := (okW_true.1 (powL_ok hn hn2)).1; omega) (Nat.le_refl _)) (RdV.own (jk := []) (h.at_ _ (List.mem_cons_of_mem _ (mem_ar mo29 (List.mem_cons_self ..)))) (by have h_ : (powL (qOf n) (wOf n) n (movL n (t0 : Int) xs)).length = n := (okW_true.1 (powL_ok hn hn2)).1; omega) (Nat.le_refl _)) (by have h_ : (powL (qOf n) (wOf n) n xs).length = n := (okW_true.1 (powL_ok hn hn2)).1; omega) ((pow_mov hn hn2 ht0l xs).symm))) rfl rfl rfl rfl (fun _ _ => ?_)
  refine s_y (y_not_t rfl) rfl rfl rfl rfl ?_
  refine s_y (y_pick_f rfl rfl) rfl rfl rfl rfl ?_
  refine s_y (y_move rfl) rfl rfl rfl rfl ?_
  refine s_y (y_move rfl) rfl rfl rfl rfl ?_
  refine s_y (y_move rfl) rfl rfl rfl rfl ?_
  refine s_tr (t_call rfl rfl ent_30 (fun w h => Equal_t w _ _ (powL (qOf n) (wOf n) n xs) (powL (qOf n) (wOf n) n (trnL n xs)) (RdV.own (jk := []) (h.at_ _ (List.mem_cons_of_mem _ (mem_ar mo29 (List.mem_cons_of_mem _ (mem_ar mo25 (List.mem_cons_self ..)))))) (by have h_ : (powL (qOf n) (wOf n) n xs).length = n := (okW_true.1 (powL_ok hn hn2)).1; omega) (Nat.le_refl _)) (RdV.own (jk := []) (at_of (i := 0) h rfl) (by have h_ : (powL (qOf n) (wOf n) n (trnL n xs)).length = n := (okW_true.1 (powL_ok hn hn2)).1; omega) (Nat.le_refl _)) (by have h_ : (powL (qOf n) (wOf n) n xs).length = n := (okW_true.1 (powL_ok hn hn2)).1; omega) ((pow_trn hn hn2 xs).symm))) rfl rfl rfl rfl (fun _ _ => ?_)
  refine s_y (y_not_t rfl) rfl rfl rfl rfl ?_
  refine s_y (y_pick_f rfl rfl) rfl rfl rfl rfl ?_
  refine s_y (y_move rfl) rfl rfl rfl rfl ?_
  refine s_y (y_move rfl) rfl rfl rfl rfl ?_
  refine s_y (y_lensl rfl sle_32) rfl rfl rfl rfl ?_
  refine s_y (y_move rfl) rfl rfl rfl rfl ?_
  refine s_y (y_neq_f rfl rfl (by omega)) rfl rfl rfl rfl ?_
  refine s_y (y_pick_f rfl rfl) rfl rfl rfl rfl ?_
  refine s_y (y_move rfl) rfl rfl rfl rfl ?_
  refine s_y (y_move rfl) rfl rfl rfl rfl ?_
  refine s_y (y_lensl rfl sle_32) rfl rfl rfl rfl ?_
  refine s_y (y_move rfl) rfl rfl rfl rfl ?_
  refine s_y (y_neq_f rfl rfl (by omega)) rfl rfl rfl rfl ?_
  refine s_y (y_pick_f rfl rfl) rfl rfl rfl rfl ?_
  refine s_y (y_move rfl) rfl rfl rfl rfl ?_
  refine s_y (y_move rfl) rfl rfl rfl rfl ?_
  refine s_y (y_lensl rfl sle_32) rfl rfl rfl rfl ?_
  refine s_y (y_move rfl) rfl rfl rfl rfl ?_
  refine s_y (y_neq_f rfl rfl (by omega)) rfl rfl rfl rfl ?_
  refine s_y (y_pick_f rfl rfl) rfl rfl rfl rfl ?_
  refine s_y (y_move rfl) rfl rfl rfl rfl ?_
  refine s_y (y_move rfl) rfl rfl rfl rfl ?_
  refine s_y (y_lss_f rfl rfl (by omega)) rfl rfl rfl rfl ?_
  refine s_y (y_pick_f rfl rfl) rfl rfl rfl rfl ?_
  refine s_y (y_move rfl) rfl rfl rfl rfl ?_
  refine s_y (y_move rfl) rfl rfl rfl rfl ?_
  refine s_y (y_gtr_f rfl rfl (by omega)) rfl rfl rfl rfl ?_
  refine s_y (y_pick_f rfl rfl) rfl rfl rfl rfl ?_
  refine s_y (y_move rfl) rfl rfl rfl rfl ?_
  refine s_y (y_move rfl) rfl rfl rfl rfl ?_
  refine s_y (y_lss_f rfl rfl (by omega)) rfl rfl rfl rfl ?_
  refine s_y (y_pick_f rfl rfl) rfl rfl rfl rfl ?_
  refine s_y (y_move rfl) rfl rfl rfl rfl ?_
  refine s_y (y_move rfl) rfl rfl rfl rfl ?_
  refine s_y (y_move rfl) rfl rfl rfl rfl ?_
  refine s_y (y_geq_f rfl rfl (by omega)) rfl rfl rfl rfl ?_
  refine s_y (y_pick_f rfl rfl) rfl rfl rfl rfl ?_
  refine s_nil ?_
  refine g_then ?_
  refine g_cond_f rfl ?_
  refine g_skip ?_
  refine g_then ?_
  refine g_seq ?_
  refine g_seq ?_
  refine g_region ?_
  refine s_y (y_move rfl) rfl rfl rfl rfl ?_
  refine s_y (y_move rfl) rfl rfl rfl rfl ?_
  refine s_nil ?_
  refine g_then ?_
  refine g_block ?_
  refine g_loop (fun (i : Nat) act W => i ≤ n ∧ ∃ (w1 : World), Has 247 [] [(0, .int .i64 (n : Int)), (2, .int .i64 (t0 : Int)), (9, .int .i64 (qOf n)), (11, .int .i64 (wOf n)), (17, .slice (some ⟨bc12, 0, none⟩) n n), (19, .slice (some ⟨bc16, 0, none⟩) n n), (21, .slice (some ⟨bc20, 0, none⟩) n n), (205, .int .i64 (n : Int)), (206, .int .i64 (i : Int))] act ∧ Hp w w1 ((bc32, .cells ((powL (qOf n) (wOf n) n (trnL n xs)).map (Value.int .i64) ++ []).toArray 3 (0, 0)) :: (mo29 ++ ((bc28, .cells ((powL (qOf n) (wOf n) n (movL n (t0 : Int) xs)).map (Value.int .i64) ++ []).toArray 3 (0, 0)) :: (mo25 ++ ((bc24, .cells ((powL (qOf n) (wOf n) n xs).map (Value.int .i64) ++ []).toArray 3 (0, 0)) :: (mo21 ++ ((bc20, .cells ((turnL (qOf n) (wOf n) n (trnL n xs)).map (Value.int .i64) ++ []).toArray 3 (0, 0)) :: (mo17 ++ ((bc16, .cells ((turnL (qOf n) (wOf n) n (movL n (t0 : Int) xs)).map (Value.int .i64) ++ []).toArray 3 (0, 0)) :: (mo13 ++ ((bc12, .cells ((turnL (qOf n) (wOf n) n xs).map (Value.int .i64) ++ []).toArray 3 (0, 0)) :: (mo9 ++ ((bc8, .cells ((trnL n xs).map (Value.int .i64) ++ []).toArray 3 (0, 0)) :: (mo5 ++ ((bc4, .cells ((movL n (t0 : Int) xs).map (Value.int .i64) ++ []).toArray 3 (0, 0)) :: (mo1 ++ ([]))))))))))))))))) W) (fun i => n - i) 0 (fun act W ha hw => ⟨by omega, W, ha.weak (sub_get ⟨rfl, rfl, rfl, rfl, rfl, rfl, rfl, rfl, rfl, trivial⟩), hw.toHq.lookSub (List.Sublist.refl _)⟩) ?_
  intro i act W ⟨hb_i, w1, ha, hw⟩
  refine g_go ha hw ?_
  clear ha hw act W
  refine g_seq ?_
  refine g_region ?_
  refine s_y (y_lss rfl rfl) rfl rfl rfl rfl ?_
  refine s_nil ?_
  refine g_then ?_
  refine g_seq ?_
  refine g_cond rfl (fun cq33 => ?_) (fun cq33 => ?_)
  · (try simp at cq33)
    refine g_skip ?_
    refine g_then ?_
    refine g_seq ?_
    refine g_block ?_
    refine g_seq ?_
    refine g_region ?_
    refine s_y (y_move rfl) rfl rfl rfl rfl ?_
    refine s_y (y_assign rfl) rfl rfl rfl rfl ?_
    refine s_nil ?_
    refine g_then ?_
    refine g_seq ?_
    have hlX : (turnL (qOf n) (wOf n) n xs).length = n := turnL_len
    have hit : ((i * t0 : Nat) : Int) = (i : Int) * (t0 : Int) := Int.natCast_mul ..
    have hmt := mul_small (a := (i : Int)) (b := (t0 : Int)) (by omega) (by omega) (by omega) (by omega)
    refine g_region ?_
    refine s_y (y_move rfl) rfl rfl rfl rfl ?_
    refine s_y (y_move rfl) rfl rfl rfl rfl ?_
    refine s_y (y_idxb1 rfl rfl Try.underlying32 size_3 (by omega) (by omega)) rfl rfl rfl rfl ?_
    refine s_y (y_ldML (enc := (Value.int .i64)) (xs := turnL (qOf n) (wOf n) n xs) (jk := []) (List.mem_cons_of_mem _ (mem_ar mo29 (List.mem_cons_of_mem _ (mem_ar mo25 (List.mem_cons_of_mem _ (mem_ar mo21 (List.mem_cons_of_mem _ (mem_ar mo17 (List.mem_cons_of_mem _ (mem_ar mo13 (List.mem_cons_self ..))))))))))) rfl agg_3 (rdI_at (by omega) (by omega))) rfl rfl rfl rfl ?_
    refine s_y (y_assign rfl) rfl rfl rfl rfl ?_
    refine s_nil ?_
    refine g_then ?_
    refine g_seq ?_
    refine g_seq ?_
    refine g_region ?_
    refine s_y (y_move rfl) rfl rfl rfl rfl ?_
    refine s_y (y_move rfl) rfl rfl rfl rfl ?_
    refine s_y (y_mul rfl rfl (by omega) (by omega)) rfl rfl rfl rfl ?_
    refine s_y (y_move rfl) rfl rfl rfl rfl ?_
    refine s_nil ?_
    refine g_then ?_
    refine g_block ?_
    refine g_loop (fun (j : Nat) act W => j ≤ i * t0 ∧ ∃ (w1 : World), Has 247 [] [(0, .int .i64 (n : Int)), (2, .int .i64 (t0 : Int)), (9, .int .i64 (qOf n)), (11, .int .i64 (wOf n)), (17, .slice (some ⟨bc12, 0, none⟩) n n), (19, .slice (some ⟨bc16, 0, none⟩) n n), (21, .slice (some ⟨bc20, 0, none⟩) n n), (29, .int .i64 (i : Int)), (30, .int .i64 (vst (qOf n) (wOf n) (fn (turnL (qOf n) (wOf n) n xs) i) j)), (205, .int .i64 (n : Int)), (206, .int .i64 (i : Int)), (207, .bool (decide ((i : Int) < (n : Int)))), (208, .int .i64 (i : Int)), (209, .slice (some ⟨bc12, 0, none⟩) n n), (210, .int .i64 (i : Int)), (211, .pointer (some ⟨bc12, ((i : Int) : Int).toNat, none⟩)), (212, .int .i64 (rdI (turnL (qOf n) (wOf n) n xs) (i : Int))), (213, .int .i64 (i : Int)), (214, .int .i64 (t0 : Int)), (215, .int .i64 ((i : Int) * (t0 : Int))), (216, .int .i64 (j : Int))] act ∧ Hp w w1 ((bc32, .cells ((powL (qOf n) (wOf n) n (trnL n xs)).map (Value.int .i64) ++ []).toArray 3 (0, 0)) :: (mo29 ++ ((bc28, .cells ((powL (qOf n) (wOf n) n (movL n (t0 : Int) xs)).map (Value.int .i64) ++ []).toArray 3 (0, 0)) :: (mo25 ++ ((bc24, .cells ((powL (qOf n) (wOf n) n xs).map (Value.int .i64) ++ []).toArray 3 (0, 0)) :: (mo21 ++ ((bc20, .cells ((turnL (qOf n) (wOf n) n (trnL n xs)).map (Value.int .i64) ++ []).toArray 3 (0, 0)) :: (mo17 ++ ((bc16, .cells ((turnL (qOf n) (wOf n) n (movL n (t0 : Int) xs)).map (Value.int .i64) ++ []).toArray 3 (0, 0)) :: (mo13 ++ ((bc12, .cells ((turnL (qOf n) (wOf n) n xs).map (Value.int .i64) ++ []).toArray 3 (0, 0)) :: (mo9 ++ ((bc8, .cells ((trnL n xs).map (Value.int .i64) ++ []).toArray 3 (0, 0)) :: (mo5 ++ ((bc4, .cells ((movL n (t0 : Int) xs).map (Value.int .i64) ++ []).toArray 3 (0, 0)) :: (mo1 ++ ([]))))))))))))))))) W) (fun j => i * t0 - j) 0 (fun act W ha hw => ⟨by omega, W, ha.weak (sub_get ⟨rfl, rfl, rfl, rfl, rfl, rfl, rfl, rfl, rfl, rfl, rfl, rfl, rfl, rfl, rfl, rfl, rfl, rfl, rfl, rfl, rfl, trivial⟩), hw.toHq.lookSub (List.Sublist.refl _)⟩) ?_
    intro j act W ⟨hb_j, w1, ha, hw⟩
    refine g_go ha hw ?_
    clear ha hw act W
    refine g_seq ?_
    refine g_region ?_
    refine s_y (y_lss rfl rfl) rfl rfl rfl rfl ?_
    refine s_nil ?_
    refine g_then ?_
    refine g_seq ?_
    refine g_cond rfl (fun cq34 => ?_) (fun cq34 => ?_)
    · (try simp at cq34)
      refine g_skip ?_
      refine g_then ?_
      refine g_seq ?_
      refine g_block ?_
      have hx0 := at_range turnL_len (turnL_range' hn hn2 (wOf n) xs) (i := (i : Int)) (by omega) (by omega)
      have hvr : 0 ≤ vst (qOf n) (wOf n) (fn (turnL (qOf n) (wOf n) n xs) i) j ∧ vst (qOf n) (wOf n) (fn (turnL (qOf n) (wOf n) n xs) i) j < qOf n := vst_range (w := wOf n) (show 2 ≤ qOf n by omega) hx0.1 hx0.2 j
      have hm := mul_small (a := vst (qOf n) (wOf n) (fn (turnL (qOf n) (wOf n) n xs) i) j) (b := wOf n) hvr.1 (by omega) (by omega) (by omega)
      refine g_region ?_
      refine s_y (y_move rfl) rfl rfl rfl rfl ?_
      refine s_y (y_move rfl) rfl rfl rfl rfl ?_
      refine s_y (y_mul rfl rfl (by omega) (by omega)) rfl rfl rfl rfl ?_
      refine s_y (y_move rfl) rfl rfl rfl rfl ?_
      refine s_y (y_rem rfl rfl (by omega) (by omega)) rfl rfl rfl rfl ?_
      refine s_y (y_assign rfl) rfl rfl rfl rfl ?_
      refine s_nil ?_
      refine g_inb ?_
      refine g_then ?_
      refine g_region ?_
      refine s_y (y_add rfl rfl (by omega) (by omega)) rfl rfl rfl rfl ?_
      refine s_y (y_move rfl) rfl rfl rfl rfl ?_
      refine s_nil ?_
      refine g_then ?_
      exact fun act W ha hw => ⟨j + 1, by omega, by omega, W, ha.weak (sub_get ⟨rfl, rfl, rfl, rfl, rfl, rfl, rfl, rfl, rfl, rfl, rfl, rfl, rfl, rfl, rfl, rfl, rfl, rfl, rfl, rfl, rfl, trivial⟩), hw.toHq.lookSub (List.Sublist.refl _)⟩
    · (try simp at cq34)
      refine g_exit ?_
      refine g_thenx ?_
      refine g_thenx ?_
      refine g_inbx ?_
      refine g_then ?_
      refine g_seq ?_
      have hji : j = i * t0 := by omega
      have hlM : (turnL (qOf n) (wOf n) n (movL n (t0 : Int) xs)).length = n := turnL_len
      have hlT : (turnL (qOf n) (wOf n) n (trnL n xs)).length = n := turnL_len
      have hnk : ((n : Int) - (i : Int)) % (n : Int) = (((n - i) % n : Nat) : Int) := by rw [Int.natCast_emod]; congr 1; omega
      have hmr := mod_range (show 0 < n by omega) ((n : Int) - (i : Int))
      refine g_draw 21 (by kernel_rfl) ?_
      refine j_p (i := 0) rfl (y_move rfl) (by kernel_rfl) (by kernel_rfl) (by kernel_rfl) rfl rfl rfl rfl rfl (.inr (fun _ h => h)) ?_
      refine j_p (i := 1) rfl (y_move rfl) (by kernel_rfl) (by kernel_rfl) (by kernel_rfl) rfl rfl rfl rfl rfl (.inr (fun _ h => h)) ?_
      refine j_p (i := 2) rfl (y_idxb1 rfl rfl Try.underlying32 size_3 (by omega) (by omega)) (by kernel_rfl) (by kernel_rfl) (by kernel_rfl) rfl rfl rfl rfl rfl (.inr (fun _ h => h)) ?_
      refine j_l (i := 3) rfl (y_ldML (enc := (Value.int .i64)) (xs := turnL (qOf n) (wOf n) n (movL n (t0 : Int) xs)) (jk := []) (List.mem_cons_of_mem _ (mem_ar mo29 (List.mem_cons_of_mem _ (mem_ar mo25 (List.mem_cons_of_mem _ (mem_ar mo21 (List.mem_cons_of_mem _ (mem_ar mo17 (List.mem_cons_self ..))))))))) rfl agg_3 (rdI_at (by omega) (by omega))) (by kernel_rfl) (by kernel_rfl) (by kernel_rfl) (by kernel_rfl) rfl rfl rfl rfl rfl (.inr (fun _ h => h)) ?_
      refine j_p (i := 4) rfl (y_move rfl) (by kernel_rfl) (by kernel_rfl) (by kernel_rfl) rfl rfl rfl rfl rfl (.inr (fun _ h => h)) ?_
      refine j_p (i := 5) rfl (y_neq_f rfl rfl (by rw [hji]; exact vst_spec hn hn2 ht0l xs (by omega))) (by kernel_rfl) (by kernel_rfl) (by kernel_rfl) rfl rfl rfl rfl rfl (.inr (fun _ h => h)) ?_
      refine j_p (i := 6) rfl (y_move rfl) (by kernel_rfl) (by kernel_rfl) (by kernel_rfl) rfl rfl rfl rfl rfl (.inr (fun _ h => h)) ?_
      refine j_p (i := 7) rfl (y_move rfl) (by kernel_rfl) (by kernel_rfl) (by kernel_rfl) rfl rfl rfl rfl rfl (.inr (fun _ h => h)) ?_
      refine j_p (i := 8) rfl (y_move rfl) (by kernel_rfl) (by kernel_rfl) (by kernel_rfl) rfl rfl rfl rfl rfl (.inr (fun _ h => h)) ?_
      refine j_p (i := 9) rfl (y_idxb1 rfl rfl Try.underlying32 size_3 (by omega) (by omega)) (by kernel_rfl) (by kernel_rfl) (by kernel_rfl) rfl rfl rfl rfl rfl (.inr (fun _ h => h)) ?_
      refine j_l (i := 10) rfl (y_ldML (enc := (Value.int .i64)) (xs := turnL (qOf n) (wOf n) n (trnL n xs)) (jk := []) (List.mem_cons_of_mem _ (mem_ar mo29 (List.mem_cons_of_mem _ (mem_ar mo25 (List.mem_cons_of_mem _ (mem_ar mo21 (List.mem_cons_self ..))))))) rfl agg_3 (rdI_at (by omega) (by omega))) (by kernel_rfl) (by kernel_rfl) (by kernel_rfl) (by kernel_rfl) rfl rfl rfl rfl rfl (.inr (fun _ h => h)) ?_
      refine j_p (i := 11) rfl (y_move rfl) (by kernel_rfl) (by kernel_rfl) (by kernel_rfl) rfl rfl rfl rfl rfl (.inr (fun _ h => h)) ?_
      refine j_p (i := 12) rfl (y_move rfl) (by kernel_rfl) (by kernel_rfl) (by kernel_rfl) rfl rfl rfl rfl rfl (.inr (fun _ h => h)) ?_
      refine j_p (i := 13) rfl (y_move rfl) (by kernel_rfl) (by kernel_rfl) (by kernel_rfl) rfl rfl rfl rfl rfl (.inr (fun _ h => h)) ?_
      refine j_p (i := 14) rfl (y_sub rfl rfl (by omega) (by omega)) (by kernel_rfl) (by kernel_rfl) (by kernel_rfl) rfl rfl rfl rfl rfl (.inr (fun _ h => h)) ?_
      refine j_p (i := 15) rfl (y_move rfl) (by kernel_rfl) (by kernel_rfl) (by kernel_rfl) rfl rfl rfl rfl rfl (.inr (fun _ h => h)) ?_
      refine j_p (i := 16) rfl (y_rem rfl rfl (by omega) (by omega)) (by kernel_rfl) (by kernel_rfl) (by kernel_rfl) rfl rfl rfl rfl rfl (.inr (fun _ h => h)) ?_
      refine j_p (i := 17) rfl (y_idxb1 rfl rfl Try.underlying32 size_3 (by omega) (by omega)) (by kernel_rfl) (by kernel_rfl) (by kernel_rfl) rfl rfl rfl rfl rfl (.inr (fun _ h => h)) ?_
      refine j_l (i := 18) rfl (y_ldML (enc := (Value.int .i64)) (xs := turnL (qOf n) (wOf n) n xs) (jk := []) (List.mem_cons_of_mem _ (mem_ar mo29 (List.mem_cons_of_mem _ (mem_ar mo25 (List.mem_cons_of_mem _ (mem_ar mo21 (List.mem_cons_of_mem _ (mem_ar mo17 (List.mem_cons_of_mem _ (mem_ar mo13 (List.mem_cons_self ..))))))))))) rfl agg_3 (rdI_at (by omega) (by omega))) (by kernel_rfl) (by kernel_rfl) (by kernel_rfl) (by kernel_rfl) rfl rfl rfl rfl rfl (.inr (fun _ h => h)) ?_
      refine j_p (i := 19) rfl (y_neq_f rfl rfl (by rw [hnk]; exact spec_trn hn hn2 xs (by omega))) (by kernel_rfl) (by kernel_rfl) (by kernel_rfl) rfl rfl rfl rfl rfl (.inr (fun _ h => h)) ?_
      refine j_p (i := 20) rfl (y_pick_f rfl rfl) (by kernel_rfl) (by kernel_rfl) (by kernel_rfl) rfl rfl rfl rfl rfl (.inr (fun _ h => h)) ?_
      refine j_nil (by kernel_rfl) ?_
      refine g_then ?_
      refine g_cond_f rfl ?_
      refine g_skip ?_
      refine g_inb ?_
      refine g_then ?_
      refine g_region ?_
      refine s_y (y_add rfl rfl (by omega) (by omega)) rfl rfl rfl rfl ?_
      refine s_y (y_move rfl) rfl rfl rfl rfl ?_
      refine s_nil ?_
      refine g_then ?_
      exact fun act W ha hw => ⟨i + 1, by omega, by omega, W, ha.weak (sub_get ⟨rfl, rfl, rfl, rfl, rfl, rfl, rfl, rfl, rfl, trivial⟩), hw.toHq.lookSub (List.Sublist.refl _)⟩
  · (try simp at cq33)
    refine g_exit ?_
    refine g_thenx ?_
    refine g_thenx ?_
    refine g_inbx ?_
    refine g_then ?_
    refine g_seq ?_
    refine g_region ?_
    refine s_tr (t_call rfl rfl ent_20 (fun w h => awake_t w)) rfl rfl rfl rfl (fun _ _ => ?_)
    refine s_y (y_assign rfl) rfl rfl rfl rfl ?_
    refine s_nil ?_
    refine g_then ?_
    refine g_ret ?_
    exact g_end trivial (fun a w ha hq_ => res1 ha rfl rfl  w) (fun w h => ⟨rfl, h.below⟩)

theorem WheelsTurns_no (w : World) (n : Int) (v : Value) (xs : List Int) (k : Int) (hv : RdV (Value.int .i64) w v xs) (hno : ¬ (RIn n ∧ okI n xs = true)) :
    Calls Try.prog 12 [.int .i64 n, v, .int .i64 k].toArray w fun e w' => e = .returned (.bool true) ∧ Below w.heap.size w w' := by
  have hnot := okI_take hno
  refine enter (N := 247) Try.func12 rfl rfl rfl ?_
  refine g_seq ?_
  refine g_region ?_
  refine s_y (y_assign rfl) rfl rfl rfl rfl ?_
  refine s_nil ?_
  refine g_then ?_
  refine g_seq ?_
  refine g_seq ?_
  refine g_region ?_
  refine s_y (y_move rfl) rfl rfl rfl rfl ?_
  refine s_y (y_move rfl) rfl rfl rfl rfl ?_
  refine s_tr (t_call rfl rfl ent_29 (fun w h => RWheel_f w n _ xs (hv.below h.below) hno)) rfl rfl rfl rfl (fun _ _ => ?_)
  refine s_y (y_not_f rfl) rfl rfl rfl rfl ?_
  refine s_nil ?_
  refine g_then ?_
  refine g_cond_t rfl ?_
  refine g_seq ?_
  refine g_region ?_
  refine s_y (y_move rfl) rfl rfl rfl rfl ?_
  refine s_y (y_move rfl) rfl rfl rfl rfl ?_
  refine s_tr (t_callm rfl rfl ent_27 (fun w h => list_any w _ xs (hv.below h.below))) rfl rfl rfl rfl (fun x2 hx3 => ?_)
  obtain ⟨vo1, mo1⟩ := x2
  obtain ⟨hOo1, hEo1⟩ := hx3
  refine s_tr (t_call rfl rfl ent_28 (fun w h => Turn_no w n _ (xs.take 19) (hOo1.rd fun p hp => h.at_ p (mem_al mo1 hp)) hnot)) rfl rfl rfl rfl (fun _ _ => ?_)
  refine s_y (y_move rfl) rfl rfl rfl rfl ?_
  refine s_y (y_extract rfl rfl) rfl rfl rfl rfl ?_
  refine s_y (y_extract rfl rfl) rfl rfl rfl rfl ?_
  refine s_y (y_assign rfl) rfl rfl rfl rfl ?_
  refine s_y (y_assign rfl) rfl rfl rfl rfl ?_
  refine s_nil ?_
  refine g_then ?_
  refine g_seq ?_
  refine g_region ?_
  refine s_y (y_move rfl) rfl rfl rfl rfl ?_
  refine s_y (y_eql_t rfl rfl (by decide)) rfl rfl rfl rfl ?_
  refine s_y (y_move rfl) rfl rfl rfl rfl ?_
  refine s_tr (t_call rfl rfl ent_20 (fun w h => awake_t w)) rfl rfl rfl rfl (fun _ _ => ?_)
  refine s_y (y_pick_t rfl rfl) rfl rfl rfl rfl ?_
  refine s_y (y_assign rfl) rfl rfl rfl rfl ?_
  refine s_nil ?_
  refine g_then ?_
  refine g_ret ?_
  refine g_thenr ?_
  exact g_end trivial (fun a w ha hq_ => res1 ha rfl rfl  w) (fun w h => ⟨rfl, h.below⟩)

theorem WheelsTurns_law (w : World) (n : Int) (v : Value) (xs : List Int) (k : Int) (_ : (Lit.int .i64 n).wf = true) (hv : RdV (Value.int .i64) w v xs) (_ : xs.length ≤ maxLen) (_ : ∀ x ∈ xs, (Lit.int .i64 x).wf = true) (_ : (Lit.int .i64 k).wf = true) : Calls Try.prog 12 [.int .i64 n, v, .int .i64 k].toArray w fun e w' => e = .returned (.bool true) ∧ Below w.heap.size w w' := by
  by_cases h : RIn n ∧ okI n xs = true
  · obtain ⟨m, rfl⟩ := Int.eq_ofNat_of_zero_le (show 0 ≤ n by have := h.1.1; omega)
    have h1 := h.1.1
    have h2 := h.1.2
    exact WheelsTurns_ok w m v xs k hv (by omega) (by omega) h.2
  · exact WheelsTurns_no w n v xs k hv h

end Go.Proofs.Ytncenmgkdodioaa
