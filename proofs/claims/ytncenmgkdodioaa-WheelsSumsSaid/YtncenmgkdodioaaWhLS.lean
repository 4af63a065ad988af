/- The law WheelsSolves, walked. -/
import Derived.Test.YtncenmgkdodioaaWhU2
import Derived.Test.YtncenmgkdodioaaWhG
namespace Go.Proofs.Ytncenmgkdodioaa
open Go.RowKit Go.Sx Go.Wh Go.Dft
set_option linter.unusedVariables false
set_option linter.unusedSimpArgs false
set_option maxRecDepth 100000
set_option maxHeartbeats 4000000

private theorem sle_32 : Try.prog.underlying 32 = some (.slice (Try.prog.elem 32)) := by kernel_rfl
private theorem size_3 : (Try.prog.info? 3).map (·.size) = some 1 := by kernel_rfl
private theorem agg_3 : isAggB Try.prog 3 = some false := by kernel_rfl
private theorem ent_24 : Enters Try.prog 24 := enters_of Try.func24 (by kernel_rfl) rfl
private theorem ent_27 : Enters Try.prog 27 := enters_of Try.func27 (by kernel_rfl) rfl
private theorem ent_44 : Enters Try.prog 44 := enters_of Try.func44 (by kernel_rfl) rfl
private theorem ent_45 : Enters Try.prog 45 := enters_of Try.func45 (by kernel_rfl) rfl
private theorem ent_46 : Enters Try.prog 46 := enters_of Try.func46 (by kernel_rfl) rfl
private theorem ent_30 : Enters Try.prog 30 := enters_of Try.func30 (by kernel_rfl) rfl
private theorem ent_20 : Enters Try.prog 20 := enters_of Try.func20 (by kernel_rfl) rfl

theorem Valid_dec (w : World) (n c : Int) : Calls Try.prog 24 [.int .i64 n, .int .i64 c].toArray w fun e w' => e = .returned (.bool (decide (okC n c))) ∧ Below w.heap.size w w' := by
  by_cases h : okC n c
  · rw [decide_eq_true h]; exact Valid_tI w n c h
  · rw [decide_eq_false h]; exact Valid_f w n c h

theorem RList_f (w : World) (n : Int) (lv : Value) (ls : List Int) (hl : RdV (Value.int .i64) w lv ls) (hm : ls.length ≤ 9223372036854775807) (hno : ¬ ((∀ s ∈ ls, okC n s) ∧ ls.length ≤ 10)) :
    Calls Try.prog 45 [.int .i64 n, lv].toArray w fun e w' => e = .returned (.bool false) ∧ Below w.heap.size w w' := by
  refine enter (N := 21) Try.func45 rfl rfl rfl ?_
  refine g_seq ?_
  refine g_region ?_
  refine s_y (y_assign rfl) rfl rfl rfl rfl ?_
  refine s_nil ?_
  refine g_then ?_
  refine g_seq ?_
  refine g_seq ?_
  refine g_region ?_
  refine s_y (y_move rfl) rfl rfl rfl rfl ?_
  refine s_y (y_lenV (n := ls.length) rfl (by obtain ⟨A, c, h1, _⟩ := hl; exact ⟨A, c, h1⟩) sle_32) rfl rfl rfl rfl ?_
  refine s_y (y_move rfl) rfl rfl rfl rfl ?_
  refine s_nil ?_
  refine g_then ?_
  refine g_block ?_
  refine g_loop (fun (i : Nat) act W => i ≤ ls.length ∧ ∃ (w1 : World), (∀ k : Nat, k < i → okC n (rdI ls (k : Int))) ∧ Has 21 [] [(0, .int .i64 n), (1, lv), (7, lv), (8, .int .i64 (ls.length : Nat)), (9, .int .i64 (i : Int))] act ∧ Hp w w1 ([]) W) (fun i => ls.length - i) 0 (fun act W ha hw => ⟨by omega, W, (by intro k hk; omega), ha.weak (sub_get ⟨rfl, rfl, rfl, rfl, rfl, trivial⟩), hw.toHq.lookSub (List.Sublist.refl _)⟩) ?_
  intro i act W ⟨hb_i, w1, hall, ha, hw⟩
  refine g_go ha hw ?_
  clear ha hw act W
  refine g_seq ?_
  refine g_region ?_
  refine s_y (y_lss rfl rfl) rfl rfl rfl rfl ?_
  refine s_nil ?_
  refine g_then ?_
  refine g_seq ?_
  refine g_cond rfl (fun cq1 => ?_) (fun cq1 => ?_)
  · (try simp at cq1)
    refine g_skip ?_
    refine g_then ?_
    refine g_seq ?_
    refine g_block ?_
    refine g_seq ?_
    refine g_region ?_
    refine s_y (y_idxV (enc := (Value.int .i64)) rfl rfl hl Try.underlying32 size_3 (by omega) (by omega)) rfl rfl rfl rfl ?_
    refine s_y (y_ldV (enc := (Value.int .i64)) (xs := ls) (fun w h => hl.rdl.below h.below) rfl agg_3 (rdI_at (by omega) (by omega))) rfl rfl rfl rfl ?_
    refine s_y (y_assign rfl) rfl rfl rfl rfl ?_
    refine s_nil ?_
    refine g_then ?_
    refine g_seq ?_
    refine g_region ?_
    refine s_y (y_move rfl) rfl rfl rfl rfl ?_
    refine s_y (y_move rfl) rfl rfl rfl rfl ?_
    refine s_tr (t_call rfl rfl ent_24 (fun w h => Valid_dec w n _)) rfl rfl rfl rfl (fun _ _ => ?_)
    refine s_y (y_not rfl) rfl rfl rfl rfl ?_
    refine s_nil ?_
    refine g_then ?_
    refine g_cond rfl (fun cq2 => ?_) (fun cq2 => ?_)
    · (try simp at cq2)
      refine g_seq ?_
      refine g_region ?_
      refine s_y (y_assign rfl) rfl rfl rfl rfl ?_
      refine s_nil ?_
      refine g_then ?_
      refine g_ret ?_
      refine g_inbr ?_
      refine g_thenr ?_
      refine g_thenr ?_
      refine g_inbr ?_
      refine g_thenr ?_
      exact g_end trivial (fun a w ha hq_ => res1 ha rfl rfl  w) (fun w h => ⟨rfl, h.below⟩)
    · (try simp at cq2)
      have hok_ : okC n (rdI ls (i : Int)) := by first | exact cq2 | (simpa using cq2)
      refine g_skip ?_
      refine g_inb ?_
      refine g_then ?_
      refine g_region ?_
      refine s_y (y_add rfl rfl (by omega) (by omega)) rfl rfl rfl rfl ?_
      refine s_y (y_move rfl) rfl rfl rfl rfl ?_
      refine s_nil ?_
      refine g_then ?_
      exact fun act W ha hw => ⟨i + 1, by omega, by omega, W, (by intro k hk; rcases Nat.lt_or_ge k i with h | h; exact hall k h; rw [show k = i by omega]; exact hok_), ha.weak (sub_get ⟨rfl, rfl, rfl, rfl, rfl, trivial⟩), hw.toHq.lookSub (List.Sublist.refl _)⟩
  · (try simp at cq1)
    refine g_exit ?_
    refine g_thenx ?_
    refine g_thenx ?_
    refine g_inbx ?_
    refine g_then ?_
    refine g_seq ?_
    have hbig : 10 < ls.length := by
      refine Nat.lt_of_not_le fun h_ => hno ⟨fun s hs => ?_, h_⟩
      obtain ⟨k, hk, rfl⟩ := List.mem_iff_getElem.1 hs
      have h2_ := hall k (by omega)
      rwa [rdI_nat, List.getD_eq_getElem?_getD, List.getElem?_eq_getElem hk] at h2_
    refine g_region ?_
    refine s_y (y_move rfl) rfl rfl rfl rfl ?_
    refine s_y (y_lenV (n := ls.length) rfl (by obtain ⟨A, c, h1, _⟩ := hl; exact ⟨A, c, h1⟩) sle_32) rfl rfl rfl rfl ?_
    refine s_y (y_leq_f rfl rfl (by omega)) rfl rfl rfl rfl ?_
    refine s_y (y_assign rfl) rfl rfl rfl rfl ?_
    refine s_nil ?_
    refine g_then ?_
    refine g_ret ?_
    exact g_end trivial (fun a w ha hq_ => res1 ha rfl rfl  w) (fun w h => ⟨rfl, h.below⟩)

theorem WheelsSolves_zero (w : World) (n : Nat) (hn : 2 ≤ n) (hn2 : n ≤ 16) (tg : Nat) (lv : Value) (ls : List Int) (hl : RdV (Value.int .i64) w lv ls) (hcs : ∀ s ∈ [(tg : Int)] ++ ls, 0 ≤ s ∧ s < 2 ^ n) (hll : ls.length ≤ 10) (h0 : tg = 0) :
    Calls Try.prog 10 [.int .i64 (n : Int), .int .i64 (tg : Int), lv].toArray w fun e w' => e = .returned (.bool true) ∧ Below w.heap.size w w' := by
  have hp16 := pow_le hn2
  have hls : ∀ s ∈ ls, 0 ≤ s ∧ s < 65536 := fun s hs => by have h1 := hcs s (by simp [hs]); omega
  have hct := hcs (tg : Int) (by simp)
  have hoc : ∀ s ∈ ls, okC n s := fun s hs => ⟨⟨by omega, by omega⟩, hcs s (by simp [hs])⟩
  refine enter (N := 57) Try.func10 rfl rfl rfl ?_
  refine g_seq ?_
  refine g_region ?_
  refine s_y (y_assign rfl) rfl rfl rfl rfl ?_
  refine s_nil ?_
  refine g_then ?_
  refine g_seq ?_
  refine g_region ?_
  refine s_y (y_move rfl) rfl rfl rfl rfl ?_
  refine s_y (y_move rfl) rfl rfl rfl rfl ?_
  refine s_y (y_move rfl) rfl rfl rfl rfl ?_
  refine s_tr (t_callm rfl rfl ent_27 (fun w h => list_le w _ ls (hl.below h.below) (by omega))) rfl rfl rfl rfl (fun x2 hx3 => ?_)
  obtain ⟨vo1, mo1⟩ := x2
  obtain ⟨hOo1, hEo1⟩ := hx3
  refine s_tr (t_call rfl rfl ent_44 (fun w h => Solve_zero w n hn hn2 tg _ ls (hOo1.rd fun p hp => h.at_ p (mem_al mo1 hp)) hcs hll h0)) rfl rfl rfl rfl (fun _ _ => ?_)
  refine s_y (y_move rfl) rfl rfl rfl rfl ?_
  refine s_y (y_extract rfl rfl) rfl rfl rfl rfl ?_
  refine s_y (y_extract rfl rfl) rfl rfl rfl rfl ?_
  refine s_y (y_assign rfl) rfl rfl rfl rfl ?_
  refine s_y (y_assign rfl) rfl rfl rfl rfl ?_
  refine s_nil ?_
  refine g_then ?_
  refine g_seq ?_
  refine g_seq ?_
  refine g_region ?_
  refine s_y (y_move rfl) rfl rfl rfl rfl ?_
  refine s_y (y_move rfl) rfl rfl rfl rfl ?_
  refine s_tr (t_call rfl rfl ent_24 (fun w h => Valid_tI w n tg ⟨⟨by omega, by omega⟩, hct⟩)) rfl rfl rfl rfl (fun _ _ => ?_)
  refine s_y (y_not_t rfl) rfl rfl rfl rfl ?_
  refine s_y (y_move rfl) rfl rfl rfl rfl ?_
  refine s_y (y_move rfl) rfl rfl rfl rfl ?_
  refine s_y (y_move rfl) rfl rfl rfl rfl ?_
  refine s_tr (t_call rfl rfl ent_45 (fun w h => RList_t w n _ ls (hl.below h.below) hoc hll)) rfl rfl rfl rfl (fun _ _ => ?_)
  refine s_y (y_not_t rfl) rfl rfl rfl rfl ?_
  refine s_y (y_pick_f rfl rfl) rfl rfl rfl rfl ?_
  refine s_nil ?_
  refine g_then ?_
  refine g_cond_f rfl ?_
  refine g_skip ?_
  refine g_then ?_
  refine g_seq ?_
  refine g_region ?_
  refine s_y (y_move rfl) rfl rfl rfl rfl ?_
  refine s_y (y_move rfl) rfl rfl rfl rfl ?_
  refine s_y (y_move rfl) rfl rfl rfl rfl ?_
  refine s_tr (t_call rfl rfl ent_46 (fun w h => RSolve_zero w n tg _ ls (hl.below h.below) hls (by omega) (by omega) h0)) rfl rfl rfl rfl (fun _ _ => ?_)
  refine s_y (y_move rfl) rfl rfl rfl rfl ?_
  refine s_y (y_extract rfl rfl) rfl rfl rfl rfl ?_
  refine s_y (y_extract rfl rfl) rfl rfl rfl rfl ?_
  refine s_y (y_assign rfl) rfl rfl rfl rfl ?_
  refine s_y (y_assign rfl) rfl rfl rfl rfl ?_
  refine s_nil ?_
  refine g_then ?_
  refine g_seq ?_
  refine g_region ?_
  refine s_y (y_move rfl) rfl rfl rfl rfl ?_
  refine s_y (y_move rfl) rfl rfl rfl rfl ?_
  refine s_tr (t_call rfl rfl ent_30 (fun w h => Equal_t w _ _ [] [] RdV.nil RdV.nil (by simp) rfl)) rfl rfl rfl rfl (fun _ _ => ?_)
  refine s_y (y_move rfl) rfl rfl rfl rfl ?_
  refine s_y (y_move rfl) rfl rfl rfl rfl ?_
  refine s_y (y_move rfl) rfl rfl rfl rfl ?_
  refine s_y (y_eql_t rfl rfl (by decide)) rfl rfl rfl rfl ?_
  refine s_y (y_pick_t rfl rfl) rfl rfl rfl rfl ?_
  refine s_y (y_move rfl) rfl rfl rfl rfl ?_
  refine s_tr (t_call rfl rfl ent_20 (fun w h => awake_t w)) rfl rfl rfl rfl (fun _ _ => ?_)
  refine s_y (y_pick_t rfl rfl) rfl rfl rfl rfl ?_
  refine s_y (y_assign rfl) rfl rfl rfl rfl ?_
  refine s_nil ?_
  refine g_then ?_
  refine g_ret ?_
  exact g_end trivial (fun a w ha hq_ => res1 ha rfl rfl  w) (fun w h => ⟨rfl, h.below⟩)

theorem WheelsSolves_none (w : World) (n : Nat) (hn : 2 ≤ n) (hn2 : n ≤ 16) (tg : Nat) (lv : Value) (ls : List Int) (hl : RdV (Value.int .i64) w lv ls) (hcs : ∀ s ∈ [(tg : Int)] ++ ls, 0 ≤ s ∧ s < 2 ^ n) (hll : ls.length ≤ 10) (hs : sch ls ls.length 0 tg = none) :
    Calls Try.prog 10 [.int .i64 (n : Int), .int .i64 (tg : Int), lv].toArray w fun e w' => e = .returned (.bool true) ∧ Below w.heap.size w w' := by
  have hp16 := pow_le hn2
  have hls : ∀ s ∈ ls, 0 ≤ s ∧ s < 65536 := fun s hs => by have h1 := hcs s (by simp [hs]); omega
  have hct := hcs (tg : Int) (by simp)
  have hoc : ∀ s ∈ ls, okC n s := fun s hs => ⟨⟨by omega, by omega⟩, hcs s (by simp [hs])⟩
  refine enter (N := 57) Try.func10 rfl rfl rfl ?_
  refine g_seq ?_
  refine g_region ?_
  refine s_y (y_assign rfl) rfl rfl rfl rfl ?_
  refine s_nil ?_
  refine g_then ?_
  refine g_seq ?_
  refine g_region ?_
  refine s_y (y_move rfl) rfl rfl rfl rfl ?_
  refine s_y (y_move rfl) rfl rfl rfl rfl ?_
  refine s_y (y_move rfl) rfl rfl rfl rfl ?_
  refine s_tr (t_callm rfl rfl ent_27 (fun w h => list_le w _ ls (hl.below h.below) (by omega))) rfl rfl rfl rfl (fun x2 hx3 => ?_)
  obtain ⟨vo1, mo1⟩ := x2
  obtain ⟨hOo1, hEo1⟩ := hx3
  refine s_tr (t_call rfl rfl ent_44 (fun w h => Solve_none w n hn hn2 tg _ ls (hOo1.rd fun p hp => h.at_ p (mem_al mo1 hp)) hcs hll hs)) rfl rfl rfl rfl (fun _ _ => ?_)
  refine s_y (y_move rfl) rfl rfl rfl rfl ?_
  refine s_y (y_extract rfl rfl) rfl rfl rfl rfl ?_
  refine s_y (y_extract rfl rfl) rfl rfl rfl rfl ?_
  refine s_y (y_assign rfl) rfl rfl rfl rfl ?_
  refine s_y (y_assign rfl) rfl rfl rfl rfl ?_
  refine s_nil ?_
  refine g_then ?_
  refine g_seq ?_
  refine g_seq ?_
  refine g_region ?_
  refine s_y (y_move rfl) rfl rfl rfl rfl ?_
  refine s_y (y_move rfl) rfl rfl rfl rfl ?_
  refine s_tr (t_call rfl rfl ent_24 (fun w h => Valid_tI w n tg ⟨⟨by omega, by omega⟩, hct⟩)) rfl rfl rfl rfl (fun _ _ => ?_)
  refine s_y (y_not_t rfl) rfl rfl rfl rfl ?_
  refine s_y (y_move rfl) rfl rfl rfl rfl ?_
  refine s_y (y_move rfl) rfl rfl rfl rfl ?_
  refine s_y (y_move rfl) rfl rfl rfl rfl ?_
  refine s_tr (t_call rfl rfl ent_45 (fun w h => RList_t w n _ ls (hl.below h.below) hoc hll)) rfl rfl rfl rfl (fun _ _ => ?_)
  refine s_y (y_not_t rfl) rfl rfl rfl rfl ?_
  refine s_y (y_pick_f rfl rfl) rfl rfl rfl rfl ?_
  refine s_nil ?_
  refine g_then ?_
  refine g_cond_f rfl ?_
  refine g_skip ?_
  refine g_then ?_
  refine g_seq ?_
  refine g_region ?_
  refine s_y (y_move rfl) rfl rfl rfl rfl ?_
  refine s_y (y_move rfl) rfl rfl rfl rfl ?_
  refine s_y (y_move rfl) rfl rfl rfl rfl ?_
  refine s_tr (t_call rfl rfl ent_46 (fun w h => RSolve_none w n tg _ ls (hl.below h.below) hls (by omega) (by omega) hs)) rfl rfl rfl rfl (fun _ _ => ?_)
  refine s_y (y_move rfl) rfl rfl rfl rfl ?_
  refine s_y (y_extract rfl rfl) rfl rfl rfl rfl ?_
  refine s_y (y_extract rfl rfl) rfl rfl rfl rfl ?_
  refine s_y (y_assign rfl) rfl rfl rfl rfl ?_
  refine s_y (y_assign rfl) rfl rfl rfl rfl ?_
  refine s_nil ?_
  refine g_then ?_
  refine g_seq ?_
  refine g_region ?_
  refine s_y (y_move rfl) rfl rfl rfl rfl ?_
  refine s_y (y_move rfl) rfl rfl rfl rfl ?_
  refine s_tr (t_call rfl rfl ent_30 (fun w h => Equal_t w _ _ [] [] RdV.nil RdV.nil (by simp) rfl)) rfl rfl rfl rfl (fun _ _ => ?_)
  refine s_y (y_move rfl) rfl rfl rfl rfl ?_
  refine s_y (y_move rfl) rfl rfl rfl rfl ?_
  refine s_y (y_move rfl) rfl rfl rfl rfl ?_
  refine s_y (y_eql_t rfl rfl (by decide)) rfl rfl rfl rfl ?_
  refine s_y (y_pick_t rfl rfl) rfl rfl rfl rfl ?_
  refine s_y (y_move rfl) rfl rfl rfl rfl ?_
  refine s_tr (t_call rfl rfl ent_20 (fun w h => awake_t w)) rfl rfl rfl rfl (fun _ _ => ?_)
  refine s_y (y_pick_t rfl rfl) rfl rfl rfl rfl ?_
  refine s_y (y_assign rfl) rfl rfl rfl rfl ?_
  refine s_nil ?_
  refine g_then ?_
  refine g_ret ?_
  exact g_end trivial (fun a w ha hq_ => res1 ha rfl rfl  w) (fun w h => ⟨rfl, h.below⟩)

theorem WheelsSolves_some (w : World) (n : Nat) (hn : 2 ≤ n) (hn2 : n ≤ 16) (tg : Nat) (lv : Value) (ls : List Int) (hl : RdV (Value.int .i64) w lv ls) (hcs : ∀ s ∈ [(tg : Int)] ++ ls, 0 ≤ s ∧ s < 2 ^ n) (hll : ls.length ≤ 10) (r : List Int) (h0 : tg ≠ 0) (hs : sch ls ls.length 0 tg = some r) :
    Calls Try.prog 10 [.int .i64 (n : Int), .int .i64 (tg : Int), lv].toArray w fun e w' => e = .returned (.bool true) ∧ Below w.heap.size w w' := by
  have hp16 := pow_le hn2
  have hls : ∀ s ∈ ls, 0 ≤ s ∧ s < 65536 := fun s hs => by have h1 := hcs s (by simp [hs]); omega
  have hct := hcs (tg : Int) (by simp)
  have hoc : ∀ s ∈ ls, okC n s := fun s hs => ⟨⟨by omega, by omega⟩, hcs s (by simp [hs])⟩
  refine enter (N := 57) Try.func10 rfl rfl rfl ?_
  refine g_seq ?_
  refine g_region ?_
  refine s_y (y_assign rfl) rfl rfl rfl rfl ?_
  refine s_nil ?_
  refine g_then ?_
  refine g_seq ?_
  refine g_region ?_
  refine s_y (y_move rfl) rfl rfl rfl rfl ?_
  refine s_y (y_move rfl) rfl rfl rfl rfl ?_
  refine s_y (y_move rfl) rfl rfl rfl rfl ?_
  refine s_tr (t_callm rfl rfl ent_27 (fun w h => list_le w _ ls (hl.below h.below) (by omega))) rfl rfl rfl rfl (fun x2 hx3 => ?_)
  obtain ⟨vo1, mo1⟩ := x2
  obtain ⟨hOo1, hEo1⟩ := hx3
  refine s_tr (t_callm rfl rfl ent_44 (fun w h => Solve_some w n hn hn2 tg _ ls (hOo1.rd fun p hp => h.at_ p (mem_al mo1 hp)) hcs hll r h0 hs)) rfl rfl rfl rfl (fun x5 hx6 => ?_)
  obtain ⟨vo4, mo4⟩ := x5
  obtain ⟨hOo4, hEo4⟩ := hx6
  refine s_y (y_move rfl) rfl rfl rfl rfl ?_
  refine s_y (y_extract rfl rfl) rfl rfl rfl rfl ?_
  refine s_y (y_extract rfl rfl) rfl rfl rfl rfl ?_
  refine s_y (y_assign rfl) rfl rfl rfl rfl ?_
  refine s_y (y_assign rfl) rfl rfl rfl rfl ?_
  refine s_nil ?_
  refine g_then ?_
  refine g_seq ?_
  refine g_seq ?_
  refine g_region ?_
  refine s_y (y_move rfl) rfl rfl rfl rfl ?_
  refine s_y (y_move rfl) rfl rfl rfl rfl ?_
  refine s_tr (t_call rfl rfl ent_24 (fun w h => Valid_tI w n tg ⟨⟨by omega, by omega⟩, hct⟩)) rfl rfl rfl rfl (fun _ _ => ?_)
  refine s_y (y_not_t rfl) rfl rfl rfl rfl ?_
  refine s_y (y_move rfl) rfl rfl rfl rfl ?_
  refine s_y (y_move rfl) rfl rfl rfl rfl ?_
  refine s_y (y_move rfl) rfl rfl rfl rfl ?_
  refine s_tr (t_call rfl rfl ent_45 (fun w h => RList_t w n _ ls (hl.below h.below) hoc hll)) rfl rfl rfl rfl (fun _ _ => ?_)
  refine s_y (y_not_t rfl) rfl rfl rfl rfl ?_
  refine s_y (y_pick_f rfl rfl) rfl rfl rfl rfl ?_
  refine s_nil ?_
  refine g_then ?_
  refine g_cond_f rfl ?_
  refine g_skip ?_
  refine g_then ?_
  refine g_seq ?_
  refine g_region ?_
  refine s_y (y_move rfl) rfl rfl rfl rfl ?_
  refine s_y (y_move rfl) rfl rfl rfl rfl ?_
  refine s_y (y_move rfl) rfl rfl rfl rfl ?_
  refine s_tr (t_callm rfl rfl ent_46 (fun w h => RSolve_some w n tg _ ls (hl.below h.below) hls (by omega) (by omega) r h0 hs)) rfl rfl rfl rfl (fun x8 hx9 => ?_)
  obtain ⟨vo7, mo7⟩ := x8
  obtain ⟨hOo7, hEo7⟩ := hx9
  refine s_y (y_move rfl) rfl rfl rfl rfl ?_
  refine s_y (y_extract rfl rfl) rfl rfl rfl rfl ?_
  refine s_y (y_extract rfl rfl) rfl rfl rfl rfl ?_
  refine s_y (y_assign rfl) rfl rfl rfl rfl ?_
  refine s_y (y_assign rfl) rfl rfl rfl rfl ?_
  refine s_nil ?_
  refine g_then ?_
  refine g_seq ?_
  refine g_region ?_
  refine s_y (y_move rfl) rfl rfl rfl rfl ?_
  refine s_y (y_move rfl) rfl rfl rfl rfl ?_
  refine s_tr (t_call rfl rfl ent_30 (fun w h => Equal_t w _ _ r r (hOo4.rd fun p hp => h.at_ p (mem_ar mo7 (mem_al mo4 hp))) (hOo7.rd fun p hp => h.at_ p (mem_al mo7 hp)) (by have h_ := sch_len ls _ _ _ _ hs; omega) rfl)) rfl rfl rfl rfl (fun _ _ => ?_)
  refine s_y (y_move rfl) rfl rfl rfl rfl ?_
  refine s_y (y_move rfl) rfl rfl rfl rfl ?_
  refine s_y (y_move rfl) rfl rfl rfl rfl ?_
  refine s_y (y_eql_t rfl rfl (by decide)) rfl rfl rfl rfl ?_
  refine s_y (y_pick_t rfl rfl) rfl rfl rfl rfl ?_
  refine s_y (y_move rfl) rfl rfl rfl rfl ?_
  refine s_tr (t_call rfl rfl ent_20 (fun w h => awake_t w)) rfl rfl rfl rfl (fun _ _ => ?_)
  refine s_y (y_pick_t rfl rfl) rfl rfl rfl rfl ?_
  refine s_y (y_assign rfl) rfl rfl rfl rfl ?_
  refine s_nil ?_
  refine g_then ?_
  refine g_ret ?_
  exact g_end trivial (fun a w ha hq_ => res1 ha rfl rfl  w) (fun w h => ⟨rfl, h.below⟩)

theorem Solve_no (w : World) (n c : Int) (lv : Value) (ls : List Int) (hl : RdV (Value.int .i64) w lv (ls.take 19)) (hno : ¬ (okC n c ∧ (∀ s ∈ ls, okC n s) ∧ ls.length ≤ 10)) : Calls Try.prog 44 [.int .i64 n, .int .i64 c, lv].toArray w fun e w' => e = .returned (.tuple #[.slice none 0 0, .int .i64 2]) ∧ Below w.heap.size w w' := by
  have hl19 : (ls.take 19).length ≤ 19 := by rw [List.length_take]; omega
  by_cases h : ∀ s ∈ [c] ++ ls.take 19, okC n s
  · have hc := h c (by simp)
    have h1 := hc.1.1
    have h2 := hc.1.2
    obtain ⟨p, rfl⟩ := Int.eq_ofNat_of_zero_le (show 0 ≤ n by omega)
    obtain ⟨x, rfl⟩ := Int.eq_ofNat_of_zero_le hc.2.1
    refine Solve_long w p (by omega) (by omega) x lv (ls.take 19) hl (fun s hs => (h s hs).2) (by omega) (Nat.lt_of_not_le fun h3 => hno ⟨hc, ?_, ?_⟩)
    · rw [List.length_take] at h3
      have h4 : ls.take 19 = ls := List.take_of_length_le (by omega)
      rw [h4] at h
      exact fun s hs => h s (by simp [hs])
    · rw [List.length_take] at h3; omega
  · exact Solve_bad w n c lv (ls.take 19) hl (by omega) h

theorem WheelsSolves_no1 (w : World) (n c : Int) (lv : Value) (ls : List Int) (hl : RdV (Value.int .i64) w lv ls) (hm : ls.length ≤ 9223372036854775807) (hno : ¬ (okC n c ∧ (∀ s ∈ ls, okC n s) ∧ ls.length ≤ 10)) (hv1 : ¬ okC n c) :
    Calls Try.prog 10 [.int .i64 n, .int .i64 c, lv].toArray w fun e w' => e = .returned (.bool true) ∧ Below w.heap.size w w' := by
  refine enter (N := 57) Try.func10 rfl rfl rfl ?_
  refine g_seq ?_
  refine g_region ?_
  refine s_y (y_assign rfl) rfl rfl rfl rfl ?_
  refine s_nil ?_
  refine g_then ?_
  refine g_seq ?_
  refine g_region ?_
  refine s_y (y_move rfl) rfl rfl rfl rfl ?_
  refine s_y (y_move rfl) rfl rfl rfl rfl ?_
  refine s_y (y_move rfl) rfl rfl rfl rfl ?_
  refine s_tr (t_callm rfl rfl ent_27 (fun w h => list_any w _ ls (hl.below h.below))) rfl rfl rfl rfl (fun x2 hx3 => ?_)
  obtain ⟨vo1, mo1⟩ := x2
  obtain ⟨hOo1, hEo1⟩ := hx3
  refine s_tr (t_call rfl rfl ent_44 (fun w h => Solve_no w n c _ ls (hOo1.rd fun p hp => h.at_ p (mem_al mo1 hp)) hno)) rfl rfl rfl rfl (fun _ _ => ?_)
  refine s_y (y_move rfl) rfl rfl rfl rfl ?_
  refine s_y (y_extract rfl rfl) rfl rfl rfl rfl ?_
  refine s_y (y_extract rfl rfl) rfl rfl rfl rfl ?_
  refine s_y (y_assign rfl) rfl rfl rfl rfl ?_
  refine s_y (y_assign rfl) rfl rfl rfl rfl ?_
  refine s_nil ?_
  refine g_then ?_
  refine g_seq ?_
  refine g_seq ?_
  refine g_region ?_
  refine s_y (y_move rfl) rfl rfl rfl rfl ?_
  refine s_y (y_move rfl) rfl rfl rfl rfl ?_
  refine s_tr (t_call rfl rfl ent_24 (fun w h => Valid_f w n c hv1)) rfl rfl rfl rfl (fun _ _ => ?_)
  refine s_y (y_not_f rfl) rfl rfl rfl rfl ?_
  refine s_y (y_move rfl) rfl rfl rfl rfl ?_
  refine s_no rfl rfl rfl ?_
  refine s_no rfl rfl rfl ?_
  refine s_no rfl rfl rfl ?_
  refine s_no rfl rfl rfl ?_
  refine s_y (y_pick_t rfl rfl) rfl rfl rfl rfl ?_
  refine s_nil ?_
  refine g_then ?_
  refine g_cond_t rfl ?_
  refine g_seq ?_
  refine g_region ?_
  refine s_y (y_move rfl) rfl rfl rfl rfl ?_
  refine s_y (y_lensl rfl sle_32) rfl rfl rfl rfl ?_
  refine s_y (y_eql_t rfl rfl (by decide)) rfl rfl rfl rfl ?_
  refine s_y (y_move rfl) rfl rfl rfl rfl ?_
  refine s_y (y_move rfl) rfl rfl rfl rfl ?_
  refine s_y (y_eql_t rfl rfl (by decide)) rfl rfl rfl rfl ?_
  refine s_y (y_pick_t rfl rfl) rfl rfl rfl rfl ?_
  refine s_y (y_move rfl) rfl rfl rfl rfl ?_
  refine s_tr (t_call rfl rfl ent_20 (fun w h => awake_t w)) rfl rfl rfl rfl (fun _ _ => ?_)
  refine s_y (y_pick_t rfl rfl) rfl rfl rfl rfl ?_
  refine s_y (y_assign rfl) rfl rfl rfl rfl ?_
  refine s_nil ?_
  refine g_then ?_
  refine g_ret ?_
  refine g_thenr ?_
  exact g_end trivial (fun a w ha hq_ => res1 ha rfl rfl  w) (fun w h => ⟨rfl, h.below⟩)

theorem WheelsSolves_no2 (w : World) (n c : Int) (lv : Value) (ls : List Int) (hl : RdV (Value.int .i64) w lv ls) (hm : ls.length ≤ 9223372036854775807) (hno : ¬ (okC n c ∧ (∀ s ∈ ls, okC n s) ∧ ls.length ≤ 10)) (hv1 : okC n c) :
    Calls Try.prog 10 [.int .i64 n, .int .i64 c, lv].toArray w fun e w' => e = .returned (.bool true) ∧ Below w.heap.size w w' := by
  refine enter (N := 57) Try.func10 rfl rfl rfl ?_
  refine g_seq ?_
  refine g_region ?_
  refine s_y (y_assign rfl) rfl rfl rfl rfl ?_
  refine s_nil ?_
  refine g_then ?_
  refine g_seq ?_
  refine g_region ?_
  refine s_y (y_move rfl) rfl rfl rfl rfl ?_
  refine s_y (y_move rfl) rfl rfl rfl rfl ?_
  refine s_y (y_move rfl) rfl rfl rfl rfl ?_
  refine s_tr (t_callm rfl rfl ent_27 (fun w h => list_any w _ ls (hl.below h.below))) rfl rfl rfl rfl (fun x2 hx3 => ?_)
  obtain ⟨vo1, mo1⟩ := x2
  obtain ⟨hOo1, hEo1⟩ := hx3
  refine s_tr (t_call rfl rfl ent_44 (fun w h => Solve_no w n c _ ls (hOo1.rd fun p hp => h.at_ p (mem_al mo1 hp)) hno)) rfl rfl rfl rfl (fun _ _ => ?_)
  refine s_y (y_move rfl) rfl rfl rfl rfl ?_
  refine s_y (y_extract rfl rfl) rfl rfl rfl rfl ?_
  refine s_y (y_extract rfl rfl) rfl rfl rfl rfl ?_
  refine s_y (y_assign rfl) rfl rfl rfl rfl ?_
  refine s_y (y_assign rfl) rfl rfl rfl rfl ?_
  refine s_nil ?_
  refine g_then ?_
  refine g_seq ?_
  refine g_seq ?_
  refine g_region ?_
  refine s_y (y_move rfl) rfl rfl rfl rfl ?_
  refine s_y (y_move rfl) rfl rfl rfl rfl ?_
  refine s_tr (t_call rfl rfl ent_24 (fun w h => Valid_tI w n c hv1)) rfl rfl rfl rfl (fun _ _ => ?_)
  refine s_y (y_not_t rfl) rfl rfl rfl rfl ?_
  refine s_y (y_move rfl) rfl rfl rfl rfl ?_
  refine s_y (y_move rfl) rfl rfl rfl rfl ?_
  refine s_y (y_move rfl) rfl rfl rfl rfl ?_
  refine s_tr (t_call rfl rfl ent_45 (fun w h => RList_f w n _ ls (hl.below h.below) hm (fun h_ => hno ⟨hv1, h_⟩))) rfl rfl rfl rfl (fun _ _ => ?_)
  refine s_y (y_not_f rfl) rfl rfl rfl rfl ?_
  refine s_y (y_pick_f rfl rfl) rfl rfl rfl rfl ?_
  refine s_nil ?_
  refine g_then ?_
  refine g_cond_t rfl ?_
  refine g_seq ?_
  refine g_region ?_
  refine s_y (y_move rfl) rfl rfl rfl rfl ?_
  refine s_y (y_lensl rfl sle_32) rfl rfl rfl rfl ?_
  refine s_y (y_eql_t rfl rfl (by decide)) rfl rfl rfl rfl ?_
  refine s_y (y_move rfl) rfl rfl rfl rfl ?_
  refine s_y (y_move rfl) rfl rfl rfl rfl ?_
  refine s_y (y_eql_t rfl rfl (by decide)) rfl rfl rfl rfl ?_
  refine s_y (y_pick_t rfl rfl) rfl rfl rfl rfl ?_
  refine s_y (y_move rfl) rfl rfl rfl rfl ?_
  refine s_tr (t_call rfl rfl ent_20 (fun w h => awake_t w)) rfl rfl rfl rfl (fun _ _ => ?_)
  refine s_y (y_pick_t rfl rfl) rfl rfl rfl rfl ?_
  refine s_y (y_assign rfl) rfl rfl rfl rfl ?_
  refine s_nil ?_
  refine g_then ?_
  refine g_ret ?_
  refine g_thenr ?_
  exact g_end trivial (fun a w ha hq_ => res1 ha rfl rfl  w) (fun w h => ⟨rfl, h.below⟩)

theorem WheelsSolves_law (w : World) (n c : Int) (lv : Value) (ls : List Int) (_ : (Lit.int .i64 n).wf = true) (_ : (Lit.int .i64 c).wf = true) (hl : RdV (Value.int .i64) w lv ls) (hm : ls.length ≤ maxLen) (_ : ∀ x ∈ ls, (Lit.int .i64 x).wf = true) : Calls Try.prog 10 [.int .i64 n, .int .i64 c, lv].toArray w fun e w' => e = .returned (.bool true) ∧ Below w.heap.size w w' := by
  have hm' : ls.length ≤ 9223372036854775807 := by unfold maxLen at hm; omega
  by_cases h : okC n c ∧ (∀ s ∈ ls, okC n s) ∧ ls.length ≤ 10
  · have h1 := h.1.1.1
    have h2 := h.1.1.2
    obtain ⟨p, rfl⟩ := Int.eq_ofNat_of_zero_le (show 0 ≤ n by omega)
    obtain ⟨x, rfl⟩ := Int.eq_ofNat_of_zero_le h.1.2.1
    have hcs : ∀ s ∈ [(x : Int)] ++ ls, 0 ≤ s ∧ s < 2 ^ p := fun s hs => by
      rcases List.mem_append.1 hs with h3 | h3
      · rw [List.mem_singleton.1 h3]; exact h.1.2
      · exact (h.2.1 s h3).2
    by_cases h0 : x = 0
    · exact WheelsSolves_zero w p (by omega) (by omega) x lv ls hl hcs h.2.2 h0
    · cases hs : sch ls ls.length 0 x with
      | none => exact WheelsSolves_none w p (by omega) (by omega) x lv ls hl hcs h.2.2 hs
      | some r => exact WheelsSolves_some w p (by omega) (by omega) x lv ls hl hcs h.2.2 r h0 hs
  · by_cases hv : okC n c
    · exact WheelsSolves_no2 w n c lv ls hl hm' h hv
    · exact WheelsSolves_no1 w n c lv ls hl hm' h hv

end Go.Proofs.Ytncenmgkdodioaa
