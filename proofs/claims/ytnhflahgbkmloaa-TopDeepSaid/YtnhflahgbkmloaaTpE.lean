/- top: gcd, Part, Deep, made, Maker; the law TopDeep. -/
import Derived.Test.YtnhflahgbkmloaaTpD
import Derived.Test.YtnhflahgbkmloaaTpDeep
import Derived.Test.YtnhflahgbkmloaaSxMapI
import Derived.Test.YtnhflahgbkmloaaSxLookS
namespace Go.Proofs.Ytnhflahgbkmloaa
open Go.RowKit Go.Sx Go.Wh Go.Dft
set_option linter.unusedVariables false
set_option linter.unusedSimpArgs false
set_option maxRecDepth 100000
set_option maxHeartbeats 4000000

private theorem inf_3 : ∃ ie, Try.prog.info? 3 = some ie ∧ ie.zero = some (.int .i64 0) ∧ ie.size = 1 ∧ ie.bytes = 8 := info_of (by kernel_rfl) (by kernel_rfl)
private theorem ent_36 : Enters Try.prog 36 := enters_of Try.func36 (by kernel_rfl) rfl
private theorem ent_37 : Enters Try.prog 37 := enters_of Try.func37 (by kernel_rfl) rfl
private theorem sle_27 : Try.prog.underlying 27 = some (.slice (Try.prog.elem 27)) := by kernel_rfl
private theorem size_3 : (Try.prog.info? 3).map (·.size) = some 1 := by kernel_rfl
private theorem agg_3 : isAggB Try.prog 3 = some false := by kernel_rfl
private theorem ent_34 : Enters Try.prog 34 := enters_of Try.func34 (by kernel_rfl) rfl
private theorem zero_49 : (Try.prog.info? 49).bind (·.zero) = some (.agg #[(.int .i64 0), (.slice none 0 0)]) := by kernel_rfl
private theorem size_49 : (Try.prog.info? 49).map (·.size) = some 2 := by kernel_rfl
private theorem fld_49_1 (b off : Nat) (w : World) : (Instr.fieldAt 49 (.pointer (some ⟨b, off, none⟩)) 1).run Try.prog w = .ok (.pointer (some ⟨b, off + 1, none⟩)) w := by kernel_rfl
private theorem agg_27 : isAggB Try.prog 27 = some false := by kernel_rfl
private theorem ent_39 : Enters Try.prog 39 := enters_of Try.func39 (by kernel_rfl) rfl
private theorem ent_12 : Enters Try.prog 12 := enters_of Try.func12 (by kernel_rfl) rfl
private theorem ent_14 : Enters Try.prog 14 := enters_of Try.func14 (by kernel_rfl) rfl
private theorem ent_10 : Enters Try.prog 10 := enters_of Try.func10 (by kernel_rfl) rfl
private theorem ent_15 : Enters Try.prog 15 := enters_of Try.func15 (by kernel_rfl) rfl
private theorem ent_16 : Enters Try.prog 16 := enters_of Try.func16 (by kernel_rfl) rfl
private theorem ent_13 : Enters Try.prog 13 := enters_of Try.func13 (by kernel_rfl) rfl

theorem gcd_any (w : World) (a b : Nat) (ha : a ≤ 1000) (hb : b ≤ 1000) :
    Calls Try.prog 14 [.int .i64 (a : Int), .int .i64 (b : Int)].toArray w fun e w' => e = .returned (.int .i64 (((Nat.gcd a b : Nat) : Int))) ∧ Below w.heap.size w w' := by
  refine enter (N := 12) Try.func14 rfl rfl rfl ?_
  refine g_seq ?_
  refine g_region ?_
  refine s_y (y_assign rfl) rfl rfl rfl rfl ?_
  refine s_nil ?_
  refine g_then ?_
  refine g_seq ?_
  refine g_block ?_
  refine g_loop (fun (y : Nat) act W => y ≤ 1000 ∧ ∃ (x : Nat) (w1 : World), (Nat.gcd x y = Nat.gcd a b) ∧ (x ≤ 1000) ∧ Has 12 [] [(0, .int .i64 (x : Int)), (1, .int .i64 (y : Int)), (4, .int .i64 0)] act ∧ Hp w w1 ([]) W) (fun y => y) b (fun act W ha hw => ⟨by omega, a, W, (by rfl), (by omega), ha.weak (sub_get ⟨rfl, rfl, rfl, trivial⟩), hw.toHq.lookSub (List.Sublist.refl _)⟩) ?_
  intro y act W ⟨hb_y, x, w1, hg, hx, ha, hw⟩
  refine g_go ha hw ?_
  clear ha hw act W
  refine g_seq ?_
  refine g_seq ?_
  refine g_region ?_
  refine s_y (y_move rfl) rfl rfl rfl rfl ?_
  refine s_y (y_neq rfl rfl) rfl rfl rfl rfl ?_
  refine s_nil ?_
  refine g_then ?_
  refine g_cond rfl (fun cq1 => ?_) (fun cq1 => ?_)
  · (try simp at cq1)
    refine g_skip ?_
    refine g_then ?_
    refine g_block ?_
    refine g_draw 6 (by kernel_rfl) ?_
    refine j_p (i := 0) rfl (y_move rfl) (by kernel_rfl) (by kernel_rfl) (by kernel_rfl) rfl rfl rfl rfl rfl (.inr (fun _ h => h)) ?_
    refine j_p (i := 1) rfl (y_move rfl) (by kernel_rfl) (by kernel_rfl) (by kernel_rfl) rfl rfl rfl rfl rfl (.inr (fun _ h => h)) ?_
    refine j_p (i := 2) rfl (y_move rfl) (by kernel_rfl) (by kernel_rfl) (by kernel_rfl) rfl rfl rfl rfl rfl (.inr (fun _ h => h)) ?_
    refine j_p (i := 3) rfl (y_rem rfl rfl (by omega) (by omega)) (by kernel_rfl) (by kernel_rfl) (by kernel_rfl) rfl rfl rfl rfl rfl (.inr (fun _ h => h)) ?_
    rw [show (x : Int) % (y : Int) = ((x % y : Nat) : Int) from by simp]
    refine j_p (i := 4) rfl (y_assign rfl) (by kernel_rfl) (by kernel_rfl) (by kernel_rfl) rfl rfl rfl rfl rfl (.inr (fun _ h => h)) ?_
    refine j_p (i := 5) rfl (y_assign rfl) (by kernel_rfl) (by kernel_rfl) (by kernel_rfl) rfl rfl rfl rfl rfl (.inr (fun _ h => h)) ?_
    refine j_nil (by kernel_rfl) ?_
    refine g_inb ?_
    refine g_then ?_
    exact fun act W ha hw => ⟨x % y, Nat.mod_lt _ (by omega), Nat.le_trans (Nat.mod_le _ _) hx, y, W, (by rw [← hg, Nat.gcd_comm x y, Nat.gcd_rec y x, Nat.gcd_comm]), (by omega), ha.weak (sub_get ⟨rfl, rfl, rfl, trivial⟩), hw.toHq.lookSub (List.Sublist.refl _)⟩
  · (try simp at cq1)
    refine g_exit ?_
    refine g_thenx ?_
    refine g_thenx ?_
    refine g_inbx ?_
    refine g_then ?_
    refine g_seq ?_
    refine g_region ?_
    refine s_y (y_move rfl) rfl rfl rfl rfl ?_
    refine s_y (y_assign rfl) rfl rfl rfl rfl ?_
    refine s_nil ?_
    refine g_then ?_
    refine g_ret ?_
    rw [show Nat.gcd a b = x from by rw [← hg, show y = 0 by omega, Nat.gcd_zero_right]]
    exact g_end trivial (fun a w ha hq_ => res1 ha rfl rfl  w) (fun w h => ⟨rfl, h.below⟩)

theorem Part_any (w : World) (n k : Int) :
    Calls Try.prog 12 [.int .i64 n, .int .i64 k].toArray w fun e w' => e = .returned (.bool (decide (2 ≤ n ∧ n ≤ 16 ∧ 1 ≤ k ∧ k ≤ n))) ∧ Below w.heap.size w w' := by
  refine enter (N := 20) Try.func12 rfl rfl rfl ?_
  refine g_seq ?_
  refine g_region ?_
  refine s_y (y_assign rfl) rfl rfl rfl rfl ?_
  refine s_nil ?_
  refine g_then ?_
  refine g_seq ?_
  refine g_region ?_
  refine s_y (y_move rfl) rfl rfl rfl rfl ?_
  refine s_y (y_geq rfl rfl) rfl rfl rfl rfl ?_
  refine s_y (y_move rfl) rfl rfl rfl rfl ?_
  refine g_bool 7 rfl (fun cq1 => ?_) (fun cq1 => ?_)
  · (try simp at cq1)
    refine s_y (y_move rfl) rfl rfl rfl rfl ?_
    refine s_y (y_leq rfl rfl) rfl rfl rfl rfl ?_
    refine s_y (y_pick_t rfl rfl) rfl rfl rfl rfl ?_
    refine s_y (y_move rfl) rfl rfl rfl rfl ?_
    refine g_bool 11 rfl (fun cq2 => ?_) (fun cq2 => ?_)
    · (try simp at cq2)
      refine s_y (y_move rfl) rfl rfl rfl rfl ?_
      refine s_y (y_geq rfl rfl) rfl rfl rfl rfl ?_
      refine s_y (y_pick_t rfl rfl) rfl rfl rfl rfl ?_
      refine s_y (y_move rfl) rfl rfl rfl rfl ?_
      refine g_bool 15 rfl (fun cq3 => ?_) (fun cq3 => ?_)
      · (try simp at cq3)
        refine s_y (y_move rfl) rfl rfl rfl rfl ?_
        refine s_y (y_move rfl) rfl rfl rfl rfl ?_
        refine s_y (y_leq rfl rfl) rfl rfl rfl rfl ?_
        refine s_y (y_pick_t rfl rfl) rfl rfl rfl rfl ?_
        refine s_y (y_assign rfl) rfl rfl rfl rfl ?_
        refine s_nil ?_
        refine g_then ?_
        refine g_ret ?_
        rw [show decide (2 ≤ n ∧ n ≤ 16 ∧ 1 ≤ k ∧ k ≤ n) = decide (k ≤ n) from by first | exact decide_eq_false (by omega) | exact decide_eq_decide.2 (by omega)]
        exact g_end trivial (fun a w ha hq_ => res1 ha rfl rfl  w) (fun w h => ⟨rfl, h.below⟩)
      · (try simp at cq3)
        refine s_no rfl rfl rfl ?_
        refine s_no rfl rfl rfl ?_
        refine s_no rfl rfl rfl ?_
        refine s_y (y_pick_f rfl rfl) rfl rfl rfl rfl ?_
        refine s_y (y_assign rfl) rfl rfl rfl rfl ?_
        refine s_nil ?_
        refine g_then ?_
        refine g_ret ?_
        rw [show decide (2 ≤ n ∧ n ≤ 16 ∧ 1 ≤ k ∧ k ≤ n) = false from by first | exact decide_eq_false (by omega) | exact decide_eq_decide.2 (by omega)]
        exact g_end trivial (fun a w ha hq_ => res1 ha rfl rfl  w) (fun w h => ⟨rfl, h.below⟩)
    · (try simp at cq2)
      refine s_no rfl rfl rfl ?_
      refine s_no rfl rfl rfl ?_
      refine s_y (y_pick_f rfl rfl) rfl rfl rfl rfl ?_
      refine s_y (y_move rfl) rfl rfl rfl rfl ?_
      refine s_no rfl rfl rfl ?_
      refine s_no rfl rfl rfl ?_
      refine s_no rfl rfl rfl ?_
      refine s_y (y_pick_f rfl rfl) rfl rfl rfl rfl ?_
      refine s_y (y_assign rfl) rfl rfl rfl rfl ?_
      refine s_nil ?_
      refine g_then ?_
      refine g_ret ?_
      rw [show decide (2 ≤ n ∧ n ≤ 16 ∧ 1 ≤ k ∧ k ≤ n) = false from by first | exact decide_eq_false (by omega) | exact decide_eq_decide.2 (by omega)]
      exact g_end trivial (fun a w ha hq_ => res1 ha rfl rfl  w) (fun w h => ⟨rfl, h.below⟩)
  · (try simp at cq1)
    refine s_no rfl rfl rfl ?_
    refine s_no rfl rfl rfl ?_
    refine s_y (y_pick_f rfl rfl) rfl rfl rfl rfl ?_
    refine s_y (y_move rfl) rfl rfl rfl rfl ?_
    refine s_no rfl rfl rfl ?_
    refine s_no rfl rfl rfl ?_
    refine s_y (y_pick_f rfl rfl) rfl rfl rfl rfl ?_
    refine s_y (y_move rfl) rfl rfl rfl rfl ?_
    refine s_no rfl rfl rfl ?_
    refine s_no rfl rfl rfl ?_
    refine s_no rfl rfl rfl ?_
    refine s_y (y_pick_f rfl rfl) rfl rfl rfl rfl ?_
    refine s_y (y_assign rfl) rfl rfl rfl rfl ?_
    refine s_nil ?_
    refine g_then ?_
    refine g_ret ?_
    rw [show decide (2 ≤ n ∧ n ≤ 16 ∧ 1 ≤ k ∧ k ≤ n) = false from by first | exact decide_eq_false (by omega) | exact decide_eq_decide.2 (by omega)]
    exact g_end trivial (fun a w ha hq_ => res1 ha rfl rfl  w) (fun w h => ⟨rfl, h.below⟩)

def keyI (x : Int) : Value := .int .i64 x
theorem int_map : KeyS Try.prog 57 3 4 keyI (fun _ => True) (.bool false) (.int .i64) := ⟨Try.underlying57, Try.underlying3, fun k _ => rfl, fun u => by kernel_rfl, fun k k' h => by injection h⟩
def seenF (xs : List Int) : Int → Option Value := fun x => if x ∈ xs then some (.bool true) else none
theorem seenF_nil : seenF [] = fun _ => none := by funext x; exact if_neg (by simp)
theorem seenF_put (xs : List Int) (x : Int) : putG (seenF xs) x (.bool true) = seenF (xs ++ [x]) := by
  funext y
  unfold putG seenF
  by_cases h : y = x
  · rw [if_pos h, if_pos (by simp [h])]
  · rw [if_neg h]
    by_cases h2 : y ∈ xs
    · rw [if_pos h2, if_pos (by simp [h2])]
    · rw [if_neg h2, if_neg (by simp [h, h2])]

theorem Deep_t (w : World) (n c : Nat) (hn : 2 ≤ n) (hn2 : n ≤ 16) (hc : c < 2 ^ n) (hd : ∀ i : Nat, i < n / 2 → 0 < rdI (vecC n c) (i : Int) → rdI (vecC n c) (i : Int) ∉ (vecC n c).take i) :
    Calls Try.prog 15 [.int .i64 (n : Int), .int .i64 (c : Int)].toArray w fun e w' => e = .returned (.tuple #[.bool true, .int .i64 0]) ∧ Below w.heap.size w w' := by
  obtain ⟨ie3, hi3⟩ := inf_3
  refine enter (N := 33) Try.func15 rfl rfl rfl ?_
  refine g_seq ?_
  refine g_region ?_
  refine s_y (y_assign rfl) rfl rfl rfl rfl ?_
  refine s_y (y_assign rfl) rfl rfl rfl rfl ?_
  refine s_nil ?_
  refine g_then ?_
  refine g_seq ?_
  refine g_seq ?_
  refine g_region ?_
  refine s_y (y_move rfl) rfl rfl rfl rfl ?_
  refine s_y (y_move rfl) rfl rfl rfl rfl ?_
  refine s_tr (t_build (vs := [(0, .int .i64 (c : Int))]) (cells := [.int .i64 (c : Int)]) rfl rfl Try.underlying27 hi3.1 hi3.2.1 (by rw [hi3.2.2.1]; rfl) (by rw [hi3.2.2.1]; rfl) (by rw [hi3.2.2.1]; kernel_rfl)) rfl rfl rfl rfl (fun bl hbl => ?_)
  refine s_tr (t_call rfl rfl ent_36 (fun w h => cvalid_t w n _ [(c : Int)] (RdV.own (enc := (Value.int .i64)) (xs := [(c : Int)]) (jk := []) (at_of (i := 0) h rfl) rfl (Nat.le_refl _)) (by simp) hn hn2 (by intro x hx; simp only [List.mem_cons, List.not_mem_nil, or_false] at hx; subst hx; exact ⟨by omega, by exact_mod_cast hc⟩))) rfl rfl rfl rfl (fun _ _ => ?_)
  refine s_y (y_not_t rfl) rfl rfl rfl rfl ?_
  refine s_nil ?_
  refine g_then ?_
  refine g_cond_f rfl ?_
  refine g_skip ?_
  refine g_then ?_
  refine g_seq ?_
  refine g_region ?_
  refine s_tr (t_makeMap) rfl rfl rfl rfl (fun mb hmb => ?_)
  refine s_y (y_assign rfl) rfl rfl rfl rfl ?_
  refine s_nil ?_
  refine g_then ?_
  refine g_seq ?_
  refine g_seq ?_
  refine g_region ?_
  refine s_y (y_move rfl) rfl rfl rfl rfl ?_
  refine s_y (y_move rfl) rfl rfl rfl rfl ?_
  refine s_tr (t_callm rfl rfl ent_37 (fun w h => vector_any w n c hn hn2 hc)) rfl rfl rfl rfl (fun x2 hx3 => ?_)
  obtain ⟨vo1, mo1⟩ := x2
  obtain ⟨hOo1, hEo1⟩ := hx3
  refine g_perm' (m' := (mb, .map #[] 0) :: (mo1 ++ ((bl, .cells [.int .i64 (c : Int)].toArray 3 (0, 0)) :: []))) (List.perm_middle.symm) ?_
  refine s_y (y_lenV (n := ((vecC n c).length)) rfl hOo1.1 sle_27) rfl rfl rfl rfl ?_
  refine s_y (y_move rfl) rfl rfl rfl rfl ?_
  refine s_nil ?_
  refine g_then ?_
  refine g_block ?_
  refine g_loop (fun (i : Nat) act W => i ≤ n / 2 ∧ ∃ (es : Array MapEntry) (clock : Nat) (w1 : World), (MapG keyI (fun _ => True) es (seenF ((vecC n c).take i))) ∧ Has 33 [] [(6, .map (some mb)), (17, vo1), (18, .int .i64 ((vecC n c).length : Nat)), (19, .int .i64 (i : Int))] act ∧ Hp w w1 ((mb, .map es clock) :: (mo1 ++ ((bl, .cells [.int .i64 (c : Int)].toArray 3 (0, 0)) :: []))) W) (fun i => n / 2 - i) 0 (fun act W ha hw => ⟨by omega, #[], 0, W, (by rw [List.take_zero, seenF_nil]; exact MapG.empty), ha.weak (sub_get ⟨rfl, rfl, rfl, rfl, trivial⟩), hw.toHq.lookSub (List.Sublist.refl _)⟩) ?_
  intro i act W ⟨hb_i, es, clock, w1, hM, ha, hw⟩
  refine g_go ha hw ?_
  clear ha hw act W
  refine g_seq ?_
  have hvl : (vecC n c).length = n / 2 := vecC_len n c
  refine g_region ?_
  refine s_y (y_lss rfl rfl) rfl rfl rfl rfl ?_
  refine s_nil ?_
  refine g_then ?_
  refine g_seq ?_
  refine g_cond rfl (fun cq4 => ?_) (fun cq4 => ?_)
  · (try simp at cq4)
    refine g_skip ?_
    refine g_then ?_
    refine g_seq ?_
    refine g_block ?_
    refine g_seq ?_
    refine g_region ?_
    refine s_y (y_idxO (enc := (Value.int .i64)) rfl rfl hOo1 hEo1 Try.underlying27 size_3 (by omega) (by omega)) rfl rfl rfl rfl ?_
    refine s_y (y_ldV (enc := (Value.int .i64)) (xs := vecC n c) (fun w h => (hOo1.rd fun p hp => h.at_ p (List.mem_cons_of_mem _ (mem_al mo1 hp))).rdl) rfl agg_3 (rdI_at (by omega) (by omega))) rfl rfl rfl rfl ?_
    refine s_y (y_assign rfl) rfl rfl rfl rfl ?_
    refine s_nil ?_
    refine g_then ?_
    refine g_seq ?_
    refine g_seq ?_
    have hne := hd i (by omega)
    refine g_region ?_
    refine s_y (y_move rfl) rfl rfl rfl rfl ?_
    refine s_y (y_gtr rfl rfl) rfl rfl rfl rfl ?_
    refine s_y (y_move rfl) rfl rfl rfl rfl ?_
    refine g_bool 25 rfl (fun cq5 => ?_) (fun cq5 => ?_)
    · (try simp at cq5)
      refine s_y (y_move rfl) rfl rfl rfl rfl ?_
      refine s_y (y_move rfl) rfl rfl rfl rfl ?_
      refine s_y (y_lookZ (k := rdI (vecC n c) (i : Int)) (if_neg (hne (by omega))) int_map hM (fun w h => h.at_ _ (List.mem_cons_self ..)) rfl rfl rfl trivial) rfl rfl rfl rfl ?_
      refine s_y (y_pick_t rfl rfl) rfl rfl rfl rfl ?_
      refine s_nil ?_
      refine g_then ?_
      refine g_cond_f rfl ?_
      refine g_skip ?_
      refine g_then ?_
      refine g_region ?_
      refine s_y (y_move rfl) rfl rfl rfl rfl ?_
      refine s_y (y_move rfl) rfl rfl rfl rfl ?_
      refine s_tr0 (t_putI (k := rdI (vecC n c) (i : Int)) (v := .bool true) 0 int_map hM rfl rfl rfl rfl rfl trivial) rfl rfl rfl (fun y hy => ?_)
      refine s_nil ?_
      refine g_inb ?_
      refine g_then ?_
      refine g_region ?_
      refine s_y (y_add rfl rfl (by omega) (by omega)) rfl rfl rfl rfl ?_
      refine s_y (y_move rfl) rfl rfl rfl rfl ?_
      refine s_nil ?_
      refine g_then ?_
      exact fun act W ha hw => ⟨i + 1, by omega, by omega, y.1, y.2, W, (by rw [rdI_take (by omega), ← seenF_put]; exact hy), ha.weak (sub_get ⟨rfl, rfl, rfl, rfl, trivial⟩), hw.toHq.lookSub (List.Sublist.refl _)⟩
    · (try simp at cq5)
      refine s_no rfl rfl rfl ?_
      refine s_no rfl rfl rfl ?_
      refine s_no rfl rfl rfl ?_
      refine s_y (y_pick_f rfl rfl) rfl rfl rfl rfl ?_
      refine s_nil ?_
      refine g_then ?_
      refine g_cond_f rfl ?_
      refine g_skip ?_
      refine g_then ?_
      refine g_region ?_
      refine s_y (y_move rfl) rfl rfl rfl rfl ?_
      refine s_y (y_move rfl) rfl rfl rfl rfl ?_
      refine s_tr0 (t_putI (k := rdI (vecC n c) (i : Int)) (v := .bool true) 0 int_map hM rfl rfl rfl rfl rfl trivial) rfl rfl rfl (fun y hy => ?_)
      refine s_nil ?_
      refine g_inb ?_
      refine g_then ?_
      refine g_region ?_
      refine s_y (y_add rfl rfl (by omega) (by omega)) rfl rfl rfl rfl ?_
      refine s_y (y_move rfl) rfl rfl rfl rfl ?_
      refine s_nil ?_
      refine g_then ?_
      exact fun act W ha hw => ⟨i + 1, by omega, by omega, y.1, y.2, W, (by rw [rdI_take (by omega), ← seenF_put]; exact hy), ha.weak (sub_get ⟨rfl, rfl, rfl, rfl, trivial⟩), hw.toHq.lookSub (List.Sublist.refl _)⟩
  · (try simp at cq4)
    refine g_exit ?_
    refine g_thenx ?_
    refine g_thenx ?_
    refine g_inbx ?_
    refine g_then ?_
    refine g_seq ?_
    refine g_region ?_
    refine s_y (y_assign rfl) rfl rfl rfl rfl ?_
    refine s_y (y_assign rfl) rfl rfl rfl rfl ?_
    refine s_nil ?_
    refine g_then ?_
    refine g_ret ?_
    exact g_end trivial (fun a w ha hq_ => res2 ha rfl rfl rfl  w) (fun w h => ⟨rfl, h.below⟩)

theorem made_any (w : World) (n c g k : Nat) (hn : 2 ≤ n) (hn2 : n ≤ 16) (hc : c < n) (hg : g ≤ 16) (hk : k ≤ 16) :
    Calls Try.prog 39 [.int .i64 (n : Int), .int .i64 (c : Int), .int .i64 (g : Int), .int .i64 (k : Int)].toArray w fun e w' => e = .returned (.int .i64 (((mkN n c g k : Nat) : Int))) ∧ Below w.heap.size w w' := by
  have hpw := pow_small hn2
  have hpp := Nat.two_pow_pos n
  refine enter (N := 27) Try.func39 rfl rfl rfl ?_
  refine g_seq ?_
  refine g_region ?_
  refine s_y (y_assign rfl) rfl rfl rfl rfl ?_
  refine s_nil ?_
  refine g_then ?_
  refine g_seq ?_
  refine g_region ?_
  refine s_y (y_assign rfl) rfl rfl rfl rfl ?_
  refine s_nil ?_
  refine g_then ?_
  refine g_seq ?_
  refine g_seq ?_
  refine g_region ?_
  refine s_y (y_move rfl) rfl rfl rfl rfl ?_
  refine s_y (y_move rfl) rfl rfl rfl rfl ?_
  refine s_nil ?_
  refine g_then ?_
  refine g_block ?_
  refine g_loop (fun (i : Nat) act W => i ≤ k ∧ ∃ (z : Nat) (w1 : World), (z = mkN n c g i) ∧ Has 27 [] [(0, .int .i64 (n : Int)), (1, .int .i64 (c : Int)), (2, .int .i64 (g : Int)), (8, .int .i64 0), (9, .int .i64 ((z : Nat) : Int)), (11, .int .i64 (k : Int)), (12, .int .i64 (i : Int))] act ∧ Hp w w1 ([]) W) (fun i => k - i) 0 (fun act W ha hw => ⟨by omega, 0, W, (by rfl), ha.weak (sub_get ⟨rfl, rfl, rfl, rfl, rfl, rfl, rfl, trivial⟩), hw.toHq.lookSub (List.Sublist.refl _)⟩) ?_
  intro i act W ⟨hb_i, z, w1, hz, ha, hw⟩
  refine g_go ha hw ?_
  clear ha hw act W
  have hsl := mkN_lt (n := n) (c := c) (g := g) (by omega) i
  rw [← hz] at hsl
  refine g_seq ?_
  refine g_region ?_
  refine s_y (y_lss rfl rfl) rfl rfl rfl rfl ?_
  refine s_nil ?_
  refine g_then ?_
  refine g_seq ?_
  refine g_cond rfl (fun cq1 => ?_) (fun cq1 => ?_)
  · (try simp at cq1)
    refine g_skip ?_
    refine g_then ?_
    refine g_seq ?_
    refine g_block ?_
    refine g_seq ?_
    refine g_region ?_
    refine s_y (y_move rfl) rfl rfl rfl rfl ?_
    refine s_y (y_assign rfl) rfl rfl rfl rfl ?_
    refine s_nil ?_
    refine g_then ?_
    have hin : (i : Int) * (g : Int) ≤ 16 * 16 := Int.mul_le_mul (by omega) (by omega) (by omega) (by omega)
    have hin0 : 0 ≤ (i : Int) * (g : Int) := Int.mul_nonneg (by omega) (by omega)
    have hml := Nat.mod_lt (c + i * g) (show 0 < n by omega)
    have hpe : 2 ^ ((c + i * g) % n) < 2 ^ n := Nat.pow_lt_pow_right (by decide) hml
    refine g_region ?_
    refine s_y (y_move rfl) rfl rfl rfl rfl ?_
    refine s_y (y_move rfl) rfl rfl rfl rfl ?_
    refine s_y (y_move rfl) rfl rfl rfl rfl ?_
    refine s_y (y_move rfl) rfl rfl rfl rfl ?_
    refine s_y (y_mul rfl rfl (by omega) (by omega)) rfl rfl rfl rfl ?_
    refine s_y (y_add rfl rfl (by omega) (by omega)) rfl rfl rfl rfl ?_
    refine s_y (y_move rfl) rfl rfl rfl rfl ?_
    refine s_y (y_rem rfl rfl (by omega) (by omega)) rfl rfl rfl rfl ?_
    rw [mk_cast]
    refine s_y (y_shl1 rfl rfl (by omega) (by omega)) rfl rfl rfl rfl ?_
    rw [two_cast]
    refine s_y (y_orN z (2 ^ ((c + i * g) % n)) rfl rfl (by rfl) (by rfl) (by omega) (by omega)) rfl rfl rfl rfl ?_
    refine s_y (y_assign rfl) rfl rfl rfl rfl ?_
    refine s_nil ?_
    refine g_inb ?_
    refine g_then ?_
    refine g_region ?_
    refine s_y (y_add rfl rfl (by omega) (by omega)) rfl rfl rfl rfl ?_
    refine s_y (y_move rfl) rfl rfl rfl rfl ?_
    refine s_nil ?_
    refine g_then ?_
    exact fun act W ha hw => ⟨i + 1, by omega, by omega, (z ||| (2 ^ ((c + i * g) % n))), W, (by rw [hz]; rfl), ha.weak (sub_get ⟨rfl, rfl, rfl, rfl, rfl, rfl, rfl, trivial⟩), hw.toHq.lookSub (List.Sublist.refl _)⟩
  · (try simp at cq1)
    refine g_exit ?_
    refine g_thenx ?_
    refine g_thenx ?_
    refine g_inbx ?_
    refine g_then ?_
    refine g_seq ?_
    refine g_region ?_
    refine s_y (y_move rfl) rfl rfl rfl rfl ?_
    refine s_y (y_assign rfl) rfl rfl rfl rfl ?_
    refine s_nil ?_
    refine g_then ?_
    refine g_ret ?_
    rw [show mkN n c g k = z from by rw [hz, show i = k by omega]]
    exact g_end trivial (fun a w ha hq_ => res1 ha rfl rfl  w) (fun w h => ⟨rfl, h.below⟩)

theorem Maker_t (w : World) (n c : Nat) (hn : 2 ≤ n) (hn2 : n ≤ 16) (hc0 : 1 ≤ c) (hc : c < 2 ^ n) (hex : ∃ g x : Nat, 1 ≤ g ∧ g < n ∧ (x : Int) ∈ (tonesL c n) ∧ mkN n x g (tonesL c n).length = c) :
    Calls Try.prog 16 [.int .i64 (n : Int), .int .i64 (c : Int)].toArray w fun e w' => ∃ z : Int, (1 ≤ z ∧ z < n) ∧ e = .returned (.tuple #[.int .i64 z, .int .i64 0]) ∧ Below w.heap.size w w' := by
  refine enter (N := 42) Try.func16 rfl rfl rfl ?_
  refine g_seq ?_
  refine g_region ?_
  refine s_y (y_assign rfl) rfl rfl rfl rfl ?_
  refine s_y (y_assign rfl) rfl rfl rfl rfl ?_
  refine s_nil ?_
  refine g_then ?_
  refine g_seq ?_
  refine g_region ?_
  refine s_y (y_move rfl) rfl rfl rfl rfl ?_
  refine s_y (y_move rfl) rfl rfl rfl rfl ?_
  refine s_tr (t_callm rfl rfl ent_34 (fun w h => eread_ok w n c hn hn2 hc0 hc)) rfl rfl rfl rfl (fun xo hxo => ?_)
  obtain ⟨vo, mo⟩ := xo
  obtain ⟨hOo, hEo⟩ := hxo
  have hOo : OwnV (Value.int .i64) vo (tonesL c n) mo := hOo
  obtain ⟨Ao, co, hvo⟩ := id hOo.1
  subst hvo
  refine s_y (y_move rfl) rfl rfl rfl rfl ?_
  refine s_y (y_extract rfl rfl) rfl rfl rfl rfl ?_
  refine s_y (y_extract rfl rfl) rfl rfl rfl rfl ?_
  refine s_tr (t_alloc zero_49 rfl) rfl rfl rfl rfl (fun b6 hb6 => ?_)
  refine s_tr0 (t_store (vs := [.int .i64 (n : Int), (.slice Ao (tonesL c n).length co)]) 0 rfl rfl rfl (by simp [Value.cells, hOo.cells1]) size_49 rfl (by simp only [List.all_cons, List.all_nil, hOo.one, Bool.and_true]; rfl)) rfl rfl rfl (fun _ _ => ?_)
  refine s_y (y_assign rfl) rfl rfl rfl rfl ?_
  refine s_nil ?_
  refine g_then ?_
  refine g_seq ?_
  refine g_seq ?_
  refine g_region ?_
  refine s_y (y_move rfl) rfl rfl rfl rfl ?_
  refine s_y (y_not_t rfl) rfl rfl rfl rfl ?_
  refine s_nil ?_
  refine g_then ?_
  refine g_cond_f rfl ?_
  refine g_skip ?_
  refine g_then ?_
  refine g_seq ?_
  refine g_seq ?_
  have htl := tonesL_len c n
  have htr := tonesL_range c n
  refine g_region ?_
  refine s_y (y_assign rfl) rfl rfl rfl rfl ?_
  refine s_nil ?_
  refine g_then ?_
  refine g_block ?_
  refine g_loop (fun (i : Nat) act W => i + 1 ≤ n ∧ ∃ (w1 : World), (∀ g2 : Nat, 1 ≤ g2 → g2 < i + 1 → ∀ x : Nat, (x : Int) ∈ (tonesL c n) → mkN n x g2 (tonesL c n).length ≠ c) ∧ Has 42 [] [(0, .int .i64 (n : Int)), (1, .int .i64 (c : Int)), (6, .pointer (some ⟨b6, 0, none⟩)), (8, .int .i64 ((i : Int) + 1))] act ∧ Hp w w1 ((b6, .cells [.int .i64 (n : Int), (.slice Ao (tonesL c n).length co)].toArray 49 (0, 0)) :: (mo ++ ([]))) W) (fun i => n - i) 0 (fun act W ha hw => ⟨by omega, W, (by intro g2 h1 h2; omega), ha.weak (sub_get ⟨rfl, rfl, rfl, rfl, trivial⟩), hw.toHq.lookSub (List.Sublist.refl _)⟩) ?_
  intro i act W ⟨hb_i, w1, hb1, ha, hw⟩
  refine g_go ha hw ?_
  clear ha hw act W
  refine g_seq ?_
  refine g_seq ?_
  refine g_region ?_
  refine s_y (y_move rfl) rfl rfl rfl rfl ?_
  refine s_y (y_move rfl) rfl rfl rfl rfl ?_
  refine s_y (y_lss rfl rfl) rfl rfl rfl rfl ?_
  refine s_nil ?_
  refine g_then ?_
  refine g_cond rfl (fun cq1 => ?_) (fun cq1 => ?_)
  · (try simp at cq1)
    refine g_skip ?_
    refine g_then ?_
    refine g_seq ?_
    refine g_block ?_
    refine g_seq ?_
    refine g_region ?_
    refine s_y (y_fld rfl (fun w => fld_49_1 _ _ w)) rfl rfl rfl rfl ?_
    refine s_y (y_ld1 0 rfl rfl agg_27 rfl) rfl rfl rfl rfl ?_
    refine s_y (y_lenV (n := ((tonesL c n).length)) rfl hOo.1 sle_27) rfl rfl rfl rfl ?_
    refine s_y (y_move rfl) rfl rfl rfl rfl ?_
    refine s_nil ?_
    refine g_then ?_
    refine g_block ?_
    refine g_loop (fun (j : Nat) act W => j ≤ (tonesL c n).length ∧ ∃ (w1 : World), (∀ x : Nat, (x : Int) ∈ (tonesL c n).take j → mkN n x (i + 1) (tonesL c n).length ≠ c) ∧ Has 42 [] [(0, .int .i64 (n : Int)), (1, .int .i64 (c : Int)), (6, .pointer (some ⟨b6, 0, none⟩)), (8, .int .i64 ((i : Int) + 1)), (19, .int .i64 ((i : Int) + 1)), (20, .int .i64 (n : Int)), (21, .bool (decide (((i : Int) + 1) < (n : Int)))), (24, .pointer (some ⟨b6, 1, none⟩)), (25, (.slice Ao (tonesL c n).length co)), (26, .int .i64 ((tonesL c n).length : Nat)), (27, .int .i64 (j : Int))] act ∧ Hp w w1 ((b6, .cells [.int .i64 (n : Int), (.slice Ao (tonesL c n).length co)].toArray 49 (0, 0)) :: (mo ++ ([]))) W) (fun j => (tonesL c n).length - j) 0 (fun act W ha hw => ⟨by omega, W, (by intro x hx; simp at hx), ha.weak (sub_get ⟨rfl, rfl, rfl, rfl, rfl, rfl, rfl, rfl, rfl, rfl, rfl, trivial⟩), hw.toHq.lookSub (List.Sublist.refl _)⟩) ?_
    intro j act W ⟨hb_j, w1, hb2, ha, hw⟩
    refine g_go ha hw ?_
    clear ha hw act W
    refine g_seq ?_
    refine g_region ?_
    refine s_y (y_lss rfl rfl) rfl rfl rfl rfl ?_
    refine s_nil ?_
    refine g_then ?_
    refine g_seq ?_
    refine g_cond rfl (fun cq2 => ?_) (fun cq2 => ?_)
    · (try simp at cq2)
      refine g_skip ?_
      refine g_then ?_
      refine g_seq ?_
      refine g_block ?_
      refine g_seq ?_
      have hxr := htr _ (rdI_mem (xs := (tonesL c n)) (i := (j : Int)) (by omega) (by omega))
      obtain ⟨X, hX⟩ := Int.eq_ofNat_of_zero_le hxr.1
      have hX2 : X < n := by omega
      refine g_region ?_
      refine s_y (y_idxO (enc := (Value.int .i64)) rfl rfl hOo hEo Try.underlying27 size_3 (by omega) (by omega)) rfl rfl rfl rfl ?_
      refine s_y (y_ldV (enc := (Value.int .i64)) (xs := (tonesL c n)) (fun w h => (hOo.rd fun p hp => h.at_ p (List.mem_cons_of_mem _ (mem_al mo hp))).rdl) rfl agg_3 (rdI_at (by omega) (by omega))) rfl rfl rfl rfl ?_
      rw [hX]
      refine s_y (y_assign rfl) rfl rfl rfl rfl ?_
      refine s_nil ?_
      refine g_then ?_
      refine g_seq ?_
      refine g_region ?_
      refine s_y (y_move rfl) rfl rfl rfl rfl ?_
      refine s_y (y_move rfl) rfl rfl rfl rfl ?_
      refine s_y (y_move rfl) rfl rfl rfl rfl ?_
      refine s_y (y_fld rfl (fun w => fld_49_1 _ _ w)) rfl rfl rfl rfl ?_
      refine s_y (y_ld1 0 rfl rfl agg_27 rfl) rfl rfl rfl rfl ?_
      refine s_y (y_lenV (n := ((tonesL c n).length)) rfl hOo.1 sle_27) rfl rfl rfl rfl ?_
      refine s_tr (t_call rfl rfl ent_39 (fun w h => made_any w n X (i + 1) (tonesL c n).length hn hn2 hX2 (by omega) (by omega))) rfl rfl rfl rfl (fun _ _ => ?_)
      refine s_y (y_move rfl) rfl rfl rfl rfl ?_
      refine s_y (y_eql rfl rfl) rfl rfl rfl rfl ?_
      refine s_nil ?_
      refine g_then ?_
      refine g_cond rfl (fun cq3 => ?_) (fun cq3 => ?_)
      · (try simp at cq3)
        refine g_seq ?_
        refine g_region ?_
        refine s_y (y_move rfl) rfl rfl rfl rfl ?_
        refine s_y (y_assign rfl) rfl rfl rfl rfl ?_
        refine s_y (y_assign rfl) rfl rfl rfl rfl ?_
        refine s_nil ?_
        refine g_then ?_
        refine g_ret ?_
        refine g_inbr ?_
        refine g_thenr ?_
        refine g_thenr ?_
        refine g_inbr ?_
        refine g_inbr ?_
        refine g_thenr ?_
        refine g_thenr ?_
        refine g_inbr ?_
        refine g_thenr ?_
        exact g_end trivial (fun a w ha hq_ => res2 ha rfl rfl rfl  w) (fun w h => ⟨_, ⟨by omega, by omega⟩, rfl, h.below⟩)
      · (try simp at cq3)
        have hno : mkN n X (i + 1) (tonesL c n).length ≠ c := by intro h_; apply cq3; rw [h_]
        refine g_skip ?_
        refine g_inb ?_
        refine g_then ?_
        refine g_region ?_
        refine s_y (y_add rfl rfl (by omega) (by omega)) rfl rfl rfl rfl ?_
        refine s_y (y_move rfl) rfl rfl rfl rfl ?_
        refine s_nil ?_
        refine g_then ?_
        exact fun act W ha hw => ⟨j + 1, by omega, by omega, W, (by intro x hx; rw [rdI_take (by omega), List.mem_append, List.mem_singleton] at hx; rcases hx with hx | hx; exact hb2 x hx; rw [hX] at hx; rw [show x = X by omega]; exact hno), ha.weak (sub_get ⟨rfl, rfl, rfl, rfl, rfl, rfl, rfl, rfl, rfl, rfl, rfl, trivial⟩), hw.toHq.lookSub (List.Sublist.refl _)⟩
    · (try simp at cq2)
      refine g_exit ?_
      refine g_thenx ?_
      refine g_thenx ?_
      refine g_inbx ?_
      refine g_inb ?_
      refine g_then ?_
      refine g_region ?_
      refine s_y (y_move rfl) rfl rfl rfl rfl ?_
      refine s_y (y_add rfl rfl (by omega) (by omega)) rfl rfl rfl rfl ?_
      refine s_y (y_assign rfl) rfl rfl rfl rfl ?_
      refine s_nil ?_
      refine g_then ?_
      exact fun act W ha hw => ⟨i + 1, by omega, by omega, W, (by intro g2 h1 h2 x hx; rcases Nat.lt_or_ge g2 (i + 1) with h3 | h3; exact hb1 g2 h1 h3 x hx; rw [show g2 = i + 1 by omega]; exact hb2 x (by rw [show j = (tonesL c n).length by omega, List.take_length]; exact hx)), ha.weak (sub_get ⟨rfl, rfl, rfl, rfl, trivial⟩), hw.toHq.lookSub (List.Sublist.refl _)⟩
  · (try simp at cq1)
    refine g_exit ?_
    refine g_thenx ?_
    refine g_thenx ?_
    refine g_inbx ?_
    refine g_then ?_
    refine g_seq ?_
    refine g_region ?_
    refine s_y (y_assign rfl) rfl rfl rfl rfl ?_
    refine s_y (y_assign rfl) rfl rfl rfl rfl ?_
    refine s_nil ?_
    refine g_then ?_
    refine g_ret ?_
    obtain ⟨g2, x, h1, h2, h3, h4⟩ := hex
    exact absurd h4 (hb1 g2 h1 (by omega) x h3)

theorem TopDeep_ok (w : World) (n k : Nat) (g c : Int) (hn : 2 ≤ n) (hn2 : n ≤ 16) (hk : 1 ≤ k) (hk2 : k ≤ n) :
    Calls Try.prog 4 [.int .i64 (n : Int), .int .i64 (k : Int), .int .i64 g, .int .i64 c].toArray w fun e w' => e = .returned (.bool (true)) ∧ Below w.heap.size w w' := by
  have hpw := pow_small hn2
  have hpp := Nat.two_pow_pos n
  have hun : IntKind.u64.wrap (n : Int) = (n : Int) := u64_nat (by omega)
  obtain ⟨g0, hg0, hgl⟩ : ∃ g0 : Nat, IntKind.u64.wrap g % (n : Int) = (g0 : Int) ∧ g0 < n := by
    have h1 := mod_range (show 0 < n by omega) (IntKind.u64.wrap g)
    exact ⟨(IntKind.u64.wrap g % (n : Int)).toNat, by omega, by omega⟩
  obtain ⟨c0, hc0_, hcl⟩ : ∃ c0 : Nat, IntKind.u64.wrap c % (n : Int) = (c0 : Int) ∧ c0 < n := by
    have h1 := mod_range (show 0 < n by omega) (IntKind.u64.wrap c)
    exact ⟨(IntKind.u64.wrap c % (n : Int)).toNat, by omega, by omega⟩
  refine enter (N := 105) Try.func4 rfl rfl rfl ?_
  refine g_seq ?_
  refine g_region ?_
  refine s_y (y_assign rfl) rfl rfl rfl rfl ?_
  refine s_nil ?_
  refine g_then ?_
  refine g_seq ?_
  refine g_seq ?_
  refine g_region ?_
  refine s_y (y_move rfl) rfl rfl rfl rfl ?_
  refine s_y (y_move rfl) rfl rfl rfl rfl ?_
  refine s_tr (t_call rfl rfl ent_12 (fun w h => by have h_ := Part_any w (n : Int) (k : Int); rwa [decide_eq_true (show 2 ≤ (n : Int) ∧ (n : Int) ≤ 16 ∧ 1 ≤ (k : Int) ∧ (k : Int) ≤ n by omega)] at h_)) rfl rfl rfl rfl (fun _ _ => ?_)
  refine s_y (y_not_t rfl) rfl rfl rfl rfl ?_
  refine s_nil ?_
  refine g_then ?_
  refine g_cond_f rfl ?_
  refine g_skip ?_
  refine g_then ?_
  refine g_seq ?_
  refine g_draw 15 (by kernel_rfl) ?_
  refine j_p (i := 0) rfl (y_move rfl) (by kernel_rfl) (by kernel_rfl) (by kernel_rfl) rfl rfl rfl rfl rfl (.inr (fun _ h => h)) ?_
  refine j_p (i := 1) rfl (y_conv rfl (by kernel_rfl) Try.underlying31 rfl) (by kernel_rfl) (by kernel_rfl) (by kernel_rfl) rfl rfl rfl rfl rfl (.inr (fun _ h => h)) ?_
  refine j_p (i := 2) rfl (y_move rfl) (by kernel_rfl) (by kernel_rfl) (by kernel_rfl) rfl rfl rfl rfl rfl (.inr (fun _ h => h)) ?_
  refine j_p (i := 3) rfl (y_conv rfl (by kernel_rfl) Try.underlying31 hun) (by kernel_rfl) (by kernel_rfl) (by kernel_rfl) rfl rfl rfl rfl rfl (.inr (fun _ h => h)) ?_
  refine j_p (i := 4) rfl (y_remu rfl rfl (u64_range g).1 (by omega)) (by kernel_rfl) (by kernel_rfl) (by kernel_rfl) rfl rfl rfl rfl rfl (.inr (fun _ h => h)) ?_
  rw [hg0]
  refine j_p (i := 5) rfl (y_conv rfl (by kernel_rfl) Try.underlying3 (conv_eq trivial (by omega) (by omega))) (by kernel_rfl) (by kernel_rfl) (by kernel_rfl) rfl rfl rfl rfl rfl (.inr (fun _ h => h)) ?_
  refine j_p (i := 6) rfl (y_add rfl rfl (by omega) (by omega)) (by kernel_rfl) (by kernel_rfl) (by kernel_rfl) rfl rfl rfl rfl rfl (.inr (fun _ h => h)) ?_
  rw [show (1 : Int) + (g0 : Int) = ((g0 + 1 : Nat) : Int) by omega]
  refine j_p (i := 7) rfl (y_move rfl) (by kernel_rfl) (by kernel_rfl) (by kernel_rfl) rfl rfl rfl rfl rfl (.inr (fun _ h => h)) ?_
  refine j_p (i := 8) rfl (y_conv rfl (by kernel_rfl) Try.underlying31 rfl) (by kernel_rfl) (by kernel_rfl) (by kernel_rfl) rfl rfl rfl rfl rfl (.inr (fun _ h => h)) ?_
  refine j_p (i := 9) rfl (y_move rfl) (by kernel_rfl) (by kernel_rfl) (by kernel_rfl) rfl rfl rfl rfl rfl (.inr (fun _ h => h)) ?_
  refine j_p (i := 10) rfl (y_conv rfl (by kernel_rfl) Try.underlying31 hun) (by kernel_rfl) (by kernel_rfl) (by kernel_rfl) rfl rfl rfl rfl rfl (.inr (fun _ h => h)) ?_
  refine j_p (i := 11) rfl (y_remu rfl rfl (u64_range c).1 (by omega)) (by kernel_rfl) (by kernel_rfl) (by kernel_rfl) rfl rfl rfl rfl rfl (.inr (fun _ h => h)) ?_
  rw [hc0_]
  refine j_p (i := 12) rfl (y_conv rfl (by kernel_rfl) Try.underlying3 (conv_eq trivial (by omega) (by omega))) (by kernel_rfl) (by kernel_rfl) (by kernel_rfl) rfl rfl rfl rfl rfl (.inr (fun _ h => h)) ?_
  refine j_p (i := 13) rfl (y_assign rfl) (by kernel_rfl) (by kernel_rfl) (by kernel_rfl) rfl rfl rfl rfl rfl (.inr (fun _ h => h)) ?_
  refine j_p (i := 14) rfl (y_assign rfl) (by kernel_rfl) (by kernel_rfl) (by kernel_rfl) rfl rfl rfl rfl rfl (.inr (fun _ h => h)) ?_
  refine j_nil (by kernel_rfl) ?_
  refine g_then ?_
  refine g_seq ?_
  refine g_seq ?_
  refine g_region ?_
  refine s_y (y_move rfl) rfl rfl rfl rfl ?_
  refine s_y (y_move rfl) rfl rfl rfl rfl ?_
  refine s_tr (t_call rfl rfl ent_14 (fun w h => gcd_any w (g0 + 1) n (by omega) (by omega))) rfl rfl rfl rfl (fun _ _ => ?_)
  refine s_y (y_neq rfl rfl) rfl rfl rfl rfl ?_
  refine s_y (y_move rfl) rfl rfl rfl rfl ?_
  refine g_bool 49 rfl (fun cq1 => ?_) (fun cq1 => ?_)
  · (try simp at cq1)
    refine s_no rfl rfl rfl ?_
    refine s_no rfl rfl rfl ?_
    refine s_no rfl rfl rfl ?_
    refine s_no rfl rfl rfl ?_
    refine s_no rfl rfl rfl ?_
    refine s_y (y_pick_t rfl rfl) rfl rfl rfl rfl ?_
    refine s_nil ?_
    refine g_then ?_
    refine g_cond_t rfl ?_
    refine g_seq ?_
    refine g_region ?_
    refine s_tr (t_call rfl rfl ent_10 (fun w h => spreads_t w)) rfl rfl rfl rfl (fun _ _ => ?_)
    refine s_y (y_assign rfl) rfl rfl rfl rfl ?_
    refine s_nil ?_
    refine g_then ?_
    refine g_ret ?_
    refine g_thenr ?_
    exact g_end trivial (fun a w ha hq_ => res1 ha rfl rfl  w) (fun w h => ⟨rfl, h.below⟩)
  · (try simp at cq1)
    have hgcd : Nat.gcd (g0 + 1) n = 1 := by omega
    refine s_y (y_move rfl) rfl rfl rfl rfl ?_
    refine s_y (y_sub rfl rfl (by omega) (by omega)) rfl rfl rfl rfl ?_
    refine s_y (y_move rfl) rfl rfl rfl rfl ?_
    refine s_y (y_quo rfl rfl (by omega) (by omega)) rfl rfl rfl rfl ?_
    refine s_y (y_gtr rfl rfl) rfl rfl rfl rfl ?_
    refine s_y (y_pick_f rfl rfl) rfl rfl rfl rfl ?_
    refine s_nil ?_
    refine g_then ?_
    refine g_cond rfl (fun cq2 => ?_) (fun cq2 => ?_)
    · (try simp at cq2)
      refine g_seq ?_
      refine g_region ?_
      refine s_tr (t_call rfl rfl ent_10 (fun w h => spreads_t w)) rfl rfl rfl rfl (fun _ _ => ?_)
      refine s_y (y_assign rfl) rfl rfl rfl rfl ?_
      refine s_nil ?_
      refine g_then ?_
      refine g_ret ?_
      refine g_thenr ?_
      exact g_end trivial (fun a w ha hq_ => res1 ha rfl rfl  w) (fun w h => ⟨rfl, h.below⟩)
    · (try simp at cq2)
      have hk3 : k ≤ n / 2 + 1 := by omega
      refine g_skip ?_
      refine g_then ?_
      refine g_seq ?_
      refine g_region ?_
      refine s_y (y_assign rfl) rfl rfl rfl rfl ?_
      refine s_nil ?_
      refine g_then ?_
      refine g_seq ?_
      refine g_seq ?_
      refine g_region ?_
      refine s_y (y_move rfl) rfl rfl rfl rfl ?_
      refine s_y (y_move rfl) rfl rfl rfl rfl ?_
      refine s_nil ?_
      refine g_then ?_
      refine g_block ?_
      refine g_loop (fun (i : Nat) act W => i ≤ k ∧ ∃ (z : Nat) (w1 : World), (z = mkN n c0 (g0 + 1) i) ∧ Has 105 [] [(0, .int .i64 (n : Int)), (2, .int .i64 ((g0 + 1 : Nat) : Int)), (3, .int .i64 (c0 : Int)), (8, .bool false), (11, .int .i64 ((z : Nat) : Int)), (57, .int .i64 (k : Int)), (58, .int .i64 (i : Int))] act ∧ Hp w w1 ([]) W) (fun i => k - i) 0 (fun act W ha hw => ⟨by omega, 0, W, (by rfl), ha.weak (sub_get ⟨rfl, rfl, rfl, rfl, rfl, rfl, rfl, trivial⟩), hw.toHq.lookSub (List.Sublist.refl _)⟩) ?_
      intro i act W ⟨hb_i, z, w1, hz, ha, hw⟩
      refine g_go ha hw ?_
      clear ha hw act W
      have hsl := mkN_lt (n := n) (c := c0) (g := g0 + 1) (by omega) i
      rw [← hz] at hsl
      refine g_seq ?_
      refine g_region ?_
      refine s_y (y_lss rfl rfl) rfl rfl rfl rfl ?_
      refine s_nil ?_
      refine g_then ?_
      refine g_seq ?_
      refine g_cond rfl (fun cq3 => ?_) (fun cq3 => ?_)
      · (try simp at cq3)
        refine g_skip ?_
        refine g_then ?_
        refine g_seq ?_
        refine g_block ?_
        refine g_seq ?_
        refine g_region ?_
        refine s_y (y_move rfl) rfl rfl rfl rfl ?_
        refine s_y (y_assign rfl) rfl rfl rfl rfl ?_
        refine s_nil ?_
        refine g_then ?_
        have hin : (i : Int) * ((g0 + 1 : Nat) : Int) ≤ 16 * 16 := Int.mul_le_mul (by omega) (by omega) (by omega) (by omega)
        have hin0 : 0 ≤ (i : Int) * ((g0 + 1 : Nat) : Int) := Int.mul_nonneg (by omega) (by omega)
        have hml := Nat.mod_lt (c0 + i * (g0 + 1)) (show 0 < n by omega)
        have hpe : 2 ^ ((c0 + i * (g0 + 1)) % n) < 2 ^ n := Nat.pow_lt_pow_right (by decide) hml
        refine g_region ?_
        refine s_y (y_move rfl) rfl rfl rfl rfl ?_
        refine s_y (y_move rfl) rfl rfl rfl rfl ?_
        refine s_y (y_move rfl) rfl rfl rfl rfl ?_
        refine s_y (y_move rfl) rfl rfl rfl rfl ?_
        refine s_y (y_mul rfl rfl (by omega) (by omega)) rfl rfl rfl rfl ?_
        refine s_y (y_add rfl rfl (by omega) (by omega)) rfl rfl rfl rfl ?_
        refine s_y (y_move rfl) rfl rfl rfl rfl ?_
        refine s_y (y_rem rfl rfl (by omega) (by omega)) rfl rfl rfl rfl ?_
        rw [mk_cast]
        refine s_y (y_shl1 rfl rfl (by omega) (by omega)) rfl rfl rfl rfl ?_
        rw [two_cast]
        refine s_y (y_orN z (2 ^ ((c0 + i * (g0 + 1)) % n)) rfl rfl (by rfl) (by rfl) (by omega) (by omega)) rfl rfl rfl rfl ?_
        refine s_y (y_assign rfl) rfl rfl rfl rfl ?_
        refine s_nil ?_
        refine g_inb ?_
        refine g_then ?_
        refine g_region ?_
        refine s_y (y_add rfl rfl (by omega) (by omega)) rfl rfl rfl rfl ?_
        refine s_y (y_move rfl) rfl rfl rfl rfl ?_
        refine s_nil ?_
        refine g_then ?_
        exact fun act W ha hw => ⟨i + 1, by omega, by omega, (z ||| (2 ^ ((c0 + i * (g0 + 1)) % n))), W, (by rw [hz]; rfl), ha.weak (sub_get ⟨rfl, rfl, rfl, rfl, rfl, rfl, rfl, trivial⟩), hw.toHq.lookSub (List.Sublist.refl _)⟩
      · (try simp at cq3)
        refine g_exit ?_
        refine g_thenx ?_
        refine g_thenx ?_
        refine g_inbx ?_
        refine g_then ?_
        refine g_seq ?_
        have hik : i = k := by omega
        rw [hik] at hz
        have hgn : g0 + 1 ≤ n := by omega
        have hms := made_size hn hn2 hgcd hgn hk hk3 hcl
        have hmb := made_bit hn hn2 hgcd hgn hk hk3 hcl
        rw [← hz] at hms hmb
        have hzl : z < 2 ^ n := by rw [hz]; exact mkN_lt (by omega) k
        have hz1 : 1 ≤ z := by rcases Nat.eq_zero_or_pos z with h_ | h_; rw [h_, Nat.zero_testBit] at hmb; exact absurd hmb (by decide); exact h_
        have htz : (tonesL z n).length = k := by rw [tonesL_size, ← bs_ext hzl 16 hn2, hms]
        have hex : ∃ g x : Nat, 1 ≤ g ∧ g < n ∧ (x : Int) ∈ tonesL z n ∧ mkN n x g (tonesL z n).length = z := ⟨g0 + 1, c0, by omega, g_lt hn hn2 hgcd hgn, tonesL_bit (by rw [bitI_nat, hmb]; rfl) n hcl, by rw [htz]; exact hz.symm⟩
        have hdeep := made_deepz hn hn2 hgcd hgn hk hk3 hcl hz
        refine g_region ?_
        refine s_y (y_move rfl) rfl rfl rfl rfl ?_
        refine s_y (y_move rfl) rfl rfl rfl rfl ?_
        refine s_tr (t_call rfl rfl ent_15 (fun w h => Deep_t w n z hn hn2 hzl hdeep)) rfl rfl rfl rfl (fun _ _ => ?_)
        refine s_y (y_move rfl) rfl rfl rfl rfl ?_
        refine s_y (y_extract rfl rfl) rfl rfl rfl rfl ?_
        refine s_y (y_extract rfl rfl) rfl rfl rfl rfl ?_
        refine s_y (y_assign rfl) rfl rfl rfl rfl ?_
        refine s_y (y_assign rfl) rfl rfl rfl rfl ?_
        refine s_nil ?_
        refine g_then ?_
        refine g_seq ?_
        refine g_region ?_
        refine s_y (y_move rfl) rfl rfl rfl rfl ?_
        refine s_y (y_move rfl) rfl rfl rfl rfl ?_
        refine s_tr (t_callm (A := fun z_ : Int => 1 ≤ z_ ∧ z_ < n) (vf := fun z_ => .tuple #[.int .i64 z_, .int .i64 0]) (mm := fun _ => []) rfl rfl ent_16 (fun w h => (Maker_t w n z hn hn2 hz1 hzl hex).mono fun e w' ⟨q1, q2, q3, q4⟩ => ⟨q1, q2, q3, Hq.of_below q4⟩)) rfl rfl rfl rfl (fun mk hmk => ?_)
        refine s_y (y_move rfl) rfl rfl rfl rfl ?_
        refine s_y (y_extract rfl rfl) rfl rfl rfl rfl ?_
        refine s_y (y_extract rfl rfl) rfl rfl rfl rfl ?_
        refine s_y (y_assign rfl) rfl rfl rfl rfl ?_
        refine s_y (y_assign rfl) rfl rfl rfl rfl ?_
        refine s_nil ?_
        refine g_then ?_
        refine g_seq ?_
        refine g_region ?_
        refine s_y (y_move rfl) rfl rfl rfl rfl ?_
        refine s_y (y_eql_t rfl rfl (by decide)) rfl rfl rfl rfl ?_
        refine s_y (y_move rfl) rfl rfl rfl rfl ?_
        refine s_y (y_move rfl) rfl rfl rfl rfl ?_
        refine s_y (y_eql_t rfl rfl (by decide)) rfl rfl rfl rfl ?_
        refine s_y (y_pick_t rfl rfl) rfl rfl rfl rfl ?_
        refine s_y (y_move rfl) rfl rfl rfl rfl ?_
        refine s_y (y_move rfl) rfl rfl rfl rfl ?_
        refine s_y (y_pick_t rfl rfl) rfl rfl rfl rfl ?_
        refine s_y (y_move rfl) rfl rfl rfl rfl ?_
        refine s_y (y_move rfl) rfl rfl rfl rfl ?_
        refine s_y (y_geq_t rfl rfl (by omega)) rfl rfl rfl rfl ?_
        refine s_y (y_pick_t rfl rfl) rfl rfl rfl rfl ?_
        refine s_y (y_move rfl) rfl rfl rfl rfl ?_
        refine s_y (y_move rfl) rfl rfl rfl rfl ?_
        refine s_y (y_move rfl) rfl rfl rfl rfl ?_
        refine s_y (y_lss_t rfl rfl (by omega)) rfl rfl rfl rfl ?_
        refine s_y (y_pick_t rfl rfl) rfl rfl rfl rfl ?_
        refine s_y (y_move rfl) rfl rfl rfl rfl ?_
        refine s_tr (t_call rfl rfl ent_10 (fun w h => spreads_t w)) rfl rfl rfl rfl (fun _ _ => ?_)
        refine s_y (y_pick_t rfl rfl) rfl rfl rfl rfl ?_
        refine s_y (y_assign rfl) rfl rfl rfl rfl ?_
        refine s_nil ?_
        refine g_then ?_
        refine g_ret ?_
        exact g_end trivial (fun a w ha hq_ => res1 ha rfl rfl  w) (fun w h => ⟨rfl, h.below⟩)

theorem TopDeep_no (w : World) (n k g c : Int) (hno : ¬ (2 ≤ n ∧ n ≤ 16 ∧ 1 ≤ k ∧ k ≤ n)) :
    Calls Try.prog 4 [.int .i64 n, .int .i64 k, .int .i64 g, .int .i64 c].toArray w fun e w' => e = .returned (.bool (true)) ∧ Below w.heap.size w w' := by
  refine enter (N := 105) Try.func4 rfl rfl rfl ?_
  refine g_seq ?_
  refine g_region ?_
  refine s_y (y_assign rfl) rfl rfl rfl rfl ?_
  refine s_nil ?_
  refine g_then ?_
  refine g_seq ?_
  refine g_seq ?_
  refine g_region ?_
  refine s_y (y_move rfl) rfl rfl rfl rfl ?_
  refine s_y (y_move rfl) rfl rfl rfl rfl ?_
  refine s_tr (t_call rfl rfl ent_12 (fun w h => by have h_ := Part_any w n k; rwa [decide_eq_false hno] at h_)) rfl rfl rfl rfl (fun _ _ => ?_)
  refine s_y (y_not_f rfl) rfl rfl rfl rfl ?_
  refine s_nil ?_
  refine g_then ?_
  refine g_cond_t rfl ?_
  refine g_seq ?_
  refine g_region ?_
  refine s_y (y_move rfl) rfl rfl rfl rfl ?_
  refine s_y (y_move rfl) rfl rfl rfl rfl ?_
  refine s_tr (t_call rfl rfl ent_13 (fun w h => Spread_bad w n k hno)) rfl rfl rfl rfl (fun _ _ => ?_)
  refine s_y (y_move rfl) rfl rfl rfl rfl ?_
  refine s_y (y_extract rfl rfl) rfl rfl rfl rfl ?_
  refine s_y (y_extract rfl rfl) rfl rfl rfl rfl ?_
  refine s_y (y_assign rfl) rfl rfl rfl rfl ?_
  refine s_y (y_assign rfl) rfl rfl rfl rfl ?_
  refine s_nil ?_
  refine g_then ?_
  refine g_seq ?_
  refine g_region ?_
  refine s_y (y_move rfl) rfl rfl rfl rfl ?_
  refine s_y (y_eql_t rfl rfl (by decide)) rfl rfl rfl rfl ?_
  refine s_y (y_move rfl) rfl rfl rfl rfl ?_
  refine s_tr (t_call rfl rfl ent_10 (fun w h => spreads_t w)) rfl rfl rfl rfl (fun _ _ => ?_)
  refine s_y (y_pick_t rfl rfl) rfl rfl rfl rfl ?_
  refine s_y (y_assign rfl) rfl rfl rfl rfl ?_
  refine s_nil ?_
  refine g_then ?_
  refine g_ret ?_
  refine g_thenr ?_
  exact g_end trivial (fun a w ha hq_ => res1 ha rfl rfl  w) (fun w h => ⟨rfl, h.below⟩)

theorem TopDeep_law (w : World) (n k g c : Int) (_ : (Lit.int .i64 n).wf = true) (_ : (Lit.int .i64 k).wf = true) (_ : (Lit.int .i64 g).wf = true) (_ : (Lit.int .i64 c).wf = true) : Calls Try.prog 4 [.int .i64 n, .int .i64 k, .int .i64 g, .int .i64 c].toArray w fun e w' => e = .returned (.bool (true)) ∧ Below w.heap.size w w' := by
  by_cases h : 2 ≤ n ∧ n ≤ 16 ∧ 1 ≤ k ∧ k ≤ n
  · obtain ⟨h1, h2, h3, h4⟩ := h
    obtain ⟨m, rfl⟩ := Int.eq_ofNat_of_zero_le (show 0 ≤ n by omega)
    obtain ⟨x, rfl⟩ := Int.eq_ofNat_of_zero_le (show 0 ≤ k by omega)
    exact TopDeep_ok w m x g c (by omega) (by omega) (by omega) (by omega)
  · exact TopDeep_no w n k g c h

end Go.Proofs.Ytnhflahgbkmloaa
