/- wheels: the references' small functions. -/
import Derived.Test.YtnhflahgbkmloaaWhD
namespace Go.Proofs.Ytnhflahgbkmloaa
open Go.RowKit Go.Sx Go.Wh
set_option linter.unusedVariables false
set_option linter.unusedSimpArgs false
set_option maxRecDepth 100000
set_option maxHeartbeats 4000000

private theorem sle_27 : Try.prog.underlying 27 = some (.slice (Try.prog.elem 27)) := by kernel_rfl
private theorem size_3 : (Try.prog.info? 3).map (·.size) = some 1 := by kernel_rfl
private theorem agg_3 : isAggB Try.prog 3 = some false := by kernel_rfl

theorem Equal_any (w : World) (v v' : Value) (xs ys : List Int) (hv : RdV (Value.int .i64) w v xs) (hv' : RdV (Value.int .i64) w v' ys) (hl : xs.length ≤ 1000000) :
    Calls Try.prog 52 [v, v'].toArray w fun e w' => e = .returned (.bool (decide (xs = ys))) ∧ Below w.heap.size w w' := by
  refine enter (N := 26) Try.func52 rfl rfl rfl ?_
  refine g_seq ?_
  refine g_region ?_
  refine s_y (y_assign rfl) rfl rfl rfl rfl ?_
  refine s_nil ?_
  refine g_then ?_
  refine g_seq ?_
  refine g_seq ?_
  refine g_region ?_
  refine s_y (y_move rfl) rfl rfl rfl rfl ?_
  refine s_y (y_lenV (n := xs.length) rfl (by obtain ⟨A, c, h1, _⟩ := hv; exact ⟨A, c, h1⟩) sle_27) rfl rfl rfl rfl ?_
  refine s_y (y_move rfl) rfl rfl rfl rfl ?_
  refine s_y (y_lenV (n := ys.length) rfl (by obtain ⟨A, c, h1, _⟩ := hv'; exact ⟨A, c, h1⟩) sle_27) rfl rfl rfl rfl ?_
  refine s_y (y_neq rfl rfl) rfl rfl rfl rfl ?_
  refine s_nil ?_
  refine g_then ?_
  refine g_cond rfl (fun cq1 => ?_) (fun cq1 => ?_)
  · (try simp at cq1)
    refine g_seq ?_
    refine g_region ?_
    refine s_y (y_assign rfl) rfl rfl rfl rfl ?_
    refine s_nil ?_
    refine g_then ?_
    refine g_ret ?_
    refine g_thenr ?_
    rw [show decide (xs = ys) = false from decide_eq_false fun h => by subst h; first | omega | contradiction]
    exact g_end trivial (fun a w ha hq_ => res1 ha rfl rfl  w) (fun w h => ⟨rfl, h.below⟩)
  · (try simp at cq1)
    have hll : xs.length = ys.length := by omega
    refine g_skip ?_
    refine g_then ?_
    refine g_seq ?_
    refine g_seq ?_
    refine g_region ?_
    refine s_y (y_move rfl) rfl rfl rfl rfl ?_
    refine s_y (y_lenV (n := xs.length) rfl (by obtain ⟨A, c, h1, _⟩ := hv; exact ⟨A, c, h1⟩) sle_27) rfl rfl rfl rfl ?_
    refine s_y (y_move rfl) rfl rfl rfl rfl ?_
    refine s_nil ?_
    refine g_then ?_
    refine g_block ?_
    refine g_loop (fun (i : Nat) act W => (i ≤ xs.length ∧ ∀ j : Nat, j < i → rdI xs (j : Int) = rdI ys (j : Int)) ∧ ∃ (w1 : World), Has 26 [] [(0, v), (1, v'), (12, .int .i64 (xs.length : Nat)), (13, .int .i64 (i : Int))] act ∧ Hp w w1 ([]) W) (fun i => xs.length - i) 0 (fun act W ha hw => ⟨⟨by omega, fun j hj => by omega⟩, W, ha.weak (sub_get ⟨rfl, rfl, rfl, rfl, trivial⟩), hw.toHq.lookSub (List.Sublist.refl _)⟩) ?_
    intro i act W ⟨hb_i, w1, ha, hw⟩
    refine g_go ha hw ?_
    clear ha hw act W
    refine g_seq ?_
    refine g_region ?_
    refine s_y (y_lss rfl rfl) rfl rfl rfl rfl ?_
    refine s_nil ?_
    refine g_then ?_
    refine g_seq ?_
    refine g_cond rfl (fun cq2 => ?_) (fun cq2 => ?_)
    · (try simp at cq2)
      refine g_skip ?_
      refine g_then ?_
      refine g_seq ?_
      refine g_block ?_
      refine g_seq ?_
      refine g_region ?_
      refine s_y (y_move rfl) rfl rfl rfl rfl ?_
      refine s_y (y_assign rfl) rfl rfl rfl rfl ?_
      refine s_nil ?_
      refine g_then ?_
      refine g_seq ?_
      refine g_draw 9 (by kernel_rfl) ?_
      refine j_p (i := 0) rfl (y_move rfl) (by kernel_rfl) (by kernel_rfl) (by kernel_rfl) rfl rfl rfl rfl rfl (.inr (fun _ h => h)) ?_
      refine j_p (i := 1) rfl (y_move rfl) (by kernel_rfl) (by kernel_rfl) (by kernel_rfl) rfl rfl rfl rfl rfl (.inr (fun _ h => h)) ?_
      refine j_p (i := 2) rfl (y_idxV (enc := (Value.int .i64)) rfl rfl hv Try.underlying27 size_3 (by omega) (by omega)) (by kernel_rfl) (by kernel_rfl) (by kernel_rfl) rfl rfl rfl rfl rfl (.inr (fun _ h => h)) ?_
      refine j_l (i := 3) rfl (y_ldV (enc := (Value.int .i64)) (xs := xs) (fun w h => hv.rdl.below h.below) rfl agg_3 (rdI_at (by omega) (by omega))) (by kernel_rfl) (by kernel_rfl) (by kernel_rfl) (by kernel_rfl) rfl rfl rfl rfl rfl (.inr (fun _ h => h)) ?_
      refine j_p (i := 4) rfl (y_move rfl) (by kernel_rfl) (by kernel_rfl) (by kernel_rfl) rfl rfl rfl rfl rfl (.inr (fun _ h => h)) ?_
      refine j_p (i := 5) rfl (y_move rfl) (by kernel_rfl) (by kernel_rfl) (by kernel_rfl) rfl rfl rfl rfl rfl (.inr (fun _ h => h)) ?_
      refine j_p (i := 6) rfl (y_idxV (enc := (Value.int .i64)) rfl rfl hv' Try.underlying27 size_3 (by omega) (by omega)) (by kernel_rfl) (by kernel_rfl) (by kernel_rfl) rfl rfl rfl rfl rfl (.inr (fun _ h => h)) ?_
      refine j_l (i := 7) rfl (y_ldV (enc := (Value.int .i64)) (xs := ys) (fun w h => hv'.rdl.below h.below) rfl agg_3 (rdI_at (by omega) (by omega))) (by kernel_rfl) (by kernel_rfl) (by kernel_rfl) (by kernel_rfl) rfl rfl rfl rfl rfl (.inr (fun _ h => h)) ?_
      refine j_p (i := 8) rfl (y_neq rfl rfl) (by kernel_rfl) (by kernel_rfl) (by kernel_rfl) rfl rfl rfl rfl rfl (.inr (fun _ h => h)) ?_
      refine j_nil (by kernel_rfl) ?_
      refine g_then ?_
      refine g_cond rfl (fun cq3 => ?_) (fun cq3 => ?_)
      · (try simp at cq3)
        refine g_seq ?_
        refine g_region ?_
        refine s_y (y_assign rfl) rfl rfl rfl rfl ?_
        refine s_nil ?_
        refine g_then ?_
        refine g_ret ?_
        refine g_inbr ?_
        refine g_thenr ?_
        refine g_thenr ?_
        refine g_inbr ?_
        refine g_thenr ?_
        rw [show decide (xs = ys) = false from decide_eq_false fun h => by subst h; first | omega | contradiction]
        exact g_end trivial (fun a w ha hq_ => res1 ha rfl rfl  w) (fun w h => ⟨rfl, h.below⟩)
      · (try simp at cq3)
        refine g_skip ?_
        refine g_inb ?_
        refine g_then ?_
        refine g_region ?_
        refine s_y (y_add rfl rfl (by omega) (by omega)) rfl rfl rfl rfl ?_
        refine s_y (y_move rfl) rfl rfl rfl rfl ?_
        refine s_nil ?_
        refine g_then ?_
        have hall : ∀ j : Nat, j < i + 1 → rdI xs (j : Int) = rdI ys (j : Int) := by
          intro k hk
          rcases Nat.lt_or_ge k i with h | h
          · exact hb_i.2 k h
          · have : k = i := by omega
            subst this; assumption
        exact fun act W ha hw => ⟨i + 1, by omega, ⟨by omega, hall⟩, W, ha.weak (sub_get ⟨rfl, rfl, rfl, rfl, trivial⟩), hw.toHq.lookSub (List.Sublist.refl _)⟩
    · (try simp at cq2)
      refine g_exit ?_
      refine g_thenx ?_
      refine g_thenx ?_
      refine g_inbx ?_
      refine g_then ?_
      refine g_seq ?_
      refine g_region ?_
      refine s_y (y_assign rfl) rfl rfl rfl rfl ?_
      refine s_nil ?_
      refine g_then ?_
      refine g_ret ?_
      rw [show decide (xs = ys) = true from decide_eq_true (rdI_ext hll fun j hj => hb_i.2 j (by omega))]
      exact g_end trivial (fun a w ha hq_ => res1 ha rfl rfl  w) (fun w h => ⟨rfl, h.below⟩)

theorem Equal_t (w : World) (v v' : Value) (xs ys : List Int) (hv : RdV (Value.int .i64) w v xs) (hv' : RdV (Value.int .i64) w v' ys) (hl : xs.length ≤ 1000000) (h : xs = ys) : Calls Try.prog 52 [v, v'].toArray w fun e w' => e = .returned (.bool true) ∧ Below w.heap.size w w' := by have := Equal_any w v v' xs ys hv hv' hl; rwa [decide_eq_true h] at this
theorem Equal_f (w : World) (v v' : Value) (xs ys : List Int) (hv : RdV (Value.int .i64) w v xs) (hv' : RdV (Value.int .i64) w v' ys) (hl : xs.length ≤ 1000000) (h : xs ≠ ys) : Calls Try.prog 52 [v, v'].toArray w fun e w' => e = .returned (.bool false) ∧ Below w.heap.size w w' := by have := Equal_any w v v' xs ys hv hv' hl; rwa [decide_eq_false h] at this

end Go.Proofs.Ytnhflahgbkmloaa
