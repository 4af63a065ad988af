/- wheels: what power, inverse, order, isPrime and wheel hand back. -/
import Derived.Test.YtnhflahgbkmloaaProg
import Derived.Test.YtnhflahgbkmloaaWhMath
namespace Go.Proofs.Ytnhflahgbkmloaa
open Go.RowKit Go.Sx Go.Wh
set_option linter.unusedVariables false
set_option linter.unusedSimpArgs false
set_option maxRecDepth 100000
set_option maxHeartbeats 4000000

private theorem fld_74_1 (b off : Nat) (w : World) : (Instr.fieldAt 74 (.pointer (some ⟨b, off, none⟩)) 1).run Try.prog w = .ok (.pointer (some ⟨b, off + 1, none⟩)) w := by kernel_rfl
private theorem agg_3 : isAggB Try.prog 3 = some false := by kernel_rfl
private theorem fld_74_0 (b off : Nat) (w : World) : (Instr.fieldAt 74 (.pointer (some ⟨b, off, none⟩)) 0).run Try.prog w = .ok (.pointer (some ⟨b, off, none⟩)) w := by kernel_rfl
private theorem inf_3 : ∃ ie, Try.prog.info? 3 = some ie ∧ ie.zero = some (.int .i64 0) ∧ ie.size = 1 ∧ ie.bytes = 8 := info_of (by kernel_rfl) (by kernel_rfl)
private theorem sle_27 : Try.prog.underlying 27 = some (.slice (Try.prog.elem 27)) := by kernel_rfl
private theorem size_3 : (Try.prog.info? 3).map (·.size) = some 1 := by kernel_rfl

theorem power_any (w : World) (n q wr x : Int) (k : Nat) (hq : 2 ≤ q) (hq2 : q ≤ 1000) (hx : 0 ≤ x) (hx2 : x ≤ 1000) (hk : k ≤ 100000) :
    Calls Try.prog 98 [.agg #[.int .i64 n, .int .i64 q, .int .i64 wr], .int .i64 x, .int .i64 (k : Int)].toArray w fun e w' => e = .returned (.int .i64 (pw q x k)) ∧ Below w.heap.size w w' := by
  refine enter (N := 19) Try.func98 rfl rfl rfl ?_
  refine g_seq ?_
  refine g_region ?_
  refine s_tr (t_box rfl rfl) rfl rfl rfl rfl (fun b1 hb1 => ?_)
  refine s_y (y_assign rfl) rfl rfl rfl rfl ?_
  refine s_nil ?_
  refine g_then ?_
  refine g_seq ?_
  refine g_region ?_
  refine s_y (y_assign rfl) rfl rfl rfl rfl ?_
  refine s_nil ?_
  refine g_then ?_
  refine g_seq ?_
  refine g_seq ?_
  refine g_region ?_
  refine s_y (y_move rfl) rfl rfl rfl rfl ?_
  refine s_y (y_move rfl) rfl rfl rfl rfl ?_
  refine s_nil ?_
  refine g_then ?_
  refine g_block ?_
  refine g_loop (fun (i : Nat) act W => i ≤ k ∧ ∃ (w1 : World), Has 19 [] [(1, .int .i64 x), (3, .pointer (some ⟨b1, 0, none⟩)), (6, .int .i64 0), (7, .int .i64 (pw q x i)), (8, .int .i64 (k : Int)), (9, .int .i64 (i : Int))] act ∧ Hp w w1 ((b1, .cells [.int .i64 n, .int .i64 q, .int .i64 wr].toArray 74 (0, 0)) :: []) W) (fun i => k - i) 0 (fun act W ha hw => ⟨by omega, W, ha.weak (sub_get ⟨rfl, rfl, rfl, rfl, rfl, rfl, trivial⟩), hw.toHq.lookSub (List.Sublist.refl _)⟩) ?_
  intro i act W ⟨hb_i, w1, ha, hw⟩
  refine g_go ha hw ?_
  clear ha hw act W
  have hr := pw_range (x := x) hq i
  have hm := mul_small (a := pw q x i) (b := x) (by omega) (by omega) hx (by omega)
  refine g_seq ?_
  refine g_region ?_
  refine s_y (y_lss rfl rfl) rfl rfl rfl rfl ?_
  refine s_nil ?_
  refine g_then ?_
  refine g_seq ?_
  refine g_cond rfl (fun cq2 => ?_) (fun cq2 => ?_)
  · (try simp at cq2)
    refine g_skip ?_
    refine g_then ?_
    refine g_seq ?_
    refine g_block ?_
    refine g_region ?_
    refine s_y (y_move rfl) rfl rfl rfl rfl ?_
    refine s_y (y_move rfl) rfl rfl rfl rfl ?_
    refine s_y (y_mul rfl rfl (by omega) (by omega)) rfl rfl rfl rfl ?_
    refine s_y (y_fld rfl (fun w => fld_74_1 _ _ w)) rfl rfl rfl rfl ?_
    refine s_y (y_ld1 0 rfl rfl agg_3 rfl) rfl rfl rfl rfl ?_
    refine s_y (y_rem rfl rfl (by omega) (by omega)) rfl rfl rfl rfl ?_
    refine s_y (y_assign rfl) rfl rfl rfl rfl ?_
    refine s_nil ?_
    refine g_inb ?_
    refine g_then ?_
    refine g_region ?_
    refine s_y (y_add rfl rfl (by omega) (by omega)) rfl rfl rfl rfl ?_
    refine s_y (y_move rfl) rfl rfl rfl rfl ?_
    refine s_nil ?_
    refine g_then ?_
    exact fun act W ha hw => ⟨i + 1, by omega, by omega, W, ha.weak (sub_get ⟨rfl, rfl, rfl, rfl, rfl, rfl, trivial⟩), hw.toHq.lookSub (List.Sublist.refl _)⟩
  · (try simp at cq2)
    refine g_exit ?_
    refine g_thenx ?_
    refine g_thenx ?_
    refine g_inbx ?_
    refine g_then ?_
    refine g_seq ?_
    refine g_region ?_
    refine s_y (y_move rfl) rfl rfl rfl rfl ?_
    refine s_y (y_assign rfl) rfl rfl rfl rfl ?_
    refine s_nil ?_
    refine g_then ?_
    refine g_ret ?_
    obtain rfl : i = k := by omega
    exact g_end trivial (fun a w ha _ => res1 ha rfl rfl  w) (fun w h => ⟨rfl, h.below⟩)

theorem order_any (w : World) (n q wr x : Int) (hq : 2 ≤ q) (hq2 : q ≤ 1000) (hx : 0 ≤ x) (hx2 : x < q) (hex : ∃ K, K < 100 ∧ yv q x K = 1) :
    Calls Try.prog 75 [.agg #[.int .i64 n, .int .i64 q, .int .i64 wr], .int .i64 x].toArray w fun e w' => e = .returned (.int .i64 (ordOf q x : Nat)) ∧ Below w.heap.size w w' := by
  obtain ⟨K, hK, hy⟩ := hex
  refine enter (N := 19) Try.func75 rfl rfl rfl ?_
  refine g_seq ?_
  refine g_region ?_
  refine s_tr (t_box rfl rfl) rfl rfl rfl rfl (fun b1 hb1 => ?_)
  refine s_y (y_assign rfl) rfl rfl rfl rfl ?_
  refine s_nil ?_
  refine g_then ?_
  refine g_seq ?_
  refine g_region ?_
  refine s_y (y_assign rfl) rfl rfl rfl rfl ?_
  refine s_nil ?_
  refine g_then ?_
  refine g_seq ?_
  refine g_seq ?_
  refine g_region ?_
  refine s_y (y_move rfl) rfl rfl rfl rfl ?_
  refine s_y (y_assign rfl) rfl rfl rfl rfl ?_
  refine s_nil ?_
  refine g_then ?_
  refine g_block ?_
  refine g_loop (fun (i : Nat) act W => (i ≤ K ∧ ∀ j, j < i → yv q x j ≠ 1) ∧ ∃ (w1 : World), Has 19 [] [(1, .int .i64 x), (2, .pointer (some ⟨b1, 0, none⟩)), (4, .int .i64 0), (5, .int .i64 ((i : Int) + 1)), (6, .int .i64 (yv q x i))] act ∧ Hp w w1 ((b1, .cells [.int .i64 n, .int .i64 q, .int .i64 wr].toArray 74 (0, 0)) :: []) W) (fun i => K - i) 0 (fun act W ha hw => ⟨⟨by omega, fun j hj => by omega⟩, W, ha.weak (sub_get ⟨rfl, rfl, rfl, rfl, rfl, trivial⟩), hw.toHq.lookSub (List.Sublist.refl _)⟩) ?_
  intro i act W ⟨hb_i, w1, ha, hw⟩
  refine g_go ha hw ?_
  clear ha hw act W
  have hr := yv_range hq hx hx2 i
  have hm := mul_small (a := yv q x i) (b := x) (by omega) (by omega) hx (by omega)
  refine g_seq ?_
  refine g_seq ?_
  refine g_region ?_
  refine s_y (y_move rfl) rfl rfl rfl rfl ?_
  refine s_y (y_neq rfl rfl) rfl rfl rfl rfl ?_
  refine s_nil ?_
  refine g_then ?_
  refine g_cond rfl (fun cq2 => ?_) (fun cq2 => ?_)
  · (try simp at cq2)
    refine g_skip ?_
    refine g_then ?_
    refine g_seq ?_
    refine g_block ?_
    refine g_region ?_
    refine s_y (y_move rfl) rfl rfl rfl rfl ?_
    refine s_y (y_add rfl rfl (by omega) (by omega)) rfl rfl rfl rfl ?_
    refine s_y (y_assign rfl) rfl rfl rfl rfl ?_
    refine s_nil ?_
    refine g_inb ?_
    refine g_then ?_
    refine g_region ?_
    refine s_y (y_move rfl) rfl rfl rfl rfl ?_
    refine s_y (y_move rfl) rfl rfl rfl rfl ?_
    refine s_y (y_mul rfl rfl (by omega) (by omega)) rfl rfl rfl rfl ?_
    refine s_y (y_fld rfl (fun w => fld_74_1 _ _ w)) rfl rfl rfl rfl ?_
    refine s_y (y_ld1 0 rfl rfl agg_3 rfl) rfl rfl rfl rfl ?_
    refine s_y (y_rem rfl rfl (by omega) (by omega)) rfl rfl rfl rfl ?_
    refine s_y (y_assign rfl) rfl rfl rfl rfl ?_
    refine s_nil ?_
    refine g_then ?_
    have hiK : i ≠ K := fun e => by subst e; exact absurd hy (by assumption)
    have hall : ∀ j, j < i + 1 → yv q x j ≠ 1 := by
      intro j hj
      rcases Nat.lt_or_ge j i with h | h
      · exact hb_i.2 j h
      · have : j = i := by omega
        subst this; assumption
    exact fun act W ha hw => ⟨i + 1, by omega, ⟨by omega, hall⟩, W, ha.weak (sub_get ⟨rfl, rfl, rfl, rfl, rfl, trivial⟩), hw.toHq.lookSub (List.Sublist.refl _)⟩
  · (try simp at cq2)
    refine g_exit ?_
    refine g_thenx ?_
    refine g_thenx ?_
    refine g_inbx ?_
    refine g_then ?_
    refine g_seq ?_
    refine g_region ?_
    refine s_y (y_move rfl) rfl rfl rfl rfl ?_
    refine s_y (y_assign rfl) rfl rfl rfl rfl ?_
    refine s_nil ?_
    refine g_then ?_
    refine g_ret ?_
    rw [ordOf_eq (i := i) (by omega) (by assumption) hb_i.2]
    exact g_end trivial (fun a w ha _ => res1 ha rfl rfl  w) (fun w h => ⟨rfl, h.below⟩)

theorem isPrime_any (w : World) (q : Int) (hq2 : q < 1600) :
    Calls Try.prog 74 [.int .i64 q].toArray w fun e w' => e = .returned (.bool (isP q)) ∧ Below w.heap.size w w' := by
  refine enter (N := 17) Try.func74 rfl rfl rfl ?_
  refine g_seq ?_
  refine g_region ?_
  refine s_y (y_assign rfl) rfl rfl rfl rfl ?_
  refine s_nil ?_
  refine g_then ?_
  refine g_seq ?_
  refine g_seq ?_
  refine g_region ?_
  refine s_y (y_assign rfl) rfl rfl rfl rfl ?_
  refine s_nil ?_
  refine g_then ?_
  refine g_block ?_
  refine g_loop (fun (i : Nat) act W => (i ≤ 40 ∧ ∀ d : Nat, 2 ≤ d → d < i + 2 → (d : Int) * d ≤ q → q % (d : Int) ≠ 0) ∧ ∃ (w1 : World), Has 17 [] [(0, .int .i64 q), (3, .int .i64 ((i : Int) + 2))] act ∧ Hp w w1 ([]) W) (fun i => 40 - i) 0 (fun act W ha hw => ⟨⟨by omega, fun d h1 h2 => by omega⟩, W, ha.weak (sub_get ⟨rfl, rfl, trivial⟩), hw.toHq.lookSub (List.Sublist.refl _)⟩) ?_
  intro i act W ⟨hb_i, w1, ha, hw⟩
  refine g_go ha hw ?_
  clear ha hw act W
  have hm := mul_small (a := ((i : Int) + 2)) (b := ((i : Int) + 2)) (by omega) (by omega) (by omega) (by omega)
  refine g_seq ?_
  refine g_seq ?_
  refine g_region ?_
  refine s_y (y_move rfl) rfl rfl rfl rfl ?_
  refine s_y (y_move rfl) rfl rfl rfl rfl ?_
  refine s_y (y_mul rfl rfl (by omega) (by omega)) rfl rfl rfl rfl ?_
  refine s_y (y_move rfl) rfl rfl rfl rfl ?_
  refine s_y (y_leq rfl rfl) rfl rfl rfl rfl ?_
  refine s_nil ?_
  refine g_then ?_
  refine g_cond rfl (fun cq1 => ?_) (fun cq1 => ?_)
  · (try simp at cq1)
    have hi40 : i < 40 := by
      rcases Nat.lt_or_ge i 40 with h | h
      · exact h
      · have : (42 : Int) * 42 ≤ ((i : Int) + 2) * ((i : Int) + 2) := Int.mul_le_mul (by omega) (by omega) (by decide) (by omega)
        omega
    refine g_skip ?_
    refine g_then ?_
    refine g_seq ?_
    refine g_block ?_
    refine g_seq ?_
    refine g_region ?_
    refine s_y (y_move rfl) rfl rfl rfl rfl ?_
    refine s_y (y_move rfl) rfl rfl rfl rfl ?_
    refine s_y (y_rem rfl rfl (by omega) (by omega)) rfl rfl rfl rfl ?_
    refine s_y (y_eql rfl rfl) rfl rfl rfl rfl ?_
    refine s_nil ?_
    refine g_then ?_
    refine g_cond rfl (fun cq2 => ?_) (fun cq2 => ?_)
    · (try simp at cq2)
      refine g_seq ?_
      refine g_region ?_
      refine s_y (y_assign rfl) rfl rfl rfl rfl ?_
      refine s_nil ?_
      refine g_then ?_
      refine g_ret ?_
      refine g_inbr ?_
      refine g_thenr ?_
      refine g_thenr ?_
      refine g_inbr ?_
      refine g_thenr ?_
      rw [isP_false (d := i + 2) hq2 (by omega) (by rw [show (((i + 2 : Nat)) : Int) = (i : Int) + 2 by omega]; assumption) (by rw [show (((i + 2 : Nat)) : Int) = (i : Int) + 2 by omega]; assumption)]
      exact g_end trivial (fun a w ha _ => res1 ha rfl rfl  w) (fun w h => ⟨rfl, h.below⟩)
    · (try simp at cq2)
      refine g_skip ?_
      refine g_inb ?_
      refine g_then ?_
      refine g_region ?_
      refine s_y (y_move rfl) rfl rfl rfl rfl ?_
      refine s_y (y_add rfl rfl (by omega) (by omega)) rfl rfl rfl rfl ?_
      refine s_y (y_assign rfl) rfl rfl rfl rfl ?_
      refine s_nil ?_
      refine g_then ?_
      have hall : ∀ d : Nat, 2 ≤ d → d < i + 1 + 2 → (d : Int) * d ≤ q → q % (d : Int) ≠ 0 := by
        intro d h1 h2 h3
        rcases Nat.lt_or_ge d (i + 2) with h | h
        · exact hb_i.2 d h1 h h3
        · have : d = i + 2 := by omega
          subst this; rw [show (((i + 2 : Nat)) : Int) = (i : Int) + 2 by omega]; assumption
      exact fun act W ha hw => ⟨i + 1, by omega, ⟨by omega, hall⟩, W, ha.weak (sub_get ⟨rfl, rfl, trivial⟩), hw.toHq.lookSub (List.Sublist.refl _)⟩
  · (try simp at cq1)
    refine g_exit ?_
    refine g_thenx ?_
    refine g_thenx ?_
    refine g_inbx ?_
    refine g_then ?_
    refine g_seq ?_
    refine g_region ?_
    refine s_y (y_move rfl) rfl rfl rfl rfl ?_
    refine s_y (y_gtr rfl rfl) rfl rfl rfl rfl ?_
    refine s_y (y_assign rfl) rfl rfl rfl rfl ?_
    refine s_nil ?_
    refine g_then ?_
    refine g_ret ?_
    rw [show isP q = decide (q > 1) from by
          by_cases c : 1 < q
          · rw [isP_true c hq2 (fun d h1 h2 => hb_i.2 d h1 (by
              rcases Nat.lt_or_ge d (i + 2) with h | h
              · exact h
              · have : ((i : Int) + 2) * ((i : Int) + 2) ≤ (d : Int) * d := Int.mul_le_mul (by omega) (by omega) (by omega) (by omega)
                omega) h2)]; simp [c]
          · rw [isP_one c]; simp; omega]
    exact g_end trivial (fun a w ha _ => res1 ha rfl rfl  w) (fun w h => ⟨rfl, h.below⟩)

theorem wheel_any (w : World) (n : Nat) (q wr : Int) (g : Nat) (cap : List Value) (F : Nat → Int) (hn : n ≤ 100) (hq : 1 ≤ q) (hq2 : q ≤ 1000) (hF : ∀ k, k < n → 0 ≤ F k ∧ F k ≤ 1000000000000000) (he : Enters Try.prog g)
    (hat : ∀ (k : Nat) (W : World), k < n → Below w.heap.size w W → Calls Try.prog g (.int .i64 (k : Int) :: cap).toArray W fun e W' => e = .returned (.int .i64 (F k)) ∧ Below W.heap.size W W') :
    Calls Try.prog 55 [.agg #[.int .i64 (n : Int), .int .i64 q, .int .i64 wr], .func (.func g) #[] cap.toArray].toArray w fun e w' => ∃ b : Nat, e = .returned (.slice (some ⟨b, 0, none⟩) n n) ∧ Hq w w [(b, .cells (((List.range n).map fun k => F k % q).map (Value.int .i64) ++ []).toArray 3 (0, 0))] w' := by
  obtain ⟨ie3, hi3⟩ := inf_3
  refine enter (N := 32) Try.func55 rfl rfl rfl ?_
  refine g_seq ?_
  refine g_region ?_
  refine s_tr (t_box rfl rfl) rfl rfl rfl rfl (fun b1 hb1 => ?_)
  refine s_y (y_assign rfl) rfl rfl rfl rfl ?_
  refine s_nil ?_
  refine g_then ?_
  refine g_seq ?_
  refine g_region ?_
  refine s_y (y_fld rfl (fun w => fld_74_0 _ _ w)) rfl rfl rfl rfl ?_
  refine s_y (y_ld1 0 rfl rfl agg_3 rfl) rfl rfl rfl rfl ?_
  refine s_tr (t_makeL (enc := (Value.int .i64)) (z := (0 : Int)) (n := n) rfl Try.underlying27 hi3.1 hi3.2.1 hi3.2.2.1 rfl (by rw [hi3.2.2.2]; omega) (by omega)) rfl rfl rfl rfl (fun bo hbo => ?_)
  refine s_y (y_assign rfl) rfl rfl rfl rfl ?_
  refine s_nil ?_
  refine g_then ?_
  refine g_seq ?_
  refine g_seq ?_
  refine g_region ?_
  refine s_y (y_move rfl) rfl rfl rfl rfl ?_
  refine s_y (y_lensl rfl sle_27) rfl rfl rfl rfl ?_
  refine s_y (y_move rfl) rfl rfl rfl rfl ?_
  refine s_nil ?_
  refine g_then ?_
  refine g_block ?_
  refine g_loop (fun (i : Nat) act W => i ≤ n ∧ ∃ (xs : List Int) (w1 : World), (xs.length = n) ∧ (∀ j, j < i → xs[j]? = some (F j % q)) ∧ Has 32 [] [(1, .func (.func g) #[] cap.toArray), (2, .pointer (some ⟨b1, 0, none⟩)), (4, .slice none 0 0), (5, .slice (some ⟨bo, 0, none⟩) n n), (11, .int .i64 (n : Nat)), (12, .int .i64 (i : Int))] act ∧ Hp w w1 ((bo, .cells (xs.map (Value.int .i64) ++ []).toArray 3 (0, 0)) :: (b1, .cells [.int .i64 (n : Int), .int .i64 q, .int .i64 wr].toArray 74 (0, 0)) :: []) W) (fun i => n - i) 0 (fun act W ha hw => ⟨by omega, List.replicate n 0, W, (by simp), (by intro j hj; omega), ha.weak (sub_get ⟨rfl, rfl, rfl, rfl, rfl, rfl, trivial⟩), hw.toHq.lookSub (List.Sublist.refl _)⟩) ?_
  intro i act W ⟨hb_i, xs, w1, hxl, hxs, ha, hw⟩
  refine g_go ha hw ?_
  clear ha hw act W
  refine g_seq ?_
  refine g_region ?_
  refine s_y (y_lss rfl rfl) rfl rfl rfl rfl ?_
  refine s_nil ?_
  refine g_then ?_
  refine g_seq ?_
  refine g_cond rfl (fun cq2 => ?_) (fun cq2 => ?_)
  · (try simp at cq2)
    refine g_skip ?_
    refine g_then ?_
    refine g_seq ?_
    refine g_block ?_
    refine g_seq ?_
    refine g_region ?_
    refine s_y (y_move rfl) rfl rfl rfl rfl ?_
    refine s_y (y_assign rfl) rfl rfl rfl rfl ?_
    refine s_nil ?_
    refine g_then ?_
    refine g_draw 15 (by kernel_rfl) ?_
    refine j_p (i := 0) rfl (y_move rfl) (by kernel_rfl) (by kernel_rfl) (by kernel_rfl) rfl rfl rfl rfl rfl (.inr (fun _ h => h)) ?_
    refine j_p (i := 1) rfl (y_move rfl) (by kernel_rfl) (by kernel_rfl) (by kernel_rfl) rfl rfl rfl rfl rfl (.inr (fun _ h => h)) ?_
    refine j_p (i := 2) rfl (y_move rfl) (by kernel_rfl) (by kernel_rfl) (by kernel_rfl) rfl rfl rfl rfl rfl (.inr (fun _ h => h)) ?_
    refine j_p (i := 3) rfl (y_move rfl) (by kernel_rfl) (by kernel_rfl) (by kernel_rfl) rfl rfl rfl rfl rfl (.inr (fun _ h => h)) ?_
    refine j_p (i := 5) rfl (y_fld rfl (fun w => fld_74_1 _ _ w)) (by kernel_rfl) (by kernel_rfl) (by kernel_rfl) rfl rfl rfl rfl rfl (.inr (fun _ h => h)) ?_
    refine j_l (i := 6) rfl (y_ld1 1 rfl rfl agg_3 rfl) (by kernel_rfl) (by kernel_rfl) (by kernel_rfl) (by kernel_rfl) rfl rfl rfl rfl rfl (.inr (fun _ h => h)) ?_
    refine j_p (i := 8) rfl (y_fld rfl (fun w => fld_74_1 _ _ w)) (by kernel_rfl) (by kernel_rfl) (by kernel_rfl) rfl rfl rfl rfl rfl (.inr (fun _ h => h)) ?_
    refine j_l (i := 9) rfl (y_ld1 1 rfl rfl agg_3 rfl) (by kernel_rfl) (by kernel_rfl) (by kernel_rfl) (by kernel_rfl) rfl rfl rfl rfl rfl (.inr (fun _ h => h)) ?_
    refine j_p (i := 11) rfl (y_fld rfl (fun w => fld_74_1 _ _ w)) (by kernel_rfl) (by kernel_rfl) (by kernel_rfl) rfl rfl rfl rfl rfl (.inr (fun _ h => h)) ?_
    refine j_l (i := 12) rfl (y_ld1 1 rfl rfl agg_3 rfl) (by kernel_rfl) (by kernel_rfl) (by kernel_rfl) (by kernel_rfl) rfl rfl rfl rfl rfl (.inr (fun _ h => h)) ?_
    refine j_tr (i := 4) rfl (t_callc rfl rfl he (fun w h => by exact hat i w (by omega) h.below)) (by kernel_rfl) rfl rfl rfl rfl (.inr (fun x w hb h => h)) (fun _ _ => ?_)
    have hFi := hF i (by omega)
    have hr0 := Int.emod_nonneg (F i) (show q ≠ 0 by omega)
    have hr1 := Int.emod_lt_of_pos (F i) (show 0 < q by omega)
    refine j_p (i := 7) rfl (y_rem rfl rfl (by omega) (by omega)) (by kernel_rfl) (by kernel_rfl) (by kernel_rfl) rfl rfl rfl rfl rfl (.inr (fun _ h => h)) ?_
    refine j_p (i := 10) rfl (y_add rfl rfl (by omega) (by omega)) (by kernel_rfl) (by kernel_rfl) (by kernel_rfl) rfl rfl rfl rfl rfl (.inr (fun _ h => h)) ?_
    refine j_p (i := 13) rfl (y_rem rfl rfl (by omega) (by omega)) (by kernel_rfl) (by kernel_rfl) (by kernel_rfl) rfl rfl rfl rfl rfl (.inr (fun _ h => h)) ?_
    refine j_p (i := 14) rfl (y_idxb1 rfl rfl Try.underlying27 size_3 (by omega) (by omega)) (by kernel_rfl) (by kernel_rfl) (by kernel_rfl) rfl rfl rfl rfl rfl (.inr (fun _ h => h)) ?_
    refine j_tr0 (i := 15) rfl (t_storeL (enc := (Value.int .i64)) (v := (((F i) % q) + q) % q) (xs := xs) (jk := []) 0 rfl rfl rfl rfl rfl size_3 (by omega)) (by kernel_rfl) rfl rfl rfl (.inl rfl) (fun _ _ => ?_)
    refine j_nil (by kernel_rfl) ?_
    refine g_inb ?_
    refine g_then ?_
    refine g_region ?_
    refine s_y (y_add rfl rfl (by omega) (by omega)) rfl rfl rfl rfl ?_
    refine s_y (y_move rfl) rfl rfl rfl rfl ?_
    refine s_nil ?_
    refine g_then ?_
    have hset : ∀ j, j < i + 1 → (xs.set (i : Int).toNat ((F i % q + q) % q))[j]? = some (F j % q) := by
      intro j hj
      rw [List.getElem?_set]
      by_cases c : i = j
      · subst c; simp only [Int.toNat_natCast, if_true]; rw [if_pos (by omega), Int.add_emod_right, Int.emod_emod_of_dvd _ (Int.dvd_refl q)]
      · rw [if_neg (by simpa using c)]; exact hxs j (by omega)
    exact fun act W ha hw => ⟨i + 1, by omega, by omega, (xs.set (((i : Int) : Int).toNat) ((((F i) % q) + q) % q)), W, (by simp; omega), (by exact hset), ha.weak (sub_get ⟨rfl, rfl, rfl, rfl, rfl, rfl, trivial⟩), hw.toHq.lookSub (List.Sublist.refl _)⟩
  · (try simp at cq2)
    refine g_exit ?_
    refine g_thenx ?_
    refine g_thenx ?_
    refine g_inbx ?_
    refine g_then ?_
    refine g_seq ?_
    refine g_region ?_
    refine s_y (y_move rfl) rfl rfl rfl rfl ?_
    refine s_y (y_assign rfl) rfl rfl rfl rfl ?_
    refine s_nil ?_
    refine g_then ?_
    refine g_ret ?_
    obtain rfl : i = n := by omega
    have hx : xs = (List.range i).map fun k => F k % q := by
      apply List.ext_getElem?
      intro j
      rcases Nat.lt_or_ge j i with h | h
      · rw [hxs j h]; simp [h]
      · rw [List.getElem?_eq_none (by omega), List.getElem?_eq_none (by simp; omega)]
    subst hx
    exact g_end trivial (fun a w ha _ => res1 ha rfl rfl  w) (fun w h => ⟨bo, rfl, h.hand (List.Sublist.cons_cons _ (List.nil_sublist _))⟩)

end Go.Proofs.Ytnhflahgbkmloaa
