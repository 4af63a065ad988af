/- wheels: what Min, Max, IndexFunc, ContainsFunc and read hand back. -/
import Derived.Test.YtnhflahgbkmloaaWhA
namespace Go.Proofs.Ytnhflahgbkmloaa
open Go.RowKit Go.Sx Go.Wh
set_option linter.unusedVariables false
set_option linter.unusedSimpArgs false
set_option maxRecDepth 100000
set_option maxHeartbeats 4000000

private theorem sle_27 : Try.prog.underlying 27 = some (.slice (Try.prog.elem 27)) := by kernel_rfl
private theorem size_3 : (Try.prog.info? 3).map (·.size) = some 1 := by kernel_rfl
private theorem agg_3 : isAggB Try.prog 3 = some false := by kernel_rfl
private theorem sle_75 : Try.prog.underlying 75 = some (.slice (Try.prog.elem 75)) := by kernel_rfl
private theorem size_27 : (Try.prog.info? 27).map (·.size) = some 1 := by kernel_rfl
private theorem agg_27 : isAggB Try.prog 27 = some false := by kernel_rfl
private theorem ent_92 : Enters Try.prog 92 := enters_of Try.func92 (by kernel_rfl) rfl
private theorem ent_66 : Enters Try.prog 66 := enters_of Try.func66 (by kernel_rfl) rfl
private theorem fld_74_1 (b off : Nat) (w : World) : (Instr.fieldAt 74 (.pointer (some ⟨b, off, none⟩)) 1).run Try.prog w = .ok (.pointer (some ⟨b, off + 1, none⟩)) w := by kernel_rfl
private theorem ent_67 : Enters Try.prog 67 := enters_of Try.func67 (by kernel_rfl) rfl
private theorem zero_74 : (Try.prog.info? 74).bind (·.zero) = some (.agg #[(.int .i64 0), (.int .i64 0), (.int .i64 0)]) := by kernel_rfl
private theorem bld_74_  (w : World) : (Instr.build 74 #[]).run Try.prog w = .ok (.agg #[(.int .i64 0), (.int .i64 0), (.int .i64 0)]) w := by kernel_rfl
private theorem size_74 : (Try.prog.info? 74).map (·.size) = some 3 := by kernel_rfl
private theorem agg_74 : isAggB Try.prog 74 = some true := by kernel_rfl
private theorem bld_74_0_1_2 (x0 : Int) (x1 : Int) (x2 : Int) (w : World) : (Instr.build 74 #[(0, (.int .i64 x0)), (1, (.int .i64 x1)), (2, (.int .i64 x2))]).run Try.prog w = .ok (.agg #[(.int .i64 x0), (.int .i64 x1), (.int .i64 x2)]) w := by kernel_rfl
private theorem ent_74 : Enters Try.prog 74 := enters_of Try.func74 (by kernel_rfl) rfl
private theorem fld_74_2 (b off : Nat) (w : World) : (Instr.fieldAt 74 (.pointer (some ⟨b, off, none⟩)) 2).run Try.prog w = .ok (.pointer (some ⟨b, off + 2, none⟩)) w := by kernel_rfl
private theorem ent_75 : Enters Try.prog 75 := enters_of Try.func75 (by kernel_rfl) rfl
private theorem ent_76 : Enters Try.prog 76 := enters_of Try.func76 (by kernel_rfl) rfl
private theorem ent_77 : Enters Try.prog 77 := enters_of Try.func77 (by kernel_rfl) rfl

theorem min_any (w : World) (v : Value) (xs : List Int) (hv : RdV (Value.int .i64) w v xs) (h1 : 1 ≤ xs.length) (h2 : xs.length ≤ 1000) :
    Calls Try.prog 66 [v].toArray w fun e w' => e = .returned (.int .i64 (mnI xs (xs.length - 1))) ∧ Below w.heap.size w w' := by
  refine enter (N := 25) Try.func66 rfl rfl rfl ?_
  refine g_seq ?_
  refine g_region ?_
  refine s_y (y_assign rfl) rfl rfl rfl rfl ?_
  refine s_nil ?_
  refine g_then ?_
  refine g_seq ?_
  refine g_seq ?_
  refine g_region ?_
  refine s_y (y_move rfl) rfl rfl rfl rfl ?_
  refine s_y (y_lenV (n := xs.length) rfl (by obtain ⟨A, c, h1, _⟩ := hv; exact ⟨A, c, h1⟩) sle_27) rfl rfl rfl rfl ?_
  refine s_y (y_lss rfl rfl) rfl rfl rfl rfl ?_
  refine s_nil ?_
  refine g_then ?_
  refine g_cond rfl (fun cq1 => ?_) (fun cq1 => ?_)
  · (try simp at cq1)
    omega
  · (try simp at cq1)
    refine g_skip ?_
    refine g_then ?_
    refine g_seq ?_
    refine g_region ?_
    refine s_y (y_move rfl) rfl rfl rfl rfl ?_
    refine s_y (y_idxV (enc := (Value.int .i64)) rfl rfl hv Try.underlying27 size_3 (by omega) (by omega)) rfl rfl rfl rfl ?_
    refine s_y (y_ldV (enc := (Value.int .i64)) (xs := xs) (fun w h => hv.rdl.below h.below) rfl agg_3 (rdI_at (by omega) (by omega))) rfl rfl rfl rfl ?_
    refine s_y (y_assign rfl) rfl rfl rfl rfl ?_
    refine s_nil ?_
    refine g_then ?_
    refine g_seq ?_
    refine g_seq ?_
    refine g_region ?_
    refine s_y (y_assign rfl) rfl rfl rfl rfl ?_
    refine s_nil ?_
    refine g_then ?_
    refine g_block ?_
    refine g_loop (fun (i : Nat) act W => i + 1 ≤ xs.length ∧ ∃ (w1 : World), Has 25 [] [(0, v), (2, .int .i64 0), (3, .int .i64 (mnI xs i)), (4, .int .i64 ((i : Int) + 1))] act ∧ Hp w w1 ([]) W) (fun i => xs.length - i) 0 (fun act W ha hw => ⟨by omega, W, ha.weak (sub_get ⟨rfl, rfl, rfl, rfl, trivial⟩), hw.toHq.lookSub (List.Sublist.refl _)⟩) ?_
    intro i act W ⟨hb_i, w1, ha, hw⟩
    refine g_go ha hw ?_
    clear ha hw act W
    refine g_seq ?_
    refine g_seq ?_
    refine g_region ?_
    refine s_y (y_move rfl) rfl rfl rfl rfl ?_
    refine s_y (y_move rfl) rfl rfl rfl rfl ?_
    refine s_y (y_lenV (n := xs.length) rfl (by obtain ⟨A, c, h1, _⟩ := hv; exact ⟨A, c, h1⟩) sle_27) rfl rfl rfl rfl ?_
    refine s_y (y_lss rfl rfl) rfl rfl rfl rfl ?_
    refine s_nil ?_
    refine g_then ?_
    refine g_cond rfl (fun cq2 => ?_) (fun cq2 => ?_)
    · (try simp at cq2)
      refine g_skip ?_
      refine g_then ?_
      refine g_seq ?_
      refine g_block ?_
      refine g_region ?_
      refine s_y (y_move rfl) rfl rfl rfl rfl ?_
      refine s_y (y_move rfl) rfl rfl rfl rfl ?_
      refine s_y (y_move rfl) rfl rfl rfl rfl ?_
      refine s_y (y_idxV (enc := (Value.int .i64)) rfl rfl hv Try.underlying27 size_3 (by omega) (by omega)) rfl rfl rfl rfl ?_
      refine s_y (y_ldV (enc := (Value.int .i64)) (xs := xs) (fun w h => hv.rdl.below h.below) rfl agg_3 (rdI_at (by omega) (by omega))) rfl rfl rfl rfl ?_
      refine s_y (y_min rfl rfl) rfl rfl rfl rfl ?_
      refine s_y (y_assign rfl) rfl rfl rfl rfl ?_
      refine s_nil ?_
      refine g_inb ?_
      refine g_then ?_
      refine g_region ?_
      refine s_y (y_move rfl) rfl rfl rfl rfl ?_
      refine s_y (y_add rfl rfl (by omega) (by omega)) rfl rfl rfl rfl ?_
      refine s_y (y_assign rfl) rfl rfl rfl rfl ?_
      refine s_nil ?_
      refine g_then ?_
      exact fun act W ha hw => ⟨i + 1, by omega, by omega, W, ha.weak (sub_get ⟨rfl, rfl, rfl, rfl, trivial⟩), hw.toHq.lookSub (List.Sublist.refl _)⟩
    · (try simp at cq2)
      refine g_exit ?_
      refine g_thenx ?_
      refine g_thenx ?_
      refine g_inbx ?_
      refine g_then ?_
      refine g_seq ?_
      refine g_region ?_
      refine s_y (y_move rfl) rfl rfl rfl rfl ?_
      refine s_y (y_assign rfl) rfl rfl rfl rfl ?_
      refine s_nil ?_
      refine g_then ?_
      refine g_ret ?_
      obtain rfl : i = xs.length - 1 := by omega
      exact g_end trivial (fun a w ha hq_ => res1 ha rfl rfl  w) (fun w h => ⟨rfl, h.below⟩)

theorem max_any (w : World) (v : Value) (xs : List Int) (hv : RdV (Value.int .i64) w v xs) (h1 : 1 ≤ xs.length) (h2 : xs.length ≤ 1000) :
    Calls Try.prog 67 [v].toArray w fun e w' => e = .returned (.int .i64 (mxI xs (xs.length - 1))) ∧ Below w.heap.size w w' := by
  refine enter (N := 25) Try.func67 rfl rfl rfl ?_
  refine g_seq ?_
  refine g_region ?_
  refine s_y (y_assign rfl) rfl rfl rfl rfl ?_
  refine s_nil ?_
  refine g_then ?_
  refine g_seq ?_
  refine g_seq ?_
  refine g_region ?_
  refine s_y (y_move rfl) rfl rfl rfl rfl ?_
  refine s_y (y_lenV (n := xs.length) rfl (by obtain ⟨A, c, h1, _⟩ := hv; exact ⟨A, c, h1⟩) sle_27) rfl rfl rfl rfl ?_
  refine s_y (y_lss rfl rfl) rfl rfl rfl rfl ?_
  refine s_nil ?_
  refine g_then ?_
  refine g_cond rfl (fun cq1 => ?_) (fun cq1 => ?_)
  · (try simp at cq1)
    omega
  · (try simp at cq1)
    refine g_skip ?_
    refine g_then ?_
    refine g_seq ?_
    refine g_region ?_
    refine s_y (y_move rfl) rfl rfl rfl rfl ?_
    refine s_y (y_idxV (enc := (Value.int .i64)) rfl rfl hv Try.underlying27 size_3 (by omega) (by omega)) rfl rfl rfl rfl ?_
    refine s_y (y_ldV (enc := (Value.int .i64)) (xs := xs) (fun w h => hv.rdl.below h.below) rfl agg_3 (rdI_at (by omega) (by omega))) rfl rfl rfl rfl ?_
    refine s_y (y_assign rfl) rfl rfl rfl rfl ?_
    refine s_nil ?_
    refine g_then ?_
    refine g_seq ?_
    refine g_seq ?_
    refine g_region ?_
    refine s_y (y_assign rfl) rfl rfl rfl rfl ?_
    refine s_nil ?_
    refine g_then ?_
    refine g_block ?_
    refine g_loop (fun (i : Nat) act W => i + 1 ≤ xs.length ∧ ∃ (w1 : World), Has 25 [] [(0, v), (2, .int .i64 0), (3, .int .i64 (mxI xs i)), (4, .int .i64 ((i : Int) + 1))] act ∧ Hp w w1 ([]) W) (fun i => xs.length - i) 0 (fun act W ha hw => ⟨by omega, W, ha.weak (sub_get ⟨rfl, rfl, rfl, rfl, trivial⟩), hw.toHq.lookSub (List.Sublist.refl _)⟩) ?_
    intro i act W ⟨hb_i, w1, ha, hw⟩
    refine g_go ha hw ?_
    clear ha hw act W
    refine g_seq ?_
    refine g_seq ?_
    refine g_region ?_
    refine s_y (y_move rfl) rfl rfl rfl rfl ?_
    refine s_y (y_move rfl) rfl rfl rfl rfl ?_
    refine s_y (y_lenV (n := xs.length) rfl (by obtain ⟨A, c, h1, _⟩ := hv; exact ⟨A, c, h1⟩) sle_27) rfl rfl rfl rfl ?_
    refine s_y (y_lss rfl rfl) rfl rfl rfl rfl ?_
    refine s_nil ?_
    refine g_then ?_
    refine g_cond rfl (fun cq2 => ?_) (fun cq2 => ?_)
    · (try simp at cq2)
      refine g_skip ?_
      refine g_then ?_
      refine g_seq ?_
      refine g_block ?_
      refine g_region ?_
      refine s_y (y_move rfl) rfl rfl rfl rfl ?_
      refine s_y (y_move rfl) rfl rfl rfl rfl ?_
      refine s_y (y_move rfl) rfl rfl rfl rfl ?_
      refine s_y (y_idxV (enc := (Value.int .i64)) rfl rfl hv Try.underlying27 size_3 (by omega) (by omega)) rfl rfl rfl rfl ?_
      refine s_y (y_ldV (enc := (Value.int .i64)) (xs := xs) (fun w h => hv.rdl.below h.below) rfl agg_3 (rdI_at (by omega) (by omega))) rfl rfl rfl rfl ?_
      refine s_y (y_max rfl rfl) rfl rfl rfl rfl ?_
      refine s_y (y_assign rfl) rfl rfl rfl rfl ?_
      refine s_nil ?_
      refine g_inb ?_
      refine g_then ?_
      refine g_region ?_
      refine s_y (y_move rfl) rfl rfl rfl rfl ?_
      refine s_y (y_add rfl rfl (by omega) (by omega)) rfl rfl rfl rfl ?_
      refine s_y (y_assign rfl) rfl rfl rfl rfl ?_
      refine s_nil ?_
      refine g_then ?_
      exact fun act W ha hw => ⟨i + 1, by omega, by omega, W, ha.weak (sub_get ⟨rfl, rfl, rfl, rfl, trivial⟩), hw.toHq.lookSub (List.Sublist.refl _)⟩
    · (try simp at cq2)
      refine g_exit ?_
      refine g_thenx ?_
      refine g_thenx ?_
      refine g_inbx ?_
      refine g_then ?_
      refine g_seq ?_
      refine g_region ?_
      refine s_y (y_move rfl) rfl rfl rfl rfl ?_
      refine s_y (y_assign rfl) rfl rfl rfl rfl ?_
      refine s_nil ?_
      refine g_then ?_
      refine g_ret ?_
      obtain rfl : i = xs.length - 1 := by omega
      exact g_end trivial (fun a w ha hq_ => res1 ha rfl rfl  w) (fun w h => ⟨rfl, h.below⟩)

theorem indexF_any (w : World) (vv : Value) (vs : List Value) (hvv : RdV encV w vv vs) (hlen : vs.length ≤ 1000) (g : Nat) (cap : List Value) (p : Value → Bool) (he : Enters Try.prog g)
    (hp : ∀ (v : Value) (W : World), v ∈ vs → Below w.heap.size w W → Calls Try.prog g (v :: cap).toArray W fun e W' => e = .returned (.bool (p v)) ∧ Below W.heap.size W W') :
    Calls Try.prog 92 [vv, .func (.func g) #[] cap.toArray].toArray w fun e w' => e = .returned (.int .i64 (ixF p vs)) ∧ Below w.heap.size w w' := by
  refine enter (N := 19) Try.func92 rfl rfl rfl ?_
  refine g_seq ?_
  refine g_region ?_
  refine s_y (y_assign rfl) rfl rfl rfl rfl ?_
  refine s_nil ?_
  refine g_then ?_
  refine g_seq ?_
  refine g_seq ?_
  refine g_region ?_
  refine s_y (y_move rfl) rfl rfl rfl rfl ?_
  refine s_y (y_lenV (n := vs.length) rfl (by obtain ⟨A, c, h1, _⟩ := hvv; exact ⟨A, c, h1⟩) sle_75) rfl rfl rfl rfl ?_
  refine s_y (y_move rfl) rfl rfl rfl rfl ?_
  refine s_nil ?_
  refine g_then ?_
  refine g_block ?_
  refine g_loop (fun (i : Nat) act W => (i ≤ vs.length ∧ ∀ j : Nat, j < i → p (rdVal vs (j : Int)) = false) ∧ ∃ (w1 : World), Has 19 [] [(0, vv), (1, .func (.func g) #[] cap.toArray), (7, .int .i64 (vs.length : Nat)), (8, .int .i64 (i : Int))] act ∧ Hp w w1 ([]) W) (fun i => vs.length - i) 0 (fun act W ha hw => ⟨⟨by omega, fun j hj => by omega⟩, W, ha.weak (sub_get ⟨rfl, rfl, rfl, rfl, trivial⟩), hw.toHq.lookSub (List.Sublist.refl _)⟩) ?_
  intro i act W ⟨hb_i, w1, ha, hw⟩
  refine g_go ha hw ?_
  clear ha hw act W
  refine g_seq ?_
  refine g_region ?_
  refine s_y (y_lss rfl rfl) rfl rfl rfl rfl ?_
  refine s_nil ?_
  refine g_then ?_
  refine g_seq ?_
  refine g_cond rfl (fun cq1 => ?_) (fun cq1 => ?_)
  · (try simp at cq1)
    refine g_skip ?_
    refine g_then ?_
    refine g_seq ?_
    refine g_block ?_
    refine g_seq ?_
    refine g_region ?_
    refine s_y (y_move rfl) rfl rfl rfl rfl ?_
    refine s_y (y_assign rfl) rfl rfl rfl rfl ?_
    refine s_nil ?_
    refine g_then ?_
    refine g_seq ?_
    refine g_region ?_
    refine s_y (y_move rfl) rfl rfl rfl rfl ?_
    refine s_y (y_move rfl) rfl rfl rfl rfl ?_
    refine s_y (y_move rfl) rfl rfl rfl rfl ?_
    refine s_y (y_idxV (enc := encV) rfl rfl hvv Try.underlying75 size_27 (by omega) (by omega)) rfl rfl rfl rfl ?_
    refine s_y (y_ldV (enc := encV) (xs := vs) (fun w h => hvv.rdl.below h.below) rfl agg_27 (rdVal_at (by omega) (by omega))) rfl rfl rfl rfl ?_
    refine s_tr (t_callc rfl rfl he (fun w h => hp (rdVal vs (i : Int)) w (rdVal_mem (by omega) (by omega)) h.below)) rfl rfl rfl rfl (fun _ _ => ?_)
    refine s_nil ?_
    refine g_then ?_
    refine g_cond rfl (fun cq2 => ?_) (fun cq2 => ?_)
    · (try simp at cq2)
      refine g_seq ?_
      refine g_region ?_
      refine s_y (y_move rfl) rfl rfl rfl rfl ?_
      refine s_y (y_assign rfl) rfl rfl rfl rfl ?_
      refine s_nil ?_
      refine g_then ?_
      refine g_ret ?_
      refine g_inbr ?_
      refine g_thenr ?_
      refine g_thenr ?_
      refine g_inbr ?_
      refine g_thenr ?_
      rw [ixF_some (i := i) (by omega) (by assumption) hb_i.2]
      exact g_end trivial (fun a w ha hq_ => res1 ha rfl rfl  w) (fun w h => ⟨rfl, h.below⟩)
    · (try simp at cq2)
      refine g_skip ?_
      refine g_inb ?_
      refine g_then ?_
      refine g_region ?_
      refine s_y (y_add rfl rfl (by omega) (by omega)) rfl rfl rfl rfl ?_
      refine s_y (y_move rfl) rfl rfl rfl rfl ?_
      refine s_nil ?_
      refine g_then ?_
      have hno : ∀ j : Nat, j < i + 1 → p (rdVal vs (j : Int)) = false := by
        intro j hj
        rcases Nat.lt_or_ge j i with h | h
        · exact hb_i.2 j h
        · have : j = i := by omega
          subst this; assumption
      exact fun act W ha hw => ⟨i + 1, by omega, ⟨by omega, hno⟩, W, ha.weak (sub_get ⟨rfl, rfl, rfl, rfl, trivial⟩), hw.toHq.lookSub (List.Sublist.refl _)⟩
  · (try simp at cq1)
    refine g_exit ?_
    refine g_thenx ?_
    refine g_thenx ?_
    refine g_inbx ?_
    refine g_then ?_
    refine g_seq ?_
    refine g_region ?_
    refine s_y (y_assign rfl) rfl rfl rfl rfl ?_
    refine s_nil ?_
    refine g_then ?_
    refine g_ret ?_
    rw [ixF_none (fun j hj => hb_i.2 j (by omega))]
    exact g_end trivial (fun a w ha hq_ => res1 ha rfl rfl  w) (fun w h => ⟨rfl, h.below⟩)

theorem containsF_any (w : World) (vv : Value) (vs : List Value) (hvv : RdV encV w vv vs) (hlen : vs.length ≤ 1000) (g : Nat) (cap : List Value) (p : Value → Bool) (he : Enters Try.prog g)
    (hp : ∀ (v : Value) (W : World), v ∈ vs → Below w.heap.size w W → Calls Try.prog g (v :: cap).toArray W fun e W' => e = .returned (.bool (p v)) ∧ Below W.heap.size W W') :
    Calls Try.prog 76 [vv, .func (.func g) #[] cap.toArray].toArray w fun e w' => e = .returned (.bool (vs.any p)) ∧ Below w.heap.size w w' := by
  refine enter (N := 9) Try.func76 rfl rfl rfl ?_
  refine g_seq ?_
  refine g_region ?_
  refine s_y (y_assign rfl) rfl rfl rfl rfl ?_
  refine s_nil ?_
  refine g_then ?_
  refine g_seq ?_
  refine g_region ?_
  refine s_y (y_move rfl) rfl rfl rfl rfl ?_
  refine s_y (y_move rfl) rfl rfl rfl rfl ?_
  refine s_tr (t_call rfl rfl ent_92 (fun w h => indexF_any w vv vs (hvv.below h.below) hlen g cap p he (fun v W hv hb => hp v W hv (h.below.trans (hb.mono h.below.size))))) rfl rfl rfl rfl (fun _ _ => ?_)
  refine s_y (y_geq rfl rfl) rfl rfl rfl rfl ?_
  refine s_y (y_assign rfl) rfl rfl rfl rfl ?_
  refine s_nil ?_
  refine g_then ?_
  refine g_ret ?_
  rw [← ixF_any]
  exact g_end trivial (fun a w ha hq_ => res1 ha rfl rfl  w) (fun w h => ⟨rfl, h.below⟩)

theorem read1_any (w : World) (n : Nat) (q wr : Int) (bn bf : Nat) (v : Value) (xs : List Int) (hn : 2 ≤ n) (hn2 : n ≤ 16) (hv : RdV (Value.int .i64) w v xs) (hbn : w.heap[bn]? = some (.cells [.int .i64 (n : Int)].toArray 3 (0, 0))) (hbf : w.heap[bf]? = some (.cells [.int .i64 (n : Int), .int .i64 q, .int .i64 wr].toArray 74 (0, 0))) :
    Calls Try.prog 77 [v, .pointer (some ⟨bn, 0, none⟩), .pointer (some ⟨bf, 0, none⟩)].toArray w fun e w' => e = .returned (.bool (!okW n q xs)) ∧ Below w.heap.size w w' := by
  refine enter (N := 21) Try.func77 rfl rfl rfl ?_
  refine g_seq ?_
  refine g_region ?_
  refine s_y (y_assign rfl) rfl rfl rfl rfl ?_
  refine s_nil ?_
  refine g_then ?_
  refine g_seq ?_
  refine g_draw 17 (by kernel_rfl) ?_
  refine j_p (i := 0) rfl (y_move rfl) (by kernel_rfl) (by kernel_rfl) (by kernel_rfl) rfl rfl rfl rfl rfl (.inr (fun _ h => h)) ?_
  refine j_p (i := 1) rfl (y_lenV (n := xs.length) rfl (by obtain ⟨A, c, h1, _⟩ := hv; exact ⟨A, c, h1⟩) sle_27) (by kernel_rfl) (by kernel_rfl) (by kernel_rfl) rfl rfl rfl rfl rfl (.inr (fun _ h => h)) ?_
  refine j_l (i := 2) rfl (y_ldO1 hbn rfl agg_3 rfl) (by kernel_rfl) (by kernel_rfl) (by kernel_rfl) (by kernel_rfl) rfl rfl rfl rfl rfl (.inr (fun _ h => h)) ?_
  refine j_p (i := 3) rfl (y_neq rfl rfl) (by kernel_rfl) (by kernel_rfl) (by kernel_rfl) rfl rfl rfl rfl rfl (.inr (fun _ h => h)) ?_
  refine j_p (i := 4) rfl (y_move rfl) (by kernel_rfl) (by kernel_rfl) (by kernel_rfl) rfl rfl rfl rfl rfl (.inr (fun _ h => h)) ?_
  refine g_bool 9 rfl (fun cq1 => ?_) (fun cq1 => ?_)
  · (try simp at cq1)
    rw [okW_len (n := n) (q := q) (xs := xs) (by omega)]
    refine j_no (i := 5) rfl (by kernel_rfl) (by kernel_rfl) (by kernel_rfl) rfl rfl rfl rfl rfl (.inr (fun _ h => h)) ?_
    refine j_no (i := 6) rfl (by kernel_rfl) (by kernel_rfl) (by kernel_rfl) rfl rfl rfl rfl rfl (.inr (fun _ h => h)) ?_
    refine j_no (i := 7) rfl (by kernel_rfl) (by kernel_rfl) (by kernel_rfl) rfl rfl rfl rfl rfl (.inr (fun _ h => h)) ?_
    refine j_p (i := 8) rfl (y_pick_t rfl rfl) (by kernel_rfl) (by kernel_rfl) (by kernel_rfl) rfl rfl rfl rfl rfl (.inr (fun _ h => h)) ?_
    refine j_p (i := 9) rfl (y_move rfl) (by kernel_rfl) (by kernel_rfl) (by kernel_rfl) rfl rfl rfl rfl rfl (.inr (fun _ h => h)) ?_
    refine j_no (i := 10) rfl (by kernel_rfl) (by kernel_rfl) (by kernel_rfl) rfl rfl rfl rfl rfl (.inr (fun _ h => h)) ?_
    refine j_no (i := 11) rfl (by kernel_rfl) (by kernel_rfl) (by kernel_rfl) rfl rfl rfl rfl rfl (.inr (fun _ h => h)) ?_
    refine j_no (i := 12) rfl (by kernel_rfl) (by kernel_rfl) (by kernel_rfl) rfl rfl rfl rfl rfl (.inr (fun _ h => h)) ?_
    refine j_no (i := 13) rfl (by kernel_rfl) (by kernel_rfl) (by kernel_rfl) rfl rfl rfl rfl rfl (.inr (fun _ h => h)) ?_
    refine j_no (i := 14) rfl (by kernel_rfl) (by kernel_rfl) (by kernel_rfl) rfl rfl rfl rfl rfl (.inr (fun _ h => h)) ?_
    refine j_p (i := 15) rfl (y_pick_t rfl rfl) (by kernel_rfl) (by kernel_rfl) (by kernel_rfl) rfl rfl rfl rfl rfl (.inr (fun _ h => h)) ?_
    refine j_p (i := 16) rfl (y_assign rfl) (by kernel_rfl) (by kernel_rfl) (by kernel_rfl) rfl rfl rfl rfl rfl (.inr (fun _ h => h)) ?_
    refine j_nil (by kernel_rfl) ?_
    refine g_then ?_
    refine g_ret ?_
    exact g_end trivial (fun a w ha hq_ => res1 ha rfl rfl  w) (fun w h => ⟨rfl, h.below⟩)
  · (try simp at cq1)
    have hl : xs.length = n := by omega
    rw [okW_eq (q := q) hl (by omega)]
    refine j_p (i := 5) rfl (y_move rfl) (by kernel_rfl) (by kernel_rfl) (by kernel_rfl) rfl rfl rfl rfl rfl (.inr (fun _ h => h)) ?_
    refine j_tr (i := 6) rfl (t_call rfl rfl ent_66 (fun w h => min_any w v xs (hv.below h.below) (by omega) (by omega))) (by kernel_rfl) rfl rfl rfl rfl (.inr (fun x w hb h => h)) (fun _ _ => ?_)
    refine j_p (i := 7) rfl (y_lss rfl rfl) (by kernel_rfl) (by kernel_rfl) (by kernel_rfl) rfl rfl rfl rfl rfl (.inr (fun _ h => h)) ?_
    refine j_p (i := 8) rfl (y_pick_f rfl rfl) (by kernel_rfl) (by kernel_rfl) (by kernel_rfl) rfl rfl rfl rfl rfl (.inr (fun _ h => h)) ?_
    refine j_p (i := 9) rfl (y_move rfl) (by kernel_rfl) (by kernel_rfl) (by kernel_rfl) rfl rfl rfl rfl rfl (.inr (fun _ h => h)) ?_
    refine g_bool 14 rfl (fun cq2 => ?_) (fun cq2 => ?_)
    · (try simp at cq2)
      rw [show decide (0 ≤ mnI xs (n - 1)) = false from by rw [← hl]; simp; omega]
      refine j_no (i := 10) rfl (by kernel_rfl) (by kernel_rfl) (by kernel_rfl) rfl rfl rfl rfl rfl (.inr (fun _ h => h)) ?_
      refine j_no (i := 11) rfl (by kernel_rfl) (by kernel_rfl) (by kernel_rfl) rfl rfl rfl rfl rfl (.inr (fun _ h => h)) ?_
      refine j_no (i := 12) rfl (by kernel_rfl) (by kernel_rfl) (by kernel_rfl) rfl rfl rfl rfl rfl (.inr (fun _ h => h)) ?_
      refine j_no (i := 13) rfl (by kernel_rfl) (by kernel_rfl) (by kernel_rfl) rfl rfl rfl rfl rfl (.inr (fun _ h => h)) ?_
      refine j_no (i := 14) rfl (by kernel_rfl) (by kernel_rfl) (by kernel_rfl) rfl rfl rfl rfl rfl (.inr (fun _ h => h)) ?_
      refine j_p (i := 15) rfl (y_pick_t rfl rfl) (by kernel_rfl) (by kernel_rfl) (by kernel_rfl) rfl rfl rfl rfl rfl (.inr (fun _ h => h)) ?_
      refine j_p (i := 16) rfl (y_assign rfl) (by kernel_rfl) (by kernel_rfl) (by kernel_rfl) rfl rfl rfl rfl rfl (.inr (fun _ h => h)) ?_
      refine j_nil (by kernel_rfl) ?_
      refine g_then ?_
      refine g_ret ?_
      exact g_end trivial (fun a w ha hq_ => res1 ha rfl rfl  w) (fun w h => ⟨rfl, h.below⟩)
    · (try simp at cq2)
      rw [show decide (0 ≤ mnI xs (n - 1)) = true from by rw [← hl]; simp; omega]
      refine j_p (i := 10) rfl (y_move rfl) (by kernel_rfl) (by kernel_rfl) (by kernel_rfl) rfl rfl rfl rfl rfl (.inr (fun _ h => h)) ?_
      refine j_p (i := 12) rfl (y_fld rfl (fun w => fld_74_1 _ _ w)) (by kernel_rfl) (by kernel_rfl) (by kernel_rfl) rfl rfl rfl rfl rfl (.inr (fun _ h => h)) ?_
      refine j_l (i := 13) rfl (y_ldO1 hbf rfl agg_3 rfl) (by kernel_rfl) (by kernel_rfl) (by kernel_rfl) (by kernel_rfl) rfl rfl rfl rfl rfl (.inr (fun _ h => h)) ?_
      refine j_tr (i := 11) rfl (t_call rfl rfl ent_67 (fun w h => max_any w v xs (hv.below h.below) (by omega) (by omega))) (by kernel_rfl) rfl rfl rfl rfl (.inr (fun x w hb h => h)) (fun _ _ => ?_)
      refine j_p (i := 14) rfl (y_geq rfl rfl) (by kernel_rfl) (by kernel_rfl) (by kernel_rfl) rfl rfl rfl rfl rfl (.inr (fun _ h => h)) ?_
      refine j_p (i := 15) rfl (y_pick_f rfl rfl) (by kernel_rfl) (by kernel_rfl) (by kernel_rfl) rfl rfl rfl rfl rfl (.inr (fun _ h => h)) ?_
      refine j_p (i := 16) rfl (y_assign rfl) (by kernel_rfl) (by kernel_rfl) (by kernel_rfl) rfl rfl rfl rfl rfl (.inr (fun _ h => h)) ?_
      refine j_nil (by kernel_rfl) ?_
      refine g_then ?_
      refine g_ret ?_
      rw [show (!(true && decide (mxI xs (n - 1) < q))) = decide (mxI xs (xs.length - 1) ≥ q) from by rw [← hl, Bool.eq_iff_iff]; simp]
      exact g_end trivial (fun a w ha hq_ => res1 ha rfl rfl  w) (fun w h => ⟨rfl, h.below⟩)

theorem read_bad (w : World) (n : Int) (vv : Value) (h : ¬ (2 ≤ n ∧ n ≤ 16)) :
    Calls Try.prog 54 [.int .i64 n, vv].toArray w fun e w' => e = .returned (.tuple #[.agg #[.int .i64 0, .int .i64 0, .int .i64 0], .bool false]) ∧ Below w.heap.size w w' := by
  refine enter (N := 49) Try.func54 rfl rfl rfl ?_
  refine g_seq ?_
  refine g_region ?_
  refine s_tr (t_box rfl rfl) rfl rfl rfl rfl (fun bn hbn => ?_)
  refine s_tr (t_alloc zero_74 rfl) rfl rfl rfl rfl (fun br hbr => ?_)
  refine s_y (y_assign rfl) rfl rfl rfl rfl ?_
  refine s_nil ?_
  refine g_then ?_
  refine g_seq ?_
  refine g_seq ?_
  refine g_region ?_
  refine s_y (y_ld1 1 rfl rfl agg_3 rfl) rfl rfl rfl rfl ?_
  refine s_y (y_lss rfl rfl) rfl rfl rfl rfl ?_
  refine s_y (y_move rfl) rfl rfl rfl rfl ?_
  refine g_bool 9 rfl (fun cq1 => ?_) (fun cq1 => ?_)
  · (try simp at cq1)
    refine s_no rfl rfl rfl ?_
    refine s_no rfl rfl rfl ?_
    refine s_y (y_pick_t rfl rfl) rfl rfl rfl rfl ?_
    refine s_nil ?_
    refine g_then ?_
    refine g_cond_t rfl ?_
    refine g_seq ?_
    refine g_region ?_
    refine s_y (y_build (vs := []) rfl rfl (fun w => bld_74_  w)) rfl rfl rfl rfl ?_
    refine s_tr0 (t_store 0 rfl rfl rfl rfl size_74 rfl rfl) rfl rfl rfl (fun _ _ => ?_)
    refine s_y (y_assign rfl) rfl rfl rfl rfl ?_
    refine s_nil ?_
    refine g_then ?_
    refine g_ret ?_
    refine g_thenr ?_
    exact g_end trivial (fun a w ha hq_ => res_ct (c := [.int .i64 0, .int .i64 0, .int .i64 0]) 0 ha hq_ rfl rfl rfl rfl  agg_74 size_74 rfl) (fun w h => ⟨rfl, h.below⟩)
  · (try simp at cq1)
    refine s_y (y_ld1 1 rfl rfl agg_3 rfl) rfl rfl rfl rfl ?_
    refine s_y (y_gtr rfl rfl) rfl rfl rfl rfl ?_
    refine s_y (y_pick_f rfl rfl) rfl rfl rfl rfl ?_
    refine s_nil ?_
    refine g_then ?_
    refine g_cond rfl (fun cq2 => ?_) (fun cq2 => ?_)
    · (try simp at cq2)
      refine g_seq ?_
      refine g_region ?_
      refine s_y (y_build (vs := []) rfl rfl (fun w => bld_74_  w)) rfl rfl rfl rfl ?_
      refine s_tr0 (t_store 0 rfl rfl rfl rfl size_74 rfl rfl) rfl rfl rfl (fun _ _ => ?_)
      refine s_y (y_assign rfl) rfl rfl rfl rfl ?_
      refine s_nil ?_
      refine g_then ?_
      refine g_ret ?_
      refine g_thenr ?_
      exact g_end trivial (fun a w ha hq_ => res_ct (c := [.int .i64 0, .int .i64 0, .int .i64 0]) 0 ha hq_ rfl rfl rfl rfl  agg_74 size_74 rfl) (fun w h => ⟨rfl, h.below⟩)
    · (try simp at cq2)
      omega

theorem read_ok (w : World) (n : Nat) (vv : Value) (vs : List Value) (pk : Value → Bool) (hn : 2 ≤ n) (hn2 : n ≤ 16) (hvv : RdV encV w vv vs) (hlen : vs.length ≤ 1000) (hpv : ∀ v ∈ vs, ∃ xs, RdV (Value.int .i64) w v xs ∧ pk v = okW n (qOf n) xs) :
    Calls Try.prog 54 [.int .i64 (n : Int), vv].toArray w fun e w' => e = .returned (.tuple #[.agg #[.int .i64 (n : Int), .int .i64 (qOf n), .int .i64 (wOf n)], .bool (vs.all pk)]) ∧ Below w.heap.size w w' := by
  obtain ⟨hf1, hf2, hf3, hf4, hf5, hf6, hf7⟩ := q_facts hn hn2
  refine enter (N := 49) Try.func54 rfl rfl rfl ?_
  refine g_seq ?_
  refine g_region ?_
  refine s_tr (t_box rfl rfl) rfl rfl rfl rfl (fun bn hbn => ?_)
  refine s_tr (t_alloc zero_74 rfl) rfl rfl rfl rfl (fun br hbr => ?_)
  refine s_y (y_assign rfl) rfl rfl rfl rfl ?_
  refine s_nil ?_
  refine g_then ?_
  refine g_seq ?_
  refine g_seq ?_
  refine g_region ?_
  refine s_y (y_ld1 1 rfl rfl agg_3 rfl) rfl rfl rfl rfl ?_
  refine s_y (y_lss rfl rfl) rfl rfl rfl rfl ?_
  refine s_y (y_move rfl) rfl rfl rfl rfl ?_
  refine g_bool 9 rfl (fun cq1 => ?_) (fun cq1 => ?_)
  · (try simp at cq1)
    omega
  · (try simp at cq1)
    refine s_y (y_ld1 1 rfl rfl agg_3 rfl) rfl rfl rfl rfl ?_
    refine s_y (y_gtr rfl rfl) rfl rfl rfl rfl ?_
    refine s_y (y_pick_f rfl rfl) rfl rfl rfl rfl ?_
    refine s_nil ?_
    refine g_then ?_
    refine g_cond rfl (fun cq2 => ?_) (fun cq2 => ?_)
    · (try simp at cq2)
      omega
    · (try simp at cq2)
      refine g_skip ?_
      refine g_then ?_
      refine g_seq ?_
      refine g_region ?_
      refine s_y (y_ld1 1 rfl rfl agg_3 rfl) rfl rfl rfl rfl ?_
      refine s_y (y_ld1 1 rfl rfl agg_3 rfl) rfl rfl rfl rfl ?_
      refine s_y (y_mul rfl rfl (by omega) (by omega)) rfl rfl rfl rfl ?_
      refine s_y (y_add rfl rfl (by omega) (by omega)) rfl rfl rfl rfl ?_
      refine s_y (y_build (vs := [(0, _), (1, _), (2, _)]) rfl rfl (fun w => bld_74_0_1_2 _ _ _ w)) rfl rfl rfl rfl ?_
      refine s_tr (t_alloc zero_74 rfl) rfl rfl rfl rfl (fun bf hbf => ?_)
      refine s_tr0 (t_store 0 rfl rfl rfl rfl size_74 rfl rfl) rfl rfl rfl (fun _ _ => ?_)
      refine s_nil ?_
      refine g_then ?_
      refine g_seq ?_
      refine g_block ?_
      refine g_loop (fun (i : Nat) act W => 2 * (n : Int) + 1 + (i : Int) ≤ qOf n ∧ ∃ (w1 : World), Has 49 [] [(1, vv), (2, .pointer (some ⟨bn, 0, none⟩)), (4, .pointer (some ⟨br, 0, none⟩)), (5, .bool false), (6, .pointer (some ⟨bf, 0, none⟩))] act ∧ Hp w w1 ((bf, .cells [.int .i64 (n : Int), .int .i64 (2 * (n : Int) + 1 + (i : Int)), .int .i64 2].toArray 74 (0, 0)) :: (br, .cells [.int .i64 0, .int .i64 0, .int .i64 0].toArray 74 (0, 0)) :: (bn, .cells [.int .i64 (n : Int)].toArray 3 (0, 0)) :: []) W) (fun i => 100 - i) 0 (fun act W ha hw => ⟨by omega, W, ha.weak (sub_get ⟨rfl, rfl, rfl, rfl, rfl, trivial⟩), hw.toHq.lookSub (List.Sublist.refl _)⟩) ?_
      intro i act W ⟨hb_i, w1, ha, hw⟩
      refine g_go ha hw ?_
      clear ha hw act W
      refine g_seq ?_
      refine g_seq ?_
      refine g_region ?_
      refine s_y (y_fld rfl (fun w => fld_74_1 _ _ w)) rfl rfl rfl rfl ?_
      refine s_y (y_ld1 0 rfl rfl agg_3 rfl) rfl rfl rfl rfl ?_
      refine s_tr (t_call rfl rfl ent_74 (fun w h => isPrime_any w (2 * (n : Int) + 1 + (i : Int)) (by omega))) rfl rfl rfl rfl (fun _ _ => ?_)
      refine s_y (y_not rfl) rfl rfl rfl rfl ?_
      refine s_y (y_move rfl) rfl rfl rfl rfl ?_
      refine g_bool 23 rfl (fun cq3 => ?_) (fun cq3 => ?_)
      · (try simp at cq3)
        have hlt : 2 * (n : Int) + 1 + (i : Int) < qOf n := by
          rcases Int.lt_or_eq_of_le hb_i with h | h
          · exact h
          · rw [h, hf3] at cq3; cases cq3
        refine s_no rfl rfl rfl ?_
        refine s_no rfl rfl rfl ?_
        refine s_no rfl rfl rfl ?_
        refine s_no rfl rfl rfl ?_
        refine s_no rfl rfl rfl ?_
        refine s_y (y_pick_t rfl rfl) rfl rfl rfl rfl ?_
        refine s_nil ?_
        refine g_then ?_
        refine g_cond_t rfl ?_
        refine g_skip ?_
        refine g_then ?_
        refine g_block ?_
        refine g_region ?_
        refine s_y (y_fld rfl (fun w => fld_74_1 _ _ w)) rfl rfl rfl rfl ?_
        refine s_y (y_ld1 0 rfl rfl agg_3 rfl) rfl rfl rfl rfl ?_
        refine s_y (y_add rfl rfl (by omega) (by omega)) rfl rfl rfl rfl ?_
        refine s_y (y_fld rfl (fun w => fld_74_1 _ _ w)) rfl rfl rfl rfl ?_
        refine s_tr0 (t_store 0 rfl rfl rfl rfl size_3 rfl rfl) rfl rfl rfl (fun _ _ => ?_)
        refine s_nil ?_
        refine g_inb ?_
        refine g_then ?_
        exact fun act W ha hw => ⟨i + 1, by omega, by omega, W, ha.weak (sub_get ⟨rfl, rfl, rfl, rfl, rfl, trivial⟩), hw.toHq.lookSub (List.Sublist.refl _)⟩
      · (try simp at cq3)
        refine s_y (y_fld rfl (fun w => fld_74_1 _ _ w)) rfl rfl rfl rfl ?_
        refine s_y (y_ld1 0 rfl rfl agg_3 rfl) rfl rfl rfl rfl ?_
        refine s_y (y_ld1 2 rfl rfl agg_3 rfl) rfl rfl rfl rfl ?_
        refine s_y (y_rem rfl rfl (by omega) (by omega)) rfl rfl rfl rfl ?_
        refine s_y (y_neq rfl rfl) rfl rfl rfl rfl ?_
        refine s_y (y_pick_f rfl rfl) rfl rfl rfl rfl ?_
        refine s_nil ?_
        refine g_then ?_
        refine g_cond rfl (fun cq4 => ?_) (fun cq4 => ?_)
        · (try simp at cq4)
          have hlt : 2 * (n : Int) + 1 + (i : Int) < qOf n := by
            rcases Int.lt_or_eq_of_le hb_i with h | h
            · exact h
            · rw [h] at cq4; exact absurd hf4 cq4
          refine g_skip ?_
          refine g_then ?_
          refine g_block ?_
          refine g_region ?_
          refine s_y (y_fld rfl (fun w => fld_74_1 _ _ w)) rfl rfl rfl rfl ?_
          refine s_y (y_ld1 0 rfl rfl agg_3 rfl) rfl rfl rfl rfl ?_
          refine s_y (y_add rfl rfl (by omega) (by omega)) rfl rfl rfl rfl ?_
          refine s_y (y_fld rfl (fun w => fld_74_1 _ _ w)) rfl rfl rfl rfl ?_
          refine s_tr0 (t_store 0 rfl rfl rfl rfl size_3 rfl rfl) rfl rfl rfl (fun _ _ => ?_)
          refine s_nil ?_
          refine g_inb ?_
          refine g_then ?_
          exact fun act W ha hw => ⟨i + 1, by omega, by omega, W, ha.weak (sub_get ⟨rfl, rfl, rfl, rfl, rfl, trivial⟩), hw.toHq.lookSub (List.Sublist.refl _)⟩
        · (try simp at cq4)
          have hqe : 2 * (n : Int) + 1 + (i : Int) = qOf n := by
            rcases Int.lt_or_eq_of_le hb_i with h | h
            · exact absurd ⟨by assumption, cq4⟩ (q_before hn hn2 (by omega) h)
            · exact h
          rw [hqe]
          refine g_exit ?_
          refine g_thenx ?_
          refine g_thenx ?_
          refine g_inbx ?_
          refine g_then ?_
          refine g_seq ?_
          refine g_block ?_
          refine g_loop (fun (i : Nat) act W => 2 + (i : Int) ≤ wOf n ∧ ∃ (w1 : World), Has 49 [] [(1, vv), (2, .pointer (some ⟨bn, 0, none⟩)), (4, .pointer (some ⟨br, 0, none⟩)), (5, .bool false), (6, .pointer (some ⟨bf, 0, none⟩))] act ∧ Hp w w1 ((bf, .cells [.int .i64 (n : Int), .int .i64 (qOf n), .int .i64 (2 + (i : Int))].toArray 74 (0, 0)) :: (br, .cells [.int .i64 0, .int .i64 0, .int .i64 0].toArray 74 (0, 0)) :: (bn, .cells [.int .i64 (n : Int)].toArray 3 (0, 0)) :: []) W) (fun i => 100 - i) 0 (fun act W ha hw => ⟨by omega, W, ha.weak (sub_get ⟨rfl, rfl, rfl, rfl, rfl, trivial⟩), hw.toHq.lookSub (List.Sublist.refl _)⟩) ?_
          intro i act W ⟨hb_i, w1, ha, hw⟩
          refine g_go ha hw ?_
          clear ha hw act W
          refine g_seq ?_
          refine g_seq ?_
          refine g_draw 6 (by kernel_rfl) ?_
          refine j_l (i := 0) rfl (y_ldn 0 rfl rfl agg_74 size_74 rfl rfl) (by kernel_rfl) (by kernel_rfl) (by kernel_rfl) (by kernel_rfl) rfl rfl rfl rfl rfl (.inr (fun _ h => h)) ?_
          refine j_p (i := 1) rfl (y_fld rfl (fun w => fld_74_2 _ _ w)) (by kernel_rfl) (by kernel_rfl) (by kernel_rfl) rfl rfl rfl rfl rfl (.inr (fun _ h => h)) ?_
          refine j_l (i := 2) rfl (y_ld1 0 rfl rfl agg_3 rfl) (by kernel_rfl) (by kernel_rfl) (by kernel_rfl) (by kernel_rfl) rfl rfl rfl rfl rfl (.inr (fun _ h => h)) ?_
          refine j_l (i := 4) rfl (y_ld1 2 rfl rfl agg_3 rfl) (by kernel_rfl) (by kernel_rfl) (by kernel_rfl) (by kernel_rfl) rfl rfl rfl rfl rfl (.inr (fun _ h => h)) ?_
          refine j_tr (i := 3) rfl (t_call rfl rfl ent_75 (fun w h => order_any w n (qOf n) (2 + (i : Int)) (2 + (i : Int)) (by omega) (by omega) (by omega) (by omega) (w_facts hn hn2 (by omega) (by omega)).1)) (by kernel_rfl) rfl rfl rfl rfl (.inr (fun x w hb h => h)) (fun _ _ => ?_)
          refine j_p (i := 5) rfl (y_neq rfl rfl) (by kernel_rfl) (by kernel_rfl) (by kernel_rfl) rfl rfl rfl rfl rfl (.inr (fun _ h => h)) ?_
          refine j_nil (by kernel_rfl) ?_
          refine g_then ?_
          refine g_cond rfl (fun cq5 => ?_) (fun cq5 => ?_)
          · (try simp at cq5)
            have hlt : 2 + (i : Int) < wOf n := by
              rcases Int.lt_or_eq_of_le hb_i with h | h
              · exact h
              · rw [h, hf7] at cq5; exact absurd rfl cq5
            refine g_skip ?_
            refine g_then ?_
            refine g_block ?_
            refine g_region ?_
            refine s_y (y_fld rfl (fun w => fld_74_2 _ _ w)) rfl rfl rfl rfl ?_
            refine s_y (y_ld1 0 rfl rfl agg_3 rfl) rfl rfl rfl rfl ?_
            refine s_y (y_add rfl rfl (by omega) (by omega)) rfl rfl rfl rfl ?_
            refine s_y (y_fld rfl (fun w => fld_74_2 _ _ w)) rfl rfl rfl rfl ?_
            refine s_tr0 (t_store 0 rfl rfl rfl rfl size_3 rfl rfl) rfl rfl rfl (fun _ _ => ?_)
            refine s_nil ?_
            refine g_inb ?_
            refine g_then ?_
            exact fun act W ha hw => ⟨i + 1, by omega, by omega, W, ha.weak (sub_get ⟨rfl, rfl, rfl, rfl, rfl, trivial⟩), hw.toHq.lookSub (List.Sublist.refl _)⟩
          · (try simp at cq5)
            have hwe : 2 + (i : Int) = wOf n := by
              rcases Int.lt_or_eq_of_le hb_i with h | h
              · exact absurd (by exact_mod_cast cq5) ((w_facts hn hn2 (by omega) (by omega)).2 h)
              · exact h
            rw [hwe]
            refine g_exit ?_
            refine g_thenx ?_
            refine g_thenx ?_
            refine g_inbx ?_
            refine g_then ?_
            refine g_seq ?_
            refine g_draw 5 (by kernel_rfl) ?_
            refine j_l (i := 0) rfl (y_ldn 0 rfl rfl agg_74 size_74 rfl rfl) (by kernel_rfl) (by kernel_rfl) (by kernel_rfl) (by kernel_rfl) rfl rfl rfl rfl rfl (.inr (fun _ h => h)) ?_
            refine j_p (i := 1) rfl (y_move rfl) (by kernel_rfl) (by kernel_rfl) (by kernel_rfl) rfl rfl rfl rfl rfl (.inr (fun _ h => h)) ?_
            refine j_p (i := 2) rfl (y_func rfl rfl) (by kernel_rfl) (by kernel_rfl) (by kernel_rfl) rfl rfl rfl rfl rfl (.inr (fun _ h => h)) ?_
            refine j_tr (i := 3) rfl (t_call rfl rfl ent_76 (fun w h => containsF_any w vv vs (hvv.below h.below) hlen 77 [.pointer (some ⟨bn, 0, none⟩), .pointer (some ⟨bf, 0, none⟩)] (fun v => !pk v) ent_77 (fun v W hv hb => by obtain ⟨xs, h1, h2⟩ := hpv v hv; have := read1_any W n (qOf n) (wOf n) bn bf v xs hn hn2 (h1.below (h.below.trans (hb.mono h.below.size))) (below_at hb (at_of (i := 2) h rfl)) (below_at hb (at_of (i := 0) h rfl)); rw [← h2] at this; exact this))) (by kernel_rfl) rfl rfl rfl rfl (.inr (fun x w hb h => h)) (fun _ _ => ?_)
            refine j_p (i := 4) rfl (y_not rfl) (by kernel_rfl) (by kernel_rfl) (by kernel_rfl) rfl rfl rfl rfl rfl (.inr (fun _ h => h)) ?_
            refine j_tr0 (i := 5) rfl (t_store 1 rfl rfl rfl rfl size_74 rfl rfl) (by kernel_rfl) rfl rfl rfl (.inl rfl) (fun _ _ => ?_)
            refine j_p (i := 6) rfl (y_assign rfl) (by kernel_rfl) (by kernel_rfl) (by kernel_rfl) rfl rfl rfl rfl rfl (.inl rfl) ?_
            refine j_nil (by kernel_rfl) ?_
            refine g_then ?_
            refine g_ret ?_
            rw [show vs.all pk = !(vs.any fun v => !pk v) from by simp [List.all_eq_not_any_not]]
            exact g_end trivial (fun a w ha hq_ => res_ct (c := [.int .i64 (n : Int), .int .i64 (qOf n), .int .i64 (wOf n)]) 1 ha hq_ rfl rfl rfl rfl  agg_74 size_74 rfl) (fun w h => ⟨rfl, h.below⟩)

end Go.Proofs.Ytnhflahgbkmloaa
