/- duets: tail, and the maps that it keys. -/
import Derived.Test.YtolalckejnijkaaDuCnt
import Derived.Test.YtolalckejnijkaaSxTail
import Derived.Test.YtolalckejnijkaaSxStr
namespace Go.Proofs.Ytolalckejnijkaa
open Go.RowKit Go.Sx Go.WideMaps
set_option linter.unusedVariables false
set_option linter.unusedSimpArgs false
set_option maxRecDepth 100000
set_option maxHeartbeats 4000000

private theorem inf_3 : ∃ ie, Try.prog.info? 3 = some ie ∧ ie.zero = some (.int .i64 0) ∧ ie.size = 1 ∧ ie.bytes = 8 := info_of (by kernel_rfl) (by kernel_rfl)
private theorem zero_73 : (Try.prog.info? 73).bind (·.zero) = some (.agg #[(.int .i64 0), (.int .i64 0), (.int .i64 0), (.int .i64 0)]) := by kernel_rfl
private theorem fld_48_1 (b off : Nat) (w : World) : (Instr.fieldAt 48 (.pointer (some ⟨b, off, none⟩)) 1).run Try.prog w = .ok (.pointer (some ⟨b, off + 1, none⟩)) w := by kernel_rfl
private theorem agg_22 : isAggB Try.prog 22 = some false := by kernel_rfl
private theorem sle_22 : Try.prog.underlying 22 = some (.slice (Try.prog.elem 22)) := by kernel_rfl
private theorem bld_73_1 (x1 : Int) (w : World) : (Instr.build 73 #[(1, (.int .i64 x1))]).run Try.prog w = .ok (.agg #[(.int .i64 0), (.int .i64 0), (.int .i64 0), (.int .i64 x1)]) w := by kernel_rfl
private theorem size_73 : (Try.prog.info? 73).map (·.size) = some 4 := by kernel_rfl
private theorem fld_73_0 (b off : Nat) (w : World) : (Instr.fieldAt 73 (.pointer (some ⟨b, off, none⟩)) 0).run Try.prog w = .ok (.pointer (some ⟨b, off, none⟩)) w := by kernel_rfl
private theorem size_3 : (Try.prog.info? 3).map (·.size) = some 1 := by kernel_rfl
private theorem agg_73 : isAggB Try.prog 73 = some true := by kernel_rfl

theorem tail_any (w : World) (ag as_ : Option Addr) (cg cs : Nat) (g s : List Int) (hg : RdV (Value.int .i64) w (.slice ag g.length cg) g) (hs : RdV (Value.int .i64) w (.slice as_ s.length cs) s) (hl : s.length ≤ 1000) :
    Calls Try.prog 67 [.agg #[.slice ag g.length cg, .slice as_ s.length cs]].toArray w fun e w' => e = .returned (tkV (tailK s)) ∧ Below w.heap.size w w' := by
  have e3 : (if (0 : Int) > ((s.length : Nat) : Int) - 3 then (0 : Int) else ((s.length : Nat) : Int) - 3) = ((s.length - 3 : Nat) : Int) := by split <;> omega
  obtain ⟨ie3_, hi3_⟩ := inf_3
  obtain ⟨v7, hc7, hr7⟩ := run_cut_lo (P := Try.prog) hs Try.underlying22 hi3_.1 hi3_.2.2.1 (s.length - 3) (by omega)
  refine enter (N := 20) Try.func67 rfl rfl rfl ?_
  refine g_seq ?_
  refine g_region ?_
  refine s_tr (t_box rfl rfl) rfl rfl rfl rfl (fun b1 hb1 => ?_)
  refine s_tr (t_alloc zero_73 rfl) rfl rfl rfl rfl (fun b2 hb2 => ?_)
  refine s_nil ?_
  refine g_then ?_
  refine g_seq ?_
  refine g_region ?_
  refine s_y (y_fld rfl (fun w => fld_48_1 _ _ w)) rfl rfl rfl rfl ?_
  refine s_y (y_ld1 1 rfl rfl agg_22 rfl) rfl rfl rfl rfl ?_
  refine s_y (y_lenV (n := s.length) rfl (by obtain ⟨A, c, h1, _⟩ := hs; exact ⟨A, c, h1⟩) sle_22) rfl rfl rfl rfl ?_
  refine s_y (y_build (vs := [(1, _)]) rfl rfl (fun w => bld_73_1 _ w)) rfl rfl rfl rfl ?_
  refine s_tr (t_alloc zero_73 rfl) rfl rfl rfl rfl (fun b3 hb3 => ?_)
  refine s_tr0 (t_store 0 rfl rfl rfl rfl size_73 rfl rfl) rfl rfl rfl (fun _ _ => ?_)
  refine s_nil ?_
  refine g_then ?_
  refine g_seq ?_
  refine g_draw 10 (by kernel_rfl) ?_
  refine j_p (i := 0) rfl (y_fld rfl (fun w => fld_73_0 _ _ w)) (by kernel_rfl) (by kernel_rfl) (by kernel_rfl) rfl rfl rfl rfl rfl (.inr (fun _ h => h)) ?_
  refine j_p (i := 1) rfl (y_sarr (n := 2) rfl Try.underlying71 size_3) (by kernel_rfl) (by kernel_rfl) (by kernel_rfl) rfl rfl rfl rfl rfl (.inr (fun _ h => h)) ?_
  refine j_p (i := 2) rfl (y_fld rfl (fun w => fld_48_1 _ _ w)) (by kernel_rfl) (by kernel_rfl) (by kernel_rfl) rfl rfl rfl rfl rfl (.inr (fun _ h => h)) ?_
  refine j_l (i := 3) rfl (y_ld1 2 rfl rfl agg_22 rfl) (by kernel_rfl) (by kernel_rfl) (by kernel_rfl) (by kernel_rfl) rfl rfl rfl rfl rfl (.inr (fun _ h => h)) ?_
  refine j_p (i := 4) rfl (y_fld rfl (fun w => fld_48_1 _ _ w)) (by kernel_rfl) (by kernel_rfl) (by kernel_rfl) rfl rfl rfl rfl rfl (.inr (fun _ h => h)) ?_
  refine j_l (i := 5) rfl (y_ld1 2 rfl rfl agg_22 rfl) (by kernel_rfl) (by kernel_rfl) (by kernel_rfl) (by kernel_rfl) rfl rfl rfl rfl rfl (.inr (fun _ h => h)) ?_
  refine j_p (i := 6) rfl (y_lenV (n := s.length) rfl (by obtain ⟨A, c, h1, _⟩ := hs; exact ⟨A, c, h1⟩) sle_22) (by kernel_rfl) (by kernel_rfl) (by kernel_rfl) rfl rfl rfl rfl rfl (.inr (fun _ h => h)) ?_
  refine j_p (i := 7) rfl (y_sub rfl rfl (by omega) (by omega)) (by kernel_rfl) (by kernel_rfl) (by kernel_rfl) rfl rfl rfl rfl rfl (.inr (fun _ h => h)) ?_
  refine j_p (i := 8) rfl (y_max rfl rfl) (by kernel_rfl) (by kernel_rfl) (by kernel_rfl) rfl rfl rfl rfl rfl (.inr (fun _ h => h)) ?_
  rw [e3]
  refine j_p (i := 9) rfl (y_slice rfl (some_ev rfl) none_ev hc7 sle_22) (by kernel_rfl) (by kernel_rfl) (by kernel_rfl) rfl rfl rfl rfl rfl (.inr (fun _ h => h)) ?_
  refine j_tr (i := 10) rfl (t_copy3 (ys := s.drop (s.length - 3)) 0 rfl rfl rfl Try.underlying22 size_3 (fun w h => hr7 w (hs.below h.below)) (by rw [List.length_drop]; omega)) (by kernel_rfl) rfl rfl rfl rfl (.inl rfl) (fun _ _ => ?_)
  refine j_nil (by kernel_rfl) ?_
  refine g_then ?_
  refine g_seq ?_
  refine g_region ?_
  refine s_y (y_ldn 0 rfl rfl agg_73 size_73 rfl rfl) rfl rfl rfl rfl ?_
  refine s_tr0 (t_store 1 rfl rfl rfl rfl size_73 rfl rfl) rfl rfl rfl (fun _ _ => ?_)
  refine s_nil ?_
  refine g_then ?_
  refine g_ret ?_
  exact g_end trivial (fun a w ha hq_ => res_c (c := [.int .i64 (rdI (s.drop (s.length - 3)) 0), .int .i64 (rdI (s.drop (s.length - 3)) 1), .int .i64 (rdI (s.drop (s.length - 3)) 2), .int .i64 (s.length : Nat)]) 1 ha hq_ rfl rfl rfl  agg_73 size_73 rfl) (fun w h => ⟨rfl, h.below⟩)

theorem wf_i64 {z : Int} (h0 : -9223372036854775808 ≤ z) (h1 : z ≤ 9223372036854775807) : (Lit.int .i64 z).wf = true := by
  have e1 : IntKind.i64.min = -9223372036854775808 := rfl
  have e2 : IntKind.i64.max = 9223372036854775807 := rfl
  unfold Lit.wf
  simp
  omega
theorem tail_key (k : TK) (hk : tkok k) : ∃ l, keyOf Try.prog 73 (tkV k) = some l :=
  key_tail Try.underlying73 rfl (by kernel_rfl) (by kernel_rfl) ⟨rfl, rfl⟩ ⟨rfl, rfl⟩ Try.underlying71 Try.underlying3 (by kernel_rfl) (by kernel_rfl) (by kernel_rfl) (by kernel_rfl) (by kernel_rfl) (fun _ _ _ _ => by kernel_rfl) k hk
theorem tail_map : KeyG Try.prog 50 73 3 tkV tkok (.int .i64 0) :=
  ⟨Try.underlying50, deep_law_gate (by kernel_rfl) (of_decide_eq_true (by kernel_rfl)) (of_decide_eq_true (by kernel_rfl)) (by kernel_rfl) (by kernel_rfl), tail_key, fun u => by kernel_rfl, tkV_inj⟩
theorem tailK_ok {s : List Int} (hn : ∀ x ∈ s, 0 ≤ x ∧ x ≤ 20) (hl : s.length ≤ 1000) : tkok (tailK s) := by
  have h : ∀ (ys : List Int) (i : Nat), (∀ x ∈ ys, 0 ≤ x ∧ x ≤ 20) → 0 ≤ rdI ys (i : Int) ∧ rdI ys (i : Int) ≤ 20 := fun ys i hy => by
    rcases Nat.lt_or_ge i ys.length with h | h
    · rw [rdI_lt h]; exact hy _ (List.getElem_mem h)
    · rw [rdI_nat, List.getD_eq_getElem?_getD, List.getElem?_eq_none h]; exact ⟨by decide, by decide⟩
  have hd : ∀ x ∈ s.drop (s.length - 3), 0 ≤ x ∧ x ≤ 20 := fun x hx => hn x (List.mem_of_mem_drop hx)
  have h0 := h (s.drop (s.length - 3)) 0 hd
  have h1 := h (s.drop (s.length - 3)) 1 hd
  have h2 := h (s.drop (s.length - 3)) 2 hd
  have wf : ∀ z : Int, 0 ≤ z → z ≤ 20 → (Lit.int .i64 z).wf = true := fun z a b => wf_i64 (by omega) (by omega)
  exact ⟨wf _ h0.1 h0.2, wf _ h1.1 h1.2, wf _ h2.1 h2.2, wf_i64 (show -9223372036854775808 ≤ (s.length : Int) by omega) (show (s.length : Int) ≤ 9223372036854775807 by omega)⟩

end Go.Proofs.Ytolalckejnijkaa
