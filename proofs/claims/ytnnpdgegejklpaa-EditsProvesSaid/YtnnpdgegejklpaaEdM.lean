/- edits: fine; the law EditsCosts. -/
import Derived.Test.YtnnpdgegejklpaaEdL
import Derived.Test.YtnnpdgegejklpaaEdJ
namespace Go.Proofs.Ytnnpdgegejklpaa
open Go.RowKit Go.Sx 
set_option linter.unusedVariables false
set_option linter.unusedSimpArgs false
set_option maxRecDepth 100000
set_option maxHeartbeats 4000000

private theorem ent_24 : Enters Try.prog 24 := enters_of Try.func24 (by kernel_rfl) rfl
private theorem agg_23 : isAggB Try.prog 23 = some true := by kernel_rfl
private theorem size_23 : (Try.prog.info? 23).map (·.size) = some 3 := by kernel_rfl
private theorem ent_23 : Enters Try.prog 23 := enters_of Try.func23 (by kernel_rfl) rfl
private theorem ent_19 : Enters Try.prog 19 := enters_of Try.func19 (by kernel_rfl) rfl
private theorem ent_20 : Enters Try.prog 20 := enters_of Try.func20 (by kernel_rfl) rfl
private theorem ent_18 : Enters Try.prog 18 := enters_of Try.func18 (by kernel_rfl) rfl
private theorem ent_27 : Enters Try.prog 27 := enters_of Try.func27 (by kernel_rfl) rfl
private theorem ent_21 : Enters Try.prog 21 := enters_of Try.func21 (by kernel_rfl) rfl
private theorem ent_29 : Enters Try.prog 29 := enters_of Try.func29 (by kernel_rfl) rfl
private theorem ent_28 : Enters Try.prog 28 := enters_of Try.func28 (by kernel_rfl) rfl
private theorem ent_30 : Enters Try.prog 30 := enters_of Try.func30 (by kernel_rfl) rfl
private theorem ent_22 : Enters Try.prog 22 := enters_of Try.func22 (by kernel_rfl) rfl
private theorem sle_38 : Try.prog.underlying 38 = some (.slice (Try.prog.elem 38)) := by kernel_rfl

theorem fine_any (w : World) (a b : ByteArray) (pi po ps : Int) :
    Calls Try.prog 21 [.string a, .string b, .agg #[.int .i64 pi, .int .i64 po, .int .i64 ps]].toArray w fun e w' => e = .returned (.bool (decide (a.size ≤ 12 ∧ b.size ≤ 12 ∧ okP pi po ps))) ∧ Below w.heap.size w w' := by
  refine enter (N := 17) Try.func21 rfl rfl rfl ?_
  refine g_seq ?_
  refine g_region ?_
  refine s_tr (t_box rfl rfl) rfl rfl rfl rfl (fun b1 hb1 => ?_)
  refine s_y (y_assign rfl) rfl rfl rfl rfl ?_
  refine s_nil ?_
  refine g_then ?_
  refine g_seq ?_
  refine g_region ?_
  refine s_y (y_move rfl) rfl rfl rfl rfl ?_
  refine s_tr (t_call rfl rfl ent_24 (fun w h => Line_any w a)) rfl rfl rfl rfl (fun _ _ => ?_)
  refine s_y (y_move rfl) rfl rfl rfl rfl ?_
  refine g_bool 9 rfl (fun cq2 => ?_) (fun cq2 => ?_)
  · (try simp at cq2)
    refine s_y (y_move rfl) rfl rfl rfl rfl ?_
    refine s_tr (t_call rfl rfl ent_24 (fun w h => Line_any w b)) rfl rfl rfl rfl (fun _ _ => ?_)
    refine s_y (y_pick_t rfl rfl) rfl rfl rfl rfl ?_
    refine s_y (y_move rfl) rfl rfl rfl rfl ?_
    refine g_bool 13 rfl (fun cq3 => ?_) (fun cq3 => ?_)
    · (try simp at cq3)
      refine s_y (y_ldn 0 rfl rfl agg_23 size_23 rfl rfl) rfl rfl rfl rfl ?_
      refine s_tr (t_call rfl rfl ent_23 (fun w h => RValid_any w pi po ps)) rfl rfl rfl rfl (fun _ _ => ?_)
      refine s_y (y_pick_t rfl rfl) rfl rfl rfl rfl ?_
      refine s_y (y_assign rfl) rfl rfl rfl rfl ?_
      refine s_nil ?_
      refine g_then ?_
      refine g_ret ?_
      rw [show decide (a.size ≤ 12 ∧ b.size ≤ 12 ∧ okP pi po ps) = decide (okP pi po ps) from decide_eq_decide.2 ⟨fun h => h.2.2, fun h => ⟨by omega, by omega, h⟩⟩]
      exact g_end trivial (fun a w ha hq_ => res1 ha rfl rfl  w) (fun w h => ⟨rfl, h.below⟩)
    · (try simp at cq3)
      refine s_no rfl rfl rfl ?_
      refine s_no rfl rfl rfl ?_
      refine s_y (y_pick_f rfl rfl) rfl rfl rfl rfl ?_
      refine s_y (y_assign rfl) rfl rfl rfl rfl ?_
      refine s_nil ?_
      refine g_then ?_
      refine g_ret ?_
      rw [show decide (a.size ≤ 12 ∧ b.size ≤ 12 ∧ okP pi po ps) = false from decide_eq_false (by rintro ⟨h1, h2, h3⟩; omega)]
      exact g_end trivial (fun a w ha hq_ => res1 ha rfl rfl  w) (fun w h => ⟨rfl, h.below⟩)
  · (try simp at cq2)
    refine s_no rfl rfl rfl ?_
    refine s_no rfl rfl rfl ?_
    refine s_y (y_pick_f rfl rfl) rfl rfl rfl rfl ?_
    refine s_y (y_move rfl) rfl rfl rfl rfl ?_
    refine s_no rfl rfl rfl ?_
    refine s_no rfl rfl rfl ?_
    refine s_y (y_pick_f rfl rfl) rfl rfl rfl rfl ?_
    refine s_y (y_assign rfl) rfl rfl rfl rfl ?_
    refine s_nil ?_
    refine g_then ?_
    refine g_ret ?_
    rw [show decide (a.size ≤ 12 ∧ b.size ≤ 12 ∧ okP pi po ps) = false from decide_eq_false (by rintro ⟨h1, h2, h3⟩; omega)]
    exact g_end trivial (fun a w ha hq_ => res1 ha rfl rfl  w) (fun w h => ⟨rfl, h.below⟩)

theorem fine_t (w : World) (a b : ByteArray) (pi po ps : Int) (ha : a.size ≤ 12) (hb : b.size ≤ 12) (hok : okP pi po ps) : Calls Try.prog 21 [.string a, .string b, .agg #[.int .i64 pi, .int .i64 po, .int .i64 ps]].toArray w fun e w' => e = .returned (.bool (true)) ∧ Below w.heap.size w w' := by
  have h_ := fine_any w a b pi po ps
  rwa [decide_eq_true ⟨ha, hb, hok⟩] at h_
theorem fine_f (w : World) (a b : ByteArray) (pi po ps : Int) (hno : ¬ (a.size ≤ 12 ∧ b.size ≤ 12 ∧ okP pi po ps)) : Calls Try.prog 21 [.string a, .string b, .agg #[.int .i64 pi, .int .i64 po, .int .i64 ps]].toArray w fun e w' => e = .returned (.bool (false)) ∧ Below w.heap.size w w' := by
  have h_ := fine_any w a b pi po ps
  rwa [decide_eq_false hno] at h_
theorem Done_ok (w : World) (a b : ByteArray) (pi po ps : Int) (v : Value) (s : List (Int × Int)) (hok : okP pi po ps) (hv : RdP w v s) (hl : s.length ≤ 24) (ha : a.size ≤ 12) (hs : runE a pi po ps st0 s = some (firstB b b.size, D a b pi po ps a.size b.size, a.size)) :
    Calls Try.prog 28 [.string a, .agg #[.int .i64 pi, .int .i64 po, .int .i64 ps], v].toArray w fun e w' => e = .returned (.tuple #[.string b, .int .i64 (D a b pi po ps a.size b.size), .bool true]) ∧ Below w.heap.size w w' := by
  have h_ := Done_any w a pi po ps v s hok hv (by omega) (by omega)
  rw [hs] at h_
  simp only [doneR, strOf_first, decide_true] at h_
  exact h_
theorem not_text {a b : ByteArray} {pi po ps : Int} (hno : ¬ (a.size ≤ 12 ∧ b.size ≤ 12 ∧ okP pi po ps)) : ¬ ((textS a).size ≤ 12 ∧ (textS b).size ≤ 12 ∧ okP pi po ps) := by
  rw [textS_size, textS_size]
  rintro ⟨h1, h2, h3⟩
  exact hno ⟨by omega, by omega, h3⟩

theorem EditsCosts_ok (w : World) (a b : ByteArray) (pi po ps : Int) (ha : a.size ≤ 12) (hb : b.size ≤ 12) (hok : okP pi po ps) :
    Calls Try.prog 7 [.string a, .string b, .agg #[.int .i64 pi, .int .i64 po, .int .i64 ps]].toArray w fun e w' => e = .returned (.bool true) ∧ Below w.heap.size w w' := by
  refine enter (N := 96) Try.func7 rfl rfl rfl ?_
  refine g_seq ?_
  refine g_region ?_
  refine s_tr (t_box rfl rfl) rfl rfl rfl rfl (fun b5 hb5 => ?_)
  refine s_y (y_assign rfl) rfl rfl rfl rfl ?_
  refine s_nil ?_
  refine g_then ?_
  refine g_seq ?_
  refine g_draw 12 (by kernel_rfl) ?_
  refine j_p (i := 0) rfl (y_move rfl) (by kernel_rfl) (by kernel_rfl) (by kernel_rfl) rfl rfl rfl rfl rfl (.inr (fun _ h => h)) ?_
  refine j_p (i := 2) rfl (y_move rfl) (by kernel_rfl) (by kernel_rfl) (by kernel_rfl) rfl rfl rfl rfl rfl (.inr (fun _ h => h)) ?_
  refine j_l (i := 4) rfl (y_ldn 0 rfl rfl agg_23 size_23 rfl rfl) (by kernel_rfl) (by kernel_rfl) (by kernel_rfl) (by kernel_rfl) rfl rfl rfl rfl rfl (.inr (fun _ h => h)) ?_
  refine j_tr (i := 1) rfl (t_call rfl rfl ent_19 (fun w h => by have h_ := text_any w a; rwa [textS_id ha] at h_)) (by kernel_rfl) rfl rfl rfl rfl (.inr (fun x w hb h => h)) (fun _ _ => ?_)
  refine j_tr (i := 3) rfl (t_call rfl rfl ent_19 (fun w h => by have h_ := text_any w b; rwa [textS_id hb] at h_)) (by kernel_rfl) rfl rfl rfl rfl (.inr (fun x w hb h => h)) (fun _ _ => ?_)
  refine j_tr (i := 5) rfl (t_call rfl rfl ent_20 (fun w h => Of_any w pi po ps)) (by kernel_rfl) rfl rfl rfl rfl (.inr (fun x w hb h => h)) (fun _ _ => ?_)
  refine j_tr (i := 6) rfl (t_call rfl rfl ent_18 (fun w h => Cost_ok w a b pi po ps ha hb hok)) (by kernel_rfl) rfl rfl rfl rfl (.inr (fun x w hb h => h)) (fun _ _ => ?_)
  refine j_p (i := 7) rfl (y_move rfl) (by kernel_rfl) (by kernel_rfl) (by kernel_rfl) rfl rfl rfl rfl rfl (.inr (fun _ h => h)) ?_
  refine j_p (i := 8) rfl (y_extract rfl rfl) (by kernel_rfl) (by kernel_rfl) (by kernel_rfl) rfl rfl rfl rfl rfl (.inr (fun _ h => h)) ?_
  refine j_p (i := 9) rfl (y_extract rfl rfl) (by kernel_rfl) (by kernel_rfl) (by kernel_rfl) rfl rfl rfl rfl rfl (.inr (fun _ h => h)) ?_
  refine j_p (i := 10) rfl (y_assign rfl) (by kernel_rfl) (by kernel_rfl) (by kernel_rfl) rfl rfl rfl rfl rfl (.inr (fun _ h => h)) ?_
  refine j_p (i := 11) rfl (y_assign rfl) (by kernel_rfl) (by kernel_rfl) (by kernel_rfl) rfl rfl rfl rfl rfl (.inr (fun _ h => h)) ?_
  refine j_nil (by kernel_rfl) ?_
  refine g_then ?_
  refine g_seq ?_
  refine g_draw 6 (by kernel_rfl) ?_
  refine j_p (i := 0) rfl (y_move rfl) (by kernel_rfl) (by kernel_rfl) (by kernel_rfl) rfl rfl rfl rfl rfl (.inr (fun _ h => h)) ?_
  refine j_p (i := 2) rfl (y_move rfl) (by kernel_rfl) (by kernel_rfl) (by kernel_rfl) rfl rfl rfl rfl rfl (.inr (fun _ h => h)) ?_
  refine j_l (i := 4) rfl (y_ldn 0 rfl rfl agg_23 size_23 rfl rfl) (by kernel_rfl) (by kernel_rfl) (by kernel_rfl) (by kernel_rfl) rfl rfl rfl rfl rfl (.inr (fun _ h => h)) ?_
  refine j_tr (i := 1) rfl (t_call rfl rfl ent_19 (fun w h => by have h_ := text_any w a; rwa [textS_id ha] at h_)) (by kernel_rfl) rfl rfl rfl rfl (.inr (fun x w hb h => h)) (fun _ _ => ?_)
  refine j_tr (i := 3) rfl (t_call rfl rfl ent_19 (fun w h => by have h_ := text_any w b; rwa [textS_id hb] at h_)) (by kernel_rfl) rfl rfl rfl rfl (.inr (fun x w hb h => h)) (fun _ _ => ?_)
  refine j_tr (i := 5) rfl (t_call rfl rfl ent_20 (fun w h => Of_any w pi po ps)) (by kernel_rfl) rfl rfl rfl rfl (.inr (fun x w hb h => h)) (fun _ _ => ?_)
  refine j_tr (i := 6) rfl (t_callm (A := fun y : List (Int × Int) × Value × List (Nat × Obj) => (y.1.length ≤ 24 ∧ runE a pi po ps st0 y.1 = some (firstB b b.size, D a b pi po ps a.size b.size, a.size)) ∧ OwnP y.2.1 y.1 y.2.2 ∧ ∃ W : World, ∀ p ∈ y.2.2, W.heap[p.1]? = some p.2) (vf := fun y => .tuple #[y.2.1, .int .i64 0]) (mm := fun y => y.2.2) rfl rfl ent_27 (fun w h => (Script_ok w a b pi po ps ha hb hok).mono fun e w' ⟨s, hs, x, hx, he, hh⟩ => ⟨(s, x), ⟨hs, hx⟩, he, hh⟩)) (by kernel_rfl) rfl rfl rfl rfl (.inl rfl) (fun yS hyS => ?_)
  obtain ⟨ss, vS, mS⟩ := yS
  obtain ⟨⟨hS1, hS2⟩, hOS, hES⟩ := hyS
  simp only at hS1 hS2 hOS hES
  refine j_p (i := 7) rfl (y_move rfl) (by kernel_rfl) (by kernel_rfl) (by kernel_rfl) rfl rfl rfl rfl rfl (.inl rfl) ?_
  refine j_p (i := 8) rfl (y_extract rfl rfl) (by kernel_rfl) (by kernel_rfl) (by kernel_rfl) rfl rfl rfl rfl rfl (.inl rfl) ?_
  refine j_p (i := 9) rfl (y_extract rfl rfl) (by kernel_rfl) (by kernel_rfl) (by kernel_rfl) rfl rfl rfl rfl rfl (.inl rfl) ?_
  refine j_p (i := 10) rfl (y_assign rfl) (by kernel_rfl) (by kernel_rfl) (by kernel_rfl) rfl rfl rfl rfl rfl (.inl rfl) ?_
  refine j_p (i := 11) rfl (y_assign rfl) (by kernel_rfl) (by kernel_rfl) (by kernel_rfl) rfl rfl rfl rfl rfl (.inl rfl) ?_
  refine j_nil (by kernel_rfl) ?_
  refine g_then ?_
  refine g_seq ?_
  refine g_seq ?_
  refine g_region ?_
  refine s_y (y_move rfl) rfl rfl rfl rfl ?_
  refine s_y (y_move rfl) rfl rfl rfl rfl ?_
  refine s_y (y_ldMn (mem_ar mS (List.mem_cons_self ..)) rfl agg_23 size_23 rfl rfl) rfl rfl rfl rfl ?_
  refine s_tr (t_call rfl rfl ent_21 (fun w h => fine_t w a b pi po ps ha hb hok)) rfl rfl rfl rfl (fun _ _ => ?_)
  refine s_y (y_not_t rfl) rfl rfl rfl rfl ?_
  refine s_nil ?_
  refine g_then ?_
  refine g_cond_f rfl ?_
  refine g_skip ?_
  refine g_then ?_
  refine g_seq ?_
  refine g_drawC 12 (fun W => W.heap[b5]? = some (Obj.cells [.int .i64 pi, .int .i64 po, .int .i64 ps].toArray 23 (0, 0))) (by kernel_rfl) ?_
  refine j_p (i := 0) rfl (y_move rfl) (by kernel_rfl) (by kernel_rfl) (by kernel_rfl) rfl rfl rfl rfl rfl (.inr (fun _ h => (h.at_ _ (mem_ar mS (List.mem_cons_self ..))))) ?_
  refine j_l (i := 1) rfl (y_ldCn (fun w h => h) rfl agg_23 size_23 rfl rfl) (by kernel_rfl) (by kernel_rfl) (by kernel_rfl) (by kernel_rfl) rfl rfl rfl rfl rfl (.inr (fun _ h => (h.at_ _ (mem_ar mS (List.mem_cons_self ..))))) ?_
  refine j_p (i := 2) rfl (y_move rfl) (by kernel_rfl) (by kernel_rfl) (by kernel_rfl) rfl rfl rfl rfl rfl (.inr (fun _ h => (h.at_ _ (mem_ar mS (List.mem_cons_self ..))))) ?_
  refine j_tr (i := 3) rfl (t_callm rfl rfl ent_29 (fun w h => own_any w _ ss (hOS.rd fun p hp => h.at_ p (mem_al mS hp)) (by omega))) (by kernel_rfl) rfl rfl rfl rfl (.inr (fun x w hb h => (h.at_ _ (mem_ar _ (mem_ar mS (List.mem_cons_self ..)))))) (fun x2 hx3 => ?_)
  obtain ⟨vo1, mo1⟩ := x2
  obtain ⟨hOo1, hEo1⟩ := hx3
  refine j_tr (i := 4) rfl (t_call rfl rfl ent_28 (fun w h => Done_ok w a b pi po ps _ ss hok (hOo1.rd fun p hp => h.at_ p (mem_al mo1 hp)) hS1 ha hS2)) (by kernel_rfl) rfl rfl rfl rfl (.inr (fun x w hb h => (h.at_ _ (mem_ar mo1 (mem_ar mS (List.mem_cons_self ..)))))) (fun _ _ => ?_)
  refine j_p (i := 5) rfl (y_move rfl) (by kernel_rfl) (by kernel_rfl) (by kernel_rfl) rfl rfl rfl rfl rfl (.inr (fun _ h => (h.at_ _ (mem_ar mo1 (mem_ar mS (List.mem_cons_self ..)))))) ?_
  refine j_p (i := 6) rfl (y_extract rfl rfl) (by kernel_rfl) (by kernel_rfl) (by kernel_rfl) rfl rfl rfl rfl rfl (.inr (fun _ h => (h.at_ _ (mem_ar mo1 (mem_ar mS (List.mem_cons_self ..)))))) ?_
  refine j_p (i := 7) rfl (y_extract rfl rfl) (by kernel_rfl) (by kernel_rfl) (by kernel_rfl) rfl rfl rfl rfl rfl (.inr (fun _ h => (h.at_ _ (mem_ar mo1 (mem_ar mS (List.mem_cons_self ..)))))) ?_
  refine j_p (i := 8) rfl (y_extract rfl rfl) (by kernel_rfl) (by kernel_rfl) (by kernel_rfl) rfl rfl rfl rfl rfl (.inr (fun _ h => (h.at_ _ (mem_ar mo1 (mem_ar mS (List.mem_cons_self ..)))))) ?_
  refine j_p (i := 9) rfl (y_assign rfl) (by kernel_rfl) (by kernel_rfl) (by kernel_rfl) rfl rfl rfl rfl rfl (.inr (fun _ h => (h.at_ _ (mem_ar mo1 (mem_ar mS (List.mem_cons_self ..)))))) ?_
  refine j_p (i := 10) rfl (y_assign rfl) (by kernel_rfl) (by kernel_rfl) (by kernel_rfl) rfl rfl rfl rfl rfl (.inr (fun _ h => (h.at_ _ (mem_ar mo1 (mem_ar mS (List.mem_cons_self ..)))))) ?_
  refine j_p (i := 11) rfl (y_assign rfl) (by kernel_rfl) (by kernel_rfl) (by kernel_rfl) rfl rfl rfl rfl rfl (.inr (fun _ h => (h.at_ _ (mem_ar mo1 (mem_ar mS (List.mem_cons_self ..)))))) ?_
  refine j_nil (by kernel_rfl) ?_
  refine g_then ?_
  refine g_seq ?_
  refine g_region ?_
  refine s_y (y_move rfl) rfl rfl rfl rfl ?_
  refine s_y (y_move rfl) rfl rfl rfl rfl ?_
  refine s_y (y_move rfl) rfl rfl rfl rfl ?_
  refine s_y (y_ldMn (mem_ar mo1 (mem_ar mS (List.mem_cons_self ..))) rfl agg_23 size_23 rfl rfl) rfl rfl rfl rfl ?_
  refine s_tr (t_call rfl rfl ent_30 (fun w h => RCost_ok w a b pi po ps ha hb hok)) rfl rfl rfl rfl (fun _ _ => ?_)
  refine s_y (y_eql_t rfl rfl (rfl)) rfl rfl rfl rfl ?_
  refine s_y (y_move rfl) rfl rfl rfl rfl ?_
  refine s_y (y_move rfl) rfl rfl rfl rfl ?_
  refine s_y (y_eql_t rfl rfl (by decide)) rfl rfl rfl rfl ?_
  refine s_y (y_pick_t rfl rfl) rfl rfl rfl rfl ?_
  refine s_y (y_move rfl) rfl rfl rfl rfl ?_
  refine s_y (y_move rfl) rfl rfl rfl rfl ?_
  refine s_y (y_eql_t rfl rfl (by decide)) rfl rfl rfl rfl ?_
  refine s_y (y_pick_t rfl rfl) rfl rfl rfl rfl ?_
  refine s_y (y_move rfl) rfl rfl rfl rfl ?_
  refine s_y (y_move rfl) rfl rfl rfl rfl ?_
  refine s_y (y_pick_t rfl rfl) rfl rfl rfl rfl ?_
  refine s_y (y_move rfl) rfl rfl rfl rfl ?_
  refine s_y (y_move rfl) rfl rfl rfl rfl ?_
  refine s_y (y_move rfl) rfl rfl rfl rfl ?_
  refine s_y (y_seql_t rfl rfl) rfl rfl rfl rfl ?_
  refine s_y (y_pick_t rfl rfl) rfl rfl rfl rfl ?_
  refine s_y (y_move rfl) rfl rfl rfl rfl ?_
  refine s_y (y_move rfl) rfl rfl rfl rfl ?_
  refine s_y (y_move rfl) rfl rfl rfl rfl ?_
  refine s_y (y_eql_t rfl rfl (rfl)) rfl rfl rfl rfl ?_
  refine s_y (y_pick_t rfl rfl) rfl rfl rfl rfl ?_
  refine s_y (y_move rfl) rfl rfl rfl rfl ?_
  refine s_tr (t_call rfl rfl ent_22 (fun w h => awakeE_t w)) rfl rfl rfl rfl (fun _ _ => ?_)
  refine s_y (y_pick_t rfl rfl) rfl rfl rfl rfl ?_
  refine s_y (y_assign rfl) rfl rfl rfl rfl ?_
  refine s_nil ?_
  refine g_then ?_
  refine g_ret ?_
  exact g_end trivial (fun a w ha hq_ => res1 ha rfl rfl  w) (fun w h => ⟨rfl, h.below⟩)

theorem EditsCosts_no (w : World) (a b : ByteArray) (pi po ps : Int) (hno : ¬ (a.size ≤ 12 ∧ b.size ≤ 12 ∧ okP pi po ps)) :
    Calls Try.prog 7 [.string a, .string b, .agg #[.int .i64 pi, .int .i64 po, .int .i64 ps]].toArray w fun e w' => e = .returned (.bool true) ∧ Below w.heap.size w w' := by
  refine enter (N := 96) Try.func7 rfl rfl rfl ?_
  refine g_seq ?_
  refine g_region ?_
  refine s_tr (t_box rfl rfl) rfl rfl rfl rfl (fun b1 hb1 => ?_)
  refine s_y (y_assign rfl) rfl rfl rfl rfl ?_
  refine s_nil ?_
  refine g_then ?_
  refine g_seq ?_
  refine g_draw 12 (by kernel_rfl) ?_
  refine j_p (i := 0) rfl (y_move rfl) (by kernel_rfl) (by kernel_rfl) (by kernel_rfl) rfl rfl rfl rfl rfl (.inr (fun _ h => h)) ?_
  refine j_p (i := 2) rfl (y_move rfl) (by kernel_rfl) (by kernel_rfl) (by kernel_rfl) rfl rfl rfl rfl rfl (.inr (fun _ h => h)) ?_
  refine j_l (i := 4) rfl (y_ldn 0 rfl rfl agg_23 size_23 rfl rfl) (by kernel_rfl) (by kernel_rfl) (by kernel_rfl) (by kernel_rfl) rfl rfl rfl rfl rfl (.inr (fun _ h => h)) ?_
  refine j_tr (i := 1) rfl (t_call rfl rfl ent_19 (fun w h => text_any w _)) (by kernel_rfl) rfl rfl rfl rfl (.inr (fun x w hb h => h)) (fun _ _ => ?_)
  refine j_tr (i := 3) rfl (t_call rfl rfl ent_19 (fun w h => text_any w _)) (by kernel_rfl) rfl rfl rfl rfl (.inr (fun x w hb h => h)) (fun _ _ => ?_)
  refine j_tr (i := 5) rfl (t_call rfl rfl ent_20 (fun w h => Of_any w pi po ps)) (by kernel_rfl) rfl rfl rfl rfl (.inr (fun x w hb h => h)) (fun _ _ => ?_)
  refine j_tr (i := 6) rfl (t_call rfl rfl ent_18 (fun w h => by have h_ := Cost_any w (textS a) (textS b) pi po ps; rwa [costR_no (not_text hno)] at h_)) (by kernel_rfl) rfl rfl rfl rfl (.inr (fun x w hb h => h)) (fun _ _ => ?_)
  refine j_p (i := 7) rfl (y_move rfl) (by kernel_rfl) (by kernel_rfl) (by kernel_rfl) rfl rfl rfl rfl rfl (.inr (fun _ h => h)) ?_
  refine j_p (i := 8) rfl (y_extract rfl rfl) (by kernel_rfl) (by kernel_rfl) (by kernel_rfl) rfl rfl rfl rfl rfl (.inr (fun _ h => h)) ?_
  refine j_p (i := 9) rfl (y_extract rfl rfl) (by kernel_rfl) (by kernel_rfl) (by kernel_rfl) rfl rfl rfl rfl rfl (.inr (fun _ h => h)) ?_
  refine j_p (i := 10) rfl (y_assign rfl) (by kernel_rfl) (by kernel_rfl) (by kernel_rfl) rfl rfl rfl rfl rfl (.inr (fun _ h => h)) ?_
  refine j_p (i := 11) rfl (y_assign rfl) (by kernel_rfl) (by kernel_rfl) (by kernel_rfl) rfl rfl rfl rfl rfl (.inr (fun _ h => h)) ?_
  refine j_nil (by kernel_rfl) ?_
  refine g_then ?_
  refine g_seq ?_
  refine g_draw 12 (by kernel_rfl) ?_
  refine j_p (i := 0) rfl (y_move rfl) (by kernel_rfl) (by kernel_rfl) (by kernel_rfl) rfl rfl rfl rfl rfl (.inr (fun _ h => h)) ?_
  refine j_p (i := 2) rfl (y_move rfl) (by kernel_rfl) (by kernel_rfl) (by kernel_rfl) rfl rfl rfl rfl rfl (.inr (fun _ h => h)) ?_
  refine j_l (i := 4) rfl (y_ldn 0 rfl rfl agg_23 size_23 rfl rfl) (by kernel_rfl) (by kernel_rfl) (by kernel_rfl) (by kernel_rfl) rfl rfl rfl rfl rfl (.inr (fun _ h => h)) ?_
  refine j_tr (i := 1) rfl (t_call rfl rfl ent_19 (fun w h => text_any w _)) (by kernel_rfl) rfl rfl rfl rfl (.inr (fun x w hb h => h)) (fun _ _ => ?_)
  refine j_tr (i := 3) rfl (t_call rfl rfl ent_19 (fun w h => text_any w _)) (by kernel_rfl) rfl rfl rfl rfl (.inr (fun x w hb h => h)) (fun _ _ => ?_)
  refine j_tr (i := 5) rfl (t_call rfl rfl ent_20 (fun w h => Of_any w pi po ps)) (by kernel_rfl) rfl rfl rfl rfl (.inr (fun x w hb h => h)) (fun _ _ => ?_)
  refine j_tr (i := 6) rfl (t_call rfl rfl ent_27 (fun w h => Script_bad w (textS a) (textS b) pi po ps (not_text hno))) (by kernel_rfl) rfl rfl rfl rfl (.inr (fun x w hb h => h)) (fun _ _ => ?_)
  refine j_p (i := 7) rfl (y_move rfl) (by kernel_rfl) (by kernel_rfl) (by kernel_rfl) rfl rfl rfl rfl rfl (.inr (fun _ h => h)) ?_
  refine j_p (i := 8) rfl (y_extract rfl rfl) (by kernel_rfl) (by kernel_rfl) (by kernel_rfl) rfl rfl rfl rfl rfl (.inr (fun _ h => h)) ?_
  refine j_p (i := 9) rfl (y_extract rfl rfl) (by kernel_rfl) (by kernel_rfl) (by kernel_rfl) rfl rfl rfl rfl rfl (.inr (fun _ h => h)) ?_
  refine j_p (i := 10) rfl (y_assign rfl) (by kernel_rfl) (by kernel_rfl) (by kernel_rfl) rfl rfl rfl rfl rfl (.inr (fun _ h => h)) ?_
  refine j_p (i := 11) rfl (y_assign rfl) (by kernel_rfl) (by kernel_rfl) (by kernel_rfl) rfl rfl rfl rfl rfl (.inr (fun _ h => h)) ?_
  refine j_nil (by kernel_rfl) ?_
  refine g_then ?_
  refine g_seq ?_
  refine g_seq ?_
  refine g_region ?_
  refine s_y (y_move rfl) rfl rfl rfl rfl ?_
  refine s_y (y_move rfl) rfl rfl rfl rfl ?_
  refine s_y (y_ldn 0 rfl rfl agg_23 size_23 rfl rfl) rfl rfl rfl rfl ?_
  refine s_tr (t_call rfl rfl ent_21 (fun w h => fine_f w a b pi po ps hno)) rfl rfl rfl rfl (fun _ _ => ?_)
  refine s_y (y_not_f rfl) rfl rfl rfl rfl ?_
  refine s_nil ?_
  refine g_then ?_
  refine g_cond_t rfl ?_
  refine g_seq ?_
  refine g_region ?_
  refine s_y (y_move rfl) rfl rfl rfl rfl ?_
  refine s_y (y_eql_t rfl rfl (by decide)) rfl rfl rfl rfl ?_
  refine s_y (y_move rfl) rfl rfl rfl rfl ?_
  refine s_y (y_move rfl) rfl rfl rfl rfl ?_
  refine s_y (y_lensl rfl sle_38) rfl rfl rfl rfl ?_
  refine s_y (y_eql_t rfl rfl (by decide)) rfl rfl rfl rfl ?_
  refine s_y (y_pick_t rfl rfl) rfl rfl rfl rfl ?_
  refine s_y (y_move rfl) rfl rfl rfl rfl ?_
  refine s_y (y_move rfl) rfl rfl rfl rfl ?_
  refine s_y (y_eql_t rfl rfl (by decide)) rfl rfl rfl rfl ?_
  refine s_y (y_pick_t rfl rfl) rfl rfl rfl rfl ?_
  refine s_y (y_move rfl) rfl rfl rfl rfl ?_
  refine s_y (y_move rfl) rfl rfl rfl rfl ?_
  refine s_y (y_eql_t rfl rfl (by decide)) rfl rfl rfl rfl ?_
  refine s_y (y_pick_t rfl rfl) rfl rfl rfl rfl ?_
  refine s_y (y_move rfl) rfl rfl rfl rfl ?_
  refine s_tr (t_call rfl rfl ent_22 (fun w h => awakeE_t w)) rfl rfl rfl rfl (fun _ _ => ?_)
  refine s_y (y_pick_t rfl rfl) rfl rfl rfl rfl ?_
  refine s_y (y_assign rfl) rfl rfl rfl rfl ?_
  refine s_nil ?_
  refine g_then ?_
  refine g_ret ?_
  refine g_thenr ?_
  exact g_end trivial (fun a w ha hq_ => res1 ha rfl rfl  w) (fun w h => ⟨rfl, h.below⟩)

theorem EditsCosts_law (w : World) (a b : ByteArray) (pi po ps : Int) (_ : a.size ≤ 140737488351232) (_ : b.size ≤ 140737488351232) (_ : (Lit.int .i64 pi).wf = true) (_ : (Lit.int .i64 po).wf = true) (_ : (Lit.int .i64 ps).wf = true) : Calls Try.prog 7 [.string a, .string b, .agg #[.int .i64 pi, .int .i64 po, .int .i64 ps]].toArray w fun e w' => e = .returned (.bool true) ∧ Below w.heap.size w w' := by
  by_cases h : a.size ≤ 12 ∧ b.size ≤ 12 ∧ okP pi po ps
  · exact EditsCosts_ok w a b pi po ps h.1 h.2.1 h.2.2
  · exact EditsCosts_no w a b pi po ps h

end Go.Proofs.Ytnnpdgegejklpaa
