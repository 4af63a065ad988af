/- edits: the law EditsProves. -/
import Derived.Test.YtnnpdgegejklpaaEdP
import Derived.Test.YtnnpdgegejklpaaSxRowX
namespace Go.Proofs.Ytnnpdgegejklpaa
open Go.RowKit Go.Sx 
set_option linter.unusedVariables false
set_option linter.unusedSimpArgs false
set_option maxRecDepth 100000
set_option maxHeartbeats 4000000

private theorem agg_23 : isAggB Try.prog 23 = some true := by kernel_rfl
private theorem size_23 : (Try.prog.info? 23).map (·.size) = some 3 := by kernel_rfl
private theorem ent_19 : Enters Try.prog 19 := enters_of Try.func19 (by kernel_rfl) rfl
private theorem ent_20 : Enters Try.prog 20 := enters_of Try.func20 (by kernel_rfl) rfl
private theorem ent_18 : Enters Try.prog 18 := enters_of Try.func18 (by kernel_rfl) rfl
private theorem ent_21 : Enters Try.prog 21 := enters_of Try.func21 (by kernel_rfl) rfl
private theorem ent_27 : Enters Try.prog 27 := enters_of Try.func27 (by kernel_rfl) rfl
private theorem ent_46 : Enters Try.prog 46 := enters_of Try.func46 (by kernel_rfl) rfl
private theorem ent_61 : Enters Try.prog 61 := enters_of Try.func61 (by kernel_rfl) rfl
private theorem ent_35 : Enters Try.prog 35 := enters_of Try.func35 (by kernel_rfl) rfl
private theorem ent_48 : Enters Try.prog 48 := enters_of Try.func48 (by kernel_rfl) rfl
private theorem ent_47 : Enters Try.prog 47 := enters_of Try.func47 (by kernel_rfl) rfl
private theorem ent_37 : Enters Try.prog 37 := enters_of Try.func37 (by kernel_rfl) rfl
private theorem ent_22 : Enters Try.prog 22 := enters_of Try.func22 (by kernel_rfl) rfl

theorem hgtR_cut {a b : ByteArray} {pi po ps : Int} {hs : List (List Int)} (ha : a.size ≤ 12) (hb : b.size ≤ 12) : hgtR a b pi po ps ((hs.take 16).map (·.take 16)) = hgtR a b pi po ps hs := by
  by_cases h : HOK a b pi po ps hs
  · rw [cut_rows ha hb h.1]
  · rw [hgtR_f h, hgtR_f (fun h_ => h ((cut_iff ha hb).1 h_))]

theorem tab_cut {a b : ByteArray} {pi po ps : Int} (hok : okP pi po ps) (ha : a.size ≤ 12) (hb : b.size ≤ 12) : hgtR a b pi po ps (((tabD a b pi po ps).take 16).map (·.take 16)) = (D a b pi po ps a.size b.size, true) := by
  rw [cut_rows ha hb (tabD_ok hok ha hb).1, hgtR_t (tabD_ok hok ha hb), tabD_ht (Nat.le_refl _) (Nat.le_refl _)]
theorem chk_script {a b : ByteArray} {c : Int} : chkR a b (some (firstB b b.size, c, a.size)) = (c, true) := by
  unfold chkR; exact if_pos ⟨rfl, strOf_first b⟩

theorem EditsProves_ok (w : World) (a b : ByteArray) (pi po ps : Int) (ha : a.size ≤ 12) (hb : b.size ≤ 12) (hok : okP pi po ps) :
    Calls Try.prog 17 [.string a, .string b, .agg #[.int .i64 pi, .int .i64 po, .int .i64 ps]].toArray w fun e w' => e = .returned (.bool true) ∧ Below w.heap.size w w' := by
  refine enter (N := 131) Try.func17 rfl rfl rfl ?_
  refine g_seq ?_
  refine g_region ?_
  refine s_tr (t_box rfl rfl) rfl rfl rfl rfl (fun b5 hb5 => ?_)
  refine s_y (y_assign rfl) rfl rfl rfl rfl ?_
  refine s_nil ?_
  refine g_then ?_
  refine g_seq ?_
  refine g_draw 12 (by kernel_rfl) ?_
  refine j_p (i := 0) rfl (y_move rfl) (by kernel_rfl) (by kernel_rfl) (by kernel_rfl) rfl rfl rfl rfl rfl (.inr (fun _ h => h)) ?_
  refine j_p (i := 2) rfl (y_move rfl) (by kernel_rfl) (by kernel_rfl) (by kernel_rfl) rfl rfl rfl rfl rfl (.inr (fun _ h => h)) ?_
  refine j_l (i := 4) rfl (y_ldn 0 rfl rfl agg_23 size_23 rfl rfl) (by kernel_rfl) (by kernel_rfl) (by kernel_rfl) (by kernel_rfl) rfl rfl rfl rfl rfl (.inr (fun _ h => h)) ?_
  refine j_tr (i := 1) rfl (t_call rfl rfl ent_19 (fun w h => by have h_ := text_any w a; rwa [textS_id ha] at h_)) (by kernel_rfl) rfl rfl rfl rfl (.inr (fun x w hb h => h)) (fun _ _ => ?_)
  refine j_tr (i := 3) rfl (t_call rfl rfl ent_19 (fun w h => by have h_ := text_any w b; rwa [textS_id hb] at h_)) (by kernel_rfl) rfl rfl rfl rfl (.inr (fun x w hb h => h)) (fun _ _ => ?_)
  refine j_tr (i := 5) rfl (t_call rfl rfl ent_20 (fun w h => Of_any w pi po ps)) (by kernel_rfl) rfl rfl rfl rfl (.inr (fun x w hb h => h)) (fun _ _ => ?_)
  refine j_tr (i := 6) rfl (t_call rfl rfl ent_18 (fun w h => Cost_ok w a b pi po ps ha hb hok)) (by kernel_rfl) rfl rfl rfl rfl (.inr (fun x w hb h => h)) (fun _ _ => ?_)
  refine j_p (i := 7) rfl (y_move rfl) (by kernel_rfl) (by kernel_rfl) (by kernel_rfl) rfl rfl rfl rfl rfl (.inr (fun _ h => h)) ?_
  refine j_p (i := 8) rfl (y_extract rfl rfl) (by kernel_rfl) (by kernel_rfl) (by kernel_rfl) rfl rfl rfl rfl rfl (.inr (fun _ h => h)) ?_
  refine j_p (i := 9) rfl (y_extract rfl rfl) (by kernel_rfl) (by kernel_rfl) (by kernel_rfl) rfl rfl rfl rfl rfl (.inr (fun _ h => h)) ?_
  refine j_p (i := 10) rfl (y_assign rfl) (by kernel_rfl) (by kernel_rfl) (by kernel_rfl) rfl rfl rfl rfl rfl (.inr (fun _ h => h)) ?_
  refine j_p (i := 11) rfl (y_assign rfl) (by kernel_rfl) (by kernel_rfl) (by kernel_rfl) rfl rfl rfl rfl rfl (.inr (fun _ h => h)) ?_
  refine j_nil (by kernel_rfl) ?_
  refine g_then ?_
  refine g_seq ?_
  refine g_seq ?_
  refine g_region ?_
  refine s_y (y_move rfl) rfl rfl rfl rfl ?_
  refine s_y (y_neq_f rfl rfl (by decide)) rfl rfl rfl rfl ?_
  refine s_y (y_move rfl) rfl rfl rfl rfl ?_
  refine s_y (y_move rfl) rfl rfl rfl rfl ?_
  refine s_y (y_move rfl) rfl rfl rfl rfl ?_
  refine s_y (y_ldn 0 rfl rfl agg_23 size_23 rfl rfl) rfl rfl rfl rfl ?_
  refine s_tr (t_call rfl rfl ent_21 (fun w h => fine_t w a b pi po ps ha hb hok)) rfl rfl rfl rfl (fun _ _ => ?_)
  refine s_y (y_not_t rfl) rfl rfl rfl rfl ?_
  refine s_y (y_pick_f rfl rfl) rfl rfl rfl rfl ?_
  refine s_nil ?_
  refine g_then ?_
  refine g_cond_f rfl ?_
  refine g_skip ?_
  refine g_then ?_
  refine g_seq ?_
  refine g_region ?_
  refine s_y (y_move rfl) rfl rfl rfl rfl ?_
  refine s_y (y_move rfl) rfl rfl rfl rfl ?_
  refine s_y (y_ldn 0 rfl rfl agg_23 size_23 rfl rfl) rfl rfl rfl rfl ?_
  refine s_tr (t_call rfl rfl ent_20 (fun w h => Of_any w pi po ps)) rfl rfl rfl rfl (fun _ _ => ?_)
  refine s_tr (t_callm (A := fun y : List (Int × Int) × Value × List (Nat × Obj) => (y.1.length ≤ 24 ∧ runE a pi po ps st0 y.1 = some (firstB b b.size, D a b pi po ps a.size b.size, a.size)) ∧ OwnP y.2.1 y.1 y.2.2 ∧ ∃ W : World, ∀ p ∈ y.2.2, W.heap[p.1]? = some p.2) (vf := fun y => .tuple #[y.2.1, .int .i64 0]) (mm := fun y => y.2.2) rfl rfl ent_27 (fun w h => (Script_ok w a b pi po ps ha hb hok).mono fun e w' ⟨s, hs, x, hx, he, hh⟩ => ⟨(s, x), ⟨hs, hx⟩, he, hh⟩)) rfl rfl rfl rfl (fun yS hyS => ?_)
  obtain ⟨ss, vS, mS⟩ := yS
  obtain ⟨⟨hS1, hS2⟩, hOS, hES⟩ := hyS
  simp only at hS1 hS2 hOS hES
  refine s_y (y_move rfl) rfl rfl rfl rfl ?_
  refine s_y (y_extract rfl rfl) rfl rfl rfl rfl ?_
  refine s_y (y_extract rfl rfl) rfl rfl rfl rfl ?_
  refine s_y (y_assign rfl) rfl rfl rfl rfl ?_
  refine s_y (y_assign rfl) rfl rfl rfl rfl ?_
  refine s_nil ?_
  refine g_then ?_
  refine g_seq ?_
  refine g_region ?_
  refine s_y (y_move rfl) rfl rfl rfl rfl ?_
  refine s_y (y_move rfl) rfl rfl rfl rfl ?_
  refine s_y (y_ldMn (mem_ar mS (List.mem_cons_self ..)) rfl agg_23 size_23 rfl rfl) rfl rfl rfl rfl ?_
  refine s_tr (t_call rfl rfl ent_20 (fun w h => Of_any w pi po ps)) rfl rfl rfl rfl (fun _ _ => ?_)
  refine s_tr (t_callm (A := fun x : Nat × Nat × Nat × List Value × List Nat => x.2.2.2.2.length = a.size + 1) (vf := fun x => .tuple #[.slice (some ⟨x.2.1, 0, none⟩) (a.size + 1) x.2.2.1, .int .i64 0]) (mm := fun x => gridM a b pi po ps x) rfl rfl ent_46 (fun w h => Heights_ok w a b pi po ps ha hb hok)) rfl rfl rfl rfl (fun xg hxg => ?_)
  obtain ⟨g, bb, cap, jk, Bs⟩ := xg
  have hl : Bs.length = a.size + 1 := hxg
  refine s_y (y_move rfl) rfl rfl rfl rfl ?_
  refine s_y (y_extract rfl rfl) rfl rfl rfl rfl ?_
  refine s_y (y_extract rfl rfl) rfl rfl rfl rfl ?_
  refine s_y (y_assign rfl) rfl rfl rfl rfl ?_
  refine s_y (y_assign rfl) rfl rfl rfl rfl ?_
  refine s_nil ?_
  refine g_then ?_
  refine g_seq ?_
  refine g_region ?_
  refine s_y (y_move rfl) rfl rfl rfl rfl ?_
  refine s_y (y_move rfl) rfl rfl rfl rfl ?_
  refine s_y (y_ldMn (List.mem_cons_of_mem _ (List.mem_cons_of_mem _ (mem_ar (rowsM (D a b pi po ps) (b.size + 1) Bs) (mem_ar mS (List.mem_cons_self ..))))) rfl agg_23 size_23 rfl rfl) rfl rfl rfl rfl ?_
  refine s_tr (t_call rfl rfl ent_20 (fun w h => Of_any w pi po ps)) rfl rfl rfl rfl (fun _ _ => ?_)
  refine s_y (y_move rfl) rfl rfl rfl rfl ?_
  refine s_tr (t_callm rfl rfl ent_61 (fun w h => CloneE_any w _ ss (hOS.rd fun p hp => h.at_ p (List.mem_cons_of_mem _ (List.mem_cons_of_mem _ (mem_ar (rowsM (D a b pi po ps) (b.size + 1) Bs) (mem_al mS hp))))) (by omega))) rfl rfl rfl rfl (fun x2 hx3 => ?_)
  obtain ⟨vo1, mo1⟩ := x2
  obtain ⟨hOo1, hEo1⟩ := hx3
  refine s_tr (t_call rfl rfl ent_35 (fun w h => by have h_ := Check_any w a b pi po ps _ ss ha hb hok (hOo1.rd fun p hp => h.at_ p (mem_al mo1 hp)) (by omega); rw [hS2, chk_script] at h_; exact h_)) rfl rfl rfl rfl (fun _ _ => ?_)
  refine s_y (y_move rfl) rfl rfl rfl rfl ?_
  refine s_y (y_extract rfl rfl) rfl rfl rfl rfl ?_
  refine s_y (y_extract rfl rfl) rfl rfl rfl rfl ?_
  refine s_y (y_extract rfl rfl) rfl rfl rfl rfl ?_
  refine s_y (y_assign rfl) rfl rfl rfl rfl ?_
  refine s_y (y_assign rfl) rfl rfl rfl rfl ?_
  refine s_y (y_assign rfl) rfl rfl rfl rfl ?_
  refine s_nil ?_
  refine g_then ?_
  refine g_seq ?_
  refine g_region ?_
  refine s_y (y_move rfl) rfl rfl rfl rfl ?_
  refine s_y (y_move rfl) rfl rfl rfl rfl ?_
  refine s_y (y_ldMn (mem_ar mo1 (List.mem_cons_of_mem _ (List.mem_cons_of_mem _ (mem_ar (rowsM (D a b pi po ps) (b.size + 1) Bs) (mem_ar mS (List.mem_cons_self ..)))))) rfl agg_23 size_23 rfl rfl) rfl rfl rfl rfl ?_
  refine s_tr (t_call rfl rfl ent_20 (fun w h => Of_any w pi po ps)) rfl rfl rfl rfl (fun _ _ => ?_)
  refine s_y (y_move rfl) rfl rfl rfl rfl ?_
  refine s_tr (t_callm (A := fun y : Value × List Value × List (Nat × Obj) => OwnVV y.1 y.2.1 (((tabD a b pi po ps).take 16).map (·.take 16)) y.2.2) (vf := fun y => y.1) (mm := fun y => y.2.2) rfl rfl ent_48 (fun w h => lists_any w _ (Bs.map (rowV (b.size + 1))) (tabD a b pi po ps) (grid_rows (a := a) (b := b) (pi := pi) (po := po) (ps := ps) (x := (g, bb, cap, jk, Bs)) hl (fun p hp => h.at_ p (List.Sublist.subset (sub_skip mo1 (List.Sublist.cons_cons _ (List.Sublist.cons_cons _ (sub_here (rowsM (D a b pi po ps) (b.size + 1) Bs) _)))) hp))) (by rw [tabD_len]; omega))) rfl rfl rfl rfl (fun yL hyL => ?_)
  obtain ⟨vL, wL, mL⟩ := yL
  have hOL : OwnVV vL wL (((tabD a b pi po ps).take 16).map (·.take 16)) mL := hyL
  refine s_tr (t_call rfl rfl ent_47 (fun w h => by have h_ := CheckH_ok w a b pi po ps _ wL _ (hOL _ (fun p hp => h.at_ p (mem_al mL hp))) (by simp only [List.length_map, List.length_take]; rw [tabD_len]; omega) ha hb hok; rw [tab_cut hok ha hb] at h_; exact h_)) rfl rfl rfl rfl (fun _ _ => ?_)
  refine s_y (y_move rfl) rfl rfl rfl rfl ?_
  refine s_y (y_extract rfl rfl) rfl rfl rfl rfl ?_
  refine s_y (y_extract rfl rfl) rfl rfl rfl rfl ?_
  refine s_y (y_extract rfl rfl) rfl rfl rfl rfl ?_
  refine s_y (y_assign rfl) rfl rfl rfl rfl ?_
  refine s_y (y_assign rfl) rfl rfl rfl rfl ?_
  refine s_y (y_assign rfl) rfl rfl rfl rfl ?_
  refine s_nil ?_
  refine g_then ?_
  refine g_seq ?_
  refine g_region ?_
  refine s_y (y_move rfl) rfl rfl rfl rfl ?_
  refine s_y (y_move rfl) rfl rfl rfl rfl ?_
  refine s_tr (t_call rfl rfl ent_37 (fun w h => Apply_ok w a b pi po ps _ ss _ ha hok (hOS.rd fun p hp => h.at_ p (mem_ar mL (mem_ar mo1 (List.mem_cons_of_mem _ (List.mem_cons_of_mem _ (mem_ar (rowsM (D a b pi po ps) (b.size + 1) Bs) (mem_al mS hp))))))) hS1 hS2)) rfl rfl rfl rfl (fun _ _ => ?_)
  refine s_y (y_move rfl) rfl rfl rfl rfl ?_
  refine s_y (y_extract rfl rfl) rfl rfl rfl rfl ?_
  refine s_y (y_extract rfl rfl) rfl rfl rfl rfl ?_
  refine s_y (y_assign rfl) rfl rfl rfl rfl ?_
  refine s_y (y_assign rfl) rfl rfl rfl rfl ?_
  refine s_nil ?_
  refine g_then ?_
  refine g_seq ?_
  refine g_region ?_
  refine s_y (y_move rfl) rfl rfl rfl rfl ?_
  refine s_y (y_eql_t rfl rfl (by decide)) rfl rfl rfl rfl ?_
  refine s_y (y_move rfl) rfl rfl rfl rfl ?_
  refine s_y (y_move rfl) rfl rfl rfl rfl ?_
  refine s_y (y_eql_t rfl rfl (by decide)) rfl rfl rfl rfl ?_
  refine s_y (y_pick_t rfl rfl) rfl rfl rfl rfl ?_
  refine s_y (y_move rfl) rfl rfl rfl rfl ?_
  refine s_y (y_move rfl) rfl rfl rfl rfl ?_
  refine s_y (y_eql_t rfl rfl (by decide)) rfl rfl rfl rfl ?_
  refine s_y (y_pick_t rfl rfl) rfl rfl rfl rfl ?_
  refine s_y (y_move rfl) rfl rfl rfl rfl ?_
  refine s_y (y_move rfl) rfl rfl rfl rfl ?_
  refine s_y (y_eql_t rfl rfl (by decide)) rfl rfl rfl rfl ?_
  refine s_y (y_pick_t rfl rfl) rfl rfl rfl rfl ?_
  refine s_y (y_move rfl) rfl rfl rfl rfl ?_
  refine s_y (y_move rfl) rfl rfl rfl rfl ?_
  refine s_y (y_eql_t rfl rfl (by decide)) rfl rfl rfl rfl ?_
  refine s_y (y_pick_t rfl rfl) rfl rfl rfl rfl ?_
  refine s_y (y_move rfl) rfl rfl rfl rfl ?_
  refine s_y (y_move rfl) rfl rfl rfl rfl ?_
  refine s_y (y_pick_t rfl rfl) rfl rfl rfl rfl ?_
  refine s_y (y_move rfl) rfl rfl rfl rfl ?_
  refine s_y (y_move rfl) rfl rfl rfl rfl ?_
  refine s_y (y_pick_t rfl rfl) rfl rfl rfl rfl ?_
  refine s_y (y_move rfl) rfl rfl rfl rfl ?_
  refine s_y (y_move rfl) rfl rfl rfl rfl ?_
  refine s_y (y_move rfl) rfl rfl rfl rfl ?_
  refine s_y (y_eql_t rfl rfl (rfl)) rfl rfl rfl rfl ?_
  refine s_y (y_pick_t rfl rfl) rfl rfl rfl rfl ?_
  refine s_y (y_move rfl) rfl rfl rfl rfl ?_
  refine s_y (y_move rfl) rfl rfl rfl rfl ?_
  refine s_y (y_move rfl) rfl rfl rfl rfl ?_
  refine s_y (y_eql_t rfl rfl (rfl)) rfl rfl rfl rfl ?_
  refine s_y (y_pick_t rfl rfl) rfl rfl rfl rfl ?_
  refine s_y (y_move rfl) rfl rfl rfl rfl ?_
  refine s_y (y_move rfl) rfl rfl rfl rfl ?_
  refine s_y (y_move rfl) rfl rfl rfl rfl ?_
  refine s_y (y_seql_t rfl rfl) rfl rfl rfl rfl ?_
  refine s_y (y_pick_t rfl rfl) rfl rfl rfl rfl ?_
  refine s_y (y_move rfl) rfl rfl rfl rfl ?_
  refine s_tr (t_call rfl rfl ent_22 (fun w h => awakeE_t w)) rfl rfl rfl rfl (fun _ _ => ?_)
  refine s_y (y_pick_t rfl rfl) rfl rfl rfl rfl ?_
  refine s_y (y_assign rfl) rfl rfl rfl rfl ?_
  refine s_nil ?_
  refine g_then ?_
  refine g_ret ?_
  exact g_end trivial (fun a w ha hq_ => res1 ha rfl rfl  w) (fun w h => ⟨rfl, h.below⟩)

theorem EditsProves_no (w : World) (a b : ByteArray) (pi po ps : Int) (hno : ¬ (a.size ≤ 12 ∧ b.size ≤ 12 ∧ okP pi po ps)) :
    Calls Try.prog 17 [.string a, .string b, .agg #[.int .i64 pi, .int .i64 po, .int .i64 ps]].toArray w fun e w' => e = .returned (.bool true) ∧ Below w.heap.size w w' := by
  refine enter (N := 131) Try.func17 rfl rfl rfl ?_
  refine g_seq ?_
  refine g_region ?_
  refine s_tr (t_box rfl rfl) rfl rfl rfl rfl (fun b5 hb5 => ?_)
  refine s_y (y_assign rfl) rfl rfl rfl rfl ?_
  refine s_nil ?_
  refine g_then ?_
  refine g_seq ?_
  refine g_draw 12 (by kernel_rfl) ?_
  refine j_p (i := 0) rfl (y_move rfl) (by kernel_rfl) (by kernel_rfl) (by kernel_rfl) rfl rfl rfl rfl rfl (.inr (fun _ h => h)) ?_
  refine j_p (i := 2) rfl (y_move rfl) (by kernel_rfl) (by kernel_rfl) (by kernel_rfl) rfl rfl rfl rfl rfl (.inr (fun _ h => h)) ?_
  refine j_l (i := 4) rfl (y_ldn 0 rfl rfl agg_23 size_23 rfl rfl) (by kernel_rfl) (by kernel_rfl) (by kernel_rfl) (by kernel_rfl) rfl rfl rfl rfl rfl (.inr (fun _ h => h)) ?_
  refine j_tr (i := 1) rfl (t_call rfl rfl ent_19 (fun w h => text_any w _)) (by kernel_rfl) rfl rfl rfl rfl (.inr (fun x w hb h => h)) (fun _ _ => ?_)
  refine j_tr (i := 3) rfl (t_call rfl rfl ent_19 (fun w h => text_any w _)) (by kernel_rfl) rfl rfl rfl rfl (.inr (fun x w hb h => h)) (fun _ _ => ?_)
  refine j_tr (i := 5) rfl (t_call rfl rfl ent_20 (fun w h => Of_any w pi po ps)) (by kernel_rfl) rfl rfl rfl rfl (.inr (fun x w hb h => h)) (fun _ _ => ?_)
  refine j_tr (i := 6) rfl (t_call rfl rfl ent_18 (fun w h => by have h_ := Cost_any w (textS a) (textS b) pi po ps; rwa [costR_no (not_text hno)] at h_)) (by kernel_rfl) rfl rfl rfl rfl (.inr (fun x w hb h => h)) (fun _ _ => ?_)
  refine j_p (i := 7) rfl (y_move rfl) (by kernel_rfl) (by kernel_rfl) (by kernel_rfl) rfl rfl rfl rfl rfl (.inr (fun _ h => h)) ?_
  refine j_p (i := 8) rfl (y_extract rfl rfl) (by kernel_rfl) (by kernel_rfl) (by kernel_rfl) rfl rfl rfl rfl rfl (.inr (fun _ h => h)) ?_
  refine j_p (i := 9) rfl (y_extract rfl rfl) (by kernel_rfl) (by kernel_rfl) (by kernel_rfl) rfl rfl rfl rfl rfl (.inr (fun _ h => h)) ?_
  refine j_p (i := 10) rfl (y_assign rfl) (by kernel_rfl) (by kernel_rfl) (by kernel_rfl) rfl rfl rfl rfl rfl (.inr (fun _ h => h)) ?_
  refine j_p (i := 11) rfl (y_assign rfl) (by kernel_rfl) (by kernel_rfl) (by kernel_rfl) rfl rfl rfl rfl rfl (.inr (fun _ h => h)) ?_
  refine j_nil (by kernel_rfl) ?_
  refine g_then ?_
  refine g_seq ?_
  refine g_seq ?_
  refine g_region ?_
  refine s_y (y_move rfl) rfl rfl rfl rfl ?_
  refine s_y (y_neq_t rfl rfl (by decide)) rfl rfl rfl rfl ?_
  refine s_y (y_move rfl) rfl rfl rfl rfl ?_
  refine s_no rfl rfl rfl ?_
  refine s_no rfl rfl rfl ?_
  refine s_no rfl rfl rfl ?_
  refine s_no rfl rfl rfl ?_
  refine s_no rfl rfl rfl ?_
  refine s_y (y_pick_t rfl rfl) rfl rfl rfl rfl ?_
  refine s_nil ?_
  refine g_then ?_
  refine g_cond_t rfl ?_
  refine g_seq ?_
  refine g_region ?_
  refine s_y (y_move rfl) rfl rfl rfl rfl ?_
  refine s_y (y_eql_t rfl rfl (by decide)) rfl rfl rfl rfl ?_
  refine s_y (y_move rfl) rfl rfl rfl rfl ?_
  refine s_tr (t_call rfl rfl ent_22 (fun w h => awakeE_t w)) rfl rfl rfl rfl (fun _ _ => ?_)
  refine s_y (y_pick_t rfl rfl) rfl rfl rfl rfl ?_
  refine s_y (y_assign rfl) rfl rfl rfl rfl ?_
  refine s_nil ?_
  refine g_then ?_
  refine g_ret ?_
  refine g_thenr ?_
  exact g_end trivial (fun a w ha hq_ => res1 ha rfl rfl  w) (fun w h => ⟨rfl, h.below⟩)

theorem EditsProves_law (w : World) (a b : ByteArray) (pi po ps : Int) (_ : a.size ≤ 140737488351232) (_ : b.size ≤ 140737488351232) (_ : (Lit.int .i64 pi).wf = true) (_ : (Lit.int .i64 po).wf = true) (_ : (Lit.int .i64 ps).wf = true) : Calls Try.prog 17 [.string a, .string b, .agg #[.int .i64 pi, .int .i64 po, .int .i64 ps]].toArray w fun e w' => e = .returned (.bool true) ∧ Below w.heap.size w w' := by
  by_cases h : a.size ≤ 12 ∧ b.size ≤ 12 ∧ okP pi po ps
  · exact EditsProves_ok w a b pi po ps h.1 h.2.1 h.2.2
  · exact EditsProves_no w a b pi po ps h

end Go.Proofs.Ytnnpdgegejklpaa
