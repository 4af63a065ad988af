/- duets: Compare, Best; the laws DuetsBest, DuetsWorth, DuetsRight. -/
import Derived.Test.YtolalckejnijkaaDuBst
namespace Go.Proofs.Ytolalckejnijkaa
open Go.RowKit Go.Sx 
set_option linter.unusedVariables false
set_option linter.unusedSimpArgs false
set_option maxRecDepth 100000
set_option maxHeartbeats 4000000

private theorem ent_72 : Enters Try.prog 72 := enters_of Try.func72 (by kernel_rfl) rfl
private theorem sle_22 : Try.prog.underlying 22 = some (.slice (Try.prog.elem 22)) := by kernel_rfl
private theorem size_3 : (Try.prog.info? 3).map (·.size) = some 1 := by kernel_rfl
private theorem agg_3 : isAggB Try.prog 3 = some false := by kernel_rfl
private theorem ent_64 : Enters Try.prog 64 := enters_of Try.func64 (by kernel_rfl) rfl
private theorem ent_46 : Enters Try.prog 46 := enters_of Try.func46 (by kernel_rfl) rfl
private theorem bld_48_0 (x0a : Option Addr) (x0n x0c : Nat) (w : World) : (Instr.build 48 #[(0, (.slice x0a x0n x0c))]).run Try.prog w = .ok (.agg #[(.slice x0a x0n x0c), (.slice none 0 0)]) w := by kernel_rfl
private theorem ent_62 : Enters Try.prog 62 := enters_of Try.func62 (by kernel_rfl) rfl
private theorem zero_67 : (Try.prog.info? 67).bind (·.zero) = some (.agg #[(.slice none 0 0), (.int .i64 0), (.bool false)]) := by kernel_rfl
private theorem size_67 : (Try.prog.info? 67).map (·.size) = some 3 := by kernel_rfl
private theorem fld_67_2 (b off : Nat) (w : World) : (Instr.fieldAt 67 (.pointer (some ⟨b, off, none⟩)) 2).run Try.prog w = .ok (.pointer (some ⟨b, off + 2, none⟩)) w := by kernel_rfl
private theorem agg_4 : isAggB Try.prog 4 = some false := by kernel_rfl
private theorem fld_67_0 (b off : Nat) (w : World) : (Instr.fieldAt 67 (.pointer (some ⟨b, off, none⟩)) 0).run Try.prog w = .ok (.pointer (some ⟨b, off, none⟩)) w := by kernel_rfl
private theorem agg_22 : isAggB Try.prog 22 = some false := by kernel_rfl
private theorem ent_44 : Enters Try.prog 44 := enters_of Try.func44 (by kernel_rfl) rfl
private theorem ent_17 : Enters Try.prog 17 := enters_of Try.func17 (by kernel_rfl) rfl
private theorem ent_40 : Enters Try.prog 40 := enters_of Try.func40 (by kernel_rfl) rfl
private theorem ent_41 : Enters Try.prog 41 := enters_of Try.func41 (by kernel_rfl) rfl
private theorem ent_18 : Enters Try.prog 18 := enters_of Try.func18 (by kernel_rfl) rfl
private theorem ent_42 : Enters Try.prog 42 := enters_of Try.func42 (by kernel_rfl) rfl
private theorem ent_26 : Enters Try.prog 26 := enters_of Try.func26 (by kernel_rfl) rfl
private theorem ent_22 : Enters Try.prog 22 := enters_of Try.func22 (by kernel_rfl) rfl
private theorem ent_43 : Enters Try.prog 43 := enters_of Try.func43 (by kernel_rfl) rfl
private theorem ent_19 : Enters Try.prog 19 := enters_of Try.func19 (by kernel_rfl) rfl
private theorem ent_27 : Enters Try.prog 27 := enters_of Try.func27 (by kernel_rfl) rfl
private theorem ent_45 : Enters Try.prog 45 := enters_of Try.func45 (by kernel_rfl) rfl
private theorem ent_16 : Enters Try.prog 16 := enters_of Try.func16 (by kernel_rfl) rfl
private theorem ent_35 : Enters Try.prog 35 := enters_of Try.func35 (by kernel_rfl) rfl
private theorem ent_39 : Enters Try.prog 39 := enters_of Try.func39 (by kernel_rfl) rfl

def cmpI (x y : Int) : Int := if x < y then -1 else if x > y then 1 else 0
theorem cmpI_zero {x y : Int} : cmpI x y = 0 ↔ x = y := by unfold cmpI; (repeat' split) <;> omega
theorem cmp_hit {x y z : Int} (h : ¬ cmpI x y = 0) : (if x < y then -1 else if x > y then 1 else z) = cmpI x y := by
  unfold cmpI at h ⊢
  by_cases h1 : x < y
  · rw [if_pos h1, if_pos h1]
  · by_cases h2 : x > y
    · rw [if_neg h1, if_pos h2, if_neg h1, if_pos h2]
    · rw [if_neg h1, if_neg h2] at h; exact absurd rfl h
theorem drop_rd {xs : List Int} {i : Nat} (h : i < xs.length) : xs.drop i = rdI xs (i : Int) :: xs.drop (i + 1) := by
  rw [rdI_lt h]; exact List.drop_eq_getElem_cons h
theorem cmp_drop {xs ys : List Int} {i : Nat} (hx : i < xs.length) (hy : i < ys.length) : cmpL (xs.drop i) (ys.drop i) = if rdI xs (i : Int) < rdI ys (i : Int) then -1 else if rdI xs (i : Int) > rdI ys (i : Int) then 1 else cmpL (xs.drop (i + 1)) (ys.drop (i + 1)) := by
  rw [drop_rd hx, drop_rd hy]; rfl

theorem CompareI_any (w : World) (x y : Int) :
    Calls Try.prog 64 [.int .i64 x, .int .i64 y].toArray w fun e w' => e = .returned (.int .i64 (cmpI x y)) ∧ Below w.heap.size w w' := by
  refine enter (N := 20) Try.func64 rfl rfl rfl ?_
  refine g_seq ?_
  refine g_region ?_
  refine s_y (y_assign rfl) rfl rfl rfl rfl ?_
  refine s_nil ?_
  refine g_then ?_
  refine g_seq ?_
  refine g_region ?_
  refine s_y (y_move rfl) rfl rfl rfl rfl ?_
  refine s_tr (t_call rfl rfl ent_72 (fun w h => isNaN_any w _)) rfl rfl rfl rfl (fun _ _ => ?_)
  refine s_y (y_assign rfl) rfl rfl rfl rfl ?_
  refine s_nil ?_
  refine g_then ?_
  refine g_seq ?_
  refine g_region ?_
  refine s_y (y_move rfl) rfl rfl rfl rfl ?_
  refine s_tr (t_call rfl rfl ent_72 (fun w h => isNaN_any w _)) rfl rfl rfl rfl (fun _ _ => ?_)
  refine s_y (y_assign rfl) rfl rfl rfl rfl ?_
  refine s_nil ?_
  refine g_then ?_
  refine g_seq ?_
  refine g_seq ?_
  refine g_region ?_
  refine s_y (y_move rfl) rfl rfl rfl rfl ?_
  refine s_nil ?_
  refine g_then ?_
  refine g_cond_f rfl ?_
  refine g_skip ?_
  refine g_then ?_
  refine g_seq ?_
  refine g_seq ?_
  refine g_region ?_
  refine s_y (y_move rfl) rfl rfl rfl rfl ?_
  refine s_nil ?_
  refine g_then ?_
  refine g_cond_f rfl ?_
  refine g_skip ?_
  refine g_then ?_
  refine g_seq ?_
  refine g_seq ?_
  refine g_region ?_
  refine s_y (y_move rfl) rfl rfl rfl rfl ?_
  refine s_y (y_move rfl) rfl rfl rfl rfl ?_
  refine s_y (y_lss rfl rfl) rfl rfl rfl rfl ?_
  refine s_nil ?_
  refine g_then ?_
  refine g_cond rfl (fun cq1 => ?_) (fun cq1 => ?_)
  · (try simp at cq1)
    refine g_seq ?_
    refine g_region ?_
    refine s_y (y_assign rfl) rfl rfl rfl rfl ?_
    refine s_nil ?_
    refine g_then ?_
    refine g_ret ?_
    refine g_thenr ?_
    rw [show cmpI x y = (-1) from by unfold cmpI; (repeat' split) <;> first | rfl | omega]
    exact g_end trivial (fun a w ha hq_ => res1 ha rfl rfl  w) (fun w h => ⟨rfl, h.below⟩)
  · (try simp at cq1)
    refine g_skip ?_
    refine g_then ?_
    refine g_seq ?_
    refine g_seq ?_
    refine g_region ?_
    refine s_y (y_move rfl) rfl rfl rfl rfl ?_
    refine s_y (y_move rfl) rfl rfl rfl rfl ?_
    refine s_y (y_gtr rfl rfl) rfl rfl rfl rfl ?_
    refine s_nil ?_
    refine g_then ?_
    refine g_cond rfl (fun cq2 => ?_) (fun cq2 => ?_)
    · (try simp at cq2)
      refine g_seq ?_
      refine g_region ?_
      refine s_y (y_assign rfl) rfl rfl rfl rfl ?_
      refine s_nil ?_
      refine g_then ?_
      refine g_ret ?_
      refine g_thenr ?_
      rw [show cmpI x y = 1 from by unfold cmpI; (repeat' split) <;> first | rfl | omega]
      exact g_end trivial (fun a w ha hq_ => res1 ha rfl rfl  w) (fun w h => ⟨rfl, h.below⟩)
    · (try simp at cq2)
      refine g_skip ?_
      refine g_then ?_
      refine g_seq ?_
      refine g_region ?_
      refine s_y (y_assign rfl) rfl rfl rfl rfl ?_
      refine s_nil ?_
      refine g_then ?_
      refine g_ret ?_
      rw [show cmpI x y = 0 from by unfold cmpI; (repeat' split) <;> first | rfl | omega]
      exact g_end trivial (fun a w ha hq_ => res1 ha rfl rfl  w) (fun w h => ⟨rfl, h.below⟩)

theorem Compare_any (w : World) (v v' : Value) (xs ys : List Int) (hv : RdV (Value.int .i64) w v xs) (hv' : RdV (Value.int .i64) w v' ys) (hl : xs.length ≤ 1000000) (hl' : ys.length ≤ 1000000) :
    Calls Try.prog 45 [v, v'].toArray w fun e w' => e = .returned (.int .i64 (cmpL xs ys)) ∧ Below w.heap.size w w' := by
  refine enter (N := 36) Try.func45 rfl rfl rfl ?_
  refine g_seq ?_
  refine g_region ?_
  refine s_y (y_assign rfl) rfl rfl rfl rfl ?_
  refine s_nil ?_
  refine g_then ?_
  refine g_seq ?_
  refine g_seq ?_
  refine g_region ?_
  refine s_y (y_move rfl) rfl rfl rfl rfl ?_
  refine s_y (y_lenV (n := xs.length) rfl (by obtain ⟨A, c, h1, _⟩ := hv; exact ⟨A, c, h1⟩) sle_22) rfl rfl rfl rfl ?_
  refine s_y (y_move rfl) rfl rfl rfl rfl ?_
  refine s_nil ?_
  refine g_then ?_
  refine g_block ?_
  refine g_loop (fun (i : Nat) act W => (i ≤ xs.length ∧ i ≤ ys.length) ∧ ∃ (w1 : World), (cmpL (xs.drop i) (ys.drop i) = cmpL xs ys) ∧ Has 36 [] [(0, v), (1, v'), (9, v), (10, .int .i64 (xs.length : Nat)), (11, .int .i64 (i : Int))] act ∧ Hp w w1 ([]) W) (fun i => xs.length - i) 0 (fun act W ha hw => ⟨by omega, W, (by rfl), ha.weak (sub_get ⟨rfl, rfl, rfl, rfl, rfl, trivial⟩), hw.toHq.lookSub (List.Sublist.refl _)⟩) ?_
  intro i act W ⟨hb_i, w1, hc, ha, hw⟩
  refine g_go ha hw ?_
  clear ha hw act W
  refine g_seq ?_
  refine g_region ?_
  refine s_y (y_lss rfl rfl) rfl rfl rfl rfl ?_
  refine s_nil ?_
  refine g_then ?_
  refine g_seq ?_
  refine g_cond rfl (fun cq1 => ?_) (fun cq1 => ?_)
  · (try simp at cq1)
    refine g_skip ?_
    refine g_then ?_
    refine g_seq ?_
    refine g_block ?_
    refine g_seq ?_
    refine g_region ?_
    refine s_y (y_move rfl) rfl rfl rfl rfl ?_
    refine s_y (y_idxV (enc := (Value.int .i64)) rfl rfl hv Try.underlying22 size_3 (by omega) (by omega)) rfl rfl rfl rfl ?_
    refine s_y (y_ldV (enc := (Value.int .i64)) (xs := xs) (fun w h => hv.rdl.below h.below) rfl agg_3 (rdI_at (by omega) (by omega))) rfl rfl rfl rfl ?_
    refine s_y (y_assign rfl) rfl rfl rfl rfl ?_
    refine s_y (y_assign rfl) rfl rfl rfl rfl ?_
    refine s_nil ?_
    refine g_then ?_
    refine g_seq ?_
    refine g_seq ?_
    refine g_region ?_
    refine s_y (y_move rfl) rfl rfl rfl rfl ?_
    refine s_y (y_move rfl) rfl rfl rfl rfl ?_
    refine s_y (y_lenV (n := ys.length) rfl (by obtain ⟨A, c, h1, _⟩ := hv'; exact ⟨A, c, h1⟩) sle_22) rfl rfl rfl rfl ?_
    refine s_y (y_geq rfl rfl) rfl rfl rfl rfl ?_
    refine s_nil ?_
    refine g_then ?_
    refine g_cond rfl (fun cq2 => ?_) (fun cq2 => ?_)
    · (try simp at cq2)
      refine g_seq ?_
      refine g_region ?_
      refine s_y (y_assign rfl) rfl rfl rfl rfl ?_
      refine s_nil ?_
      refine g_then ?_
      refine g_ret ?_
      refine g_thenr ?_
      refine g_inbr ?_
      refine g_thenr ?_
      refine g_thenr ?_
      refine g_inbr ?_
      refine g_thenr ?_
      rw [show cmpL xs ys = 1 from by rw [← hc, drop_rd (xs := xs) (by omega), show ys.drop i = [] from List.drop_eq_nil_of_le (by omega)]; rfl]
      exact g_end trivial (fun a w ha hq_ => res1 ha rfl rfl  w) (fun w h => ⟨rfl, h.below⟩)
    · (try simp at cq2)
      refine g_skip ?_
      refine g_then ?_
      refine g_seq ?_
      refine g_region ?_
      refine s_y (y_move rfl) rfl rfl rfl rfl ?_
      refine s_y (y_move rfl) rfl rfl rfl rfl ?_
      refine s_y (y_idxV (enc := (Value.int .i64)) rfl rfl hv' Try.underlying22 size_3 (by omega) (by omega)) rfl rfl rfl rfl ?_
      refine s_y (y_ldV (enc := (Value.int .i64)) (xs := ys) (fun w h => hv'.rdl.below h.below) rfl agg_3 (rdI_at (by omega) (by omega))) rfl rfl rfl rfl ?_
      refine s_y (y_assign rfl) rfl rfl rfl rfl ?_
      refine s_nil ?_
      refine g_then ?_
      refine g_seq ?_
      refine g_region ?_
      refine s_y (y_move rfl) rfl rfl rfl rfl ?_
      refine s_y (y_move rfl) rfl rfl rfl rfl ?_
      refine s_tr (t_call rfl rfl ent_64 (fun w h => CompareI_any w _ _)) rfl rfl rfl rfl (fun _ _ => ?_)
      refine s_y (y_assign rfl) rfl rfl rfl rfl ?_
      refine s_nil ?_
      refine g_then ?_
      refine g_seq ?_
      refine g_region ?_
      refine s_y (y_move rfl) rfl rfl rfl rfl ?_
      refine s_y (y_neq rfl rfl) rfl rfl rfl rfl ?_
      refine s_nil ?_
      refine g_then ?_
      refine g_cond rfl (fun cq3 => ?_) (fun cq3 => ?_)
      · (try simp at cq3)
        have hci : ¬ cmpI (rdI xs (i : Int)) (rdI ys (i : Int)) = 0 := by simpa using cq3
        refine g_seq ?_
        refine g_region ?_
        refine s_y (y_move rfl) rfl rfl rfl rfl ?_
        refine s_y (y_assign rfl) rfl rfl rfl rfl ?_
        refine s_nil ?_
        refine g_then ?_
        refine g_ret ?_
        refine g_inbr ?_
        refine g_thenr ?_
        refine g_thenr ?_
        refine g_inbr ?_
        refine g_thenr ?_
        rw [show cmpL xs ys = cmpI (rdI xs (i : Int)) (rdI ys (i : Int)) from by rw [← hc, cmp_drop (by omega) (by omega)]; exact cmp_hit hci]
        exact g_end trivial (fun a w ha hq_ => res1 ha rfl rfl  w) (fun w h => ⟨rfl, h.below⟩)
      · (try simp at cq3)
        have hci : cmpI (rdI xs (i : Int)) (rdI ys (i : Int)) = 0 := by simpa using cq3
        have hee := cmpI_zero.1 hci
        refine g_skip ?_
        refine g_inb ?_
        refine g_then ?_
        refine g_region ?_
        refine s_y (y_add rfl rfl (by omega) (by omega)) rfl rfl rfl rfl ?_
        refine s_y (y_move rfl) rfl rfl rfl rfl ?_
        refine s_nil ?_
        refine g_then ?_
        exact fun act W ha hw => ⟨i + 1, by omega, by omega, W, (by rw [← hc, cmp_drop (i := i) (by omega) (by omega), if_neg (by omega), if_neg (by omega)]), ha.weak (sub_get ⟨rfl, rfl, rfl, rfl, rfl, trivial⟩), hw.toHq.lookSub (List.Sublist.refl _)⟩
  · (try simp at cq1)
    refine g_exit ?_
    refine g_thenx ?_
    refine g_thenx ?_
    refine g_inbx ?_
    refine g_then ?_
    refine g_seq ?_
    refine g_seq ?_
    refine g_region ?_
    refine s_y (y_move rfl) rfl rfl rfl rfl ?_
    refine s_y (y_lenV (n := xs.length) rfl (by obtain ⟨A, c, h1, _⟩ := hv; exact ⟨A, c, h1⟩) sle_22) rfl rfl rfl rfl ?_
    refine s_y (y_move rfl) rfl rfl rfl rfl ?_
    refine s_y (y_lenV (n := ys.length) rfl (by obtain ⟨A, c, h1, _⟩ := hv'; exact ⟨A, c, h1⟩) sle_22) rfl rfl rfl rfl ?_
    refine s_y (y_lss rfl rfl) rfl rfl rfl rfl ?_
    refine s_nil ?_
    refine g_then ?_
    refine g_cond rfl (fun cq4 => ?_) (fun cq4 => ?_)
    · (try simp at cq4)
      refine g_seq ?_
      refine g_region ?_
      refine s_y (y_assign rfl) rfl rfl rfl rfl ?_
      refine s_nil ?_
      refine g_then ?_
      refine g_ret ?_
      refine g_thenr ?_
      rw [show cmpL xs ys = (-1) from by rw [← hc, show xs.drop i = [] from List.drop_eq_nil_of_le (by omega), drop_rd (xs := ys) (by omega)]; rfl]
      exact g_end trivial (fun a w ha hq_ => res1 ha rfl rfl  w) (fun w h => ⟨rfl, h.below⟩)
    · (try simp at cq4)
      refine g_skip ?_
      refine g_then ?_
      refine g_seq ?_
      refine g_region ?_
      refine s_y (y_assign rfl) rfl rfl rfl rfl ?_
      refine s_nil ?_
      refine g_then ?_
      refine g_ret ?_
      rw [show cmpL xs ys = 0 from by rw [← hc, show xs.drop i = [] from List.drop_eq_nil_of_le (by omega), show ys.drop i = [] from List.drop_eq_nil_of_le (by omega)]; rfl]
      exact g_end trivial (fun a w ha hq_ => res1 ha rfl rfl  w) (fun w h => ⟨rfl, h.below⟩)

theorem best_any {g : List Int} (hgl : g.length ≤ 8) (hgn : ∀ x ∈ g, 0 ≤ x ∧ x ≤ 20) : ∀ k, BestAt g k
  | 0 => fun ag as_ cg cs s mb es clock mm w0 wE hle hsn hb0 hge hmb hmm hS hg hs => best_full g hgl hgn ag as_ cg cs s mb es clock mm w0 wE 0 hle hsn hb0 hge hmb hmm hS hg hs
  | kk + 1 => fun ag as_ cg cs s mb es clock mm w0 wE hle hsn hb0 hge hmb hmm hS hg hs => by
    obtain ⟨F, hM_, hFs⟩ := id hS
    cases hF : F (tailK s) with
    | none => exact best_new g hgl hgn ag as_ cg cs s mb es clock mm w0 wE kk hle hsn hb0 hge hmb hmm hS hg hs F hM_ hF (best_any hgl hgn kk)
    | some v =>
      obtain ⟨s', As, c, h1, h2, h3, rfl, h5⟩ := hFs _ _ hF
      exact best_known g hgl hgn ag as_ cg cs s mb es clock mm w0 wE kk hle hsn hb0 hge hmb hmm hS hg hs (bF g s') As c F hM_ hF h5 ((bF_tail h3).trans (by unfold bF; rw [show g.length - s.length = kk + 1 by omega]))

theorem Best_none (w : World) (ag : Option Addr) (cg : Nat) (xs : List Int) (hv : RdV (Value.int .i64) w (.slice ag xs.length cg) xs) (hp : partB xs = true) (hb : bestR xs xs.length [] = none) :
    Calls Try.prog 41 [.slice ag xs.length cg].toArray w fun e w' => e = .returned (.tuple #[.slice none 0 0, .int .i64 4]) ∧ Below w.heap.size w w' := by
  obtain ⟨hxl, hn⟩ := partB_true.1 hp
  refine enter (N := 18) Try.func41 rfl rfl rfl ?_
  refine g_seq ?_
  refine g_region ?_
  refine s_y (y_assign rfl) rfl rfl rfl rfl ?_
  refine s_y (y_assign rfl) rfl rfl rfl rfl ?_
  refine s_nil ?_
  refine g_then ?_
  refine g_seq ?_
  refine g_seq ?_
  refine g_region ?_
  refine s_y (y_move rfl) rfl rfl rfl rfl ?_
  refine s_tr (t_call rfl rfl ent_46 (fun w h => by have h_ := isPart_any w _ xs (hv.below h.below) (by omega); rwa [hp] at h_)) rfl rfl rfl rfl (fun _ _ => ?_)
  refine s_y (y_not_t rfl) rfl rfl rfl rfl ?_
  refine s_nil ?_
  refine g_then ?_
  refine g_cond_f rfl ?_
  refine g_skip ?_
  refine g_then ?_
  refine g_seq ?_
  refine g_region ?_
  refine s_y (y_move rfl) rfl rfl rfl rfl ?_
  refine s_y (y_build (vs := [(0, _)]) rfl rfl (fun w => bld_48_0 _ _ _ w)) rfl rfl rfl rfl ?_
  refine s_tr (t_makeMap) rfl rfl rfl rfl (fun mb hmb => ?_)
  refine s_tr (t_callB (A := BOk xs none []) (fo := fun y => .map y.2.2.1 y.2.2.2.1) (vf := bV none) (mm := fun y => y.2.2.2.2) (pre := [(mb, .map #[] 0)]) (mq := []) 0 rfl rfl rfl rfl ent_62 (fun w2 h => ?_)) rfl rfl rfl rfl (fun yB hyB => ?_)
  · skip
    have h_ := best_any (g := xs) (by omega) hn xs.length ag none cg 0 [] mb #[] 0 [] w w2 (by simp) (by intro x hx; cases hx) h.below hmb.1 (at_of (i := 0) h rfl) (by intro p hp; cases hp) SoundB.empty (hv.below h.below) RdV.nil
    rw [hb] at h_
    exact h_
  obtain ⟨A2, c2, es2, clock2, mq2⟩ := yB
  obtain ⟨⟨hO2, hS2, hC2⟩, hmq2⟩ := hyB
  simp only at hO2 hS2 hC2 hmq2
  show G _ _ ((11, .agg #[.slice A2 0 c2, .int .i64 0, .bool false]) :: _) _ _ ((mb, .map es2 clock2) :: ((mq2 ++ []) ++ ([]))) _
  refine s_tr (t_alloc zero_67 rfl) rfl rfl rfl rfl (fun b4 hb4 => ?_)
  refine s_tr0 (t_store 0 rfl rfl rfl rfl size_67 rfl rfl) rfl rfl rfl (fun _ _ => ?_)
  refine s_nil ?_
  refine g_then ?_
  refine g_seq ?_
  refine g_seq ?_
  refine g_region ?_
  refine s_y (y_fld rfl (fun w => fld_67_2 _ _ w)) rfl rfl rfl rfl ?_
  refine s_y (y_ld1 0 rfl rfl agg_4 rfl) rfl rfl rfl rfl ?_
  refine s_y (y_not_f rfl) rfl rfl rfl rfl ?_
  refine s_nil ?_
  refine g_then ?_
  refine g_cond_t rfl ?_
  refine g_seq ?_
  refine g_region ?_
  refine s_y (y_assign rfl) rfl rfl rfl rfl ?_
  refine s_y (y_assign rfl) rfl rfl rfl rfl ?_
  refine s_nil ?_
  refine g_then ?_
  refine g_ret ?_
  refine g_thenr ?_
  exact g_end trivial (fun a w ha hq_ => res2 ha rfl rfl rfl  w) (fun w h => ⟨rfl, h.below⟩)

theorem Best_some (w : World) (ag : Option Addr) (cg : Nat) (xs : List Int) (hv : RdV (Value.int .i64) w (.slice ag xs.length cg) xs) (hp : partB xs = true) (t : List Int) (bw : Int) (hb : bestR xs xs.length [] = some (t, bw)) :
    Calls Try.prog 41 [.slice ag xs.length cg].toArray w fun e w' => ∃ x : Value × List (Nat × Obj), (OwnV (Value.int .i64) x.1 t x.2 ∧ ∃ W : World, ∀ p ∈ x.2, W.heap[p.1]? = some p.2) ∧ e = .returned (.tuple #[x.1, .int .i64 0]) ∧ Hq w w x.2 w' := by
  obtain ⟨hxl, hn⟩ := partB_true.1 hp
  refine enter (N := 18) Try.func41 rfl rfl rfl ?_
  refine g_seq ?_
  refine g_region ?_
  refine s_y (y_assign rfl) rfl rfl rfl rfl ?_
  refine s_y (y_assign rfl) rfl rfl rfl rfl ?_
  refine s_nil ?_
  refine g_then ?_
  refine g_seq ?_
  refine g_seq ?_
  refine g_region ?_
  refine s_y (y_move rfl) rfl rfl rfl rfl ?_
  refine s_tr (t_call rfl rfl ent_46 (fun w h => by have h_ := isPart_any w _ xs (hv.below h.below) (by omega); rwa [hp] at h_)) rfl rfl rfl rfl (fun _ _ => ?_)
  refine s_y (y_not_t rfl) rfl rfl rfl rfl ?_
  refine s_nil ?_
  refine g_then ?_
  refine g_cond_f rfl ?_
  refine g_skip ?_
  refine g_then ?_
  refine g_seq ?_
  refine g_region ?_
  refine s_y (y_move rfl) rfl rfl rfl rfl ?_
  refine s_y (y_build (vs := [(0, _)]) rfl rfl (fun w => bld_48_0 _ _ _ w)) rfl rfl rfl rfl ?_
  refine s_tr (t_makeMap) rfl rfl rfl rfl (fun mb hmb => ?_)
  refine s_tr (t_callB (A := BOk xs (some (t, bw)) []) (fo := fun y => .map y.2.2.1 y.2.2.2.1) (vf := bV (some (t, bw))) (mm := fun y => y.2.2.2.2) (pre := [(mb, .map #[] 0)]) (mq := []) 0 rfl rfl rfl rfl ent_62 (fun w2 h => ?_)) rfl rfl rfl rfl (fun yB hyB => ?_)
  · skip
    have h_ := best_any (g := xs) (by omega) hn xs.length ag none cg 0 [] mb #[] 0 [] w w2 (by simp) (by intro x hx; cases hx) h.below hmb.1 (at_of (i := 0) h rfl) (by intro p hp; cases hp) SoundB.empty (hv.below h.below) RdV.nil
    rw [hb] at h_
    exact h_
  obtain ⟨A2, c2, es2, clock2, mq2⟩ := yB
  obtain ⟨⟨hO2, hS2, hC2⟩, hmq2⟩ := hyB
  simp only at hO2 hS2 hC2 hmq2
  have hO2' : OwnV (Value.int .i64) (.slice A2 t.length c2) t (mq2 ++ []) := hO2
  show G _ _ ((11, .agg #[.slice A2 t.length c2, .int .i64 bw, .bool true]) :: _) _ _ ((mb, .map es2 clock2) :: ((mq2 ++ []) ++ ([]))) _
  refine s_tr (t_alloc zero_67 rfl) rfl rfl rfl rfl (fun b4 hb4 => ?_)
  refine s_tr0 (t_store 0 rfl rfl rfl rfl size_67 rfl rfl) rfl rfl rfl (fun _ _ => ?_)
  refine s_nil ?_
  refine g_then ?_
  refine g_seq ?_
  refine g_seq ?_
  refine g_region ?_
  refine s_y (y_fld rfl (fun w => fld_67_2 _ _ w)) rfl rfl rfl rfl ?_
  refine s_y (y_ld1 0 rfl rfl agg_4 rfl) rfl rfl rfl rfl ?_
  refine s_y (y_not_t rfl) rfl rfl rfl rfl ?_
  refine s_nil ?_
  refine g_then ?_
  refine g_cond_f rfl ?_
  refine g_skip ?_
  refine g_then ?_
  refine g_seq ?_
  refine g_region ?_
  refine s_y (y_fld rfl (fun w => fld_67_0 _ _ w)) rfl rfl rfl rfl ?_
  refine s_y (y_ld1 0 rfl rfl agg_22 rfl) rfl rfl rfl rfl ?_
  refine s_tr (t_callm rfl rfl ent_44 (fun w h => Clone_any w _ t (hO2'.rd (fun p hp => h.at_ p (List.mem_cons_of_mem _ (List.mem_cons_of_mem _ (mem_al (mq2 ++ []) hp))))) (by have h_ := bestR_range _ _ _ hb; simp only at h_; omega))) rfl rfl rfl rfl (fun x2 hx3 => ?_)
  obtain ⟨vo1, mo1⟩ := x2
  obtain ⟨hOo1, hEo1⟩ := hx3
  refine s_y (y_assign rfl) rfl rfl rfl rfl ?_
  refine s_y (y_assign rfl) rfl rfl rfl rfl ?_
  refine s_nil ?_
  refine g_then ?_
  refine g_ret ?_
  exact g_end trivial (fun a w ha hq_ => res2 ha rfl rfl rfl  w) (fun w h => ⟨(_, mo1), ⟨hOo1, w, (h.hand (sub_here mo1 _)).at_⟩, rfl, h.hand (sub_here mo1 _)⟩)

theorem Best_bad (w : World) (v : Value) (xs : List Int) (hv : RdV (Value.int .i64) w v xs) (hl : xs.length ≤ 9223372036854775807) (hp : partB xs = false) :
    Calls Try.prog 41 [v].toArray w fun e w' => e = .returned (.tuple #[.slice none 0 0, .int .i64 2]) ∧ Below w.heap.size w w' := by
  refine enter (N := 18) Try.func41 rfl rfl rfl ?_
  refine g_seq ?_
  refine g_region ?_
  refine s_y (y_assign rfl) rfl rfl rfl rfl ?_
  refine s_y (y_assign rfl) rfl rfl rfl rfl ?_
  refine s_nil ?_
  refine g_then ?_
  refine g_seq ?_
  refine g_seq ?_
  refine g_region ?_
  refine s_y (y_move rfl) rfl rfl rfl rfl ?_
  refine s_tr (t_call rfl rfl ent_46 (fun w h => by have h_ := isPart_any w _ xs (hv.below h.below) hl; rwa [hp] at h_)) rfl rfl rfl rfl (fun _ _ => ?_)
  refine s_y (y_not_f rfl) rfl rfl rfl rfl ?_
  refine s_nil ?_
  refine g_then ?_
  refine g_cond_t rfl ?_
  refine g_seq ?_
  refine g_region ?_
  refine s_y (y_assign rfl) rfl rfl rfl rfl ?_
  refine s_y (y_assign rfl) rfl rfl rfl rfl ?_
  refine s_nil ?_
  refine g_then ?_
  refine g_ret ?_
  refine g_thenr ?_
  exact g_end trivial (fun a w ha hq_ => res2 ha rfl rfl rfl  w) (fun w h => ⟨rfl, h.below⟩)

theorem Best_none_v (w : World) (v : Value) (g : List Int) (hg : RdV (Value.int .i64) w v g) (hp : partB g = true) (hb : bestR g g.length [] = none) : Calls Try.prog 41 [v].toArray w fun e w' => e = .returned (.tuple #[.slice none 0 0, .int .i64 4]) ∧ Below w.heap.size w w' := by
  obtain ⟨ag, cg, rfl, _, _⟩ := id hg
  have h_ := Best_none w ag cg g hg hp hb
  exact h_

theorem Best_some_v (w : World) (v : Value) (g : List Int) (hg : RdV (Value.int .i64) w v g) (hp : partB g = true) (t : List Int) (bw : Int) (hb : bestR g g.length [] = some (t, bw)) : Calls Try.prog 41 [v].toArray w fun e w' => ∃ x : Value × List (Nat × Obj), (OwnV (Value.int .i64) x.1 t x.2 ∧ ∃ W : World, ∀ p ∈ x.2, W.heap[p.1]? = some p.2) ∧ e = .returned (.tuple #[x.1, .int .i64 0]) ∧ Hq w w x.2 w' := by
  obtain ⟨ag, cg, rfl, _, _⟩ := id hg
  have h_ := Best_some w ag cg g hg hp t bw hb
  exact h_

theorem RBest_none_v (w : World) (v : Value) (g : List Int) (hg : RdV (Value.int .i64) w v g) (hp : partB g = true) (hb : bestR g g.length [] = none) : Calls Try.prog 42 [v].toArray w fun e w' => e = .returned (.tuple #[.slice none 0 0, .int .i64 4]) ∧ Below w.heap.size w w' := by
  obtain ⟨ag, cg, rfl, _, _⟩ := id hg
  have h_ := RBest_none w ag cg g hg hp (by rw [srch0_c]; exact (cnt_best _ _).2 hb)
  exact h_

theorem RBest_some_v (w : World) (v : Value) (g : List Int) (hg : RdV (Value.int .i64) w v g) (hp : partB g = true) (t : List Int) (bw : Int) (hb : bestR g g.length [] = some (t, bw)) : Calls Try.prog 42 [v].toArray w fun e w' => ∃ x : Value × List (Nat × Obj), (OwnV (Value.int .i64) x.1 t x.2 ∧ ∃ W : World, ∀ p ∈ x.2, W.heap[p.1]? = some p.2) ∧ e = .returned (.tuple #[x.1, .int .i64 0]) ∧ Hq w w x.2 w' := by
  obtain ⟨ag, cg, rfl, _, _⟩ := id hg
  have h_ := RBest_some w ag cg g hg hp (fun h_ => by rw [srch0_c, cnt_best, hb] at h_; cases h_)
  rw [srch0_be hb] at h_
  exact h_

theorem pair_take2 {g s : List Int} (hpg : partB g = true) (h : pairB g s = false) : pairB g (s.take 11) = false := by
  cases h2 : pairB g (s.take 11) with
  | false => rfl
  | true =>
    obtain ⟨⟨h3, _⟩, _, h4⟩ := pair_facts h2
    rw [List.length_take] at h4
    rw [List.take_of_length_le (by omega)] at h2
    rw [h] at h2; cases h2
theorem pair_part {g s : List Int} (h : pairB g s = true) : partB g = true := by
  obtain ⟨h1, _, _⟩ := pair_facts h
  exact partB_true.2 h1
theorem pair_bad {g s : List Int} (h : partB g = false) : pairB g s = false := by unfold pairB; rw [h]; rfl

theorem DuetsBest_none_p (w : World) (v : Value) (g : List Int) (v' : Value) (s : List Int) (hg : RdV (Value.int .i64) w v g) (hs : RdV (Value.int .i64) w v' s) (hp : pairB g s = true) (hb : bestR g g.length [] = none) :
    Calls Try.prog 12 [v, v'].toArray w fun e w' => e = .returned (.bool true) ∧ Below w.heap.size w w' := by
  obtain ⟨⟨hgl, hgn⟩, hsn, hln⟩ := pair_facts hp
  have hpg := pair_part hp
  refine enter (N := 80) Try.func12 rfl rfl rfl ?_
  refine g_seq ?_
  refine g_region ?_
  refine s_y (y_assign rfl) rfl rfl rfl rfl ?_
  refine s_nil ?_
  refine g_then ?_
  refine g_seq ?_
  refine g_region ?_
  refine s_y (y_move rfl) rfl rfl rfl rfl ?_
  refine s_tr (t_callm rfl rfl ent_17 (fun w h => by have h_ := list_any w _ g (hg.below h.below); rw [List.take_of_length_le (by omega)] at h_; exact h_)) rfl rfl rfl rfl (fun x2 hx3 => ?_)
  obtain ⟨vo1, mo1⟩ := x2
  obtain ⟨hOo1, hEo1⟩ := hx3
  refine s_y (y_move rfl) rfl rfl rfl rfl ?_
  refine s_tr (t_callm rfl rfl ent_17 (fun w h => by have h_ := list_any w _ s (hs.below h.below); rw [List.take_of_length_le (by omega)] at h_; exact h_)) rfl rfl rfl rfl (fun x5 hx6 => ?_)
  obtain ⟨vo4, mo4⟩ := x5
  obtain ⟨hOo4, hEo4⟩ := hx6
  refine s_tr (t_call rfl rfl ent_40 (fun w h => Worth_ok w _ _ g s (hOo1.rd fun p hp => h.at_ p (mem_ar mo4 (mem_al mo1 hp))) (hOo4.rd fun p hp => h.at_ p (mem_al mo4 hp)) hp)) rfl rfl rfl rfl (fun _ _ => ?_)
  refine s_y (y_move rfl) rfl rfl rfl rfl ?_
  refine s_y (y_extract rfl rfl) rfl rfl rfl rfl ?_
  refine s_y (y_extract rfl rfl) rfl rfl rfl rfl ?_
  refine s_y (y_assign rfl) rfl rfl rfl rfl ?_
  refine s_y (y_assign rfl) rfl rfl rfl rfl ?_
  refine s_nil ?_
  refine g_then ?_
  refine g_seq ?_
  refine g_region ?_
  refine s_y (y_move rfl) rfl rfl rfl rfl ?_
  refine s_tr (t_callm rfl rfl ent_17 (fun w h => by have h_ := list_any w _ g (hg.below h.below); rw [List.take_of_length_le (by omega)] at h_; exact h_)) rfl rfl rfl rfl (fun x8 hx9 => ?_)
  obtain ⟨vo7, mo7⟩ := x8
  obtain ⟨hOo7, hEo7⟩ := hx9
  refine s_tr (t_call rfl rfl ent_41 (fun w h => Best_none_v w _ g (hOo7.rd fun p hp => h.at_ p (mem_al mo7 hp)) hpg hb)) rfl rfl rfl rfl (fun _ _ => ?_)
  refine s_y (y_move rfl) rfl rfl rfl rfl ?_
  refine s_y (y_extract rfl rfl) rfl rfl rfl rfl ?_
  refine s_y (y_extract rfl rfl) rfl rfl rfl rfl ?_
  refine s_y (y_assign rfl) rfl rfl rfl rfl ?_
  refine s_y (y_assign rfl) rfl rfl rfl rfl ?_
  refine s_nil ?_
  refine g_then ?_
  refine g_seq ?_
  refine g_seq ?_
  refine g_region ?_
  refine s_y (y_move rfl) rfl rfl rfl rfl ?_
  refine s_tr (t_call rfl rfl ent_18 (fun w h => by have h_ := Part_any w _ g (hg.below h.below) (by omega); rwa [hpg] at h_)) rfl rfl rfl rfl (fun _ _ => ?_)
  refine s_nil ?_
  refine g_then ?_
  refine g_cond_t rfl ?_
  refine g_seq ?_
  refine g_region ?_
  refine s_y (y_move rfl) rfl rfl rfl rfl ?_
  refine s_tr (t_call rfl rfl ent_42 (fun w h => RBest_none_v w _ g (hg.below h.below) hpg hb)) rfl rfl rfl rfl (fun _ _ => ?_)
  refine s_y (y_move rfl) rfl rfl rfl rfl ?_
  refine s_y (y_extract rfl rfl) rfl rfl rfl rfl ?_
  refine s_y (y_extract rfl rfl) rfl rfl rfl rfl ?_
  refine s_y (y_assign rfl) rfl rfl rfl rfl ?_
  refine s_y (y_assign rfl) rfl rfl rfl rfl ?_
  refine s_nil ?_
  refine g_then ?_
  refine g_seq ?_
  refine g_region ?_
  refine s_y (y_move rfl) rfl rfl rfl rfl ?_
  refine s_y (y_move rfl) rfl rfl rfl rfl ?_
  refine s_tr (t_call rfl rfl ent_26 (fun w h => by have h_ := Equal_any w _ _ ([] : List Int) ([] : List Int) RdV.nil RdV.nil (by simp); rw [decide_eq_true (rfl)] at h_; exact h_)) rfl rfl rfl rfl (fun _ _ => ?_)
  refine s_y (y_not_t rfl) rfl rfl rfl rfl ?_
  refine s_y (y_move rfl) rfl rfl rfl rfl ?_
  refine s_y (y_move rfl) rfl rfl rfl rfl ?_
  refine s_y (y_move rfl) rfl rfl rfl rfl ?_
  refine s_y (y_neq_f rfl rfl (by decide)) rfl rfl rfl rfl ?_
  refine s_y (y_pick_f rfl rfl) rfl rfl rfl rfl ?_
  refine s_nil ?_
  refine g_then ?_
  refine g_cond_f rfl ?_
  refine g_skip ?_
  refine g_then ?_
  refine g_seq ?_
  refine g_seq ?_
  refine g_region ?_
  refine s_y (y_move rfl) rfl rfl rfl rfl ?_
  refine s_y (y_move rfl) rfl rfl rfl rfl ?_
  refine s_tr (t_call rfl rfl ent_22 (fun w h => by have h_ := pair_any w _ _ g s (hg.below h.below) (hs.below h.below) (by omega) (by omega); rwa [hp] at h_)) rfl rfl rfl rfl (fun _ _ => ?_)
  refine s_y (y_not_t rfl) rfl rfl rfl rfl ?_
  refine s_nil ?_
  refine g_then ?_
  refine g_cond_f rfl ?_
  refine g_skip ?_
  refine g_then ?_
  refine g_seq ?_
  refine g_region ?_
  refine s_y (y_move rfl) rfl rfl rfl rfl ?_
  refine s_y (y_move rfl) rfl rfl rfl rfl ?_
  refine s_tr (t_call rfl rfl ent_43 (fun w h => RWorth_ok w _ _ g s (hg.below h.below) (hs.below h.below) hp)) rfl rfl rfl rfl (fun _ _ => ?_)
  refine s_y (y_move rfl) rfl rfl rfl rfl ?_
  refine s_y (y_extract rfl rfl) rfl rfl rfl rfl ?_
  refine s_y (y_extract rfl rfl) rfl rfl rfl rfl ?_
  refine s_y (y_assign rfl) rfl rfl rfl rfl ?_
  refine s_y (y_assign rfl) rfl rfl rfl rfl ?_
  refine s_nil ?_
  refine g_then ?_
  refine g_seq ?_
  refine g_region ?_
  refine s_y (y_move rfl) rfl rfl rfl rfl ?_
  refine s_y (y_move rfl) rfl rfl rfl rfl ?_
  refine s_y (y_eql_t rfl rfl (rfl)) rfl rfl rfl rfl ?_
  refine s_y (y_move rfl) rfl rfl rfl rfl ?_
  refine s_y (y_move rfl) rfl rfl rfl rfl ?_
  refine s_y (y_move rfl) rfl rfl rfl rfl ?_
  refine s_y (y_eql_t rfl rfl (rfl)) rfl rfl rfl rfl ?_
  refine s_y (y_pick_t rfl rfl) rfl rfl rfl rfl ?_
  refine s_y (y_move rfl) rfl rfl rfl rfl ?_
  refine s_tr (t_call rfl rfl ent_19 (fun w h => awake_t w)) rfl rfl rfl rfl (fun _ _ => ?_)
  refine s_y (y_pick_t rfl rfl) rfl rfl rfl rfl ?_
  refine s_y (y_assign rfl) rfl rfl rfl rfl ?_
  refine s_nil ?_
  refine g_then ?_
  refine g_ret ?_
  exact g_end trivial (fun a w ha hq_ => res1 ha rfl rfl  w) (fun w h => ⟨rfl, h.below⟩)

theorem DuetsBest_none_n (w : World) (v : Value) (g : List Int) (v' : Value) (s : List Int) (hg : RdV (Value.int .i64) w v g) (hs : RdV (Value.int .i64) w v' s) (hsl : s.length ≤ 9223372036854775807) (hpg : partB g = true) (hp : pairB g s = false) (hb : bestR g g.length [] = none) :
    Calls Try.prog 12 [v, v'].toArray w fun e w' => e = .returned (.bool true) ∧ Below w.heap.size w w' := by
  obtain ⟨hgl, hgn⟩ := partB_true.1 hpg
  refine enter (N := 80) Try.func12 rfl rfl rfl ?_
  refine g_seq ?_
  refine g_region ?_
  refine s_y (y_assign rfl) rfl rfl rfl rfl ?_
  refine s_nil ?_
  refine g_then ?_
  refine g_seq ?_
  refine g_region ?_
  refine s_y (y_move rfl) rfl rfl rfl rfl ?_
  refine s_tr (t_callm rfl rfl ent_17 (fun w h => by have h_ := list_any w _ g (hg.below h.below); rw [List.take_of_length_le (by omega)] at h_; exact h_)) rfl rfl rfl rfl (fun x2 hx3 => ?_)
  obtain ⟨vo1, mo1⟩ := x2
  obtain ⟨hOo1, hEo1⟩ := hx3
  refine s_y (y_move rfl) rfl rfl rfl rfl ?_
  refine s_tr (t_callm rfl rfl ent_17 (fun w h => list_any w _ s (hs.below h.below))) rfl rfl rfl rfl (fun x5 hx6 => ?_)
  obtain ⟨vo4, mo4⟩ := x5
  obtain ⟨hOo4, hEo4⟩ := hx6
  refine s_tr (t_call rfl rfl ent_40 (fun w h => Worth_no w _ _ g (s.take 11) (hOo1.rd fun p hp => h.at_ p (mem_ar mo4 (mem_al mo1 hp))) (hOo4.rd fun p hp => h.at_ p (mem_al mo4 hp)) (by omega) (by rw [List.length_take]; omega) (pair_take2 hpg hp))) rfl rfl rfl rfl (fun _ _ => ?_)
  refine s_y (y_move rfl) rfl rfl rfl rfl ?_
  refine s_y (y_extract rfl rfl) rfl rfl rfl rfl ?_
  refine s_y (y_extract rfl rfl) rfl rfl rfl rfl ?_
  refine s_y (y_assign rfl) rfl rfl rfl rfl ?_
  refine s_y (y_assign rfl) rfl rfl rfl rfl ?_
  refine s_nil ?_
  refine g_then ?_
  refine g_seq ?_
  refine g_region ?_
  refine s_y (y_move rfl) rfl rfl rfl rfl ?_
  refine s_tr (t_callm rfl rfl ent_17 (fun w h => by have h_ := list_any w _ g (hg.below h.below); rw [List.take_of_length_le (by omega)] at h_; exact h_)) rfl rfl rfl rfl (fun x8 hx9 => ?_)
  obtain ⟨vo7, mo7⟩ := x8
  obtain ⟨hOo7, hEo7⟩ := hx9
  refine s_tr (t_call rfl rfl ent_41 (fun w h => Best_none_v w _ g (hOo7.rd fun p hp => h.at_ p (mem_al mo7 hp)) hpg hb)) rfl rfl rfl rfl (fun _ _ => ?_)
  refine s_y (y_move rfl) rfl rfl rfl rfl ?_
  refine s_y (y_extract rfl rfl) rfl rfl rfl rfl ?_
  refine s_y (y_extract rfl rfl) rfl rfl rfl rfl ?_
  refine s_y (y_assign rfl) rfl rfl rfl rfl ?_
  refine s_y (y_assign rfl) rfl rfl rfl rfl ?_
  refine s_nil ?_
  refine g_then ?_
  refine g_seq ?_
  refine g_seq ?_
  refine g_region ?_
  refine s_y (y_move rfl) rfl rfl rfl rfl ?_
  refine s_tr (t_call rfl rfl ent_18 (fun w h => by have h_ := Part_any w _ g (hg.below h.below) (by omega); rwa [hpg] at h_)) rfl rfl rfl rfl (fun _ _ => ?_)
  refine s_nil ?_
  refine g_then ?_
  refine g_cond_t rfl ?_
  refine g_seq ?_
  refine g_region ?_
  refine s_y (y_move rfl) rfl rfl rfl rfl ?_
  refine s_tr (t_call rfl rfl ent_42 (fun w h => RBest_none_v w _ g (hg.below h.below) hpg hb)) rfl rfl rfl rfl (fun _ _ => ?_)
  refine s_y (y_move rfl) rfl rfl rfl rfl ?_
  refine s_y (y_extract rfl rfl) rfl rfl rfl rfl ?_
  refine s_y (y_extract rfl rfl) rfl rfl rfl rfl ?_
  refine s_y (y_assign rfl) rfl rfl rfl rfl ?_
  refine s_y (y_assign rfl) rfl rfl rfl rfl ?_
  refine s_nil ?_
  refine g_then ?_
  refine g_seq ?_
  refine g_region ?_
  refine s_y (y_move rfl) rfl rfl rfl rfl ?_
  refine s_y (y_move rfl) rfl rfl rfl rfl ?_
  refine s_tr (t_call rfl rfl ent_26 (fun w h => by have h_ := Equal_any w _ _ ([] : List Int) ([] : List Int) RdV.nil RdV.nil (by simp); rw [decide_eq_true (rfl)] at h_; exact h_)) rfl rfl rfl rfl (fun _ _ => ?_)
  refine s_y (y_not_t rfl) rfl rfl rfl rfl ?_
  refine s_y (y_move rfl) rfl rfl rfl rfl ?_
  refine s_y (y_move rfl) rfl rfl rfl rfl ?_
  refine s_y (y_move rfl) rfl rfl rfl rfl ?_
  refine s_y (y_neq_f rfl rfl (by decide)) rfl rfl rfl rfl ?_
  refine s_y (y_pick_f rfl rfl) rfl rfl rfl rfl ?_
  refine s_nil ?_
  refine g_then ?_
  refine g_cond_f rfl ?_
  refine g_skip ?_
  refine g_then ?_
  refine g_seq ?_
  refine g_seq ?_
  refine g_region ?_
  refine s_y (y_move rfl) rfl rfl rfl rfl ?_
  refine s_y (y_move rfl) rfl rfl rfl rfl ?_
  refine s_tr (t_call rfl rfl ent_22 (fun w h => by have h_ := pair_any w _ _ g s (hg.below h.below) (hs.below h.below) (by omega) hsl; rwa [hp] at h_)) rfl rfl rfl rfl (fun _ _ => ?_)
  refine s_y (y_not_f rfl) rfl rfl rfl rfl ?_
  refine s_nil ?_
  refine g_then ?_
  refine g_cond_t rfl ?_
  refine g_seq ?_
  refine g_region ?_
  refine s_y (y_move rfl) rfl rfl rfl rfl ?_
  refine s_y (y_eql_t rfl rfl (by decide)) rfl rfl rfl rfl ?_
  refine s_y (y_move rfl) rfl rfl rfl rfl ?_
  refine s_y (y_move rfl) rfl rfl rfl rfl ?_
  refine s_y (y_eql_t rfl rfl (by decide)) rfl rfl rfl rfl ?_
  refine s_y (y_pick_t rfl rfl) rfl rfl rfl rfl ?_
  refine s_y (y_move rfl) rfl rfl rfl rfl ?_
  refine s_tr (t_call rfl rfl ent_19 (fun w h => awake_t w)) rfl rfl rfl rfl (fun _ _ => ?_)
  refine s_y (y_pick_t rfl rfl) rfl rfl rfl rfl ?_
  refine s_y (y_assign rfl) rfl rfl rfl rfl ?_
  refine s_nil ?_
  refine g_then ?_
  refine g_ret ?_
  refine g_thenr ?_
  exact g_end trivial (fun a w ha hq_ => res1 ha rfl rfl  w) (fun w h => ⟨rfl, h.below⟩)

theorem DuetsBest_some_p (w : World) (v : Value) (g : List Int) (v' : Value) (s : List Int) (hg : RdV (Value.int .i64) w v g) (hs : RdV (Value.int .i64) w v' s) (hp : pairB g s = true) (t : List Int) (bw : Int) (hb : bestR g g.length [] = some (t, bw)) :
    Calls Try.prog 12 [v, v'].toArray w fun e w' => e = .returned (.bool true) ∧ Below w.heap.size w w' := by
  obtain ⟨⟨hgl, hgn⟩, hsn, hln⟩ := pair_facts hp
  have hpg := pair_part hp
  refine enter (N := 80) Try.func12 rfl rfl rfl ?_
  refine g_seq ?_
  refine g_region ?_
  refine s_y (y_assign rfl) rfl rfl rfl rfl ?_
  refine s_nil ?_
  refine g_then ?_
  refine g_seq ?_
  refine g_region ?_
  refine s_y (y_move rfl) rfl rfl rfl rfl ?_
  refine s_tr (t_callm rfl rfl ent_17 (fun w h => by have h_ := list_any w _ g (hg.below h.below); rw [List.take_of_length_le (by omega)] at h_; exact h_)) rfl rfl rfl rfl (fun x2 hx3 => ?_)
  obtain ⟨vo1, mo1⟩ := x2
  obtain ⟨hOo1, hEo1⟩ := hx3
  refine s_y (y_move rfl) rfl rfl rfl rfl ?_
  refine s_tr (t_callm rfl rfl ent_17 (fun w h => by have h_ := list_any w _ s (hs.below h.below); rw [List.take_of_length_le (by omega)] at h_; exact h_)) rfl rfl rfl rfl (fun x5 hx6 => ?_)
  obtain ⟨vo4, mo4⟩ := x5
  obtain ⟨hOo4, hEo4⟩ := hx6
  refine s_tr (t_call rfl rfl ent_40 (fun w h => Worth_ok w _ _ g s (hOo1.rd fun p hp => h.at_ p (mem_ar mo4 (mem_al mo1 hp))) (hOo4.rd fun p hp => h.at_ p (mem_al mo4 hp)) hp)) rfl rfl rfl rfl (fun _ _ => ?_)
  refine s_y (y_move rfl) rfl rfl rfl rfl ?_
  refine s_y (y_extract rfl rfl) rfl rfl rfl rfl ?_
  refine s_y (y_extract rfl rfl) rfl rfl rfl rfl ?_
  refine s_y (y_assign rfl) rfl rfl rfl rfl ?_
  refine s_y (y_assign rfl) rfl rfl rfl rfl ?_
  refine s_nil ?_
  refine g_then ?_
  refine g_seq ?_
  refine g_region ?_
  refine s_y (y_move rfl) rfl rfl rfl rfl ?_
  refine s_tr (t_callm rfl rfl ent_17 (fun w h => by have h_ := list_any w _ g (hg.below h.below); rw [List.take_of_length_le (by omega)] at h_; exact h_)) rfl rfl rfl rfl (fun x8 hx9 => ?_)
  obtain ⟨vo7, mo7⟩ := x8
  obtain ⟨hOo7, hEo7⟩ := hx9
  refine s_tr (t_callm rfl rfl ent_41 (fun w h => Best_some_v w _ g (hOo7.rd fun p hp => h.at_ p (mem_al mo7 hp)) hpg t bw hb)) rfl rfl rfl rfl (fun x11 hx12 => ?_)
  obtain ⟨vo10, mo10⟩ := x11
  obtain ⟨hOo10, hEo10⟩ := hx12
  refine s_y (y_move rfl) rfl rfl rfl rfl ?_
  refine s_y (y_extract rfl rfl) rfl rfl rfl rfl ?_
  refine s_y (y_extract rfl rfl) rfl rfl rfl rfl ?_
  refine s_y (y_assign rfl) rfl rfl rfl rfl ?_
  refine s_y (y_assign rfl) rfl rfl rfl rfl ?_
  refine s_nil ?_
  refine g_then ?_
  refine g_seq ?_
  refine g_seq ?_
  refine g_region ?_
  refine s_y (y_move rfl) rfl rfl rfl rfl ?_
  refine s_tr (t_call rfl rfl ent_18 (fun w h => by have h_ := Part_any w _ g (hg.below h.below) (by omega); rwa [hpg] at h_)) rfl rfl rfl rfl (fun _ _ => ?_)
  refine s_nil ?_
  refine g_then ?_
  refine g_cond_t rfl ?_
  refine g_seq ?_
  refine g_region ?_
  refine s_y (y_move rfl) rfl rfl rfl rfl ?_
  refine s_tr (t_callm rfl rfl ent_42 (fun w h => RBest_some_v w _ g (hg.below h.below) hpg t bw hb)) rfl rfl rfl rfl (fun x14 hx15 => ?_)
  obtain ⟨vo13, mo13⟩ := x14
  obtain ⟨hOo13, hEo13⟩ := hx15
  refine s_y (y_move rfl) rfl rfl rfl rfl ?_
  refine s_y (y_extract rfl rfl) rfl rfl rfl rfl ?_
  refine s_y (y_extract rfl rfl) rfl rfl rfl rfl ?_
  refine s_y (y_assign rfl) rfl rfl rfl rfl ?_
  refine s_y (y_assign rfl) rfl rfl rfl rfl ?_
  refine s_nil ?_
  refine g_then ?_
  refine g_seq ?_
  refine g_region ?_
  refine s_y (y_move rfl) rfl rfl rfl rfl ?_
  refine s_y (y_move rfl) rfl rfl rfl rfl ?_
  refine s_tr (t_call rfl rfl ent_26 (fun w h => by have h_ := Equal_any w _ _ t t (hOo10.rd fun p hp => h.at_ p (mem_ar mo13 (mem_al mo10 hp))) (hOo13.rd fun p hp => h.at_ p (mem_al mo13 hp)) (by have h_ := bestR_range _ _ _ hb; simp only at h_; omega); rw [decide_eq_true (rfl)] at h_; exact h_)) rfl rfl rfl rfl (fun _ _ => ?_)
  refine s_y (y_not_t rfl) rfl rfl rfl rfl ?_
  refine s_y (y_move rfl) rfl rfl rfl rfl ?_
  refine s_y (y_move rfl) rfl rfl rfl rfl ?_
  refine s_y (y_move rfl) rfl rfl rfl rfl ?_
  refine s_y (y_neq_f rfl rfl (by decide)) rfl rfl rfl rfl ?_
  refine s_y (y_pick_f rfl rfl) rfl rfl rfl rfl ?_
  refine s_nil ?_
  refine g_then ?_
  refine g_cond_f rfl ?_
  refine g_skip ?_
  refine g_then ?_
  refine g_seq ?_
  refine g_seq ?_
  refine g_region ?_
  refine s_y (y_move rfl) rfl rfl rfl rfl ?_
  refine s_y (y_move rfl) rfl rfl rfl rfl ?_
  refine s_tr (t_call rfl rfl ent_22 (fun w h => by have h_ := pair_any w _ _ g s (hg.below h.below) (hs.below h.below) (by omega) (by omega); rwa [hp] at h_)) rfl rfl rfl rfl (fun _ _ => ?_)
  refine s_y (y_not_t rfl) rfl rfl rfl rfl ?_
  refine s_nil ?_
  refine g_then ?_
  refine g_cond_f rfl ?_
  refine g_skip ?_
  refine g_then ?_
  refine g_seq ?_
  refine g_region ?_
  refine s_y (y_move rfl) rfl rfl rfl rfl ?_
  refine s_y (y_move rfl) rfl rfl rfl rfl ?_
  refine s_tr (t_call rfl rfl ent_43 (fun w h => RWorth_ok w _ _ g s (hg.below h.below) (hs.below h.below) hp)) rfl rfl rfl rfl (fun _ _ => ?_)
  refine s_y (y_move rfl) rfl rfl rfl rfl ?_
  refine s_y (y_extract rfl rfl) rfl rfl rfl rfl ?_
  refine s_y (y_extract rfl rfl) rfl rfl rfl rfl ?_
  refine s_y (y_assign rfl) rfl rfl rfl rfl ?_
  refine s_y (y_assign rfl) rfl rfl rfl rfl ?_
  refine s_nil ?_
  refine g_then ?_
  refine g_seq ?_
  refine g_region ?_
  refine s_y (y_move rfl) rfl rfl rfl rfl ?_
  refine s_y (y_move rfl) rfl rfl rfl rfl ?_
  refine s_y (y_eql_t rfl rfl (rfl)) rfl rfl rfl rfl ?_
  refine s_y (y_move rfl) rfl rfl rfl rfl ?_
  refine s_y (y_move rfl) rfl rfl rfl rfl ?_
  refine s_y (y_move rfl) rfl rfl rfl rfl ?_
  refine s_y (y_eql_t rfl rfl (rfl)) rfl rfl rfl rfl ?_
  refine s_y (y_pick_t rfl rfl) rfl rfl rfl rfl ?_
  refine s_y (y_move rfl) rfl rfl rfl rfl ?_
  refine s_tr (t_call rfl rfl ent_19 (fun w h => awake_t w)) rfl rfl rfl rfl (fun _ _ => ?_)
  refine s_y (y_pick_t rfl rfl) rfl rfl rfl rfl ?_
  refine s_y (y_assign rfl) rfl rfl rfl rfl ?_
  refine s_nil ?_
  refine g_then ?_
  refine g_ret ?_
  exact g_end trivial (fun a w ha hq_ => res1 ha rfl rfl  w) (fun w h => ⟨rfl, h.below⟩)

theorem DuetsBest_some_n (w : World) (v : Value) (g : List Int) (v' : Value) (s : List Int) (hg : RdV (Value.int .i64) w v g) (hs : RdV (Value.int .i64) w v' s) (hsl : s.length ≤ 9223372036854775807) (hpg : partB g = true) (hp : pairB g s = false) (t : List Int) (bw : Int) (hb : bestR g g.length [] = some (t, bw)) :
    Calls Try.prog 12 [v, v'].toArray w fun e w' => e = .returned (.bool true) ∧ Below w.heap.size w w' := by
  obtain ⟨hgl, hgn⟩ := partB_true.1 hpg
  refine enter (N := 80) Try.func12 rfl rfl rfl ?_
  refine g_seq ?_
  refine g_region ?_
  refine s_y (y_assign rfl) rfl rfl rfl rfl ?_
  refine s_nil ?_
  refine g_then ?_
  refine g_seq ?_
  refine g_region ?_
  refine s_y (y_move rfl) rfl rfl rfl rfl ?_
  refine s_tr (t_callm rfl rfl ent_17 (fun w h => by have h_ := list_any w _ g (hg.below h.below); rw [List.take_of_length_le (by omega)] at h_; exact h_)) rfl rfl rfl rfl (fun x2 hx3 => ?_)
  obtain ⟨vo1, mo1⟩ := x2
  obtain ⟨hOo1, hEo1⟩ := hx3
  refine s_y (y_move rfl) rfl rfl rfl rfl ?_
  refine s_tr (t_callm rfl rfl ent_17 (fun w h => list_any w _ s (hs.below h.below))) rfl rfl rfl rfl (fun x5 hx6 => ?_)
  obtain ⟨vo4, mo4⟩ := x5
  obtain ⟨hOo4, hEo4⟩ := hx6
  refine s_tr (t_call rfl rfl ent_40 (fun w h => Worth_no w _ _ g (s.take 11) (hOo1.rd fun p hp => h.at_ p (mem_ar mo4 (mem_al mo1 hp))) (hOo4.rd fun p hp => h.at_ p (mem_al mo4 hp)) (by omega) (by rw [List.length_take]; omega) (pair_take2 hpg hp))) rfl rfl rfl rfl (fun _ _ => ?_)
  refine s_y (y_move rfl) rfl rfl rfl rfl ?_
  refine s_y (y_extract rfl rfl) rfl rfl rfl rfl ?_
  refine s_y (y_extract rfl rfl) rfl rfl rfl rfl ?_
  refine s_y (y_assign rfl) rfl rfl rfl rfl ?_
  refine s_y (y_assign rfl) rfl rfl rfl rfl ?_
  refine s_nil ?_
  refine g_then ?_
  refine g_seq ?_
  refine g_region ?_
  refine s_y (y_move rfl) rfl rfl rfl rfl ?_
  refine s_tr (t_callm rfl rfl ent_17 (fun w h => by have h_ := list_any w _ g (hg.below h.below); rw [List.take_of_length_le (by omega)] at h_; exact h_)) rfl rfl rfl rfl (fun x8 hx9 => ?_)
  obtain ⟨vo7, mo7⟩ := x8
  obtain ⟨hOo7, hEo7⟩ := hx9
  refine s_tr (t_callm rfl rfl ent_41 (fun w h => Best_some_v w _ g (hOo7.rd fun p hp => h.at_ p (mem_al mo7 hp)) hpg t bw hb)) rfl rfl rfl rfl (fun x11 hx12 => ?_)
  obtain ⟨vo10, mo10⟩ := x11
  obtain ⟨hOo10, hEo10⟩ := hx12
  refine s_y (y_move rfl) rfl rfl rfl rfl ?_
  refine s_y (y_extract rfl rfl) rfl rfl rfl rfl ?_
  refine s_y (y_extract rfl rfl) rfl rfl rfl rfl ?_
  refine s_y (y_assign rfl) rfl rfl rfl rfl ?_
  refine s_y (y_assign rfl) rfl rfl rfl rfl ?_
  refine s_nil ?_
  refine g_then ?_
  refine g_seq ?_
  refine g_seq ?_
  refine g_region ?_
  refine s_y (y_move rfl) rfl rfl rfl rfl ?_
  refine s_tr (t_call rfl rfl ent_18 (fun w h => by have h_ := Part_any w _ g (hg.below h.below) (by omega); rwa [hpg] at h_)) rfl rfl rfl rfl (fun _ _ => ?_)
  refine s_nil ?_
  refine g_then ?_
  refine g_cond_t rfl ?_
  refine g_seq ?_
  refine g_region ?_
  refine s_y (y_move rfl) rfl rfl rfl rfl ?_
  refine s_tr (t_callm rfl rfl ent_42 (fun w h => RBest_some_v w _ g (hg.below h.below) hpg t bw hb)) rfl rfl rfl rfl (fun x14 hx15 => ?_)
  obtain ⟨vo13, mo13⟩ := x14
  obtain ⟨hOo13, hEo13⟩ := hx15
  refine s_y (y_move rfl) rfl rfl rfl rfl ?_
  refine s_y (y_extract rfl rfl) rfl rfl rfl rfl ?_
  refine s_y (y_extract rfl rfl) rfl rfl rfl rfl ?_
  refine s_y (y_assign rfl) rfl rfl rfl rfl ?_
  refine s_y (y_assign rfl) rfl rfl rfl rfl ?_
  refine s_nil ?_
  refine g_then ?_
  refine g_seq ?_
  refine g_region ?_
  refine s_y (y_move rfl) rfl rfl rfl rfl ?_
  refine s_y (y_move rfl) rfl rfl rfl rfl ?_
  refine s_tr (t_call rfl rfl ent_26 (fun w h => by have h_ := Equal_any w _ _ t t (hOo10.rd fun p hp => h.at_ p (mem_ar mo13 (mem_al mo10 hp))) (hOo13.rd fun p hp => h.at_ p (mem_al mo13 hp)) (by have h_ := bestR_range _ _ _ hb; simp only at h_; omega); rw [decide_eq_true (rfl)] at h_; exact h_)) rfl rfl rfl rfl (fun _ _ => ?_)
  refine s_y (y_not_t rfl) rfl rfl rfl rfl ?_
  refine s_y (y_move rfl) rfl rfl rfl rfl ?_
  refine s_y (y_move rfl) rfl rfl rfl rfl ?_
  refine s_y (y_move rfl) rfl rfl rfl rfl ?_
  refine s_y (y_neq_f rfl rfl (by decide)) rfl rfl rfl rfl ?_
  refine s_y (y_pick_f rfl rfl) rfl rfl rfl rfl ?_
  refine s_nil ?_
  refine g_then ?_
  refine g_cond_f rfl ?_
  refine g_skip ?_
  refine g_then ?_
  refine g_seq ?_
  refine g_seq ?_
  refine g_region ?_
  refine s_y (y_move rfl) rfl rfl rfl rfl ?_
  refine s_y (y_move rfl) rfl rfl rfl rfl ?_
  refine s_tr (t_call rfl rfl ent_22 (fun w h => by have h_ := pair_any w _ _ g s (hg.below h.below) (hs.below h.below) (by omega) hsl; rwa [hp] at h_)) rfl rfl rfl rfl (fun _ _ => ?_)
  refine s_y (y_not_f rfl) rfl rfl rfl rfl ?_
  refine s_nil ?_
  refine g_then ?_
  refine g_cond_t rfl ?_
  refine g_seq ?_
  refine g_region ?_
  refine s_y (y_move rfl) rfl rfl rfl rfl ?_
  refine s_y (y_eql_t rfl rfl (by decide)) rfl rfl rfl rfl ?_
  refine s_y (y_move rfl) rfl rfl rfl rfl ?_
  refine s_y (y_move rfl) rfl rfl rfl rfl ?_
  refine s_y (y_eql_t rfl rfl (by decide)) rfl rfl rfl rfl ?_
  refine s_y (y_pick_t rfl rfl) rfl rfl rfl rfl ?_
  refine s_y (y_move rfl) rfl rfl rfl rfl ?_
  refine s_tr (t_call rfl rfl ent_19 (fun w h => awake_t w)) rfl rfl rfl rfl (fun _ _ => ?_)
  refine s_y (y_pick_t rfl rfl) rfl rfl rfl rfl ?_
  refine s_y (y_assign rfl) rfl rfl rfl rfl ?_
  refine s_nil ?_
  refine g_then ?_
  refine g_ret ?_
  refine g_thenr ?_
  exact g_end trivial (fun a w ha hq_ => res1 ha rfl rfl  w) (fun w h => ⟨rfl, h.below⟩)

theorem DuetsBest_bad (w : World) (v : Value) (g : List Int) (v' : Value) (s : List Int) (hg : RdV (Value.int .i64) w v g) (hs : RdV (Value.int .i64) w v' s) (hgl : g.length ≤ 9223372036854775807) (hsl : s.length ≤ 9223372036854775807) (hpg : partB g = false) :
    Calls Try.prog 12 [v, v'].toArray w fun e w' => e = .returned (.bool true) ∧ Below w.heap.size w w' := by
  have hp : pairB g s = false := pair_bad hpg
  refine enter (N := 80) Try.func12 rfl rfl rfl ?_
  refine g_seq ?_
  refine g_region ?_
  refine s_y (y_assign rfl) rfl rfl rfl rfl ?_
  refine s_nil ?_
  refine g_then ?_
  refine g_seq ?_
  refine g_region ?_
  refine s_y (y_move rfl) rfl rfl rfl rfl ?_
  refine s_tr (t_callm rfl rfl ent_17 (fun w h => list_any w _ g (hg.below h.below))) rfl rfl rfl rfl (fun x2 hx3 => ?_)
  obtain ⟨vo1, mo1⟩ := x2
  obtain ⟨hOo1, hEo1⟩ := hx3
  refine s_y (y_move rfl) rfl rfl rfl rfl ?_
  refine s_tr (t_callm rfl rfl ent_17 (fun w h => list_any w _ s (hs.below h.below))) rfl rfl rfl rfl (fun x5 hx6 => ?_)
  obtain ⟨vo4, mo4⟩ := x5
  obtain ⟨hOo4, hEo4⟩ := hx6
  refine s_tr (t_call rfl rfl ent_40 (fun w h => Worth_no w _ _ (g.take 11) (s.take 11) (hOo1.rd fun p hp => h.at_ p (mem_ar mo4 (mem_al mo1 hp))) (hOo4.rd fun p hp => h.at_ p (mem_al mo4 hp)) (by rw [List.length_take]; omega) (by rw [List.length_take]; omega) (pair_take hp))) rfl rfl rfl rfl (fun _ _ => ?_)
  refine s_y (y_move rfl) rfl rfl rfl rfl ?_
  refine s_y (y_extract rfl rfl) rfl rfl rfl rfl ?_
  refine s_y (y_extract rfl rfl) rfl rfl rfl rfl ?_
  refine s_y (y_assign rfl) rfl rfl rfl rfl ?_
  refine s_y (y_assign rfl) rfl rfl rfl rfl ?_
  refine s_nil ?_
  refine g_then ?_
  refine g_seq ?_
  refine g_region ?_
  refine s_y (y_move rfl) rfl rfl rfl rfl ?_
  refine s_tr (t_callm rfl rfl ent_17 (fun w h => list_any w _ g (hg.below h.below))) rfl rfl rfl rfl (fun x8 hx9 => ?_)
  obtain ⟨vo7, mo7⟩ := x8
  obtain ⟨hOo7, hEo7⟩ := hx9
  refine s_tr (t_call rfl rfl ent_41 (fun w h => Best_bad w _ (g.take 11) (hOo7.rd fun p hp => h.at_ p (mem_al mo7 hp)) (by rw [List.length_take]; omega) (part_take hpg))) rfl rfl rfl rfl (fun _ _ => ?_)
  refine s_y (y_move rfl) rfl rfl rfl rfl ?_
  refine s_y (y_extract rfl rfl) rfl rfl rfl rfl ?_
  refine s_y (y_extract rfl rfl) rfl rfl rfl rfl ?_
  refine s_y (y_assign rfl) rfl rfl rfl rfl ?_
  refine s_y (y_assign rfl) rfl rfl rfl rfl ?_
  refine s_nil ?_
  refine g_then ?_
  refine g_seq ?_
  refine g_seq ?_
  refine g_region ?_
  refine s_y (y_move rfl) rfl rfl rfl rfl ?_
  refine s_tr (t_call rfl rfl ent_18 (fun w h => by have h_ := Part_any w _ g (hg.below h.below) hgl; rwa [hpg] at h_)) rfl rfl rfl rfl (fun _ _ => ?_)
  refine s_nil ?_
  refine g_then ?_
  refine g_cond_f rfl ?_
  refine g_seq ?_
  refine g_region ?_
  refine s_y (y_move rfl) rfl rfl rfl rfl ?_
  refine s_y (y_lensl rfl sle_22) rfl rfl rfl rfl ?_
  refine s_y (y_neq_f rfl rfl (by decide)) rfl rfl rfl rfl ?_
  refine s_y (y_move rfl) rfl rfl rfl rfl ?_
  refine s_y (y_move rfl) rfl rfl rfl rfl ?_
  refine s_y (y_neq_f rfl rfl (by decide)) rfl rfl rfl rfl ?_
  refine s_y (y_pick_f rfl rfl) rfl rfl rfl rfl ?_
  refine s_nil ?_
  refine g_then ?_
  refine g_cond_f rfl ?_
  refine g_skip ?_
  refine g_then ?_
  refine g_seq ?_
  refine g_seq ?_
  refine g_region ?_
  refine s_y (y_move rfl) rfl rfl rfl rfl ?_
  refine s_y (y_move rfl) rfl rfl rfl rfl ?_
  refine s_tr (t_call rfl rfl ent_22 (fun w h => by have h_ := pair_any w _ _ g s (hg.below h.below) (hs.below h.below) hgl hsl; rwa [hp] at h_)) rfl rfl rfl rfl (fun _ _ => ?_)
  refine s_y (y_not_f rfl) rfl rfl rfl rfl ?_
  refine s_nil ?_
  refine g_then ?_
  refine g_cond_t rfl ?_
  refine g_seq ?_
  refine g_region ?_
  refine s_y (y_move rfl) rfl rfl rfl rfl ?_
  refine s_y (y_eql_t rfl rfl (by decide)) rfl rfl rfl rfl ?_
  refine s_y (y_move rfl) rfl rfl rfl rfl ?_
  refine s_y (y_move rfl) rfl rfl rfl rfl ?_
  refine s_y (y_eql_t rfl rfl (by decide)) rfl rfl rfl rfl ?_
  refine s_y (y_pick_t rfl rfl) rfl rfl rfl rfl ?_
  refine s_y (y_move rfl) rfl rfl rfl rfl ?_
  refine s_tr (t_call rfl rfl ent_19 (fun w h => awake_t w)) rfl rfl rfl rfl (fun _ _ => ?_)
  refine s_y (y_pick_t rfl rfl) rfl rfl rfl rfl ?_
  refine s_y (y_assign rfl) rfl rfl rfl rfl ?_
  refine s_nil ?_
  refine g_then ?_
  refine g_ret ?_
  refine g_thenr ?_
  exact g_end trivial (fun a w ha hq_ => res1 ha rfl rfl  w) (fun w h => ⟨rfl, h.below⟩)

theorem DuetsBest_law (w : World) (v : Value) (g : List Int) (v' : Value) (s : List Int) (hg : RdV (Value.int .i64) w v g) (hgl : g.length ≤ maxLen) (wg : ∀ x ∈ g, (Lit.int .i64 x).wf = true) (hs : RdV (Value.int .i64) w v' s) (hsl : s.length ≤ maxLen) (ws : ∀ x ∈ s, (Lit.int .i64 x).wf = true) : Calls Try.prog 12 [v, v'].toArray w fun e w' => e = .returned (.bool true) ∧ Below w.heap.size w w' := by
  have hmx : (maxLen : Nat) = 9223372036854775807 := rfl
  cases hpg : partB g with
  | false => exact DuetsBest_bad w v g v' s hg hs (by omega) (by omega) hpg
  | true =>
    cases hp : pairB g s with
    | true =>
      cases hb : bestR g g.length [] with
      | none => exact DuetsBest_none_p w v g v' s hg hs hp hb
      | some p => exact DuetsBest_some_p w v g v' s hg hs hp p.1 p.2 hb
    | false =>
      cases hb : bestR g g.length [] with
      | none => exact DuetsBest_none_n w v g v' s hg hs (by omega) hpg hp hb
      | some p => exact DuetsBest_some_n w v g v' s hg hs (by omega) hpg hp p.1 p.2 hb

theorem Worth_is (w : World) (v v' : Value) (g s : List Int) (hg : RdV (Value.int .i64) w v g) (hs : RdV (Value.int .i64) w v' s) (hp : pairB g s = true) (hz : (frs g s).2 = 0) : Calls Try.prog 40 [v, v'].toArray w fun e w' => e = .returned (.tuple #[.int .i64 (wsum g s s.length), .int .i64 0]) ∧ Below w.heap.size w w' := by
  have h_ := Worth_ok w v v' g s hg hs hp
  rw [show wthD g s = (wsum g s s.length, 0) from if_pos hz] at h_
  exact h_

theorem Worth_isnt (w : World) (v v' : Value) (g s : List Int) (hg : RdV (Value.int .i64) w v g) (hs : RdV (Value.int .i64) w v' s) (hp : pairB g s = true) (hz : ¬ (frs g s).2 = 0) : Calls Try.prog 40 [v, v'].toArray w fun e w' => e = .returned (.tuple #[.int .i64 0, .int .i64 4]) ∧ Below w.heap.size w w' := by
  have h_ := Worth_ok w v v' g s hg hs hp
  rw [show wthD g s = (0, 4) from if_neg hz] at h_
  exact h_

theorem DuetsWorth_no (w : World) (v : Value) (g : List Int) (v' : Value) (s : List Int) (hg : RdV (Value.int .i64) w v g) (hs : RdV (Value.int .i64) w v' s) (hpg : partB g = true) (t : List Int) (bw : Int) (hb : bestR g g.length [] = some (t, bw)) (a : List Int) (hf : fstR g g.length [] = some a) (hsl : s.length ≤ 9223372036854775807) (hp : pairB g s = false) :
    Calls Try.prog 14 [v, v'].toArray w fun e w' => e = .returned (.bool true) ∧ Below w.heap.size w w' := by
  have hbr := best_right hpg hb
  have hfr := fst_right hpg hf
  have hmax := best_max hb hfr.1 hfr.2.1
  have hfb := fst_before hf hbr.1 hbr.2.1
  have hgg := (partB_true.1 hpg).1
  refine enter (N := 108) Try.func14 rfl rfl rfl ?_
  refine g_seq ?_
  refine g_region ?_
  refine s_y (y_assign rfl) rfl rfl rfl rfl ?_
  refine s_nil ?_
  refine g_then ?_
  refine g_seq ?_
  refine g_region ?_
  refine s_y (y_move rfl) rfl rfl rfl rfl ?_
  refine s_tr (t_callm rfl rfl ent_17 (fun w h => by have h_ := list_any w _ g (hg.below h.below); rw [List.take_of_length_le (by omega)] at h_; exact h_)) rfl rfl rfl rfl (fun x2 hx3 => ?_)
  obtain ⟨vo1, mo1⟩ := x2
  obtain ⟨hOo1, hEo1⟩ := hx3
  refine s_tr (t_callm rfl rfl ent_41 (fun w h => Best_some_v w _ g (hOo1.rd fun p hp => h.at_ p (mem_al mo1 hp)) hpg t bw hb)) rfl rfl rfl rfl (fun x5 hx6 => ?_)
  obtain ⟨vo4, mo4⟩ := x5
  obtain ⟨hOo4, hEo4⟩ := hx6
  refine s_y (y_move rfl) rfl rfl rfl rfl ?_
  refine s_y (y_extract rfl rfl) rfl rfl rfl rfl ?_
  refine s_y (y_extract rfl rfl) rfl rfl rfl rfl ?_
  refine s_y (y_assign rfl) rfl rfl rfl rfl ?_
  refine s_y (y_assign rfl) rfl rfl rfl rfl ?_
  refine s_nil ?_
  refine g_then ?_
  refine g_seq ?_
  refine g_seq ?_
  refine g_region ?_
  refine s_y (y_move rfl) rfl rfl rfl rfl ?_
  refine s_y (y_neq_f rfl rfl (by decide)) rfl rfl rfl rfl ?_
  refine s_y (y_move rfl) rfl rfl rfl rfl ?_
  refine s_y (y_move rfl) rfl rfl rfl rfl ?_
  refine s_tr (t_call rfl rfl ent_18 (fun w h => by have h_ := Part_any w _ g (hg.below h.below) (by omega); rwa [hpg] at h_)) rfl rfl rfl rfl (fun _ _ => ?_)
  refine s_y (y_not_t rfl) rfl rfl rfl rfl ?_
  refine s_y (y_pick_f rfl rfl) rfl rfl rfl rfl ?_
  refine s_nil ?_
  refine g_then ?_
  refine g_cond_f rfl ?_
  refine g_skip ?_
  refine g_then ?_
  refine g_seq ?_
  refine g_region ?_
  refine s_y (y_move rfl) rfl rfl rfl rfl ?_
  refine s_tr (t_callm rfl rfl ent_17 (fun w h => by have h_ := list_any w _ g (hg.below h.below); rw [List.take_of_length_le (by omega)] at h_; exact h_)) rfl rfl rfl rfl (fun x8 hx9 => ?_)
  obtain ⟨vo7, mo7⟩ := x8
  obtain ⟨hOo7, hEo7⟩ := hx9
  refine s_tr (t_callm rfl rfl ent_27 (fun w h => First_some_v w _ g (hOo7.rd fun p hp => h.at_ p (mem_al mo7 hp)) hpg a hf)) rfl rfl rfl rfl (fun x11 hx12 => ?_)
  obtain ⟨vo10, mo10⟩ := x11
  obtain ⟨hOo10, hEo10⟩ := hx12
  refine s_y (y_move rfl) rfl rfl rfl rfl ?_
  refine s_y (y_extract rfl rfl) rfl rfl rfl rfl ?_
  refine s_y (y_extract rfl rfl) rfl rfl rfl rfl ?_
  refine s_y (y_assign rfl) rfl rfl rfl rfl ?_
  refine s_y (y_assign rfl) rfl rfl rfl rfl ?_
  refine s_nil ?_
  refine g_then ?_
  refine g_seq ?_
  refine g_region ?_
  refine s_y (y_move rfl) rfl rfl rfl rfl ?_
  refine s_tr (t_callm rfl rfl ent_17 (fun w h => by have h_ := list_any w _ g (hg.below h.below); rw [List.take_of_length_le (by omega)] at h_; exact h_)) rfl rfl rfl rfl (fun x14 hx15 => ?_)
  obtain ⟨vo13, mo13⟩ := x14
  obtain ⟨hOo13, hEo13⟩ := hx15
  refine s_y (y_move rfl) rfl rfl rfl rfl ?_
  refine s_tr (t_callm rfl rfl ent_44 (fun w h => Clone_any w _ t (hOo4.rd fun p hp => h.at_ p (mem_ar mo13 (mem_ar mo10 (mem_ar mo7 (mem_al mo4 hp))))) (by omega))) rfl rfl rfl rfl (fun x17 hx18 => ?_)
  obtain ⟨vo16, mo16⟩ := x17
  obtain ⟨hOo16, hEo16⟩ := hx18
  refine s_tr (t_call rfl rfl ent_40 (fun w h => by have h_ := Worth_is w _ _ g t (hOo13.rd fun p hp => h.at_ p (mem_ar mo16 (mem_al mo13 hp))) (hOo16.rd fun p hp => h.at_ p (mem_al mo16 hp)) hbr.1 hbr.2.1; rw [hbr.2.2.2] at h_; exact h_)) rfl rfl rfl rfl (fun _ _ => ?_)
  refine s_y (y_move rfl) rfl rfl rfl rfl ?_
  refine s_y (y_extract rfl rfl) rfl rfl rfl rfl ?_
  refine s_y (y_extract rfl rfl) rfl rfl rfl rfl ?_
  refine s_y (y_assign rfl) rfl rfl rfl rfl ?_
  refine s_y (y_assign rfl) rfl rfl rfl rfl ?_
  refine s_nil ?_
  refine g_then ?_
  refine g_seq ?_
  refine g_region ?_
  refine s_y (y_move rfl) rfl rfl rfl rfl ?_
  refine s_tr (t_callm rfl rfl ent_17 (fun w h => by have h_ := list_any w _ g (hg.below h.below); rw [List.take_of_length_le (by omega)] at h_; exact h_)) rfl rfl rfl rfl (fun x20 hx21 => ?_)
  obtain ⟨vo19, mo19⟩ := x20
  obtain ⟨hOo19, hEo19⟩ := hx21
  refine s_y (y_move rfl) rfl rfl rfl rfl ?_
  refine s_tr (t_call rfl rfl ent_40 (fun w h => Worth_is w _ _ g a (hOo19.rd fun p hp => h.at_ p (mem_al mo19 hp)) (hOo10.rd fun p hp => h.at_ p (mem_ar mo19 (mem_ar mo16 (mem_ar mo13 (mem_al mo10 hp))))) hfr.1 hfr.2.1)) rfl rfl rfl rfl (fun _ _ => ?_)
  refine s_y (y_move rfl) rfl rfl rfl rfl ?_
  refine s_y (y_extract rfl rfl) rfl rfl rfl rfl ?_
  refine s_y (y_extract rfl rfl) rfl rfl rfl rfl ?_
  refine s_y (y_assign rfl) rfl rfl rfl rfl ?_
  refine s_y (y_assign rfl) rfl rfl rfl rfl ?_
  refine s_nil ?_
  refine g_then ?_
  refine g_seq ?_
  refine g_seq ?_
  refine g_region ?_
  refine s_y (y_move rfl) rfl rfl rfl rfl ?_
  refine s_y (y_neq_f rfl rfl (by decide)) rfl rfl rfl rfl ?_
  refine s_y (y_move rfl) rfl rfl rfl rfl ?_
  refine s_y (y_move rfl) rfl rfl rfl rfl ?_
  refine s_y (y_neq_f rfl rfl (by decide)) rfl rfl rfl rfl ?_
  refine s_y (y_pick_f rfl rfl) rfl rfl rfl rfl ?_
  refine s_y (y_move rfl) rfl rfl rfl rfl ?_
  refine s_y (y_move rfl) rfl rfl rfl rfl ?_
  refine s_y (y_neq_f rfl rfl (by decide)) rfl rfl rfl rfl ?_
  refine s_y (y_pick_f rfl rfl) rfl rfl rfl rfl ?_
  refine s_y (y_move rfl) rfl rfl rfl rfl ?_
  refine s_y (y_move rfl) rfl rfl rfl rfl ?_
  refine s_y (y_move rfl) rfl rfl rfl rfl ?_
  refine s_y (y_lss_f rfl rfl (by omega)) rfl rfl rfl rfl ?_
  refine s_y (y_pick_f rfl rfl) rfl rfl rfl rfl ?_
  refine s_nil ?_
  refine g_then ?_
  refine g_cond_f rfl ?_
  refine g_skip ?_
  refine g_then ?_
  refine g_seq ?_
  refine g_region ?_
  refine s_y (y_move rfl) rfl rfl rfl rfl ?_
  refine s_tr (t_callm rfl rfl ent_17 (fun w h => by have h_ := list_any w _ g (hg.below h.below); rw [List.take_of_length_le (by omega)] at h_; exact h_)) rfl rfl rfl rfl (fun x23 hx24 => ?_)
  obtain ⟨vo22, mo22⟩ := x23
  obtain ⟨hOo22, hEo22⟩ := hx24
  refine s_y (y_move rfl) rfl rfl rfl rfl ?_
  refine s_tr (t_callm rfl rfl ent_17 (fun w h => list_any w _ s (hs.below h.below))) rfl rfl rfl rfl (fun x26 hx27 => ?_)
  obtain ⟨vo25, mo25⟩ := x26
  obtain ⟨hOo25, hEo25⟩ := hx27
  refine s_tr (t_call rfl rfl ent_40 (fun w h => Worth_no w _ _ g (s.take 11) (hOo22.rd fun p hp => h.at_ p (mem_ar mo25 (mem_al mo22 hp))) (hOo25.rd fun p hp => h.at_ p (mem_al mo25 hp)) (by omega) (by rw [List.length_take]; omega) (pair_take2 hpg hp))) rfl rfl rfl rfl (fun _ _ => ?_)
  refine s_y (y_move rfl) rfl rfl rfl rfl ?_
  refine s_y (y_extract rfl rfl) rfl rfl rfl rfl ?_
  refine s_y (y_extract rfl rfl) rfl rfl rfl rfl ?_
  refine s_y (y_assign rfl) rfl rfl rfl rfl ?_
  refine s_y (y_assign rfl) rfl rfl rfl rfl ?_
  refine s_nil ?_
  refine g_then ?_
  refine g_seq ?_
  refine g_seq ?_
  refine g_region ?_
  refine s_y (y_move rfl) rfl rfl rfl rfl ?_
  refine s_y (y_neq_t rfl rfl (by decide)) rfl rfl rfl rfl ?_
  refine s_nil ?_
  refine g_then ?_
  refine g_cond_t rfl ?_
  refine g_seq ?_
  refine g_region ?_
  refine s_y (y_move rfl) rfl rfl rfl rfl ?_
  refine s_y (y_eql_t rfl rfl (by decide)) rfl rfl rfl rfl ?_
  refine s_y (y_move rfl) rfl rfl rfl rfl ?_
  refine s_no rfl rfl rfl ?_
  refine s_no rfl rfl rfl ?_
  refine s_y (y_pick_t rfl rfl) rfl rfl rfl rfl ?_
  refine s_y (y_move rfl) rfl rfl rfl rfl ?_
  refine s_tr (t_call rfl rfl ent_19 (fun w h => awake_t w)) rfl rfl rfl rfl (fun _ _ => ?_)
  refine s_y (y_pick_t rfl rfl) rfl rfl rfl rfl ?_
  refine s_y (y_assign rfl) rfl rfl rfl rfl ?_
  refine s_nil ?_
  refine g_then ?_
  refine g_ret ?_
  refine g_thenr ?_
  exact g_end trivial (fun a w ha hq_ => res1 ha rfl rfl  w) (fun w h => ⟨rfl, h.below⟩)

theorem DuetsWorth_none (w : World) (v : Value) (g : List Int) (v' : Value) (s : List Int) (hg : RdV (Value.int .i64) w v g) (hs : RdV (Value.int .i64) w v' s) (hpg : partB g = true) (t : List Int) (bw : Int) (hb : bestR g g.length [] = some (t, bw)) (a : List Int) (hf : fstR g g.length [] = some a) (hp : pairB g s = true) (hz : ¬ (frs g s).2 = 0) :
    Calls Try.prog 14 [v, v'].toArray w fun e w' => e = .returned (.bool true) ∧ Below w.heap.size w w' := by
  have hbr := best_right hpg hb
  have hfr := fst_right hpg hf
  have hmax := best_max hb hfr.1 hfr.2.1
  have hfb := fst_before hf hbr.1 hbr.2.1
  have hgg := (partB_true.1 hpg).1
  obtain ⟨⟨hgl, hgn⟩, hsn, hln⟩ := pair_facts hp
  refine enter (N := 108) Try.func14 rfl rfl rfl ?_
  refine g_seq ?_
  refine g_region ?_
  refine s_y (y_assign rfl) rfl rfl rfl rfl ?_
  refine s_nil ?_
  refine g_then ?_
  refine g_seq ?_
  refine g_region ?_
  refine s_y (y_move rfl) rfl rfl rfl rfl ?_
  refine s_tr (t_callm rfl rfl ent_17 (fun w h => by have h_ := list_any w _ g (hg.below h.below); rw [List.take_of_length_le (by omega)] at h_; exact h_)) rfl rfl rfl rfl (fun x2 hx3 => ?_)
  obtain ⟨vo1, mo1⟩ := x2
  obtain ⟨hOo1, hEo1⟩ := hx3
  refine s_tr (t_callm rfl rfl ent_41 (fun w h => Best_some_v w _ g (hOo1.rd fun p hp => h.at_ p (mem_al mo1 hp)) hpg t bw hb)) rfl rfl rfl rfl (fun x5 hx6 => ?_)
  obtain ⟨vo4, mo4⟩ := x5
  obtain ⟨hOo4, hEo4⟩ := hx6
  refine s_y (y_move rfl) rfl rfl rfl rfl ?_
  refine s_y (y_extract rfl rfl) rfl rfl rfl rfl ?_
  refine s_y (y_extract rfl rfl) rfl rfl rfl rfl ?_
  refine s_y (y_assign rfl) rfl rfl rfl rfl ?_
  refine s_y (y_assign rfl) rfl rfl rfl rfl ?_
  refine s_nil ?_
  refine g_then ?_
  refine g_seq ?_
  refine g_seq ?_
  refine g_region ?_
  refine s_y (y_move rfl) rfl rfl rfl rfl ?_
  refine s_y (y_neq_f rfl rfl (by decide)) rfl rfl rfl rfl ?_
  refine s_y (y_move rfl) rfl rfl rfl rfl ?_
  refine s_y (y_move rfl) rfl rfl rfl rfl ?_
  refine s_tr (t_call rfl rfl ent_18 (fun w h => by have h_ := Part_any w _ g (hg.below h.below) (by omega); rwa [hpg] at h_)) rfl rfl rfl rfl (fun _ _ => ?_)
  refine s_y (y_not_t rfl) rfl rfl rfl rfl ?_
  refine s_y (y_pick_f rfl rfl) rfl rfl rfl rfl ?_
  refine s_nil ?_
  refine g_then ?_
  refine g_cond_f rfl ?_
  refine g_skip ?_
  refine g_then ?_
  refine g_seq ?_
  refine g_region ?_
  refine s_y (y_move rfl) rfl rfl rfl rfl ?_
  refine s_tr (t_callm rfl rfl ent_17 (fun w h => by have h_ := list_any w _ g (hg.below h.below); rw [List.take_of_length_le (by omega)] at h_; exact h_)) rfl rfl rfl rfl (fun x8 hx9 => ?_)
  obtain ⟨vo7, mo7⟩ := x8
  obtain ⟨hOo7, hEo7⟩ := hx9
  refine s_tr (t_callm rfl rfl ent_27 (fun w h => First_some_v w _ g (hOo7.rd fun p hp => h.at_ p (mem_al mo7 hp)) hpg a hf)) rfl rfl rfl rfl (fun x11 hx12 => ?_)
  obtain ⟨vo10, mo10⟩ := x11
  obtain ⟨hOo10, hEo10⟩ := hx12
  refine s_y (y_move rfl) rfl rfl rfl rfl ?_
  refine s_y (y_extract rfl rfl) rfl rfl rfl rfl ?_
  refine s_y (y_extract rfl rfl) rfl rfl rfl rfl ?_
  refine s_y (y_assign rfl) rfl rfl rfl rfl ?_
  refine s_y (y_assign rfl) rfl rfl rfl rfl ?_
  refine s_nil ?_
  refine g_then ?_
  refine g_seq ?_
  refine g_region ?_
  refine s_y (y_move rfl) rfl rfl rfl rfl ?_
  refine s_tr (t_callm rfl rfl ent_17 (fun w h => by have h_ := list_any w _ g (hg.below h.below); rw [List.take_of_length_le (by omega)] at h_; exact h_)) rfl rfl rfl rfl (fun x14 hx15 => ?_)
  obtain ⟨vo13, mo13⟩ := x14
  obtain ⟨hOo13, hEo13⟩ := hx15
  refine s_y (y_move rfl) rfl rfl rfl rfl ?_
  refine s_tr (t_callm rfl rfl ent_44 (fun w h => Clone_any w _ t (hOo4.rd fun p hp => h.at_ p (mem_ar mo13 (mem_ar mo10 (mem_ar mo7 (mem_al mo4 hp))))) (by omega))) rfl rfl rfl rfl (fun x17 hx18 => ?_)
  obtain ⟨vo16, mo16⟩ := x17
  obtain ⟨hOo16, hEo16⟩ := hx18
  refine s_tr (t_call rfl rfl ent_40 (fun w h => by have h_ := Worth_is w _ _ g t (hOo13.rd fun p hp => h.at_ p (mem_ar mo16 (mem_al mo13 hp))) (hOo16.rd fun p hp => h.at_ p (mem_al mo16 hp)) hbr.1 hbr.2.1; rw [hbr.2.2.2] at h_; exact h_)) rfl rfl rfl rfl (fun _ _ => ?_)
  refine s_y (y_move rfl) rfl rfl rfl rfl ?_
  refine s_y (y_extract rfl rfl) rfl rfl rfl rfl ?_
  refine s_y (y_extract rfl rfl) rfl rfl rfl rfl ?_
  refine s_y (y_assign rfl) rfl rfl rfl rfl ?_
  refine s_y (y_assign rfl) rfl rfl rfl rfl ?_
  refine s_nil ?_
  refine g_then ?_
  refine g_seq ?_
  refine g_region ?_
  refine s_y (y_move rfl) rfl rfl rfl rfl ?_
  refine s_tr (t_callm rfl rfl ent_17 (fun w h => by have h_ := list_any w _ g (hg.below h.below); rw [List.take_of_length_le (by omega)] at h_; exact h_)) rfl rfl rfl rfl (fun x20 hx21 => ?_)
  obtain ⟨vo19, mo19⟩ := x20
  obtain ⟨hOo19, hEo19⟩ := hx21
  refine s_y (y_move rfl) rfl rfl rfl rfl ?_
  refine s_tr (t_call rfl rfl ent_40 (fun w h => Worth_is w _ _ g a (hOo19.rd fun p hp => h.at_ p (mem_al mo19 hp)) (hOo10.rd fun p hp => h.at_ p (mem_ar mo19 (mem_ar mo16 (mem_ar mo13 (mem_al mo10 hp))))) hfr.1 hfr.2.1)) rfl rfl rfl rfl (fun _ _ => ?_)
  refine s_y (y_move rfl) rfl rfl rfl rfl ?_
  refine s_y (y_extract rfl rfl) rfl rfl rfl rfl ?_
  refine s_y (y_extract rfl rfl) rfl rfl rfl rfl ?_
  refine s_y (y_assign rfl) rfl rfl rfl rfl ?_
  refine s_y (y_assign rfl) rfl rfl rfl rfl ?_
  refine s_nil ?_
  refine g_then ?_
  refine g_seq ?_
  refine g_seq ?_
  refine g_region ?_
  refine s_y (y_move rfl) rfl rfl rfl rfl ?_
  refine s_y (y_neq_f rfl rfl (by decide)) rfl rfl rfl rfl ?_
  refine s_y (y_move rfl) rfl rfl rfl rfl ?_
  refine s_y (y_move rfl) rfl rfl rfl rfl ?_
  refine s_y (y_neq_f rfl rfl (by decide)) rfl rfl rfl rfl ?_
  refine s_y (y_pick_f rfl rfl) rfl rfl rfl rfl ?_
  refine s_y (y_move rfl) rfl rfl rfl rfl ?_
  refine s_y (y_move rfl) rfl rfl rfl rfl ?_
  refine s_y (y_neq_f rfl rfl (by decide)) rfl rfl rfl rfl ?_
  refine s_y (y_pick_f rfl rfl) rfl rfl rfl rfl ?_
  refine s_y (y_move rfl) rfl rfl rfl rfl ?_
  refine s_y (y_move rfl) rfl rfl rfl rfl ?_
  refine s_y (y_move rfl) rfl rfl rfl rfl ?_
  refine s_y (y_lss_f rfl rfl (by omega)) rfl rfl rfl rfl ?_
  refine s_y (y_pick_f rfl rfl) rfl rfl rfl rfl ?_
  refine s_nil ?_
  refine g_then ?_
  refine g_cond_f rfl ?_
  refine g_skip ?_
  refine g_then ?_
  refine g_seq ?_
  refine g_region ?_
  refine s_y (y_move rfl) rfl rfl rfl rfl ?_
  refine s_tr (t_callm rfl rfl ent_17 (fun w h => by have h_ := list_any w _ g (hg.below h.below); rw [List.take_of_length_le (by omega)] at h_; exact h_)) rfl rfl rfl rfl (fun x23 hx24 => ?_)
  obtain ⟨vo22, mo22⟩ := x23
  obtain ⟨hOo22, hEo22⟩ := hx24
  refine s_y (y_move rfl) rfl rfl rfl rfl ?_
  refine s_tr (t_callm rfl rfl ent_17 (fun w h => by have h_ := list_any w _ s (hs.below h.below); rw [List.take_of_length_le (by omega)] at h_; exact h_)) rfl rfl rfl rfl (fun x26 hx27 => ?_)
  obtain ⟨vo25, mo25⟩ := x26
  obtain ⟨hOo25, hEo25⟩ := hx27
  refine s_tr (t_call rfl rfl ent_40 (fun w h => Worth_isnt w _ _ g s (hOo22.rd fun p hp => h.at_ p (mem_ar mo25 (mem_al mo22 hp))) (hOo25.rd fun p hp => h.at_ p (mem_al mo25 hp)) hp hz)) rfl rfl rfl rfl (fun _ _ => ?_)
  refine s_y (y_move rfl) rfl rfl rfl rfl ?_
  refine s_y (y_extract rfl rfl) rfl rfl rfl rfl ?_
  refine s_y (y_extract rfl rfl) rfl rfl rfl rfl ?_
  refine s_y (y_assign rfl) rfl rfl rfl rfl ?_
  refine s_y (y_assign rfl) rfl rfl rfl rfl ?_
  refine s_nil ?_
  refine g_then ?_
  refine g_seq ?_
  refine g_seq ?_
  refine g_region ?_
  refine s_y (y_move rfl) rfl rfl rfl rfl ?_
  refine s_y (y_neq_t rfl rfl (by decide)) rfl rfl rfl rfl ?_
  refine s_nil ?_
  refine g_then ?_
  refine g_cond_t rfl ?_
  refine g_seq ?_
  refine g_region ?_
  refine s_y (y_move rfl) rfl rfl rfl rfl ?_
  refine s_y (y_eql_f rfl rfl (by decide)) rfl rfl rfl rfl ?_
  refine s_y (y_move rfl) rfl rfl rfl rfl ?_
  refine s_y (y_move rfl) rfl rfl rfl rfl ?_
  refine s_y (y_eql_t rfl rfl (by decide)) rfl rfl rfl rfl ?_
  refine s_y (y_pick_f rfl rfl) rfl rfl rfl rfl ?_
  refine s_y (y_move rfl) rfl rfl rfl rfl ?_
  refine s_tr (t_call rfl rfl ent_19 (fun w h => awake_t w)) rfl rfl rfl rfl (fun _ _ => ?_)
  refine s_y (y_pick_t rfl rfl) rfl rfl rfl rfl ?_
  refine s_y (y_assign rfl) rfl rfl rfl rfl ?_
  refine s_nil ?_
  refine g_then ?_
  refine g_ret ?_
  refine g_thenr ?_
  exact g_end trivial (fun a w ha hq_ => res1 ha rfl rfl  w) (fun w h => ⟨rfl, h.below⟩)

theorem DuetsWorth_lt (w : World) (v : Value) (g : List Int) (v' : Value) (s : List Int) (hg : RdV (Value.int .i64) w v g) (hs : RdV (Value.int .i64) w v' s) (hpg : partB g = true) (t : List Int) (bw : Int) (hb : bestR g g.length [] = some (t, bw)) (a : List Int) (hf : fstR g g.length [] = some a) (hp : pairB g s = true) (hz : (frs g s).2 = 0) (hlt : wsum g s s.length < bw) :
    Calls Try.prog 14 [v, v'].toArray w fun e w' => e = .returned (.bool true) ∧ Below w.heap.size w w' := by
  have hbr := best_right hpg hb
  have hfr := fst_right hpg hf
  have hmax := best_max hb hfr.1 hfr.2.1
  have hfb := fst_before hf hbr.1 hbr.2.1
  have hgg := (partB_true.1 hpg).1
  obtain ⟨⟨hgl, hgn⟩, hsn, hln⟩ := pair_facts hp
  refine enter (N := 108) Try.func14 rfl rfl rfl ?_
  refine g_seq ?_
  refine g_region ?_
  refine s_y (y_assign rfl) rfl rfl rfl rfl ?_
  refine s_nil ?_
  refine g_then ?_
  refine g_seq ?_
  refine g_region ?_
  refine s_y (y_move rfl) rfl rfl rfl rfl ?_
  refine s_tr (t_callm rfl rfl ent_17 (fun w h => by have h_ := list_any w _ g (hg.below h.below); rw [List.take_of_length_le (by omega)] at h_; exact h_)) rfl rfl rfl rfl (fun x2 hx3 => ?_)
  obtain ⟨vo1, mo1⟩ := x2
  obtain ⟨hOo1, hEo1⟩ := hx3
  refine s_tr (t_callm rfl rfl ent_41 (fun w h => Best_some_v w _ g (hOo1.rd fun p hp => h.at_ p (mem_al mo1 hp)) hpg t bw hb)) rfl rfl rfl rfl (fun x5 hx6 => ?_)
  obtain ⟨vo4, mo4⟩ := x5
  obtain ⟨hOo4, hEo4⟩ := hx6
  refine s_y (y_move rfl) rfl rfl rfl rfl ?_
  refine s_y (y_extract rfl rfl) rfl rfl rfl rfl ?_
  refine s_y (y_extract rfl rfl) rfl rfl rfl rfl ?_
  refine s_y (y_assign rfl) rfl rfl rfl rfl ?_
  refine s_y (y_assign rfl) rfl rfl rfl rfl ?_
  refine s_nil ?_
  refine g_then ?_
  refine g_seq ?_
  refine g_seq ?_
  refine g_region ?_
  refine s_y (y_move rfl) rfl rfl rfl rfl ?_
  refine s_y (y_neq_f rfl rfl (by decide)) rfl rfl rfl rfl ?_
  refine s_y (y_move rfl) rfl rfl rfl rfl ?_
  refine s_y (y_move rfl) rfl rfl rfl rfl ?_
  refine s_tr (t_call rfl rfl ent_18 (fun w h => by have h_ := Part_any w _ g (hg.below h.below) (by omega); rwa [hpg] at h_)) rfl rfl rfl rfl (fun _ _ => ?_)
  refine s_y (y_not_t rfl) rfl rfl rfl rfl ?_
  refine s_y (y_pick_f rfl rfl) rfl rfl rfl rfl ?_
  refine s_nil ?_
  refine g_then ?_
  refine g_cond_f rfl ?_
  refine g_skip ?_
  refine g_then ?_
  refine g_seq ?_
  refine g_region ?_
  refine s_y (y_move rfl) rfl rfl rfl rfl ?_
  refine s_tr (t_callm rfl rfl ent_17 (fun w h => by have h_ := list_any w _ g (hg.below h.below); rw [List.take_of_length_le (by omega)] at h_; exact h_)) rfl rfl rfl rfl (fun x8 hx9 => ?_)
  obtain ⟨vo7, mo7⟩ := x8
  obtain ⟨hOo7, hEo7⟩ := hx9
  refine s_tr (t_callm rfl rfl ent_27 (fun w h => First_some_v w _ g (hOo7.rd fun p hp => h.at_ p (mem_al mo7 hp)) hpg a hf)) rfl rfl rfl rfl (fun x11 hx12 => ?_)
  obtain ⟨vo10, mo10⟩ := x11
  obtain ⟨hOo10, hEo10⟩ := hx12
  refine s_y (y_move rfl) rfl rfl rfl rfl ?_
  refine s_y (y_extract rfl rfl) rfl rfl rfl rfl ?_
  refine s_y (y_extract rfl rfl) rfl rfl rfl rfl ?_
  refine s_y (y_assign rfl) rfl rfl rfl rfl ?_
  refine s_y (y_assign rfl) rfl rfl rfl rfl ?_
  refine s_nil ?_
  refine g_then ?_
  refine g_seq ?_
  refine g_region ?_
  refine s_y (y_move rfl) rfl rfl rfl rfl ?_
  refine s_tr (t_callm rfl rfl ent_17 (fun w h => by have h_ := list_any w _ g (hg.below h.below); rw [List.take_of_length_le (by omega)] at h_; exact h_)) rfl rfl rfl rfl (fun x14 hx15 => ?_)
  obtain ⟨vo13, mo13⟩ := x14
  obtain ⟨hOo13, hEo13⟩ := hx15
  refine s_y (y_move rfl) rfl rfl rfl rfl ?_
  refine s_tr (t_callm rfl rfl ent_44 (fun w h => Clone_any w _ t (hOo4.rd fun p hp => h.at_ p (mem_ar mo13 (mem_ar mo10 (mem_ar mo7 (mem_al mo4 hp))))) (by omega))) rfl rfl rfl rfl (fun x17 hx18 => ?_)
  obtain ⟨vo16, mo16⟩ := x17
  obtain ⟨hOo16, hEo16⟩ := hx18
  refine s_tr (t_call rfl rfl ent_40 (fun w h => by have h_ := Worth_is w _ _ g t (hOo13.rd fun p hp => h.at_ p (mem_ar mo16 (mem_al mo13 hp))) (hOo16.rd fun p hp => h.at_ p (mem_al mo16 hp)) hbr.1 hbr.2.1; rw [hbr.2.2.2] at h_; exact h_)) rfl rfl rfl rfl (fun _ _ => ?_)
  refine s_y (y_move rfl) rfl rfl rfl rfl ?_
  refine s_y (y_extract rfl rfl) rfl rfl rfl rfl ?_
  refine s_y (y_extract rfl rfl) rfl rfl rfl rfl ?_
  refine s_y (y_assign rfl) rfl rfl rfl rfl ?_
  refine s_y (y_assign rfl) rfl rfl rfl rfl ?_
  refine s_nil ?_
  refine g_then ?_
  refine g_seq ?_
  refine g_region ?_
  refine s_y (y_move rfl) rfl rfl rfl rfl ?_
  refine s_tr (t_callm rfl rfl ent_17 (fun w h => by have h_ := list_any w _ g (hg.below h.below); rw [List.take_of_length_le (by omega)] at h_; exact h_)) rfl rfl rfl rfl (fun x20 hx21 => ?_)
  obtain ⟨vo19, mo19⟩ := x20
  obtain ⟨hOo19, hEo19⟩ := hx21
  refine s_y (y_move rfl) rfl rfl rfl rfl ?_
  refine s_tr (t_call rfl rfl ent_40 (fun w h => Worth_is w _ _ g a (hOo19.rd fun p hp => h.at_ p (mem_al mo19 hp)) (hOo10.rd fun p hp => h.at_ p (mem_ar mo19 (mem_ar mo16 (mem_ar mo13 (mem_al mo10 hp))))) hfr.1 hfr.2.1)) rfl rfl rfl rfl (fun _ _ => ?_)
  refine s_y (y_move rfl) rfl rfl rfl rfl ?_
  refine s_y (y_extract rfl rfl) rfl rfl rfl rfl ?_
  refine s_y (y_extract rfl rfl) rfl rfl rfl rfl ?_
  refine s_y (y_assign rfl) rfl rfl rfl rfl ?_
  refine s_y (y_assign rfl) rfl rfl rfl rfl ?_
  refine s_nil ?_
  refine g_then ?_
  refine g_seq ?_
  refine g_seq ?_
  refine g_region ?_
  refine s_y (y_move rfl) rfl rfl rfl rfl ?_
  refine s_y (y_neq_f rfl rfl (by decide)) rfl rfl rfl rfl ?_
  refine s_y (y_move rfl) rfl rfl rfl rfl ?_
  refine s_y (y_move rfl) rfl rfl rfl rfl ?_
  refine s_y (y_neq_f rfl rfl (by decide)) rfl rfl rfl rfl ?_
  refine s_y (y_pick_f rfl rfl) rfl rfl rfl rfl ?_
  refine s_y (y_move rfl) rfl rfl rfl rfl ?_
  refine s_y (y_move rfl) rfl rfl rfl rfl ?_
  refine s_y (y_neq_f rfl rfl (by decide)) rfl rfl rfl rfl ?_
  refine s_y (y_pick_f rfl rfl) rfl rfl rfl rfl ?_
  refine s_y (y_move rfl) rfl rfl rfl rfl ?_
  refine s_y (y_move rfl) rfl rfl rfl rfl ?_
  refine s_y (y_move rfl) rfl rfl rfl rfl ?_
  refine s_y (y_lss_f rfl rfl (by omega)) rfl rfl rfl rfl ?_
  refine s_y (y_pick_f rfl rfl) rfl rfl rfl rfl ?_
  refine s_nil ?_
  refine g_then ?_
  refine g_cond_f rfl ?_
  refine g_skip ?_
  refine g_then ?_
  refine g_seq ?_
  refine g_region ?_
  refine s_y (y_move rfl) rfl rfl rfl rfl ?_
  refine s_tr (t_callm rfl rfl ent_17 (fun w h => by have h_ := list_any w _ g (hg.below h.below); rw [List.take_of_length_le (by omega)] at h_; exact h_)) rfl rfl rfl rfl (fun x23 hx24 => ?_)
  obtain ⟨vo22, mo22⟩ := x23
  obtain ⟨hOo22, hEo22⟩ := hx24
  refine s_y (y_move rfl) rfl rfl rfl rfl ?_
  refine s_tr (t_callm rfl rfl ent_17 (fun w h => by have h_ := list_any w _ s (hs.below h.below); rw [List.take_of_length_le (by omega)] at h_; exact h_)) rfl rfl rfl rfl (fun x26 hx27 => ?_)
  obtain ⟨vo25, mo25⟩ := x26
  obtain ⟨hOo25, hEo25⟩ := hx27
  refine s_tr (t_call rfl rfl ent_40 (fun w h => Worth_is w _ _ g s (hOo22.rd fun p hp => h.at_ p (mem_ar mo25 (mem_al mo22 hp))) (hOo25.rd fun p hp => h.at_ p (mem_al mo25 hp)) hp hz)) rfl rfl rfl rfl (fun _ _ => ?_)
  refine s_y (y_move rfl) rfl rfl rfl rfl ?_
  refine s_y (y_extract rfl rfl) rfl rfl rfl rfl ?_
  refine s_y (y_extract rfl rfl) rfl rfl rfl rfl ?_
  refine s_y (y_assign rfl) rfl rfl rfl rfl ?_
  refine s_y (y_assign rfl) rfl rfl rfl rfl ?_
  refine s_nil ?_
  refine g_then ?_
  refine g_seq ?_
  refine g_seq ?_
  refine g_region ?_
  refine s_y (y_move rfl) rfl rfl rfl rfl ?_
  refine s_y (y_neq_f rfl rfl (by decide)) rfl rfl rfl rfl ?_
  refine s_nil ?_
  refine g_then ?_
  refine g_cond_f rfl ?_
  refine g_skip ?_
  refine g_then ?_
  refine g_seq ?_
  refine g_region ?_
  refine s_y (y_move rfl) rfl rfl rfl rfl ?_
  refine s_y (y_move rfl) rfl rfl rfl rfl ?_
  refine s_y (y_geq_t rfl rfl (by omega)) rfl rfl rfl rfl ?_
  refine s_y (y_move rfl) rfl rfl rfl rfl ?_
  refine s_y (y_move rfl) rfl rfl rfl rfl ?_
  refine s_y (y_move rfl) rfl rfl rfl rfl ?_
  refine s_y (y_gtr_t rfl rfl (by omega)) rfl rfl rfl rfl ?_
  refine s_y (y_move rfl) rfl rfl rfl rfl ?_
  refine s_no rfl rfl rfl ?_
  refine s_no rfl rfl rfl ?_
  refine s_no rfl rfl rfl ?_
  refine s_no rfl rfl rfl ?_
  refine s_y (y_pick_t rfl rfl) rfl rfl rfl rfl ?_
  refine s_y (y_pick_t rfl rfl) rfl rfl rfl rfl ?_
  refine s_y (y_move rfl) rfl rfl rfl rfl ?_
  refine s_tr (t_call rfl rfl ent_19 (fun w h => awake_t w)) rfl rfl rfl rfl (fun _ _ => ?_)
  refine s_y (y_pick_t rfl rfl) rfl rfl rfl rfl ?_
  refine s_y (y_assign rfl) rfl rfl rfl rfl ?_
  refine s_nil ?_
  refine g_then ?_
  refine g_ret ?_
  exact g_end trivial (fun a w ha hq_ => res1 ha rfl rfl  w) (fun w h => ⟨rfl, h.below⟩)

theorem DuetsWorth_eq (w : World) (v : Value) (g : List Int) (v' : Value) (s : List Int) (hg : RdV (Value.int .i64) w v g) (hs : RdV (Value.int .i64) w v' s) (hpg : partB g = true) (t : List Int) (bw : Int) (hb : bestR g g.length [] = some (t, bw)) (a : List Int) (hf : fstR g g.length [] = some a) (hp : pairB g s = true) (hz : (frs g s).2 = 0) (heq : wsum g s s.length = bw) (hcl : cmpL t s ≤ 0) :
    Calls Try.prog 14 [v, v'].toArray w fun e w' => e = .returned (.bool true) ∧ Below w.heap.size w w' := by
  have hbr := best_right hpg hb
  have hfr := fst_right hpg hf
  have hmax := best_max hb hfr.1 hfr.2.1
  have hfb := fst_before hf hbr.1 hbr.2.1
  have hgg := (partB_true.1 hpg).1
  obtain ⟨⟨hgl, hgn⟩, hsn, hln⟩ := pair_facts hp
  refine enter (N := 108) Try.func14 rfl rfl rfl ?_
  refine g_seq ?_
  refine g_region ?_
  refine s_y (y_assign rfl) rfl rfl rfl rfl ?_
  refine s_nil ?_
  refine g_then ?_
  refine g_seq ?_
  refine g_region ?_
  refine s_y (y_move rfl) rfl rfl rfl rfl ?_
  refine s_tr (t_callm rfl rfl ent_17 (fun w h => by have h_ := list_any w _ g (hg.below h.below); rw [List.take_of_length_le (by omega)] at h_; exact h_)) rfl rfl rfl rfl (fun x2 hx3 => ?_)
  obtain ⟨vo1, mo1⟩ := x2
  obtain ⟨hOo1, hEo1⟩ := hx3
  refine s_tr (t_callm rfl rfl ent_41 (fun w h => Best_some_v w _ g (hOo1.rd fun p hp => h.at_ p (mem_al mo1 hp)) hpg t bw hb)) rfl rfl rfl rfl (fun x5 hx6 => ?_)
  obtain ⟨vo4, mo4⟩ := x5
  obtain ⟨hOo4, hEo4⟩ := hx6
  refine s_y (y_move rfl) rfl rfl rfl rfl ?_
  refine s_y (y_extract rfl rfl) rfl rfl rfl rfl ?_
  refine s_y (y_extract rfl rfl) rfl rfl rfl rfl ?_
  refine s_y (y_assign rfl) rfl rfl rfl rfl ?_
  refine s_y (y_assign rfl) rfl rfl rfl rfl ?_
  refine s_nil ?_
  refine g_then ?_
  refine g_seq ?_
  refine g_seq ?_
  refine g_region ?_
  refine s_y (y_move rfl) rfl rfl rfl rfl ?_
  refine s_y (y_neq_f rfl rfl (by decide)) rfl rfl rfl rfl ?_
  refine s_y (y_move rfl) rfl rfl rfl rfl ?_
  refine s_y (y_move rfl) rfl rfl rfl rfl ?_
  refine s_tr (t_call rfl rfl ent_18 (fun w h => by have h_ := Part_any w _ g (hg.below h.below) (by omega); rwa [hpg] at h_)) rfl rfl rfl rfl (fun _ _ => ?_)
  refine s_y (y_not_t rfl) rfl rfl rfl rfl ?_
  refine s_y (y_pick_f rfl rfl) rfl rfl rfl rfl ?_
  refine s_nil ?_
  refine g_then ?_
  refine g_cond_f rfl ?_
  refine g_skip ?_
  refine g_then ?_
  refine g_seq ?_
  refine g_region ?_
  refine s_y (y_move rfl) rfl rfl rfl rfl ?_
  refine s_tr (t_callm rfl rfl ent_17 (fun w h => by have h_ := list_any w _ g (hg.below h.below); rw [List.take_of_length_le (by omega)] at h_; exact h_)) rfl rfl rfl rfl (fun x8 hx9 => ?_)
  obtain ⟨vo7, mo7⟩ := x8
  obtain ⟨hOo7, hEo7⟩ := hx9
  refine s_tr (t_callm rfl rfl ent_27 (fun w h => First_some_v w _ g (hOo7.rd fun p hp => h.at_ p (mem_al mo7 hp)) hpg a hf)) rfl rfl rfl rfl (fun x11 hx12 => ?_)
  obtain ⟨vo10, mo10⟩ := x11
  obtain ⟨hOo10, hEo10⟩ := hx12
  refine s_y (y_move rfl) rfl rfl rfl rfl ?_
  refine s_y (y_extract rfl rfl) rfl rfl rfl rfl ?_
  refine s_y (y_extract rfl rfl) rfl rfl rfl rfl ?_
  refine s_y (y_assign rfl) rfl rfl rfl rfl ?_
  refine s_y (y_assign rfl) rfl rfl rfl rfl ?_
  refine s_nil ?_
  refine g_then ?_
  refine g_seq ?_
  refine g_region ?_
  refine s_y (y_move rfl) rfl rfl rfl rfl ?_
  refine s_tr (t_callm rfl rfl ent_17 (fun w h => by have h_ := list_any w _ g (hg.below h.below); rw [List.take_of_length_le (by omega)] at h_; exact h_)) rfl rfl rfl rfl (fun x14 hx15 => ?_)
  obtain ⟨vo13, mo13⟩ := x14
  obtain ⟨hOo13, hEo13⟩ := hx15
  refine s_y (y_move rfl) rfl rfl rfl rfl ?_
  refine s_tr (t_callm rfl rfl ent_44 (fun w h => Clone_any w _ t (hOo4.rd fun p hp => h.at_ p (mem_ar mo13 (mem_ar mo10 (mem_ar mo7 (mem_al mo4 hp))))) (by omega))) rfl rfl rfl rfl (fun x17 hx18 => ?_)
  obtain ⟨vo16, mo16⟩ := x17
  obtain ⟨hOo16, hEo16⟩ := hx18
  refine s_tr (t_call rfl rfl ent_40 (fun w h => by have h_ := Worth_is w _ _ g t (hOo13.rd fun p hp => h.at_ p (mem_ar mo16 (mem_al mo13 hp))) (hOo16.rd fun p hp => h.at_ p (mem_al mo16 hp)) hbr.1 hbr.2.1; rw [hbr.2.2.2] at h_; exact h_)) rfl rfl rfl rfl (fun _ _ => ?_)
  refine s_y (y_move rfl) rfl rfl rfl rfl ?_
  refine s_y (y_extract rfl rfl) rfl rfl rfl rfl ?_
  refine s_y (y_extract rfl rfl) rfl rfl rfl rfl ?_
  refine s_y (y_assign rfl) rfl rfl rfl rfl ?_
  refine s_y (y_assign rfl) rfl rfl rfl rfl ?_
  refine s_nil ?_
  refine g_then ?_
  refine g_seq ?_
  refine g_region ?_
  refine s_y (y_move rfl) rfl rfl rfl rfl ?_
  refine s_tr (t_callm rfl rfl ent_17 (fun w h => by have h_ := list_any w _ g (hg.below h.below); rw [List.take_of_length_le (by omega)] at h_; exact h_)) rfl rfl rfl rfl (fun x20 hx21 => ?_)
  obtain ⟨vo19, mo19⟩ := x20
  obtain ⟨hOo19, hEo19⟩ := hx21
  refine s_y (y_move rfl) rfl rfl rfl rfl ?_
  refine s_tr (t_call rfl rfl ent_40 (fun w h => Worth_is w _ _ g a (hOo19.rd fun p hp => h.at_ p (mem_al mo19 hp)) (hOo10.rd fun p hp => h.at_ p (mem_ar mo19 (mem_ar mo16 (mem_ar mo13 (mem_al mo10 hp))))) hfr.1 hfr.2.1)) rfl rfl rfl rfl (fun _ _ => ?_)
  refine s_y (y_move rfl) rfl rfl rfl rfl ?_
  refine s_y (y_extract rfl rfl) rfl rfl rfl rfl ?_
  refine s_y (y_extract rfl rfl) rfl rfl rfl rfl ?_
  refine s_y (y_assign rfl) rfl rfl rfl rfl ?_
  refine s_y (y_assign rfl) rfl rfl rfl rfl ?_
  refine s_nil ?_
  refine g_then ?_
  refine g_seq ?_
  refine g_seq ?_
  refine g_region ?_
  refine s_y (y_move rfl) rfl rfl rfl rfl ?_
  refine s_y (y_neq_f rfl rfl (by decide)) rfl rfl rfl rfl ?_
  refine s_y (y_move rfl) rfl rfl rfl rfl ?_
  refine s_y (y_move rfl) rfl rfl rfl rfl ?_
  refine s_y (y_neq_f rfl rfl (by decide)) rfl rfl rfl rfl ?_
  refine s_y (y_pick_f rfl rfl) rfl rfl rfl rfl ?_
  refine s_y (y_move rfl) rfl rfl rfl rfl ?_
  refine s_y (y_move rfl) rfl rfl rfl rfl ?_
  refine s_y (y_neq_f rfl rfl (by decide)) rfl rfl rfl rfl ?_
  refine s_y (y_pick_f rfl rfl) rfl rfl rfl rfl ?_
  refine s_y (y_move rfl) rfl rfl rfl rfl ?_
  refine s_y (y_move rfl) rfl rfl rfl rfl ?_
  refine s_y (y_move rfl) rfl rfl rfl rfl ?_
  refine s_y (y_lss_f rfl rfl (by omega)) rfl rfl rfl rfl ?_
  refine s_y (y_pick_f rfl rfl) rfl rfl rfl rfl ?_
  refine s_nil ?_
  refine g_then ?_
  refine g_cond_f rfl ?_
  refine g_skip ?_
  refine g_then ?_
  refine g_seq ?_
  refine g_region ?_
  refine s_y (y_move rfl) rfl rfl rfl rfl ?_
  refine s_tr (t_callm rfl rfl ent_17 (fun w h => by have h_ := list_any w _ g (hg.below h.below); rw [List.take_of_length_le (by omega)] at h_; exact h_)) rfl rfl rfl rfl (fun x23 hx24 => ?_)
  obtain ⟨vo22, mo22⟩ := x23
  obtain ⟨hOo22, hEo22⟩ := hx24
  refine s_y (y_move rfl) rfl rfl rfl rfl ?_
  refine s_tr (t_callm rfl rfl ent_17 (fun w h => by have h_ := list_any w _ s (hs.below h.below); rw [List.take_of_length_le (by omega)] at h_; exact h_)) rfl rfl rfl rfl (fun x26 hx27 => ?_)
  obtain ⟨vo25, mo25⟩ := x26
  obtain ⟨hOo25, hEo25⟩ := hx27
  refine s_tr (t_call rfl rfl ent_40 (fun w h => Worth_is w _ _ g s (hOo22.rd fun p hp => h.at_ p (mem_ar mo25 (mem_al mo22 hp))) (hOo25.rd fun p hp => h.at_ p (mem_al mo25 hp)) hp hz)) rfl rfl rfl rfl (fun _ _ => ?_)
  refine s_y (y_move rfl) rfl rfl rfl rfl ?_
  refine s_y (y_extract rfl rfl) rfl rfl rfl rfl ?_
  refine s_y (y_extract rfl rfl) rfl rfl rfl rfl ?_
  refine s_y (y_assign rfl) rfl rfl rfl rfl ?_
  refine s_y (y_assign rfl) rfl rfl rfl rfl ?_
  refine s_nil ?_
  refine g_then ?_
  refine g_seq ?_
  refine g_seq ?_
  refine g_region ?_
  refine s_y (y_move rfl) rfl rfl rfl rfl ?_
  refine s_y (y_neq_f rfl rfl (by decide)) rfl rfl rfl rfl ?_
  refine s_nil ?_
  refine g_then ?_
  refine g_cond_f rfl ?_
  refine g_skip ?_
  refine g_then ?_
  refine g_seq ?_
  refine g_region ?_
  refine s_y (y_move rfl) rfl rfl rfl rfl ?_
  refine s_y (y_move rfl) rfl rfl rfl rfl ?_
  refine s_y (y_geq_t rfl rfl (by omega)) rfl rfl rfl rfl ?_
  refine s_y (y_move rfl) rfl rfl rfl rfl ?_
  refine s_y (y_move rfl) rfl rfl rfl rfl ?_
  refine s_y (y_move rfl) rfl rfl rfl rfl ?_
  refine s_y (y_gtr_f rfl rfl (by omega)) rfl rfl rfl rfl ?_
  refine s_y (y_move rfl) rfl rfl rfl rfl ?_
  refine s_y (y_move rfl) rfl rfl rfl rfl ?_
  refine s_y (y_move rfl) rfl rfl rfl rfl ?_
  refine s_tr (t_call rfl rfl ent_45 (fun w h => Compare_any w _ _ t s (hOo4.rd fun p hp => h.at_ p (mem_ar mo25 (mem_ar mo22 (mem_ar mo19 (mem_ar mo16 (mem_ar mo13 (mem_ar mo10 (mem_ar mo7 (mem_al mo4 hp))))))))) (hs.below h.below) (by omega) (by omega))) rfl rfl rfl rfl (fun _ _ => ?_)
  refine s_y (y_leq_t rfl rfl (by omega)) rfl rfl rfl rfl ?_
  refine s_y (y_pick_f rfl rfl) rfl rfl rfl rfl ?_
  refine s_y (y_pick_t rfl rfl) rfl rfl rfl rfl ?_
  refine s_y (y_move rfl) rfl rfl rfl rfl ?_
  refine s_tr (t_call rfl rfl ent_19 (fun w h => awake_t w)) rfl rfl rfl rfl (fun _ _ => ?_)
  refine s_y (y_pick_t rfl rfl) rfl rfl rfl rfl ?_
  refine s_y (y_assign rfl) rfl rfl rfl rfl ?_
  refine s_nil ?_
  refine g_then ?_
  refine g_ret ?_
  exact g_end trivial (fun a w ha hq_ => res1 ha rfl rfl  w) (fun w h => ⟨rfl, h.below⟩)

theorem DuetsWorth_nobest (w : World) (v : Value) (g : List Int) (v' : Value) (s : List Int) (hg : RdV (Value.int .i64) w v g) (hs : RdV (Value.int .i64) w v' s) (hpg : partB g = true) (hb : bestR g g.length [] = none) :
    Calls Try.prog 14 [v, v'].toArray w fun e w' => e = .returned (.bool true) ∧ Below w.heap.size w w' := by
  obtain ⟨hgl, hgn⟩ := partB_true.1 hpg
  refine enter (N := 108) Try.func14 rfl rfl rfl ?_
  refine g_seq ?_
  refine g_region ?_
  refine s_y (y_assign rfl) rfl rfl rfl rfl ?_
  refine s_nil ?_
  refine g_then ?_
  refine g_seq ?_
  refine g_region ?_
  refine s_y (y_move rfl) rfl rfl rfl rfl ?_
  refine s_tr (t_callm rfl rfl ent_17 (fun w h => by have h_ := list_any w _ g (hg.below h.below); rw [List.take_of_length_le (by omega)] at h_; exact h_)) rfl rfl rfl rfl (fun x2 hx3 => ?_)
  obtain ⟨vo1, mo1⟩ := x2
  obtain ⟨hOo1, hEo1⟩ := hx3
  refine s_tr (t_call rfl rfl ent_41 (fun w h => Best_none_v w _ g (hOo1.rd fun p hp => h.at_ p (mem_al mo1 hp)) hpg hb)) rfl rfl rfl rfl (fun _ _ => ?_)
  refine s_y (y_move rfl) rfl rfl rfl rfl ?_
  refine s_y (y_extract rfl rfl) rfl rfl rfl rfl ?_
  refine s_y (y_extract rfl rfl) rfl rfl rfl rfl ?_
  refine s_y (y_assign rfl) rfl rfl rfl rfl ?_
  refine s_y (y_assign rfl) rfl rfl rfl rfl ?_
  refine s_nil ?_
  refine g_then ?_
  refine g_seq ?_
  refine g_seq ?_
  refine g_region ?_
  refine s_y (y_move rfl) rfl rfl rfl rfl ?_
  refine s_y (y_neq_t rfl rfl (by decide)) rfl rfl rfl rfl ?_
  refine s_y (y_move rfl) rfl rfl rfl rfl ?_
  refine s_no rfl rfl rfl ?_
  refine s_no rfl rfl rfl ?_
  refine s_no rfl rfl rfl ?_
  refine s_y (y_pick_t rfl rfl) rfl rfl rfl rfl ?_
  refine s_nil ?_
  refine g_then ?_
  refine g_cond_t rfl ?_
  refine g_seq ?_
  refine g_region ?_
  refine s_y (y_move rfl) rfl rfl rfl rfl ?_
  refine s_y (y_eql_f rfl rfl (by decide)) rfl rfl rfl rfl ?_
  refine s_y (y_move rfl) rfl rfl rfl rfl ?_
  refine s_y (y_move rfl) rfl rfl rfl rfl ?_
  refine s_y (y_eql_t rfl rfl (by decide)) rfl rfl rfl rfl ?_
  refine s_y (y_pick_f rfl rfl) rfl rfl rfl rfl ?_
  refine s_y (y_move rfl) rfl rfl rfl rfl ?_
  refine s_tr (t_call rfl rfl ent_19 (fun w h => awake_t w)) rfl rfl rfl rfl (fun _ _ => ?_)
  refine s_y (y_pick_t rfl rfl) rfl rfl rfl rfl ?_
  refine s_y (y_assign rfl) rfl rfl rfl rfl ?_
  refine s_nil ?_
  refine g_then ?_
  refine g_ret ?_
  refine g_thenr ?_
  exact g_end trivial (fun a w ha hq_ => res1 ha rfl rfl  w) (fun w h => ⟨rfl, h.below⟩)

theorem DuetsWorth_bad (w : World) (v : Value) (g : List Int) (v' : Value) (s : List Int) (hg : RdV (Value.int .i64) w v g) (hs : RdV (Value.int .i64) w v' s) (hgl : g.length ≤ 9223372036854775807) (hsl : s.length ≤ 9223372036854775807) (hpg : partB g = false) :
    Calls Try.prog 14 [v, v'].toArray w fun e w' => e = .returned (.bool true) ∧ Below w.heap.size w w' := by
  refine enter (N := 108) Try.func14 rfl rfl rfl ?_
  refine g_seq ?_
  refine g_region ?_
  refine s_y (y_assign rfl) rfl rfl rfl rfl ?_
  refine s_nil ?_
  refine g_then ?_
  refine g_seq ?_
  refine g_region ?_
  refine s_y (y_move rfl) rfl rfl rfl rfl ?_
  refine s_tr (t_callm rfl rfl ent_17 (fun w h => list_any w _ g (hg.below h.below))) rfl rfl rfl rfl (fun x2 hx3 => ?_)
  obtain ⟨vo1, mo1⟩ := x2
  obtain ⟨hOo1, hEo1⟩ := hx3
  refine s_tr (t_call rfl rfl ent_41 (fun w h => Best_bad w _ (g.take 11) (hOo1.rd fun p hp => h.at_ p (mem_al mo1 hp)) (by rw [List.length_take]; omega) (part_take hpg))) rfl rfl rfl rfl (fun _ _ => ?_)
  refine s_y (y_move rfl) rfl rfl rfl rfl ?_
  refine s_y (y_extract rfl rfl) rfl rfl rfl rfl ?_
  refine s_y (y_extract rfl rfl) rfl rfl rfl rfl ?_
  refine s_y (y_assign rfl) rfl rfl rfl rfl ?_
  refine s_y (y_assign rfl) rfl rfl rfl rfl ?_
  refine s_nil ?_
  refine g_then ?_
  refine g_seq ?_
  refine g_seq ?_
  refine g_region ?_
  refine s_y (y_move rfl) rfl rfl rfl rfl ?_
  refine s_y (y_neq_t rfl rfl (by decide)) rfl rfl rfl rfl ?_
  refine s_y (y_move rfl) rfl rfl rfl rfl ?_
  refine s_no rfl rfl rfl ?_
  refine s_no rfl rfl rfl ?_
  refine s_no rfl rfl rfl ?_
  refine s_y (y_pick_t rfl rfl) rfl rfl rfl rfl ?_
  refine s_nil ?_
  refine g_then ?_
  refine g_cond_t rfl ?_
  refine g_seq ?_
  refine g_region ?_
  refine s_y (y_move rfl) rfl rfl rfl rfl ?_
  refine s_y (y_eql_t rfl rfl (by decide)) rfl rfl rfl rfl ?_
  refine s_y (y_move rfl) rfl rfl rfl rfl ?_
  refine s_no rfl rfl rfl ?_
  refine s_no rfl rfl rfl ?_
  refine s_y (y_pick_t rfl rfl) rfl rfl rfl rfl ?_
  refine s_y (y_move rfl) rfl rfl rfl rfl ?_
  refine s_tr (t_call rfl rfl ent_19 (fun w h => awake_t w)) rfl rfl rfl rfl (fun _ _ => ?_)
  refine s_y (y_pick_t rfl rfl) rfl rfl rfl rfl ?_
  refine s_y (y_assign rfl) rfl rfl rfl rfl ?_
  refine s_nil ?_
  refine g_then ?_
  refine g_ret ?_
  refine g_thenr ?_
  exact g_end trivial (fun a w ha hq_ => res1 ha rfl rfl  w) (fun w h => ⟨rfl, h.below⟩)

theorem DuetsWorth_law (w : World) (v : Value) (g : List Int) (v' : Value) (s : List Int) (hg : RdV (Value.int .i64) w v g) (hgl : g.length ≤ maxLen) (wg : ∀ x ∈ g, (Lit.int .i64 x).wf = true) (hs : RdV (Value.int .i64) w v' s) (hsl : s.length ≤ maxLen) (ws : ∀ x ∈ s, (Lit.int .i64 x).wf = true) : Calls Try.prog 14 [v, v'].toArray w fun e w' => e = .returned (.bool true) ∧ Below w.heap.size w w' := by
  have hmx : (maxLen : Nat) = 9223372036854775807 := rfl
  cases hpg : partB g with
  | false => exact DuetsWorth_bad w v g v' s hg hs (by omega) (by omega) hpg
  | true =>
    cases hb : bestR g g.length [] with
    | none => exact DuetsWorth_nobest w v g v' s hg hs hpg hb
    | some p =>
      obtain ⟨t, bw⟩ := p
      cases hf : fstR g g.length [] with
      | none => rw [fst_best.1 hf] at hb; cases hb
      | some a =>
        cases hp : pairB g s with
        | false => exact DuetsWorth_no w v g v' s hg hs hpg t bw hb a hf (by omega) hp
        | true =>
          by_cases hz : (frs g s).2 = 0
          · rcases best_max hb hp hz with h | ⟨h, h2⟩
            · exact DuetsWorth_lt w v g v' s hg hs hpg t bw hb a hf hp hz h
            · exact DuetsWorth_eq w v g v' s hg hs hpg t bw hb a hf hp hz h h2
          · exact DuetsWorth_none w v g v' s hg hs hpg t bw hb a hf hp hz

theorem DuetsRight_bad (w : World) (v : Value) (g : List Int) (v' : Value) (s : List Int) (hg : RdV (Value.int .i64) w v g) (hs : RdV (Value.int .i64) w v' s) (hgl : g.length ≤ 9223372036854775807) (hsl : s.length ≤ 9223372036854775807) (hpg : partB g = false) :
    Calls Try.prog 15 [v, v'].toArray w fun e w' => e = .returned (.bool true) ∧ Below w.heap.size w w' := by
  refine enter (N := 151) Try.func15 rfl rfl rfl ?_
  refine g_seq ?_
  refine g_region ?_
  refine s_y (y_assign rfl) rfl rfl rfl rfl ?_
  refine s_nil ?_
  refine g_then ?_
  refine g_seq ?_
  refine g_region ?_
  refine s_y (y_move rfl) rfl rfl rfl rfl ?_
  refine s_tr (t_callm rfl rfl ent_17 (fun w h => list_any w _ g (hg.below h.below))) rfl rfl rfl rfl (fun x2 hx3 => ?_)
  obtain ⟨vo1, mo1⟩ := x2
  obtain ⟨hOo1, hEo1⟩ := hx3
  refine s_tr (t_call rfl rfl ent_27 (fun w h => First_bad w _ (g.take 11) (hOo1.rd fun p hp => h.at_ p (mem_al mo1 hp)) (by rw [List.length_take]; omega) (part_take hpg))) rfl rfl rfl rfl (fun _ _ => ?_)
  refine s_y (y_move rfl) rfl rfl rfl rfl ?_
  refine s_y (y_extract rfl rfl) rfl rfl rfl rfl ?_
  refine s_y (y_extract rfl rfl) rfl rfl rfl rfl ?_
  refine s_y (y_assign rfl) rfl rfl rfl rfl ?_
  refine s_y (y_assign rfl) rfl rfl rfl rfl ?_
  refine s_nil ?_
  refine g_then ?_
  refine g_seq ?_
  refine g_region ?_
  refine s_y (y_move rfl) rfl rfl rfl rfl ?_
  refine s_tr (t_callm rfl rfl ent_17 (fun w h => list_any w _ g (hg.below h.below))) rfl rfl rfl rfl (fun x5 hx6 => ?_)
  obtain ⟨vo4, mo4⟩ := x5
  obtain ⟨hOo4, hEo4⟩ := hx6
  refine s_tr (t_call rfl rfl ent_41 (fun w h => Best_bad w _ (g.take 11) (hOo4.rd fun p hp => h.at_ p (mem_al mo4 hp)) (by rw [List.length_take]; omega) (part_take hpg))) rfl rfl rfl rfl (fun _ _ => ?_)
  refine s_y (y_move rfl) rfl rfl rfl rfl ?_
  refine s_y (y_extract rfl rfl) rfl rfl rfl rfl ?_
  refine s_y (y_extract rfl rfl) rfl rfl rfl rfl ?_
  refine s_y (y_assign rfl) rfl rfl rfl rfl ?_
  refine s_y (y_assign rfl) rfl rfl rfl rfl ?_
  refine s_nil ?_
  refine g_then ?_
  refine g_seq ?_
  refine g_region ?_
  refine s_y (y_move rfl) rfl rfl rfl rfl ?_
  refine s_tr (t_callm rfl rfl ent_17 (fun w h => list_any w _ g (hg.below h.below))) rfl rfl rfl rfl (fun x8 hx9 => ?_)
  obtain ⟨vo7, mo7⟩ := x8
  obtain ⟨hOo7, hEo7⟩ := hx9
  refine s_tr (t_call rfl rfl ent_16 (fun w h => Count_bad w _ (g.take 11) (hOo7.rd fun p hp => h.at_ p (mem_al mo7 hp)) (by rw [List.length_take]; omega) (part_take hpg))) rfl rfl rfl rfl (fun _ _ => ?_)
  refine s_y (y_move rfl) rfl rfl rfl rfl ?_
  refine s_y (y_extract rfl rfl) rfl rfl rfl rfl ?_
  refine s_y (y_extract rfl rfl) rfl rfl rfl rfl ?_
  refine s_y (y_assign rfl) rfl rfl rfl rfl ?_
  refine s_y (y_assign rfl) rfl rfl rfl rfl ?_
  refine s_nil ?_
  refine g_then ?_
  refine g_seq ?_
  refine g_region ?_
  refine s_y (y_move rfl) rfl rfl rfl rfl ?_
  refine s_tr (t_callm rfl rfl ent_17 (fun w h => list_any w _ g (hg.below h.below))) rfl rfl rfl rfl (fun x11 hx12 => ?_)
  obtain ⟨vo10, mo10⟩ := x11
  obtain ⟨hOo10, hEo10⟩ := hx12
  refine s_tr (t_call rfl rfl ent_35 (fun w h => Stuck_bad w _ (g.take 11) (hOo10.rd fun p hp => h.at_ p (mem_al mo10 hp)) (by rw [List.length_take]; omega) (part_take hpg))) rfl rfl rfl rfl (fun _ _ => ?_)
  refine s_y (y_move rfl) rfl rfl rfl rfl ?_
  refine s_y (y_extract rfl rfl) rfl rfl rfl rfl ?_
  refine s_y (y_extract rfl rfl) rfl rfl rfl rfl ?_
  refine s_y (y_assign rfl) rfl rfl rfl rfl ?_
  refine s_y (y_assign rfl) rfl rfl rfl rfl ?_
  refine s_nil ?_
  refine g_then ?_
  refine g_seq ?_
  refine g_seq ?_
  refine g_region ?_
  refine s_y (y_move rfl) rfl rfl rfl rfl ?_
  refine s_tr (t_call rfl rfl ent_18 (fun w h => by have h_ := Part_any w _ g (hg.below h.below) hgl; rwa [hpg] at h_)) rfl rfl rfl rfl (fun _ _ => ?_)
  refine s_y (y_not_f rfl) rfl rfl rfl rfl ?_
  refine s_nil ?_
  refine g_then ?_
  refine g_cond_t rfl ?_
  refine g_seq ?_
  refine g_region ?_
  refine s_y (y_move rfl) rfl rfl rfl rfl ?_
  refine s_y (y_eql_t rfl rfl (by decide)) rfl rfl rfl rfl ?_
  refine s_y (y_move rfl) rfl rfl rfl rfl ?_
  refine s_y (y_move rfl) rfl rfl rfl rfl ?_
  refine s_y (y_move rfl) rfl rfl rfl rfl ?_
  refine s_y (y_eql_t rfl rfl (by decide)) rfl rfl rfl rfl ?_
  refine s_y (y_pick_t rfl rfl) rfl rfl rfl rfl ?_
  refine s_y (y_move rfl) rfl rfl rfl rfl ?_
  refine s_y (y_move rfl) rfl rfl rfl rfl ?_
  refine s_y (y_move rfl) rfl rfl rfl rfl ?_
  refine s_y (y_eql_t rfl rfl (by decide)) rfl rfl rfl rfl ?_
  refine s_y (y_pick_t rfl rfl) rfl rfl rfl rfl ?_
  refine s_y (y_move rfl) rfl rfl rfl rfl ?_
  refine s_y (y_move rfl) rfl rfl rfl rfl ?_
  refine s_y (y_move rfl) rfl rfl rfl rfl ?_
  refine s_y (y_eql_t rfl rfl (by decide)) rfl rfl rfl rfl ?_
  refine s_y (y_pick_t rfl rfl) rfl rfl rfl rfl ?_
  refine s_y (y_move rfl) rfl rfl rfl rfl ?_
  refine s_tr (t_call rfl rfl ent_19 (fun w h => awake_t w)) rfl rfl rfl rfl (fun _ _ => ?_)
  refine s_y (y_pick_t rfl rfl) rfl rfl rfl rfl ?_
  refine s_y (y_assign rfl) rfl rfl rfl rfl ?_
  refine s_nil ?_
  refine g_then ?_
  refine g_ret ?_
  refine g_thenr ?_
  exact g_end trivial (fun a w ha hq_ => res1 ha rfl rfl  w) (fun w h => ⟨rfl, h.below⟩)

theorem DuetsRight_0n (w : World) (v : Value) (g : List Int) (v' : Value) (s : List Int) (hg : RdV (Value.int .i64) w v g) (hs : RdV (Value.int .i64) w v' s) (hpg : partB g = true) (hb : bestR g g.length [] = none) (hf : fstR g g.length [] = none) (hp : pairB g s = true) (hz : ¬ (frs g s).2 = 0) :
    Calls Try.prog 15 [v, v'].toArray w fun e w' => e = .returned (.bool true) ∧ Below w.heap.size w w' := by
  obtain ⟨hgl, hgn⟩ := partB_true.1 hpg
  have hc0 : cntR g g.length [] = 0 := (cnt_fst _ _).2 hf
  have hlf := lon_full (g := g) g.length []
  have hl0 : lonR g g.length [] ≠ (g.length : Int) := fun h_ => by have h2_ := lon0.1 h_; omega
  simp only [List.length_nil] at hlf
  refine enter (N := 151) Try.func15 rfl rfl rfl ?_
  refine g_seq ?_
  refine g_region ?_
  refine s_y (y_assign rfl) rfl rfl rfl rfl ?_
  refine s_nil ?_
  refine g_then ?_
  refine g_seq ?_
  refine g_region ?_
  refine s_y (y_move rfl) rfl rfl rfl rfl ?_
  refine s_tr (t_callm rfl rfl ent_17 (fun w h => by have h_ := list_any w _ g (hg.below h.below); rw [List.take_of_length_le (by omega)] at h_; exact h_)) rfl rfl rfl rfl (fun x2 hx3 => ?_)
  obtain ⟨vo1, mo1⟩ := x2
  obtain ⟨hOo1, hEo1⟩ := hx3
  refine s_tr (t_call rfl rfl ent_27 (fun w h => First_none_v w _ g (hOo1.rd fun p hp => h.at_ p (mem_al mo1 hp)) hpg hf)) rfl rfl rfl rfl (fun _ _ => ?_)
  refine s_y (y_move rfl) rfl rfl rfl rfl ?_
  refine s_y (y_extract rfl rfl) rfl rfl rfl rfl ?_
  refine s_y (y_extract rfl rfl) rfl rfl rfl rfl ?_
  refine s_y (y_assign rfl) rfl rfl rfl rfl ?_
  refine s_y (y_assign rfl) rfl rfl rfl rfl ?_
  refine s_nil ?_
  refine g_then ?_
  refine g_seq ?_
  refine g_region ?_
  refine s_y (y_move rfl) rfl rfl rfl rfl ?_
  refine s_tr (t_callm rfl rfl ent_17 (fun w h => by have h_ := list_any w _ g (hg.below h.below); rw [List.take_of_length_le (by omega)] at h_; exact h_)) rfl rfl rfl rfl (fun x5 hx6 => ?_)
  obtain ⟨vo4, mo4⟩ := x5
  obtain ⟨hOo4, hEo4⟩ := hx6
  refine s_tr (t_call rfl rfl ent_41 (fun w h => Best_none_v w _ g (hOo4.rd fun p hp => h.at_ p (mem_al mo4 hp)) hpg hb)) rfl rfl rfl rfl (fun _ _ => ?_)
  refine s_y (y_move rfl) rfl rfl rfl rfl ?_
  refine s_y (y_extract rfl rfl) rfl rfl rfl rfl ?_
  refine s_y (y_extract rfl rfl) rfl rfl rfl rfl ?_
  refine s_y (y_assign rfl) rfl rfl rfl rfl ?_
  refine s_y (y_assign rfl) rfl rfl rfl rfl ?_
  refine s_nil ?_
  refine g_then ?_
  refine g_seq ?_
  refine g_region ?_
  refine s_y (y_move rfl) rfl rfl rfl rfl ?_
  refine s_tr (t_callm rfl rfl ent_17 (fun w h => by have h_ := list_any w _ g (hg.below h.below); rw [List.take_of_length_le (by omega)] at h_; exact h_)) rfl rfl rfl rfl (fun x8 hx9 => ?_)
  obtain ⟨vo7, mo7⟩ := x8
  obtain ⟨hOo7, hEo7⟩ := hx9
  refine s_tr (t_call rfl rfl ent_16 (fun w h => Count_ok_v w _ g (hOo7.rd fun p hp => h.at_ p (mem_al mo7 hp)) hpg )) rfl rfl rfl rfl (fun _ _ => ?_)
  refine s_y (y_move rfl) rfl rfl rfl rfl ?_
  refine s_y (y_extract rfl rfl) rfl rfl rfl rfl ?_
  refine s_y (y_extract rfl rfl) rfl rfl rfl rfl ?_
  refine s_y (y_assign rfl) rfl rfl rfl rfl ?_
  refine s_y (y_assign rfl) rfl rfl rfl rfl ?_
  refine s_nil ?_
  refine g_then ?_
  refine g_seq ?_
  refine g_region ?_
  refine s_y (y_move rfl) rfl rfl rfl rfl ?_
  refine s_tr (t_callm rfl rfl ent_17 (fun w h => by have h_ := list_any w _ g (hg.below h.below); rw [List.take_of_length_le (by omega)] at h_; exact h_)) rfl rfl rfl rfl (fun x11 hx12 => ?_)
  obtain ⟨vo10, mo10⟩ := x11
  obtain ⟨hOo10, hEo10⟩ := hx12
  refine s_tr (t_call rfl rfl ent_35 (fun w h => Stuck_ok_v w _ g (hOo10.rd fun p hp => h.at_ p (mem_al mo10 hp)) hpg (fun h_ => by have h2_ := lon0.1 h_; omega))) rfl rfl rfl rfl (fun _ _ => ?_)
  refine s_y (y_move rfl) rfl rfl rfl rfl ?_
  refine s_y (y_extract rfl rfl) rfl rfl rfl rfl ?_
  refine s_y (y_extract rfl rfl) rfl rfl rfl rfl ?_
  refine s_y (y_assign rfl) rfl rfl rfl rfl ?_
  refine s_y (y_assign rfl) rfl rfl rfl rfl ?_
  refine s_nil ?_
  refine g_then ?_
  refine g_seq ?_
  refine g_seq ?_
  refine g_region ?_
  refine s_y (y_move rfl) rfl rfl rfl rfl ?_
  refine s_tr (t_call rfl rfl ent_18 (fun w h => by have h_ := Part_any w _ g (hg.below h.below) (by omega); rwa [hpg] at h_)) rfl rfl rfl rfl (fun _ _ => ?_)
  refine s_y (y_not_t rfl) rfl rfl rfl rfl ?_
  refine s_nil ?_
  refine g_then ?_
  refine g_cond_f rfl ?_
  refine g_skip ?_
  refine g_then ?_
  refine g_seq ?_
  refine g_seq ?_
  refine g_region ?_
  refine s_y (y_move rfl) rfl rfl rfl rfl ?_
  refine s_y (y_neq_f rfl rfl (by decide)) rfl rfl rfl rfl ?_
  refine s_y (y_move rfl) rfl rfl rfl rfl ?_
  refine s_y (y_move rfl) rfl rfl rfl rfl ?_
  refine s_y (y_lss_f rfl rfl (by omega)) rfl rfl rfl rfl ?_
  refine s_y (y_pick_f rfl rfl) rfl rfl rfl rfl ?_
  refine s_nil ?_
  refine g_then ?_
  refine g_cond_f rfl ?_
  refine g_skip ?_
  refine g_then ?_
  refine g_seq ?_
  refine g_seq ?_
  refine g_region ?_
  refine s_y (y_move rfl) rfl rfl rfl rfl ?_
  refine s_y (y_eql_t rfl rfl (by omega)) rfl rfl rfl rfl ?_
  refine s_nil ?_
  refine g_then ?_
  refine g_cond_t rfl ?_
  refine g_seq ?_
  refine g_region ?_
  refine s_y (y_move rfl) rfl rfl rfl rfl ?_
  refine s_y (y_eql_t rfl rfl (by decide)) rfl rfl rfl rfl ?_
  refine s_y (y_move rfl) rfl rfl rfl rfl ?_
  refine s_y (y_move rfl) rfl rfl rfl rfl ?_
  refine s_y (y_eql_t rfl rfl (by decide)) rfl rfl rfl rfl ?_
  refine s_y (y_pick_t rfl rfl) rfl rfl rfl rfl ?_
  refine s_y (y_move rfl) rfl rfl rfl rfl ?_
  refine s_y (y_move rfl) rfl rfl rfl rfl ?_
  refine s_y (y_eql_t rfl rfl (by decide)) rfl rfl rfl rfl ?_
  refine s_y (y_pick_t rfl rfl) rfl rfl rfl rfl ?_
  refine s_y (y_move rfl) rfl rfl rfl rfl ?_
  refine s_y (y_move rfl) rfl rfl rfl rfl ?_
  refine s_y (y_geq_t rfl rfl (by omega)) rfl rfl rfl rfl ?_
  refine s_y (y_pick_t rfl rfl) rfl rfl rfl rfl ?_
  refine s_y (y_move rfl) rfl rfl rfl rfl ?_
  refine s_y (y_move rfl) rfl rfl rfl rfl ?_
  refine s_y (y_move rfl) rfl rfl rfl rfl ?_
  refine s_y (y_lenV (n := g.length) rfl (by obtain ⟨A, c, h1, _⟩ := hg; exact ⟨A, c, h1⟩) sle_22) rfl rfl rfl rfl ?_
  refine s_y (y_lss_t rfl rfl (by omega)) rfl rfl rfl rfl ?_
  refine s_y (y_pick_t rfl rfl) rfl rfl rfl rfl ?_
  refine s_y (y_move rfl) rfl rfl rfl rfl ?_
  refine s_y (y_move rfl) rfl rfl rfl rfl ?_
  refine s_y (y_move rfl) rfl rfl rfl rfl ?_
  refine s_tr (t_call rfl rfl ent_39 (fun w h => right_f w _ _ g s (hg.below h.below) (hs.below h.below) hp hz)) rfl rfl rfl rfl (fun _ _ => ?_)
  refine s_y (y_not_f rfl) rfl rfl rfl rfl ?_
  refine s_y (y_pick_t rfl rfl) rfl rfl rfl rfl ?_
  refine s_y (y_move rfl) rfl rfl rfl rfl ?_
  refine s_tr (t_call rfl rfl ent_19 (fun w h => awake_t w)) rfl rfl rfl rfl (fun _ _ => ?_)
  refine s_y (y_pick_t rfl rfl) rfl rfl rfl rfl ?_
  refine s_y (y_assign rfl) rfl rfl rfl rfl ?_
  refine s_nil ?_
  refine g_then ?_
  refine g_ret ?_
  refine g_thenr ?_
  exact g_end trivial (fun a w ha hq_ => res1 ha rfl rfl  w) (fun w h => ⟨rfl, h.below⟩)

theorem DuetsRight_0no (w : World) (v : Value) (g : List Int) (v' : Value) (s : List Int) (hg : RdV (Value.int .i64) w v g) (hs : RdV (Value.int .i64) w v' s) (hpg : partB g = true) (hb : bestR g g.length [] = none) (hf : fstR g g.length [] = none) (hsl : s.length ≤ 9223372036854775807) (hp : pairB g s = false) :
    Calls Try.prog 15 [v, v'].toArray w fun e w' => e = .returned (.bool true) ∧ Below w.heap.size w w' := by
  obtain ⟨hgl, hgn⟩ := partB_true.1 hpg
  have hc0 : cntR g g.length [] = 0 := (cnt_fst _ _).2 hf
  have hlf := lon_full (g := g) g.length []
  have hl0 : lonR g g.length [] ≠ (g.length : Int) := fun h_ => by have h2_ := lon0.1 h_; omega
  simp only [List.length_nil] at hlf
  refine enter (N := 151) Try.func15 rfl rfl rfl ?_
  refine g_seq ?_
  refine g_region ?_
  refine s_y (y_assign rfl) rfl rfl rfl rfl ?_
  refine s_nil ?_
  refine g_then ?_
  refine g_seq ?_
  refine g_region ?_
  refine s_y (y_move rfl) rfl rfl rfl rfl ?_
  refine s_tr (t_callm rfl rfl ent_17 (fun w h => by have h_ := list_any w _ g (hg.below h.below); rw [List.take_of_length_le (by omega)] at h_; exact h_)) rfl rfl rfl rfl (fun x2 hx3 => ?_)
  obtain ⟨vo1, mo1⟩ := x2
  obtain ⟨hOo1, hEo1⟩ := hx3
  refine s_tr (t_call rfl rfl ent_27 (fun w h => First_none_v w _ g (hOo1.rd fun p hp => h.at_ p (mem_al mo1 hp)) hpg hf)) rfl rfl rfl rfl (fun _ _ => ?_)
  refine s_y (y_move rfl) rfl rfl rfl rfl ?_
  refine s_y (y_extract rfl rfl) rfl rfl rfl rfl ?_
  refine s_y (y_extract rfl rfl) rfl rfl rfl rfl ?_
  refine s_y (y_assign rfl) rfl rfl rfl rfl ?_
  refine s_y (y_assign rfl) rfl rfl rfl rfl ?_
  refine s_nil ?_
  refine g_then ?_
  refine g_seq ?_
  refine g_region ?_
  refine s_y (y_move rfl) rfl rfl rfl rfl ?_
  refine s_tr (t_callm rfl rfl ent_17 (fun w h => by have h_ := list_any w _ g (hg.below h.below); rw [List.take_of_length_le (by omega)] at h_; exact h_)) rfl rfl rfl rfl (fun x5 hx6 => ?_)
  obtain ⟨vo4, mo4⟩ := x5
  obtain ⟨hOo4, hEo4⟩ := hx6
  refine s_tr (t_call rfl rfl ent_41 (fun w h => Best_none_v w _ g (hOo4.rd fun p hp => h.at_ p (mem_al mo4 hp)) hpg hb)) rfl rfl rfl rfl (fun _ _ => ?_)
  refine s_y (y_move rfl) rfl rfl rfl rfl ?_
  refine s_y (y_extract rfl rfl) rfl rfl rfl rfl ?_
  refine s_y (y_extract rfl rfl) rfl rfl rfl rfl ?_
  refine s_y (y_assign rfl) rfl rfl rfl rfl ?_
  refine s_y (y_assign rfl) rfl rfl rfl rfl ?_
  refine s_nil ?_
  refine g_then ?_
  refine g_seq ?_
  refine g_region ?_
  refine s_y (y_move rfl) rfl rfl rfl rfl ?_
  refine s_tr (t_callm rfl rfl ent_17 (fun w h => by have h_ := list_any w _ g (hg.below h.below); rw [List.take_of_length_le (by omega)] at h_; exact h_)) rfl rfl rfl rfl (fun x8 hx9 => ?_)
  obtain ⟨vo7, mo7⟩ := x8
  obtain ⟨hOo7, hEo7⟩ := hx9
  refine s_tr (t_call rfl rfl ent_16 (fun w h => Count_ok_v w _ g (hOo7.rd fun p hp => h.at_ p (mem_al mo7 hp)) hpg )) rfl rfl rfl rfl (fun _ _ => ?_)
  refine s_y (y_move rfl) rfl rfl rfl rfl ?_
  refine s_y (y_extract rfl rfl) rfl rfl rfl rfl ?_
  refine s_y (y_extract rfl rfl) rfl rfl rfl rfl ?_
  refine s_y (y_assign rfl) rfl rfl rfl rfl ?_
  refine s_y (y_assign rfl) rfl rfl rfl rfl ?_
  refine s_nil ?_
  refine g_then ?_
  refine g_seq ?_
  refine g_region ?_
  refine s_y (y_move rfl) rfl rfl rfl rfl ?_
  refine s_tr (t_callm rfl rfl ent_17 (fun w h => by have h_ := list_any w _ g (hg.below h.below); rw [List.take_of_length_le (by omega)] at h_; exact h_)) rfl rfl rfl rfl (fun x11 hx12 => ?_)
  obtain ⟨vo10, mo10⟩ := x11
  obtain ⟨hOo10, hEo10⟩ := hx12
  refine s_tr (t_call rfl rfl ent_35 (fun w h => Stuck_ok_v w _ g (hOo10.rd fun p hp => h.at_ p (mem_al mo10 hp)) hpg (fun h_ => by have h2_ := lon0.1 h_; omega))) rfl rfl rfl rfl (fun _ _ => ?_)
  refine s_y (y_move rfl) rfl rfl rfl rfl ?_
  refine s_y (y_extract rfl rfl) rfl rfl rfl rfl ?_
  refine s_y (y_extract rfl rfl) rfl rfl rfl rfl ?_
  refine s_y (y_assign rfl) rfl rfl rfl rfl ?_
  refine s_y (y_assign rfl) rfl rfl rfl rfl ?_
  refine s_nil ?_
  refine g_then ?_
  refine g_seq ?_
  refine g_seq ?_
  refine g_region ?_
  refine s_y (y_move rfl) rfl rfl rfl rfl ?_
  refine s_tr (t_call rfl rfl ent_18 (fun w h => by have h_ := Part_any w _ g (hg.below h.below) (by omega); rwa [hpg] at h_)) rfl rfl rfl rfl (fun _ _ => ?_)
  refine s_y (y_not_t rfl) rfl rfl rfl rfl ?_
  refine s_nil ?_
  refine g_then ?_
  refine g_cond_f rfl ?_
  refine g_skip ?_
  refine g_then ?_
  refine g_seq ?_
  refine g_seq ?_
  refine g_region ?_
  refine s_y (y_move rfl) rfl rfl rfl rfl ?_
  refine s_y (y_neq_f rfl rfl (by decide)) rfl rfl rfl rfl ?_
  refine s_y (y_move rfl) rfl rfl rfl rfl ?_
  refine s_y (y_move rfl) rfl rfl rfl rfl ?_
  refine s_y (y_lss_f rfl rfl (by omega)) rfl rfl rfl rfl ?_
  refine s_y (y_pick_f rfl rfl) rfl rfl rfl rfl ?_
  refine s_nil ?_
  refine g_then ?_
  refine g_cond_f rfl ?_
  refine g_skip ?_
  refine g_then ?_
  refine g_seq ?_
  refine g_seq ?_
  refine g_region ?_
  refine s_y (y_move rfl) rfl rfl rfl rfl ?_
  refine s_y (y_eql_t rfl rfl (by omega)) rfl rfl rfl rfl ?_
  refine s_nil ?_
  refine g_then ?_
  refine g_cond_t rfl ?_
  refine g_seq ?_
  refine g_region ?_
  refine s_y (y_move rfl) rfl rfl rfl rfl ?_
  refine s_y (y_eql_t rfl rfl (by decide)) rfl rfl rfl rfl ?_
  refine s_y (y_move rfl) rfl rfl rfl rfl ?_
  refine s_y (y_move rfl) rfl rfl rfl rfl ?_
  refine s_y (y_eql_t rfl rfl (by decide)) rfl rfl rfl rfl ?_
  refine s_y (y_pick_t rfl rfl) rfl rfl rfl rfl ?_
  refine s_y (y_move rfl) rfl rfl rfl rfl ?_
  refine s_y (y_move rfl) rfl rfl rfl rfl ?_
  refine s_y (y_eql_t rfl rfl (by decide)) rfl rfl rfl rfl ?_
  refine s_y (y_pick_t rfl rfl) rfl rfl rfl rfl ?_
  refine s_y (y_move rfl) rfl rfl rfl rfl ?_
  refine s_y (y_move rfl) rfl rfl rfl rfl ?_
  refine s_y (y_geq_t rfl rfl (by omega)) rfl rfl rfl rfl ?_
  refine s_y (y_pick_t rfl rfl) rfl rfl rfl rfl ?_
  refine s_y (y_move rfl) rfl rfl rfl rfl ?_
  refine s_y (y_move rfl) rfl rfl rfl rfl ?_
  refine s_y (y_move rfl) rfl rfl rfl rfl ?_
  refine s_y (y_lenV (n := g.length) rfl (by obtain ⟨A, c, h1, _⟩ := hg; exact ⟨A, c, h1⟩) sle_22) rfl rfl rfl rfl ?_
  refine s_y (y_lss_t rfl rfl (by omega)) rfl rfl rfl rfl ?_
  refine s_y (y_pick_t rfl rfl) rfl rfl rfl rfl ?_
  refine s_y (y_move rfl) rfl rfl rfl rfl ?_
  refine s_y (y_move rfl) rfl rfl rfl rfl ?_
  refine s_y (y_move rfl) rfl rfl rfl rfl ?_
  refine s_tr (t_call rfl rfl ent_39 (fun w h => right_no w _ _ g s (hg.below h.below) (hs.below h.below) (by omega) hsl (pair_take hp))) rfl rfl rfl rfl (fun _ _ => ?_)
  refine s_y (y_not_f rfl) rfl rfl rfl rfl ?_
  refine s_y (y_pick_t rfl rfl) rfl rfl rfl rfl ?_
  refine s_y (y_move rfl) rfl rfl rfl rfl ?_
  refine s_tr (t_call rfl rfl ent_19 (fun w h => awake_t w)) rfl rfl rfl rfl (fun _ _ => ?_)
  refine s_y (y_pick_t rfl rfl) rfl rfl rfl rfl ?_
  refine s_y (y_assign rfl) rfl rfl rfl rfl ?_
  refine s_nil ?_
  refine g_then ?_
  refine g_ret ?_
  refine g_thenr ?_
  exact g_end trivial (fun a w ha hq_ => res1 ha rfl rfl  w) (fun w h => ⟨rfl, h.below⟩)

theorem DuetsRight_1no (w : World) (v : Value) (g : List Int) (v' : Value) (s : List Int) (hg : RdV (Value.int .i64) w v g) (hs : RdV (Value.int .i64) w v' s) (hpg : partB g = true) (t : List Int) (bw : Int) (hb : bestR g g.length [] = some (t, bw)) (a : List Int) (hf : fstR g g.length [] = some a) (hsl : s.length ≤ 9223372036854775807) (hp : pairB g s = false) :
    Calls Try.prog 15 [v, v'].toArray w fun e w' => e = .returned (.bool true) ∧ Below w.heap.size w w' := by
  have hbr := best_right hpg hb
  have hfr := fst_right hpg hf
  have hmax := best_max hb hfr.1 hfr.2.1
  have hfb := fst_before hf hbr.1 hbr.2.1
  have hgg := (partB_true.1 hpg).1
  have hcn := cntR_bounds g g.length []
  have hc1 : cntR g g.length [] ≠ 0 := fun h_ => by rw [(cnt_fst _ _).1 h_] at hf; cases hf
  have hlon : lonR g g.length [] = (g.length : Int) := lon0.2 (by omega)
  refine enter (N := 151) Try.func15 rfl rfl rfl ?_
  refine g_seq ?_
  refine g_region ?_
  refine s_y (y_assign rfl) rfl rfl rfl rfl ?_
  refine s_nil ?_
  refine g_then ?_
  refine g_seq ?_
  refine g_region ?_
  refine s_y (y_move rfl) rfl rfl rfl rfl ?_
  refine s_tr (t_callm rfl rfl ent_17 (fun w h => by have h_ := list_any w _ g (hg.below h.below); rw [List.take_of_length_le (by omega)] at h_; exact h_)) rfl rfl rfl rfl (fun x2 hx3 => ?_)
  obtain ⟨vo1, mo1⟩ := x2
  obtain ⟨hOo1, hEo1⟩ := hx3
  refine s_tr (t_callm rfl rfl ent_27 (fun w h => First_some_v w _ g (hOo1.rd fun p hp => h.at_ p (mem_al mo1 hp)) hpg a hf)) rfl rfl rfl rfl (fun x5 hx6 => ?_)
  obtain ⟨vo4, mo4⟩ := x5
  obtain ⟨hOo4, hEo4⟩ := hx6
  refine s_y (y_move rfl) rfl rfl rfl rfl ?_
  refine s_y (y_extract rfl rfl) rfl rfl rfl rfl ?_
  refine s_y (y_extract rfl rfl) rfl rfl rfl rfl ?_
  refine s_y (y_assign rfl) rfl rfl rfl rfl ?_
  refine s_y (y_assign rfl) rfl rfl rfl rfl ?_
  refine s_nil ?_
  refine g_then ?_
  refine g_seq ?_
  refine g_region ?_
  refine s_y (y_move rfl) rfl rfl rfl rfl ?_
  refine s_tr (t_callm rfl rfl ent_17 (fun w h => by have h_ := list_any w _ g (hg.below h.below); rw [List.take_of_length_le (by omega)] at h_; exact h_)) rfl rfl rfl rfl (fun x8 hx9 => ?_)
  obtain ⟨vo7, mo7⟩ := x8
  obtain ⟨hOo7, hEo7⟩ := hx9
  refine s_tr (t_callm rfl rfl ent_41 (fun w h => Best_some_v w _ g (hOo7.rd fun p hp => h.at_ p (mem_al mo7 hp)) hpg t bw hb)) rfl rfl rfl rfl (fun x11 hx12 => ?_)
  obtain ⟨vo10, mo10⟩ := x11
  obtain ⟨hOo10, hEo10⟩ := hx12
  refine s_y (y_move rfl) rfl rfl rfl rfl ?_
  refine s_y (y_extract rfl rfl) rfl rfl rfl rfl ?_
  refine s_y (y_extract rfl rfl) rfl rfl rfl rfl ?_
  refine s_y (y_assign rfl) rfl rfl rfl rfl ?_
  refine s_y (y_assign rfl) rfl rfl rfl rfl ?_
  refine s_nil ?_
  refine g_then ?_
  refine g_seq ?_
  refine g_region ?_
  refine s_y (y_move rfl) rfl rfl rfl rfl ?_
  refine s_tr (t_callm rfl rfl ent_17 (fun w h => by have h_ := list_any w _ g (hg.below h.below); rw [List.take_of_length_le (by omega)] at h_; exact h_)) rfl rfl rfl rfl (fun x14 hx15 => ?_)
  obtain ⟨vo13, mo13⟩ := x14
  obtain ⟨hOo13, hEo13⟩ := hx15
  refine s_tr (t_call rfl rfl ent_16 (fun w h => Count_ok_v w _ g (hOo13.rd fun p hp => h.at_ p (mem_al mo13 hp)) hpg )) rfl rfl rfl rfl (fun _ _ => ?_)
  refine s_y (y_move rfl) rfl rfl rfl rfl ?_
  refine s_y (y_extract rfl rfl) rfl rfl rfl rfl ?_
  refine s_y (y_extract rfl rfl) rfl rfl rfl rfl ?_
  refine s_y (y_assign rfl) rfl rfl rfl rfl ?_
  refine s_y (y_assign rfl) rfl rfl rfl rfl ?_
  refine s_nil ?_
  refine g_then ?_
  refine g_seq ?_
  refine g_region ?_
  refine s_y (y_move rfl) rfl rfl rfl rfl ?_
  refine s_tr (t_callm rfl rfl ent_17 (fun w h => by have h_ := list_any w _ g (hg.below h.below); rw [List.take_of_length_le (by omega)] at h_; exact h_)) rfl rfl rfl rfl (fun x17 hx18 => ?_)
  obtain ⟨vo16, mo16⟩ := x17
  obtain ⟨hOo16, hEo16⟩ := hx18
  refine s_tr (t_call rfl rfl ent_35 (fun w h => Stuck_none_v w _ g (hOo16.rd fun p hp => h.at_ p (mem_al mo16 hp)) hpg hlon)) rfl rfl rfl rfl (fun _ _ => ?_)
  refine s_y (y_move rfl) rfl rfl rfl rfl ?_
  refine s_y (y_extract rfl rfl) rfl rfl rfl rfl ?_
  refine s_y (y_extract rfl rfl) rfl rfl rfl rfl ?_
  refine s_y (y_assign rfl) rfl rfl rfl rfl ?_
  refine s_y (y_assign rfl) rfl rfl rfl rfl ?_
  refine s_nil ?_
  refine g_then ?_
  refine g_seq ?_
  refine g_seq ?_
  refine g_region ?_
  refine s_y (y_move rfl) rfl rfl rfl rfl ?_
  refine s_tr (t_call rfl rfl ent_18 (fun w h => by have h_ := Part_any w _ g (hg.below h.below) (by omega); rwa [hpg] at h_)) rfl rfl rfl rfl (fun _ _ => ?_)
  refine s_y (y_not_t rfl) rfl rfl rfl rfl ?_
  refine s_nil ?_
  refine g_then ?_
  refine g_cond_f rfl ?_
  refine g_skip ?_
  refine g_then ?_
  refine g_seq ?_
  refine g_seq ?_
  refine g_region ?_
  refine s_y (y_move rfl) rfl rfl rfl rfl ?_
  refine s_y (y_neq_f rfl rfl (by decide)) rfl rfl rfl rfl ?_
  refine s_y (y_move rfl) rfl rfl rfl rfl ?_
  refine s_y (y_move rfl) rfl rfl rfl rfl ?_
  refine s_y (y_lss_f rfl rfl (by omega)) rfl rfl rfl rfl ?_
  refine s_y (y_pick_f rfl rfl) rfl rfl rfl rfl ?_
  refine s_nil ?_
  refine g_then ?_
  refine g_cond_f rfl ?_
  refine g_skip ?_
  refine g_then ?_
  refine g_seq ?_
  refine g_seq ?_
  refine g_region ?_
  refine s_y (y_move rfl) rfl rfl rfl rfl ?_
  refine s_y (y_eql_f rfl rfl (by omega)) rfl rfl rfl rfl ?_
  refine s_nil ?_
  refine g_then ?_
  refine g_cond_f rfl ?_
  refine g_skip ?_
  refine g_then ?_
  refine g_seq ?_
  refine g_seq ?_
  refine g_region ?_
  refine s_y (y_move rfl) rfl rfl rfl rfl ?_
  refine s_y (y_neq_f rfl rfl (by decide)) rfl rfl rfl rfl ?_
  refine s_y (y_move rfl) rfl rfl rfl rfl ?_
  refine s_y (y_move rfl) rfl rfl rfl rfl ?_
  refine s_y (y_neq_f rfl rfl (by decide)) rfl rfl rfl rfl ?_
  refine s_y (y_pick_f rfl rfl) rfl rfl rfl rfl ?_
  refine s_y (y_move rfl) rfl rfl rfl rfl ?_
  refine s_y (y_move rfl) rfl rfl rfl rfl ?_
  refine s_y (y_neq_f rfl rfl (by decide)) rfl rfl rfl rfl ?_
  refine s_y (y_pick_f rfl rfl) rfl rfl rfl rfl ?_
  refine s_y (y_move rfl) rfl rfl rfl rfl ?_
  refine s_y (y_move rfl) rfl rfl rfl rfl ?_
  refine s_y (y_move rfl) rfl rfl rfl rfl ?_
  refine s_tr (t_call rfl rfl ent_39 (fun w h => right_t w _ _ g a (hg.below h.below) (hOo4.rd fun p hp => h.at_ p (mem_ar mo16 (mem_ar mo13 (mem_ar mo10 (mem_ar mo7 (mem_al mo4 hp)))))) hfr.1 hfr.2.1)) rfl rfl rfl rfl (fun _ _ => ?_)
  refine s_y (y_not_t rfl) rfl rfl rfl rfl ?_
  refine s_y (y_pick_f rfl rfl) rfl rfl rfl rfl ?_
  refine s_y (y_move rfl) rfl rfl rfl rfl ?_
  refine s_y (y_move rfl) rfl rfl rfl rfl ?_
  refine s_y (y_move rfl) rfl rfl rfl rfl ?_
  refine s_tr (t_call rfl rfl ent_39 (fun w h => right_t w _ _ g t (hg.below h.below) (hOo10.rd fun p hp => h.at_ p (mem_ar mo16 (mem_ar mo13 (mem_al mo10 hp)))) hbr.1 hbr.2.1)) rfl rfl rfl rfl (fun _ _ => ?_)
  refine s_y (y_not_t rfl) rfl rfl rfl rfl ?_
  refine s_y (y_pick_f rfl rfl) rfl rfl rfl rfl ?_
  refine s_y (y_move rfl) rfl rfl rfl rfl ?_
  refine s_y (y_move rfl) rfl rfl rfl rfl ?_
  refine s_y (y_lenV (n := a.length) rfl hOo4.1 sle_22) rfl rfl rfl rfl ?_
  refine s_y (y_move rfl) rfl rfl rfl rfl ?_
  refine s_y (y_lenV (n := g.length) rfl (by obtain ⟨A, c, h1, _⟩ := hg; exact ⟨A, c, h1⟩) sle_22) rfl rfl rfl rfl ?_
  refine s_y (y_neq_f rfl rfl (by omega)) rfl rfl rfl rfl ?_
  refine s_y (y_pick_f rfl rfl) rfl rfl rfl rfl ?_
  refine s_y (y_move rfl) rfl rfl rfl rfl ?_
  refine s_y (y_move rfl) rfl rfl rfl rfl ?_
  refine s_y (y_move rfl) rfl rfl rfl rfl ?_
  refine s_tr (t_call rfl rfl ent_45 (fun w h => Compare_any w _ _ a t (hOo4.rd fun p hp => h.at_ p (mem_ar mo16 (mem_ar mo13 (mem_ar mo10 (mem_ar mo7 (mem_al mo4 hp)))))) (hOo10.rd fun p hp => h.at_ p (mem_ar mo16 (mem_ar mo13 (mem_al mo10 hp)))) (by omega) (by omega))) rfl rfl rfl rfl (fun _ _ => ?_)
  refine s_y (y_gtr_f rfl rfl (by omega)) rfl rfl rfl rfl ?_
  refine s_y (y_pick_f rfl rfl) rfl rfl rfl rfl ?_
  refine s_nil ?_
  refine g_then ?_
  refine g_cond_f rfl ?_
  refine g_skip ?_
  refine g_then ?_
  refine g_seq ?_
  refine g_region ?_
  refine s_y (y_move rfl) rfl rfl rfl rfl ?_
  refine s_y (y_move rfl) rfl rfl rfl rfl ?_
  refine s_tr (t_call rfl rfl ent_22 (fun w h => by have h_ := pair_any w _ _ g s (hg.below h.below) (hs.below h.below) (by omega) hsl; rwa [hp] at h_)) rfl rfl rfl rfl (fun _ _ => ?_)
  refine s_y (y_not_f rfl) rfl rfl rfl rfl ?_
  refine s_y (y_move rfl) rfl rfl rfl rfl ?_
  refine s_no rfl rfl rfl ?_
  refine s_no rfl rfl rfl ?_
  refine s_no rfl rfl rfl ?_
  refine s_no rfl rfl rfl ?_
  refine s_y (y_pick_t rfl rfl) rfl rfl rfl rfl ?_
  refine s_y (y_move rfl) rfl rfl rfl rfl ?_
  refine s_no rfl rfl rfl ?_
  refine s_no rfl rfl rfl ?_
  refine s_no rfl rfl rfl ?_
  refine s_no rfl rfl rfl ?_
  refine s_y (y_pick_t rfl rfl) rfl rfl rfl rfl ?_
  refine s_y (y_move rfl) rfl rfl rfl rfl ?_
  refine s_tr (t_call rfl rfl ent_19 (fun w h => awake_t w)) rfl rfl rfl rfl (fun _ _ => ?_)
  refine s_y (y_pick_t rfl rfl) rfl rfl rfl rfl ?_
  refine s_y (y_assign rfl) rfl rfl rfl rfl ?_
  refine s_nil ?_
  refine g_then ?_
  refine g_ret ?_
  exact g_end trivial (fun a w ha hq_ => res1 ha rfl rfl  w) (fun w h => ⟨rfl, h.below⟩)

theorem DuetsRight_1n (w : World) (v : Value) (g : List Int) (v' : Value) (s : List Int) (hg : RdV (Value.int .i64) w v g) (hs : RdV (Value.int .i64) w v' s) (hpg : partB g = true) (t : List Int) (bw : Int) (hb : bestR g g.length [] = some (t, bw)) (a : List Int) (hf : fstR g g.length [] = some a) (hp : pairB g s = true) (hz : ¬ (frs g s).2 = 0) :
    Calls Try.prog 15 [v, v'].toArray w fun e w' => e = .returned (.bool true) ∧ Below w.heap.size w w' := by
  have hbr := best_right hpg hb
  have hfr := fst_right hpg hf
  have hmax := best_max hb hfr.1 hfr.2.1
  have hfb := fst_before hf hbr.1 hbr.2.1
  have hgg := (partB_true.1 hpg).1
  have hcn := cntR_bounds g g.length []
  have hc1 : cntR g g.length [] ≠ 0 := fun h_ => by rw [(cnt_fst _ _).1 h_] at hf; cases hf
  have hlon : lonR g g.length [] = (g.length : Int) := lon0.2 (by omega)
  obtain ⟨⟨hgl, hgn⟩, hsn, hln⟩ := pair_facts hp
  refine enter (N := 151) Try.func15 rfl rfl rfl ?_
  refine g_seq ?_
  refine g_region ?_
  refine s_y (y_assign rfl) rfl rfl rfl rfl ?_
  refine s_nil ?_
  refine g_then ?_
  refine g_seq ?_
  refine g_region ?_
  refine s_y (y_move rfl) rfl rfl rfl rfl ?_
  refine s_tr (t_callm rfl rfl ent_17 (fun w h => by have h_ := list_any w _ g (hg.below h.below); rw [List.take_of_length_le (by omega)] at h_; exact h_)) rfl rfl rfl rfl (fun x2 hx3 => ?_)
  obtain ⟨vo1, mo1⟩ := x2
  obtain ⟨hOo1, hEo1⟩ := hx3
  refine s_tr (t_callm rfl rfl ent_27 (fun w h => First_some_v w _ g (hOo1.rd fun p hp => h.at_ p (mem_al mo1 hp)) hpg a hf)) rfl rfl rfl rfl (fun x5 hx6 => ?_)
  obtain ⟨vo4, mo4⟩ := x5
  obtain ⟨hOo4, hEo4⟩ := hx6
  refine s_y (y_move rfl) rfl rfl rfl rfl ?_
  refine s_y (y_extract rfl rfl) rfl rfl rfl rfl ?_
  refine s_y (y_extract rfl rfl) rfl rfl rfl rfl ?_
  refine s_y (y_assign rfl) rfl rfl rfl rfl ?_
  refine s_y (y_assign rfl) rfl rfl rfl rfl ?_
  refine s_nil ?_
  refine g_then ?_
  refine g_seq ?_
  refine g_region ?_
  refine s_y (y_move rfl) rfl rfl rfl rfl ?_
  refine s_tr (t_callm rfl rfl ent_17 (fun w h => by have h_ := list_any w _ g (hg.below h.below); rw [List.take_of_length_le (by omega)] at h_; exact h_)) rfl rfl rfl rfl (fun x8 hx9 => ?_)
  obtain ⟨vo7, mo7⟩ := x8
  obtain ⟨hOo7, hEo7⟩ := hx9
  refine s_tr (t_callm rfl rfl ent_41 (fun w h => Best_some_v w _ g (hOo7.rd fun p hp => h.at_ p (mem_al mo7 hp)) hpg t bw hb)) rfl rfl rfl rfl (fun x11 hx12 => ?_)
  obtain ⟨vo10, mo10⟩ := x11
  obtain ⟨hOo10, hEo10⟩ := hx12
  refine s_y (y_move rfl) rfl rfl rfl rfl ?_
  refine s_y (y_extract rfl rfl) rfl rfl rfl rfl ?_
  refine s_y (y_extract rfl rfl) rfl rfl rfl rfl ?_
  refine s_y (y_assign rfl) rfl rfl rfl rfl ?_
  refine s_y (y_assign rfl) rfl rfl rfl rfl ?_
  refine s_nil ?_
  refine g_then ?_
  refine g_seq ?_
  refine g_region ?_
  refine s_y (y_move rfl) rfl rfl rfl rfl ?_
  refine s_tr (t_callm rfl rfl ent_17 (fun w h => by have h_ := list_any w _ g (hg.below h.below); rw [List.take_of_length_le (by omega)] at h_; exact h_)) rfl rfl rfl rfl (fun x14 hx15 => ?_)
  obtain ⟨vo13, mo13⟩ := x14
  obtain ⟨hOo13, hEo13⟩ := hx15
  refine s_tr (t_call rfl rfl ent_16 (fun w h => Count_ok_v w _ g (hOo13.rd fun p hp => h.at_ p (mem_al mo13 hp)) hpg )) rfl rfl rfl rfl (fun _ _ => ?_)
  refine s_y (y_move rfl) rfl rfl rfl rfl ?_
  refine s_y (y_extract rfl rfl) rfl rfl rfl rfl ?_
  refine s_y (y_extract rfl rfl) rfl rfl rfl rfl ?_
  refine s_y (y_assign rfl) rfl rfl rfl rfl ?_
  refine s_y (y_assign rfl) rfl rfl rfl rfl ?_
  refine s_nil ?_
  refine g_then ?_
  refine g_seq ?_
  refine g_region ?_
  refine s_y (y_move rfl) rfl rfl rfl rfl ?_
  refine s_tr (t_callm rfl rfl ent_17 (fun w h => by have h_ := list_any w _ g (hg.below h.below); rw [List.take_of_length_le (by omega)] at h_; exact h_)) rfl rfl rfl rfl (fun x17 hx18 => ?_)
  obtain ⟨vo16, mo16⟩ := x17
  obtain ⟨hOo16, hEo16⟩ := hx18
  refine s_tr (t_call rfl rfl ent_35 (fun w h => Stuck_none_v w _ g (hOo16.rd fun p hp => h.at_ p (mem_al mo16 hp)) hpg hlon)) rfl rfl rfl rfl (fun _ _ => ?_)
  refine s_y (y_move rfl) rfl rfl rfl rfl ?_
  refine s_y (y_extract rfl rfl) rfl rfl rfl rfl ?_
  refine s_y (y_extract rfl rfl) rfl rfl rfl rfl ?_
  refine s_y (y_assign rfl) rfl rfl rfl rfl ?_
  refine s_y (y_assign rfl) rfl rfl rfl rfl ?_
  refine s_nil ?_
  refine g_then ?_
  refine g_seq ?_
  refine g_seq ?_
  refine g_region ?_
  refine s_y (y_move rfl) rfl rfl rfl rfl ?_
  refine s_tr (t_call rfl rfl ent_18 (fun w h => by have h_ := Part_any w _ g (hg.below h.below) (by omega); rwa [hpg] at h_)) rfl rfl rfl rfl (fun _ _ => ?_)
  refine s_y (y_not_t rfl) rfl rfl rfl rfl ?_
  refine s_nil ?_
  refine g_then ?_
  refine g_cond_f rfl ?_
  refine g_skip ?_
  refine g_then ?_
  refine g_seq ?_
  refine g_seq ?_
  refine g_region ?_
  refine s_y (y_move rfl) rfl rfl rfl rfl ?_
  refine s_y (y_neq_f rfl rfl (by decide)) rfl rfl rfl rfl ?_
  refine s_y (y_move rfl) rfl rfl rfl rfl ?_
  refine s_y (y_move rfl) rfl rfl rfl rfl ?_
  refine s_y (y_lss_f rfl rfl (by omega)) rfl rfl rfl rfl ?_
  refine s_y (y_pick_f rfl rfl) rfl rfl rfl rfl ?_
  refine s_nil ?_
  refine g_then ?_
  refine g_cond_f rfl ?_
  refine g_skip ?_
  refine g_then ?_
  refine g_seq ?_
  refine g_seq ?_
  refine g_region ?_
  refine s_y (y_move rfl) rfl rfl rfl rfl ?_
  refine s_y (y_eql_f rfl rfl (by omega)) rfl rfl rfl rfl ?_
  refine s_nil ?_
  refine g_then ?_
  refine g_cond_f rfl ?_
  refine g_skip ?_
  refine g_then ?_
  refine g_seq ?_
  refine g_seq ?_
  refine g_region ?_
  refine s_y (y_move rfl) rfl rfl rfl rfl ?_
  refine s_y (y_neq_f rfl rfl (by decide)) rfl rfl rfl rfl ?_
  refine s_y (y_move rfl) rfl rfl rfl rfl ?_
  refine s_y (y_move rfl) rfl rfl rfl rfl ?_
  refine s_y (y_neq_f rfl rfl (by decide)) rfl rfl rfl rfl ?_
  refine s_y (y_pick_f rfl rfl) rfl rfl rfl rfl ?_
  refine s_y (y_move rfl) rfl rfl rfl rfl ?_
  refine s_y (y_move rfl) rfl rfl rfl rfl ?_
  refine s_y (y_neq_f rfl rfl (by decide)) rfl rfl rfl rfl ?_
  refine s_y (y_pick_f rfl rfl) rfl rfl rfl rfl ?_
  refine s_y (y_move rfl) rfl rfl rfl rfl ?_
  refine s_y (y_move rfl) rfl rfl rfl rfl ?_
  refine s_y (y_move rfl) rfl rfl rfl rfl ?_
  refine s_tr (t_call rfl rfl ent_39 (fun w h => right_t w _ _ g a (hg.below h.below) (hOo4.rd fun p hp => h.at_ p (mem_ar mo16 (mem_ar mo13 (mem_ar mo10 (mem_ar mo7 (mem_al mo4 hp)))))) hfr.1 hfr.2.1)) rfl rfl rfl rfl (fun _ _ => ?_)
  refine s_y (y_not_t rfl) rfl rfl rfl rfl ?_
  refine s_y (y_pick_f rfl rfl) rfl rfl rfl rfl ?_
  refine s_y (y_move rfl) rfl rfl rfl rfl ?_
  refine s_y (y_move rfl) rfl rfl rfl rfl ?_
  refine s_y (y_move rfl) rfl rfl rfl rfl ?_
  refine s_tr (t_call rfl rfl ent_39 (fun w h => right_t w _ _ g t (hg.below h.below) (hOo10.rd fun p hp => h.at_ p (mem_ar mo16 (mem_ar mo13 (mem_al mo10 hp)))) hbr.1 hbr.2.1)) rfl rfl rfl rfl (fun _ _ => ?_)
  refine s_y (y_not_t rfl) rfl rfl rfl rfl ?_
  refine s_y (y_pick_f rfl rfl) rfl rfl rfl rfl ?_
  refine s_y (y_move rfl) rfl rfl rfl rfl ?_
  refine s_y (y_move rfl) rfl rfl rfl rfl ?_
  refine s_y (y_lenV (n := a.length) rfl hOo4.1 sle_22) rfl rfl rfl rfl ?_
  refine s_y (y_move rfl) rfl rfl rfl rfl ?_
  refine s_y (y_lenV (n := g.length) rfl (by obtain ⟨A, c, h1, _⟩ := hg; exact ⟨A, c, h1⟩) sle_22) rfl rfl rfl rfl ?_
  refine s_y (y_neq_f rfl rfl (by omega)) rfl rfl rfl rfl ?_
  refine s_y (y_pick_f rfl rfl) rfl rfl rfl rfl ?_
  refine s_y (y_move rfl) rfl rfl rfl rfl ?_
  refine s_y (y_move rfl) rfl rfl rfl rfl ?_
  refine s_y (y_move rfl) rfl rfl rfl rfl ?_
  refine s_tr (t_call rfl rfl ent_45 (fun w h => Compare_any w _ _ a t (hOo4.rd fun p hp => h.at_ p (mem_ar mo16 (mem_ar mo13 (mem_ar mo10 (mem_ar mo7 (mem_al mo4 hp)))))) (hOo10.rd fun p hp => h.at_ p (mem_ar mo16 (mem_ar mo13 (mem_al mo10 hp)))) (by omega) (by omega))) rfl rfl rfl rfl (fun _ _ => ?_)
  refine s_y (y_gtr_f rfl rfl (by omega)) rfl rfl rfl rfl ?_
  refine s_y (y_pick_f rfl rfl) rfl rfl rfl rfl ?_
  refine s_nil ?_
  refine g_then ?_
  refine g_cond_f rfl ?_
  refine g_skip ?_
  refine g_then ?_
  refine g_seq ?_
  refine g_region ?_
  refine s_y (y_move rfl) rfl rfl rfl rfl ?_
  refine s_y (y_move rfl) rfl rfl rfl rfl ?_
  refine s_tr (t_call rfl rfl ent_22 (fun w h => by have h_ := pair_any w _ _ g s (hg.below h.below) (hs.below h.below) (by omega) (by omega); rwa [hp] at h_)) rfl rfl rfl rfl (fun _ _ => ?_)
  refine s_y (y_not_t rfl) rfl rfl rfl rfl ?_
  refine s_y (y_move rfl) rfl rfl rfl rfl ?_
  refine s_y (y_move rfl) rfl rfl rfl rfl ?_
  refine s_y (y_move rfl) rfl rfl rfl rfl ?_
  refine s_tr (t_call rfl rfl ent_39 (fun w h => right_f w _ _ g s (hg.below h.below) (hs.below h.below) hp hz)) rfl rfl rfl rfl (fun _ _ => ?_)
  refine s_y (y_not_f rfl) rfl rfl rfl rfl ?_
  refine s_y (y_pick_f rfl rfl) rfl rfl rfl rfl ?_
  refine s_y (y_move rfl) rfl rfl rfl rfl ?_
  refine s_no rfl rfl rfl ?_
  refine s_no rfl rfl rfl ?_
  refine s_no rfl rfl rfl ?_
  refine s_no rfl rfl rfl ?_
  refine s_y (y_pick_t rfl rfl) rfl rfl rfl rfl ?_
  refine s_y (y_move rfl) rfl rfl rfl rfl ?_
  refine s_tr (t_call rfl rfl ent_19 (fun w h => awake_t w)) rfl rfl rfl rfl (fun _ _ => ?_)
  refine s_y (y_pick_t rfl rfl) rfl rfl rfl rfl ?_
  refine s_y (y_assign rfl) rfl rfl rfl rfl ?_
  refine s_nil ?_
  refine g_then ?_
  refine g_ret ?_
  exact g_end trivial (fun a w ha hq_ => res1 ha rfl rfl  w) (fun w h => ⟨rfl, h.below⟩)

theorem DuetsRight_1r (w : World) (v : Value) (g : List Int) (v' : Value) (s : List Int) (hg : RdV (Value.int .i64) w v g) (hs : RdV (Value.int .i64) w v' s) (hpg : partB g = true) (t : List Int) (bw : Int) (hb : bestR g g.length [] = some (t, bw)) (a : List Int) (hf : fstR g g.length [] = some a) (hp : pairB g s = true) (hz : (frs g s).2 = 0) :
    Calls Try.prog 15 [v, v'].toArray w fun e w' => e = .returned (.bool true) ∧ Below w.heap.size w w' := by
  have hbr := best_right hpg hb
  have hfr := fst_right hpg hf
  have hmax := best_max hb hfr.1 hfr.2.1
  have hfb := fst_before hf hbr.1 hbr.2.1
  have hgg := (partB_true.1 hpg).1
  have hcn := cntR_bounds g g.length []
  have hc1 : cntR g g.length [] ≠ 0 := fun h_ => by rw [(cnt_fst _ _).1 h_] at hf; cases hf
  have hlon : lonR g g.length [] = (g.length : Int) := lon0.2 (by omega)
  obtain ⟨⟨hgl, hgn⟩, hsn, hln⟩ := pair_facts hp
  have hfs := fst_before hf hp hz
  refine enter (N := 151) Try.func15 rfl rfl rfl ?_
  refine g_seq ?_
  refine g_region ?_
  refine s_y (y_assign rfl) rfl rfl rfl rfl ?_
  refine s_nil ?_
  refine g_then ?_
  refine g_seq ?_
  refine g_region ?_
  refine s_y (y_move rfl) rfl rfl rfl rfl ?_
  refine s_tr (t_callm rfl rfl ent_17 (fun w h => by have h_ := list_any w _ g (hg.below h.below); rw [List.take_of_length_le (by omega)] at h_; exact h_)) rfl rfl rfl rfl (fun x2 hx3 => ?_)
  obtain ⟨vo1, mo1⟩ := x2
  obtain ⟨hOo1, hEo1⟩ := hx3
  refine s_tr (t_callm rfl rfl ent_27 (fun w h => First_some_v w _ g (hOo1.rd fun p hp => h.at_ p (mem_al mo1 hp)) hpg a hf)) rfl rfl rfl rfl (fun x5 hx6 => ?_)
  obtain ⟨vo4, mo4⟩ := x5
  obtain ⟨hOo4, hEo4⟩ := hx6
  refine s_y (y_move rfl) rfl rfl rfl rfl ?_
  refine s_y (y_extract rfl rfl) rfl rfl rfl rfl ?_
  refine s_y (y_extract rfl rfl) rfl rfl rfl rfl ?_
  refine s_y (y_assign rfl) rfl rfl rfl rfl ?_
  refine s_y (y_assign rfl) rfl rfl rfl rfl ?_
  refine s_nil ?_
  refine g_then ?_
  refine g_seq ?_
  refine g_region ?_
  refine s_y (y_move rfl) rfl rfl rfl rfl ?_
  refine s_tr (t_callm rfl rfl ent_17 (fun w h => by have h_ := list_any w _ g (hg.below h.below); rw [List.take_of_length_le (by omega)] at h_; exact h_)) rfl rfl rfl rfl (fun x8 hx9 => ?_)
  obtain ⟨vo7, mo7⟩ := x8
  obtain ⟨hOo7, hEo7⟩ := hx9
  refine s_tr (t_callm rfl rfl ent_41 (fun w h => Best_some_v w _ g (hOo7.rd fun p hp => h.at_ p (mem_al mo7 hp)) hpg t bw hb)) rfl rfl rfl rfl (fun x11 hx12 => ?_)
  obtain ⟨vo10, mo10⟩ := x11
  obtain ⟨hOo10, hEo10⟩ := hx12
  refine s_y (y_move rfl) rfl rfl rfl rfl ?_
  refine s_y (y_extract rfl rfl) rfl rfl rfl rfl ?_
  refine s_y (y_extract rfl rfl) rfl rfl rfl rfl ?_
  refine s_y (y_assign rfl) rfl rfl rfl rfl ?_
  refine s_y (y_assign rfl) rfl rfl rfl rfl ?_
  refine s_nil ?_
  refine g_then ?_
  refine g_seq ?_
  refine g_region ?_
  refine s_y (y_move rfl) rfl rfl rfl rfl ?_
  refine s_tr (t_callm rfl rfl ent_17 (fun w h => by have h_ := list_any w _ g (hg.below h.below); rw [List.take_of_length_le (by omega)] at h_; exact h_)) rfl rfl rfl rfl (fun x14 hx15 => ?_)
  obtain ⟨vo13, mo13⟩ := x14
  obtain ⟨hOo13, hEo13⟩ := hx15
  refine s_tr (t_call rfl rfl ent_16 (fun w h => Count_ok_v w _ g (hOo13.rd fun p hp => h.at_ p (mem_al mo13 hp)) hpg )) rfl rfl rfl rfl (fun _ _ => ?_)
  refine s_y (y_move rfl) rfl rfl rfl rfl ?_
  refine s_y (y_extract rfl rfl) rfl rfl rfl rfl ?_
  refine s_y (y_extract rfl rfl) rfl rfl rfl rfl ?_
  refine s_y (y_assign rfl) rfl rfl rfl rfl ?_
  refine s_y (y_assign rfl) rfl rfl rfl rfl ?_
  refine s_nil ?_
  refine g_then ?_
  refine g_seq ?_
  refine g_region ?_
  refine s_y (y_move rfl) rfl rfl rfl rfl ?_
  refine s_tr (t_callm rfl rfl ent_17 (fun w h => by have h_ := list_any w _ g (hg.below h.below); rw [List.take_of_length_le (by omega)] at h_; exact h_)) rfl rfl rfl rfl (fun x17 hx18 => ?_)
  obtain ⟨vo16, mo16⟩ := x17
  obtain ⟨hOo16, hEo16⟩ := hx18
  refine s_tr (t_call rfl rfl ent_35 (fun w h => Stuck_none_v w _ g (hOo16.rd fun p hp => h.at_ p (mem_al mo16 hp)) hpg hlon)) rfl rfl rfl rfl (fun _ _ => ?_)
  refine s_y (y_move rfl) rfl rfl rfl rfl ?_
  refine s_y (y_extract rfl rfl) rfl rfl rfl rfl ?_
  refine s_y (y_extract rfl rfl) rfl rfl rfl rfl ?_
  refine s_y (y_assign rfl) rfl rfl rfl rfl ?_
  refine s_y (y_assign rfl) rfl rfl rfl rfl ?_
  refine s_nil ?_
  refine g_then ?_
  refine g_seq ?_
  refine g_seq ?_
  refine g_region ?_
  refine s_y (y_move rfl) rfl rfl rfl rfl ?_
  refine s_tr (t_call rfl rfl ent_18 (fun w h => by have h_ := Part_any w _ g (hg.below h.below) (by omega); rwa [hpg] at h_)) rfl rfl rfl rfl (fun _ _ => ?_)
  refine s_y (y_not_t rfl) rfl rfl rfl rfl ?_
  refine s_nil ?_
  refine g_then ?_
  refine g_cond_f rfl ?_
  refine g_skip ?_
  refine g_then ?_
  refine g_seq ?_
  refine g_seq ?_
  refine g_region ?_
  refine s_y (y_move rfl) rfl rfl rfl rfl ?_
  refine s_y (y_neq_f rfl rfl (by decide)) rfl rfl rfl rfl ?_
  refine s_y (y_move rfl) rfl rfl rfl rfl ?_
  refine s_y (y_move rfl) rfl rfl rfl rfl ?_
  refine s_y (y_lss_f rfl rfl (by omega)) rfl rfl rfl rfl ?_
  refine s_y (y_pick_f rfl rfl) rfl rfl rfl rfl ?_
  refine s_nil ?_
  refine g_then ?_
  refine g_cond_f rfl ?_
  refine g_skip ?_
  refine g_then ?_
  refine g_seq ?_
  refine g_seq ?_
  refine g_region ?_
  refine s_y (y_move rfl) rfl rfl rfl rfl ?_
  refine s_y (y_eql_f rfl rfl (by omega)) rfl rfl rfl rfl ?_
  refine s_nil ?_
  refine g_then ?_
  refine g_cond_f rfl ?_
  refine g_skip ?_
  refine g_then ?_
  refine g_seq ?_
  refine g_seq ?_
  refine g_region ?_
  refine s_y (y_move rfl) rfl rfl rfl rfl ?_
  refine s_y (y_neq_f rfl rfl (by decide)) rfl rfl rfl rfl ?_
  refine s_y (y_move rfl) rfl rfl rfl rfl ?_
  refine s_y (y_move rfl) rfl rfl rfl rfl ?_
  refine s_y (y_neq_f rfl rfl (by decide)) rfl rfl rfl rfl ?_
  refine s_y (y_pick_f rfl rfl) rfl rfl rfl rfl ?_
  refine s_y (y_move rfl) rfl rfl rfl rfl ?_
  refine s_y (y_move rfl) rfl rfl rfl rfl ?_
  refine s_y (y_neq_f rfl rfl (by decide)) rfl rfl rfl rfl ?_
  refine s_y (y_pick_f rfl rfl) rfl rfl rfl rfl ?_
  refine s_y (y_move rfl) rfl rfl rfl rfl ?_
  refine s_y (y_move rfl) rfl rfl rfl rfl ?_
  refine s_y (y_move rfl) rfl rfl rfl rfl ?_
  refine s_tr (t_call rfl rfl ent_39 (fun w h => right_t w _ _ g a (hg.below h.below) (hOo4.rd fun p hp => h.at_ p (mem_ar mo16 (mem_ar mo13 (mem_ar mo10 (mem_ar mo7 (mem_al mo4 hp)))))) hfr.1 hfr.2.1)) rfl rfl rfl rfl (fun _ _ => ?_)
  refine s_y (y_not_t rfl) rfl rfl rfl rfl ?_
  refine s_y (y_pick_f rfl rfl) rfl rfl rfl rfl ?_
  refine s_y (y_move rfl) rfl rfl rfl rfl ?_
  refine s_y (y_move rfl) rfl rfl rfl rfl ?_
  refine s_y (y_move rfl) rfl rfl rfl rfl ?_
  refine s_tr (t_call rfl rfl ent_39 (fun w h => right_t w _ _ g t (hg.below h.below) (hOo10.rd fun p hp => h.at_ p (mem_ar mo16 (mem_ar mo13 (mem_al mo10 hp)))) hbr.1 hbr.2.1)) rfl rfl rfl rfl (fun _ _ => ?_)
  refine s_y (y_not_t rfl) rfl rfl rfl rfl ?_
  refine s_y (y_pick_f rfl rfl) rfl rfl rfl rfl ?_
  refine s_y (y_move rfl) rfl rfl rfl rfl ?_
  refine s_y (y_move rfl) rfl rfl rfl rfl ?_
  refine s_y (y_lenV (n := a.length) rfl hOo4.1 sle_22) rfl rfl rfl rfl ?_
  refine s_y (y_move rfl) rfl rfl rfl rfl ?_
  refine s_y (y_lenV (n := g.length) rfl (by obtain ⟨A, c, h1, _⟩ := hg; exact ⟨A, c, h1⟩) sle_22) rfl rfl rfl rfl ?_
  refine s_y (y_neq_f rfl rfl (by omega)) rfl rfl rfl rfl ?_
  refine s_y (y_pick_f rfl rfl) rfl rfl rfl rfl ?_
  refine s_y (y_move rfl) rfl rfl rfl rfl ?_
  refine s_y (y_move rfl) rfl rfl rfl rfl ?_
  refine s_y (y_move rfl) rfl rfl rfl rfl ?_
  refine s_tr (t_call rfl rfl ent_45 (fun w h => Compare_any w _ _ a t (hOo4.rd fun p hp => h.at_ p (mem_ar mo16 (mem_ar mo13 (mem_ar mo10 (mem_ar mo7 (mem_al mo4 hp)))))) (hOo10.rd fun p hp => h.at_ p (mem_ar mo16 (mem_ar mo13 (mem_al mo10 hp)))) (by omega) (by omega))) rfl rfl rfl rfl (fun _ _ => ?_)
  refine s_y (y_gtr_f rfl rfl (by omega)) rfl rfl rfl rfl ?_
  refine s_y (y_pick_f rfl rfl) rfl rfl rfl rfl ?_
  refine s_nil ?_
  refine g_then ?_
  refine g_cond_f rfl ?_
  refine g_skip ?_
  refine g_then ?_
  refine g_seq ?_
  refine g_region ?_
  refine s_y (y_move rfl) rfl rfl rfl rfl ?_
  refine s_y (y_move rfl) rfl rfl rfl rfl ?_
  refine s_tr (t_call rfl rfl ent_22 (fun w h => by have h_ := pair_any w _ _ g s (hg.below h.below) (hs.below h.below) (by omega) (by omega); rwa [hp] at h_)) rfl rfl rfl rfl (fun _ _ => ?_)
  refine s_y (y_not_t rfl) rfl rfl rfl rfl ?_
  refine s_y (y_move rfl) rfl rfl rfl rfl ?_
  refine s_y (y_move rfl) rfl rfl rfl rfl ?_
  refine s_y (y_move rfl) rfl rfl rfl rfl ?_
  refine s_tr (t_call rfl rfl ent_39 (fun w h => right_t w _ _ g s (hg.below h.below) (hs.below h.below) hp hz)) rfl rfl rfl rfl (fun _ _ => ?_)
  refine s_y (y_not_t rfl) rfl rfl rfl rfl ?_
  refine s_y (y_pick_f rfl rfl) rfl rfl rfl rfl ?_
  refine s_y (y_move rfl) rfl rfl rfl rfl ?_
  refine s_y (y_move rfl) rfl rfl rfl rfl ?_
  refine s_y (y_move rfl) rfl rfl rfl rfl ?_
  refine s_tr (t_call rfl rfl ent_45 (fun w h => Compare_any w _ _ a s (hOo4.rd fun p hp => h.at_ p (mem_ar mo16 (mem_ar mo13 (mem_ar mo10 (mem_ar mo7 (mem_al mo4 hp)))))) (hs.below h.below) (by omega) (by omega))) rfl rfl rfl rfl (fun _ _ => ?_)
  refine s_y (y_leq_t rfl rfl (by omega)) rfl rfl rfl rfl ?_
  refine s_y (y_pick_f rfl rfl) rfl rfl rfl rfl ?_
  refine s_y (y_move rfl) rfl rfl rfl rfl ?_
  refine s_tr (t_call rfl rfl ent_19 (fun w h => awake_t w)) rfl rfl rfl rfl (fun _ _ => ?_)
  refine s_y (y_pick_t rfl rfl) rfl rfl rfl rfl ?_
  refine s_y (y_assign rfl) rfl rfl rfl rfl ?_
  refine s_nil ?_
  refine g_then ?_
  refine g_ret ?_
  exact g_end trivial (fun a w ha hq_ => res1 ha rfl rfl  w) (fun w h => ⟨rfl, h.below⟩)

theorem DuetsRight_law (w : World) (v : Value) (g : List Int) (v' : Value) (s : List Int) (hg : RdV (Value.int .i64) w v g) (hgl : g.length ≤ maxLen) (wg : ∀ x ∈ g, (Lit.int .i64 x).wf = true) (hs : RdV (Value.int .i64) w v' s) (hsl : s.length ≤ maxLen) (ws : ∀ x ∈ s, (Lit.int .i64 x).wf = true) : Calls Try.prog 15 [v, v'].toArray w fun e w' => e = .returned (.bool true) ∧ Below w.heap.size w w' := by
  have hmx : (maxLen : Nat) = 9223372036854775807 := rfl
  cases hpg : partB g with
  | false => exact DuetsRight_bad w v g v' s hg hs (by omega) (by omega) hpg
  | true =>
    cases hf : fstR g g.length [] with
    | none =>
      have hb := fst_best.1 hf
      cases hp : pairB g s with
      | false => exact DuetsRight_0no w v g v' s hg hs hpg hb hf (by omega) hp
      | true => exact DuetsRight_0n w v g v' s hg hs hpg hb hf hp (none_right hf hp)
    | some a =>
      cases hb : bestR g g.length [] with
      | none => rw [fst_best.2 hb] at hf; cases hf
      | some p =>
        obtain ⟨t, bw⟩ := p
        cases hp : pairB g s with
        | false => exact DuetsRight_1no w v g v' s hg hs hpg t bw hb a hf (by omega) hp
        | true =>
          by_cases hz : (frs g s).2 = 0
          · exact DuetsRight_1r w v g v' s hg hs hpg t bw hb a hf hp hz
          · exact DuetsRight_1n w v g v' s hg hs hpg t bw hb a hf hp hz

end Go.Proofs.Ytolalckejnijkaa
