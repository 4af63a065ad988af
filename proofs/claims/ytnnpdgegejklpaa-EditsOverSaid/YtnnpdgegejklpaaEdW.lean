/- edits: the reference's next, over, Over, OverWay. -/
import Derived.Test.YtnnpdgegejklpaaEdV
namespace Go.Proofs.Ytnnpdgegejklpaa
open Go.RowKit Go.Sx Go.WideMaps
set_option linter.unusedVariables false
set_option linter.unusedSimpArgs false
set_option maxRecDepth 100000
set_option maxHeartbeats 4000000

private theorem sle_46 : Try.prog.underlying 46 = some (.slice (Try.prog.elem 46)) := by kernel_rfl
private theorem bld_79_0_1 (x0 : Int) (x1 : Int) (w : World) : (Instr.build 79 #[(0, (.int .i64 x0)), (1, (.int .i64 x1))]).run Try.prog w = .ok (.agg #[(.int .i64 x0), (.int .i64 x1)]) w := by kernel_rfl
private theorem inf_79 : ∃ ie, Try.prog.info? 79 = some ie ∧ ie.zero = some (.agg #[(.int .i64 0), (.int .i64 0)]) ∧ ie.size = 2 ∧ ie.bytes = 16 := info_of (by kernel_rfl) (by kernel_rfl)
private theorem inf_46 : ∃ ie, Try.prog.info? 46 = some ie ∧ ie.zero = some (.slice none 0 0) ∧ ie.size = 1 ∧ ie.bytes = 24 := info_of (by kernel_rfl) (by kernel_rfl)
private theorem inf_3 : ∃ ie, Try.prog.info? 3 = some ie ∧ ie.zero = some (.int .i64 0) ∧ ie.size = 1 ∧ ie.bytes = 8 := info_of (by kernel_rfl) (by kernel_rfl)
private theorem size_46 : (Try.prog.info? 46).map (·.size) = some 1 := by kernel_rfl
private theorem ent_86 : Enters Try.prog 86 := enters_of Try.func86 (by kernel_rfl) rfl
private theorem sle_74 : Try.prog.underlying 74 = some (.slice (Try.prog.elem 74)) := by kernel_rfl
private theorem size_79 : (Try.prog.info? 79).map (·.size) = some 2 := by kernel_rfl
private theorem agg_79 : isAggB Try.prog 79 = some true := by kernel_rfl
private theorem zero_79 : (Try.prog.info? 79).bind (·.zero) = some (.agg #[(.int .i64 0), (.int .i64 0)]) := by kernel_rfl
private theorem fia_79_0 (b off : Nat) (w : World) : (Instr.indexAt 79 (.pointer (some ⟨b, off, none⟩)) (.int .i64 0)).run Try.prog w = .ok (.pointer (some ⟨b, off + 0, none⟩)) w := by kernel_rfl
private theorem agg_3 : isAggB Try.prog 3 = some false := by kernel_rfl
private theorem agg_46 : isAggB Try.prog 46 = some false := by kernel_rfl
private theorem fia_79_1 (b off : Nat) (w : World) : (Instr.indexAt 79 (.pointer (some ⟨b, off, none⟩)) (.int .i64 1)).run Try.prog w = .ok (.pointer (some ⟨b, off + 1, none⟩)) w := by kernel_rfl
private theorem size_3 : (Try.prog.info? 3).map (·.size) = some 1 := by kernel_rfl
private theorem ent_85 : Enters Try.prog 85 := enters_of Try.func85 (by kernel_rfl) rfl
private theorem bld_79_  (w : World) : (Instr.build 79 #[]).run Try.prog w = .ok (.agg #[(.int .i64 0), (.int .i64 0)]) w := by kernel_rfl

theorem nxL_at {a b : List Int} {i j : Int} {k : Nat} (h : k < (nxL a b i j).length) : ((rdP (nxL a b i j) (k : Int)).1 < a.length ∧ (rdP (nxL a b i j) (k : Int)).2 < b.length) ∧ (((rdP (nxL a b i j) (k : Int)).1 = i ∧ (rdP (nxL a b i j) (k : Int)).2 = j + 1) ∨ ((rdP (nxL a b i j) (k : Int)).1 = i + 1 ∧ ((rdP (nxL a b i j) (k : Int)).2 = j ∨ (rdP (nxL a b i j) (k : Int)).2 = j + 1))) := by
  obtain ⟨h1, h2⟩ := nxL_mem (rdP_mem (xs := nxL a b i j) (i := (k : Int)) (by omega) (by omega))
  refine ⟨h1, ?_⟩
  rcases h2 with e | e | e <;> rw [e] <;> simp
theorem set_row {m : Nat} {z v : Value} {vs : List Value} : (List.replicate (m + 1) z ++ vs).set m v = List.replicate m z ++ (v :: vs) := by
  rw [List.replicate_succ', List.append_assoc, List.set_append_right _ _ (by simp)]; simp
theorem rd_rowA {m : Nat} {z v : Value} {vs : List Value} : rdVal (List.replicate m z ++ (v :: vs)) (m : Int) = v := by
  simp [rdVal, List.getD_eq_getElem?_getD, List.getElem?_append_right]
theorem rd_rowB {m : Nat} {z v : Value} {vs : List Value} {k : Nat} : rdVal (List.replicate m z ++ (v :: vs)) ((m : Int) + 1 + (k : Int)) = rdVal vs (k : Int) := by
  have e : ((m : Int) + 1 + (k : Int)).toNat = m + (k + 1) := by omega
  simp only [rdVal, e, Int.toNat_natCast, List.getD_eq_getElem?_getD]
  rw [List.getElem?_append_right (by simp)]
  simp
theorem rdVal_cons {v : Value} {vs : List Value} {k : Nat} : rdVal (v :: vs) ((k + 1 : Nat) : Int) = rdVal vs (k : Int) := by
  simp only [rdVal, Int.toNat_natCast, List.getD_eq_getElem?_getD, List.getElem?_cons_succ]
theorem rdI_setJ {xs : List Int} {i j v : Int} (h0 : 0 ≤ i) (h1 : i < xs.length) (h2 : 0 ≤ j) : rdI (xs.set i.toNat v) j = if i = j then v else rdI xs j := by
  obtain ⟨p, rfl⟩ := Int.eq_ofNat_of_zero_le h0
  obtain ⟨q, rfl⟩ := Int.eq_ofNat_of_zero_le h2
  rw [rdI_set (by omega)]
  by_cases c : p = q
  · rw [if_pos c, if_pos (by omega)]
  · rw [if_neg c, if_neg (by omega)]

theorem mel_PP {a b : List Int} (ha : melB a = true) (hb : melB b = true) {i j : Int} (h0 : -1 ≤ i) (h2 : -1 ≤ j) : ovP a b i j ≤ 100000 := mel_P ha hb h0 h2

theorem Rnext_any (w : World) (v v' : Value) (a b : List Int) (ha : RdV (Value.int .i64) w v a) (hb : RdV (Value.int .i64) w v' b) (zi zj : Int) (hal : a.length ≤ 12) (hbl : b.length ≤ 12) (hi0 : 0 ≤ zi) (hi1 : zi < a.length) (hj0 : 0 ≤ zj) (hj1 : zj < b.length) :
    Calls Try.prog 86 [v, v', .int .i64 zi, .int .i64 zj].toArray w fun e w' => ∃ x : Value × List (Nat × Obj), (OwnP x.1 (nxL a b zi zj) x.2 ∧ ∃ W : World, ∀ p ∈ x.2, W.heap[p.1]? = some p.2) ∧ e = .returned (x.1) ∧ Hq w w x.2 w' := by
  obtain ⟨ie79, hi79⟩ := inf_79
  refine enter (N := 55) Try.func86 rfl rfl rfl ?_
  refine g_seq ?_
  refine g_region ?_
  refine s_y (y_assign rfl) rfl rfl rfl rfl ?_
  refine s_nil ?_
  refine g_then ?_
  refine g_seq ?_
  refine g_region ?_
  refine s_y (y_assign rfl) rfl rfl rfl rfl ?_
  refine g_perm' (m' := (SV.nil.mem 79 (cellsP ([])) ++ ([]))) (List.Perm.of_eq rfl) ?_
  refine s_nil ?_
  refine g_then ?_
  refine g_seq ?_
  refine g_seq ?_
  refine g_region ?_
  refine s_y (y_move rfl) rfl rfl rfl rfl ?_
  refine s_y (y_add rfl rfl (by omega) (by omega)) rfl rfl rfl rfl ?_
  refine s_y (y_move rfl) rfl rfl rfl rfl ?_
  refine s_y (y_lenV (n := b.length) rfl (by obtain ⟨A, c, h1, _⟩ := hb; exact ⟨A, c, h1⟩) sle_46) rfl rfl rfl rfl ?_
  refine s_y (y_lss rfl rfl) rfl rfl rfl rfl ?_
  refine s_nil ?_
  refine g_then ?_
  refine g_cond rfl (fun cq1 => ?_) (fun cq1 => ?_)
  · (try simp at cq1)
    refine g_region ?_
    refine s_y (y_move rfl) rfl rfl rfl rfl ?_
    refine s_y (y_move rfl) rfl rfl rfl rfl ?_
    refine s_y (y_move rfl) rfl rfl rfl rfl ?_
    refine s_y (y_add rfl rfl (by omega) (by omega)) rfl rfl rfl rfl ?_
    refine s_y (y_build (vs := [(0, _), (1, _)]) rfl rfl (fun w => bld_79_0_1 _ _ w)) rfl rfl rfl rfl ?_
    refine s_tr (t_build (vs := [(0, .agg #[.int .i64 zi, .int .i64 (zj + 1)])]) (cells := [.int .i64 zi, .int .i64 (zj + 1)]) rfl rfl Try.underlying74 hi79.1 hi79.2.1 (by rw [hi79.2.2.1]; rfl) (by rw [hi79.2.2.1]; rfl) (by rw [hi79.2.2.1]; kernel_rfl)) rfl rfl rfl rfl (fun b2 hb2 => ?_)
    refine s_tr (t_appendP (sv := SV.nil) (xs := []) (n := 0) (p := (zi, zj + 1)) [_] _ rfl rfl rfl (show SV.nil.ok 2 0 (cellsP []) from ⟨rfl, rfl⟩) Try.underlying74 hi79.1 hi79.2.1 hi79.2.2.1 hi79.2.2.2 rfl (fun w h => pair_new (i := 0) (p := (zi, zj + 1)) h rfl) (by omega) (by unfold maxLen; omega)) rfl rfl rfl rfl (fun y6 hy7 => ?_)
    obtain ⟨sv3, gs4⟩ := y6
    obtain ⟨⟨hok5, hok5b, hok5c, hok5j, hok5e⟩, hok5n⟩ := hy7
    refine s_y (y_assign rfl) rfl rfl rfl rfl ?_
    refine s_nil ?_
    refine g_then ?_
    refine g_seq ?_
    refine g_seq ?_
    refine g_region ?_
    refine s_y (y_move rfl) rfl rfl rfl rfl ?_
    refine s_y (y_add rfl rfl (by omega) (by omega)) rfl rfl rfl rfl ?_
    refine s_y (y_move rfl) rfl rfl rfl rfl ?_
    refine s_y (y_lenV (n := a.length) rfl (by obtain ⟨A, c, h1, _⟩ := ha; exact ⟨A, c, h1⟩) sle_46) rfl rfl rfl rfl ?_
    refine s_y (y_lss rfl rfl) rfl rfl rfl rfl ?_
    refine s_nil ?_
    refine g_then ?_
    refine g_cond rfl (fun cq8 => ?_) (fun cq8 => ?_)
    · (try simp at cq8)
      refine g_region ?_
      refine s_y (y_move rfl) rfl rfl rfl rfl ?_
      refine s_y (y_move rfl) rfl rfl rfl rfl ?_
      refine s_y (y_add rfl rfl (by omega) (by omega)) rfl rfl rfl rfl ?_
      refine s_y (y_move rfl) rfl rfl rfl rfl ?_
      refine s_y (y_build (vs := [(0, _), (1, _)]) rfl rfl (fun w => bld_79_0_1 _ _ w)) rfl rfl rfl rfl ?_
      refine s_tr (t_build (vs := [(0, .agg #[.int .i64 (zi + 1), .int .i64 zj])]) (cells := [.int .i64 (zi + 1), .int .i64 zj]) rfl rfl Try.underlying74 hi79.1 hi79.2.1 (by rw [hi79.2.2.1]; rfl) (by rw [hi79.2.2.1]; rfl) (by rw [hi79.2.2.1]; kernel_rfl)) rfl rfl rfl rfl (fun b9 hb9 => ?_)
      refine s_tr (t_appendP (sv := sv3) (xs := [] ++ [(zi, zj + 1)]) (n := 0 + 1) (p := (zi + 1, zj)) [_, _] _ rfl rfl rfl hok5 Try.underlying74 hi79.1 hi79.2.1 hi79.2.2.1 hi79.2.2.2 rfl (fun w h => pair_new (i := 0) (p := (zi + 1, zj)) h rfl) (by omega) (by unfold maxLen; omega)) rfl rfl rfl rfl (fun y13 hy14 => ?_)
      obtain ⟨sv10, gs11⟩ := y13
      obtain ⟨⟨hok12, hok12b, hok12c, hok12j, hok12e⟩, hok12n⟩ := hy14
      refine s_y (y_assign rfl) rfl rfl rfl rfl ?_
      refine s_nil ?_
      refine g_then ?_
      refine g_seq ?_
      refine g_seq ?_
      refine g_region ?_
      refine s_y (y_move rfl) rfl rfl rfl rfl ?_
      refine s_y (y_add rfl rfl (by omega) (by omega)) rfl rfl rfl rfl ?_
      refine s_y (y_move rfl) rfl rfl rfl rfl ?_
      refine s_y (y_lenV (n := a.length) rfl (by obtain ⟨A, c, h1, _⟩ := ha; exact ⟨A, c, h1⟩) sle_46) rfl rfl rfl rfl ?_
      refine s_y (y_lss rfl rfl) rfl rfl rfl rfl ?_
      refine s_y (y_move rfl) rfl rfl rfl rfl ?_
      refine g_bool 39 rfl (fun cq15 => ?_) (fun cq15 => ?_)
      · (try simp at cq15)
        refine s_y (y_move rfl) rfl rfl rfl rfl ?_
        refine s_y (y_add rfl rfl (by omega) (by omega)) rfl rfl rfl rfl ?_
        refine s_y (y_move rfl) rfl rfl rfl rfl ?_
        refine s_y (y_lenV (n := b.length) rfl (by obtain ⟨A, c, h1, _⟩ := hb; exact ⟨A, c, h1⟩) sle_46) rfl rfl rfl rfl ?_
        refine s_y (y_lss rfl rfl) rfl rfl rfl rfl ?_
        refine s_y (y_pick_t rfl rfl) rfl rfl rfl rfl ?_
        refine s_nil ?_
        refine g_then ?_
        refine g_cond rfl (fun cq16 => ?_) (fun cq16 => ?_)
        · (try simp at cq16)
          refine g_region ?_
          refine s_y (y_move rfl) rfl rfl rfl rfl ?_
          refine s_y (y_move rfl) rfl rfl rfl rfl ?_
          refine s_y (y_add rfl rfl (by omega) (by omega)) rfl rfl rfl rfl ?_
          refine s_y (y_move rfl) rfl rfl rfl rfl ?_
          refine s_y (y_add rfl rfl (by omega) (by omega)) rfl rfl rfl rfl ?_
          refine s_y (y_build (vs := [(0, _), (1, _)]) rfl rfl (fun w => bld_79_0_1 _ _ w)) rfl rfl rfl rfl ?_
          refine s_tr (t_build (vs := [(0, .agg #[.int .i64 (zi + 1), .int .i64 (zj + 1)])]) (cells := [.int .i64 (zi + 1), .int .i64 (zj + 1)]) rfl rfl Try.underlying74 hi79.1 hi79.2.1 (by rw [hi79.2.2.1]; rfl) (by rw [hi79.2.2.1]; rfl) (by rw [hi79.2.2.1]; kernel_rfl)) rfl rfl rfl rfl (fun b17 hb17 => ?_)
          refine s_tr (t_appendP (sv := sv10) (xs := [] ++ [(zi, zj + 1)] ++ [(zi + 1, zj)]) (n := (0 + 1) + 1) (p := (zi + 1, zj + 1)) [_, _, _] _ rfl rfl rfl hok12 Try.underlying74 hi79.1 hi79.2.1 hi79.2.2.1 hi79.2.2.2 rfl (fun w h => pair_new (i := 0) (p := (zi + 1, zj + 1)) h rfl) (by omega) (by unfold maxLen; omega)) rfl rfl rfl rfl (fun y21 hy22 => ?_)
          obtain ⟨sv18, gs19⟩ := y21
          obtain ⟨⟨hok20, hok20b, hok20c, hok20j, hok20e⟩, hok20n⟩ := hy22
          refine s_y (y_assign rfl) rfl rfl rfl rfl ?_
          refine s_nil ?_
          refine g_then ?_
          refine g_seq ?_
          refine g_region ?_
          refine s_y (y_move rfl) rfl rfl rfl rfl ?_
          refine s_y (y_assign rfl) rfl rfl rfl rfl ?_
          refine s_nil ?_
          refine g_then ?_
          refine g_ret ?_
          rw [show nxL a b zi zj = [] ++ [(zi, zj + 1)] ++ [(zi + 1, zj)] ++ [(zi + 1, zj + 1)] from by rw [nxL_eq hi1 hj1]; (repeat' split) <;> first | rfl | (exfalso; omega)]
          exact g_end trivial (fun a w ha hq_ => res1 ha rfl rfl  w) (fun w h => ⟨(_, sv18.mem 79 (cellsP ([] ++ [(zi, zj + 1)] ++ [(zi + 1, zj)] ++ [(zi + 1, zj + 1)]))), ⟨(OwnP.sv (e := 79) hok20), w, (h.hand (List.Sublist.cons _ (List.Sublist.cons _ (List.Sublist.cons _ (sub_here (sv18.mem 79 (cellsP ([] ++ [(zi, zj + 1)] ++ [(zi + 1, zj)] ++ [(zi + 1, zj + 1)]))) _))))).at_⟩, rfl, h.hand (List.Sublist.cons _ (List.Sublist.cons _ (List.Sublist.cons _ (sub_here (sv18.mem 79 (cellsP ([] ++ [(zi, zj + 1)] ++ [(zi + 1, zj)] ++ [(zi + 1, zj + 1)]))) _))))⟩)
        · (try simp at cq16)
          refine g_skip ?_
          refine g_then ?_
          refine g_seq ?_
          refine g_region ?_
          refine s_y (y_move rfl) rfl rfl rfl rfl ?_
          refine s_y (y_assign rfl) rfl rfl rfl rfl ?_
          refine s_nil ?_
          refine g_then ?_
          refine g_ret ?_
          rw [show nxL a b zi zj = [] ++ [(zi, zj + 1)] ++ [(zi + 1, zj)] from by rw [nxL_eq hi1 hj1]; (repeat' split) <;> first | rfl | (exfalso; omega)]
          exact g_end trivial (fun a w ha hq_ => res1 ha rfl rfl  w) (fun w h => ⟨(_, sv10.mem 79 (cellsP ([] ++ [(zi, zj + 1)] ++ [(zi + 1, zj)]))), ⟨(OwnP.sv (e := 79) hok12), w, (h.hand (List.Sublist.cons _ (List.Sublist.cons _ (sub_here (sv10.mem 79 (cellsP ([] ++ [(zi, zj + 1)] ++ [(zi + 1, zj)]))) _)))).at_⟩, rfl, h.hand (List.Sublist.cons _ (List.Sublist.cons _ (sub_here (sv10.mem 79 (cellsP ([] ++ [(zi, zj + 1)] ++ [(zi + 1, zj)]))) _)))⟩)
      · (try simp at cq15)
        refine s_no rfl rfl rfl ?_
        refine s_no rfl rfl rfl ?_
        refine s_no rfl rfl rfl ?_
        refine s_no rfl rfl rfl ?_
        refine s_no rfl rfl rfl ?_
        refine s_y (y_pick_f rfl rfl) rfl rfl rfl rfl ?_
        refine s_nil ?_
        refine g_then ?_
        refine g_cond_f rfl ?_
        refine g_skip ?_
        refine g_then ?_
        refine g_seq ?_
        refine g_region ?_
        refine s_y (y_move rfl) rfl rfl rfl rfl ?_
        refine s_y (y_assign rfl) rfl rfl rfl rfl ?_
        refine s_nil ?_
        refine g_then ?_
        refine g_ret ?_
        rw [show nxL a b zi zj = [] ++ [(zi, zj + 1)] ++ [(zi + 1, zj)] from by rw [nxL_eq hi1 hj1]; (repeat' split) <;> first | rfl | (exfalso; omega)]
        exact g_end trivial (fun a w ha hq_ => res1 ha rfl rfl  w) (fun w h => ⟨(_, sv10.mem 79 (cellsP ([] ++ [(zi, zj + 1)] ++ [(zi + 1, zj)]))), ⟨(OwnP.sv (e := 79) hok12), w, (h.hand (List.Sublist.cons _ (List.Sublist.cons _ (sub_here (sv10.mem 79 (cellsP ([] ++ [(zi, zj + 1)] ++ [(zi + 1, zj)]))) _)))).at_⟩, rfl, h.hand (List.Sublist.cons _ (List.Sublist.cons _ (sub_here (sv10.mem 79 (cellsP ([] ++ [(zi, zj + 1)] ++ [(zi + 1, zj)]))) _)))⟩)
    · (try simp at cq8)
      refine g_skip ?_
      refine g_then ?_
      refine g_seq ?_
      refine g_seq ?_
      refine g_region ?_
      refine s_y (y_move rfl) rfl rfl rfl rfl ?_
      refine s_y (y_add rfl rfl (by omega) (by omega)) rfl rfl rfl rfl ?_
      refine s_y (y_move rfl) rfl rfl rfl rfl ?_
      refine s_y (y_lenV (n := a.length) rfl (by obtain ⟨A, c, h1, _⟩ := ha; exact ⟨A, c, h1⟩) sle_46) rfl rfl rfl rfl ?_
      refine s_y (y_lss rfl rfl) rfl rfl rfl rfl ?_
      refine s_y (y_move rfl) rfl rfl rfl rfl ?_
      refine g_bool 39 rfl (fun cq23 => ?_) (fun cq23 => ?_)
      · (try simp at cq23)
        refine s_y (y_move rfl) rfl rfl rfl rfl ?_
        refine s_y (y_add rfl rfl (by omega) (by omega)) rfl rfl rfl rfl ?_
        refine s_y (y_move rfl) rfl rfl rfl rfl ?_
        refine s_y (y_lenV (n := b.length) rfl (by obtain ⟨A, c, h1, _⟩ := hb; exact ⟨A, c, h1⟩) sle_46) rfl rfl rfl rfl ?_
        refine s_y (y_lss rfl rfl) rfl rfl rfl rfl ?_
        refine s_y (y_pick_t rfl rfl) rfl rfl rfl rfl ?_
        refine s_nil ?_
        refine g_then ?_
        refine g_cond rfl (fun cq24 => ?_) (fun cq24 => ?_)
        · (try simp at cq24)
          refine g_region ?_
          refine s_y (y_move rfl) rfl rfl rfl rfl ?_
          refine s_y (y_move rfl) rfl rfl rfl rfl ?_
          refine s_y (y_add rfl rfl (by omega) (by omega)) rfl rfl rfl rfl ?_
          refine s_y (y_move rfl) rfl rfl rfl rfl ?_
          refine s_y (y_add rfl rfl (by omega) (by omega)) rfl rfl rfl rfl ?_
          refine s_y (y_build (vs := [(0, _), (1, _)]) rfl rfl (fun w => bld_79_0_1 _ _ w)) rfl rfl rfl rfl ?_
          refine s_tr (t_build (vs := [(0, .agg #[.int .i64 (zi + 1), .int .i64 (zj + 1)])]) (cells := [.int .i64 (zi + 1), .int .i64 (zj + 1)]) rfl rfl Try.underlying74 hi79.1 hi79.2.1 (by rw [hi79.2.2.1]; rfl) (by rw [hi79.2.2.1]; rfl) (by rw [hi79.2.2.1]; kernel_rfl)) rfl rfl rfl rfl (fun b25 hb25 => ?_)
          refine s_tr (t_appendP (sv := sv3) (xs := [] ++ [(zi, zj + 1)]) (n := 0 + 1) (p := (zi + 1, zj + 1)) [_, _] _ rfl rfl rfl hok5 Try.underlying74 hi79.1 hi79.2.1 hi79.2.2.1 hi79.2.2.2 rfl (fun w h => pair_new (i := 0) (p := (zi + 1, zj + 1)) h rfl) (by omega) (by unfold maxLen; omega)) rfl rfl rfl rfl (fun y29 hy30 => ?_)
          obtain ⟨sv26, gs27⟩ := y29
          obtain ⟨⟨hok28, hok28b, hok28c, hok28j, hok28e⟩, hok28n⟩ := hy30
          refine s_y (y_assign rfl) rfl rfl rfl rfl ?_
          refine s_nil ?_
          refine g_then ?_
          refine g_seq ?_
          refine g_region ?_
          refine s_y (y_move rfl) rfl rfl rfl rfl ?_
          refine s_y (y_assign rfl) rfl rfl rfl rfl ?_
          refine s_nil ?_
          refine g_then ?_
          refine g_ret ?_
          rw [show nxL a b zi zj = [] ++ [(zi, zj + 1)] ++ [(zi + 1, zj + 1)] from by rw [nxL_eq hi1 hj1]; (repeat' split) <;> first | rfl | (exfalso; omega)]
          exact g_end trivial (fun a w ha hq_ => res1 ha rfl rfl  w) (fun w h => ⟨(_, sv26.mem 79 (cellsP ([] ++ [(zi, zj + 1)] ++ [(zi + 1, zj + 1)]))), ⟨(OwnP.sv (e := 79) hok28), w, (h.hand (List.Sublist.cons _ (List.Sublist.cons _ (sub_here (sv26.mem 79 (cellsP ([] ++ [(zi, zj + 1)] ++ [(zi + 1, zj + 1)]))) _)))).at_⟩, rfl, h.hand (List.Sublist.cons _ (List.Sublist.cons _ (sub_here (sv26.mem 79 (cellsP ([] ++ [(zi, zj + 1)] ++ [(zi + 1, zj + 1)]))) _)))⟩)
        · (try simp at cq24)
          refine g_skip ?_
          refine g_then ?_
          refine g_seq ?_
          refine g_region ?_
          refine s_y (y_move rfl) rfl rfl rfl rfl ?_
          refine s_y (y_assign rfl) rfl rfl rfl rfl ?_
          refine s_nil ?_
          refine g_then ?_
          refine g_ret ?_
          rw [show nxL a b zi zj = [] ++ [(zi, zj + 1)] from by rw [nxL_eq hi1 hj1]; (repeat' split) <;> first | rfl | (exfalso; omega)]
          exact g_end trivial (fun a w ha hq_ => res1 ha rfl rfl  w) (fun w h => ⟨(_, sv3.mem 79 (cellsP ([] ++ [(zi, zj + 1)]))), ⟨(OwnP.sv (e := 79) hok5), w, (h.hand (List.Sublist.cons _ (sub_here (sv3.mem 79 (cellsP ([] ++ [(zi, zj + 1)]))) _))).at_⟩, rfl, h.hand (List.Sublist.cons _ (sub_here (sv3.mem 79 (cellsP ([] ++ [(zi, zj + 1)]))) _))⟩)
      · (try simp at cq23)
        refine s_no rfl rfl rfl ?_
        refine s_no rfl rfl rfl ?_
        refine s_no rfl rfl rfl ?_
        refine s_no rfl rfl rfl ?_
        refine s_no rfl rfl rfl ?_
        refine s_y (y_pick_f rfl rfl) rfl rfl rfl rfl ?_
        refine s_nil ?_
        refine g_then ?_
        refine g_cond_f rfl ?_
        refine g_skip ?_
        refine g_then ?_
        refine g_seq ?_
        refine g_region ?_
        refine s_y (y_move rfl) rfl rfl rfl rfl ?_
        refine s_y (y_assign rfl) rfl rfl rfl rfl ?_
        refine s_nil ?_
        refine g_then ?_
        refine g_ret ?_
        rw [show nxL a b zi zj = [] ++ [(zi, zj + 1)] from by rw [nxL_eq hi1 hj1]; (repeat' split) <;> first | rfl | (exfalso; omega)]
        exact g_end trivial (fun a w ha hq_ => res1 ha rfl rfl  w) (fun w h => ⟨(_, sv3.mem 79 (cellsP ([] ++ [(zi, zj + 1)]))), ⟨(OwnP.sv (e := 79) hok5), w, (h.hand (List.Sublist.cons _ (sub_here (sv3.mem 79 (cellsP ([] ++ [(zi, zj + 1)]))) _))).at_⟩, rfl, h.hand (List.Sublist.cons _ (sub_here (sv3.mem 79 (cellsP ([] ++ [(zi, zj + 1)]))) _))⟩)
  · (try simp at cq1)
    refine g_skip ?_
    refine g_then ?_
    refine g_seq ?_
    refine g_seq ?_
    refine g_region ?_
    refine s_y (y_move rfl) rfl rfl rfl rfl ?_
    refine s_y (y_add rfl rfl (by omega) (by omega)) rfl rfl rfl rfl ?_
    refine s_y (y_move rfl) rfl rfl rfl rfl ?_
    refine s_y (y_lenV (n := a.length) rfl (by obtain ⟨A, c, h1, _⟩ := ha; exact ⟨A, c, h1⟩) sle_46) rfl rfl rfl rfl ?_
    refine s_y (y_lss rfl rfl) rfl rfl rfl rfl ?_
    refine s_nil ?_
    refine g_then ?_
    refine g_cond rfl (fun cq31 => ?_) (fun cq31 => ?_)
    · (try simp at cq31)
      refine g_region ?_
      refine s_y (y_move rfl) rfl rfl rfl rfl ?_
      refine s_y (y_move rfl) rfl rfl rfl rfl ?_
      refine s_y (y_add rfl rfl (by omega) (by omega)) rfl rfl rfl rfl ?_
      refine s_y (y_move rfl) rfl rfl rfl rfl ?_
      refine s_y (y_build (vs := [(0, _), (1, _)]) rfl rfl (fun w => bld_79_0_1 _ _ w)) rfl rfl rfl rfl ?_
      refine s_tr (t_build (vs := [(0, .agg #[.int .i64 (zi + 1), .int .i64 zj])]) (cells := [.int .i64 (zi + 1), .int .i64 zj]) rfl rfl Try.underlying74 hi79.1 hi79.2.1 (by rw [hi79.2.2.1]; rfl) (by rw [hi79.2.2.1]; rfl) (by rw [hi79.2.2.1]; kernel_rfl)) rfl rfl rfl rfl (fun b32 hb32 => ?_)
      refine s_tr (t_appendP (sv := SV.nil) (xs := []) (n := 0) (p := (zi + 1, zj)) [_] _ rfl rfl rfl (show SV.nil.ok 2 0 (cellsP []) from ⟨rfl, rfl⟩) Try.underlying74 hi79.1 hi79.2.1 hi79.2.2.1 hi79.2.2.2 rfl (fun w h => pair_new (i := 0) (p := (zi + 1, zj)) h rfl) (by omega) (by unfold maxLen; omega)) rfl rfl rfl rfl (fun y36 hy37 => ?_)
      obtain ⟨sv33, gs34⟩ := y36
      obtain ⟨⟨hok35, hok35b, hok35c, hok35j, hok35e⟩, hok35n⟩ := hy37
      refine s_y (y_assign rfl) rfl rfl rfl rfl ?_
      refine s_nil ?_
      refine g_then ?_
      refine g_seq ?_
      refine g_seq ?_
      refine g_region ?_
      refine s_y (y_move rfl) rfl rfl rfl rfl ?_
      refine s_y (y_add rfl rfl (by omega) (by omega)) rfl rfl rfl rfl ?_
      refine s_y (y_move rfl) rfl rfl rfl rfl ?_
      refine s_y (y_lenV (n := a.length) rfl (by obtain ⟨A, c, h1, _⟩ := ha; exact ⟨A, c, h1⟩) sle_46) rfl rfl rfl rfl ?_
      refine s_y (y_lss rfl rfl) rfl rfl rfl rfl ?_
      refine s_y (y_move rfl) rfl rfl rfl rfl ?_
      refine g_bool 39 rfl (fun cq38 => ?_) (fun cq38 => ?_)
      · (try simp at cq38)
        refine s_y (y_move rfl) rfl rfl rfl rfl ?_
        refine s_y (y_add rfl rfl (by omega) (by omega)) rfl rfl rfl rfl ?_
        refine s_y (y_move rfl) rfl rfl rfl rfl ?_
        refine s_y (y_lenV (n := b.length) rfl (by obtain ⟨A, c, h1, _⟩ := hb; exact ⟨A, c, h1⟩) sle_46) rfl rfl rfl rfl ?_
        refine s_y (y_lss rfl rfl) rfl rfl rfl rfl ?_
        refine s_y (y_pick_t rfl rfl) rfl rfl rfl rfl ?_
        refine s_nil ?_
        refine g_then ?_
        refine g_cond rfl (fun cq39 => ?_) (fun cq39 => ?_)
        · (try simp at cq39)
          refine g_region ?_
          refine s_y (y_move rfl) rfl rfl rfl rfl ?_
          refine s_y (y_move rfl) rfl rfl rfl rfl ?_
          refine s_y (y_add rfl rfl (by omega) (by omega)) rfl rfl rfl rfl ?_
          refine s_y (y_move rfl) rfl rfl rfl rfl ?_
          refine s_y (y_add rfl rfl (by omega) (by omega)) rfl rfl rfl rfl ?_
          refine s_y (y_build (vs := [(0, _), (1, _)]) rfl rfl (fun w => bld_79_0_1 _ _ w)) rfl rfl rfl rfl ?_
          refine s_tr (t_build (vs := [(0, .agg #[.int .i64 (zi + 1), .int .i64 (zj + 1)])]) (cells := [.int .i64 (zi + 1), .int .i64 (zj + 1)]) rfl rfl Try.underlying74 hi79.1 hi79.2.1 (by rw [hi79.2.2.1]; rfl) (by rw [hi79.2.2.1]; rfl) (by rw [hi79.2.2.1]; kernel_rfl)) rfl rfl rfl rfl (fun b40 hb40 => ?_)
          refine s_tr (t_appendP (sv := sv33) (xs := [] ++ [(zi + 1, zj)]) (n := 0 + 1) (p := (zi + 1, zj + 1)) [_, _] _ rfl rfl rfl hok35 Try.underlying74 hi79.1 hi79.2.1 hi79.2.2.1 hi79.2.2.2 rfl (fun w h => pair_new (i := 0) (p := (zi + 1, zj + 1)) h rfl) (by omega) (by unfold maxLen; omega)) rfl rfl rfl rfl (fun y44 hy45 => ?_)
          obtain ⟨sv41, gs42⟩ := y44
          obtain ⟨⟨hok43, hok43b, hok43c, hok43j, hok43e⟩, hok43n⟩ := hy45
          refine s_y (y_assign rfl) rfl rfl rfl rfl ?_
          refine s_nil ?_
          refine g_then ?_
          refine g_seq ?_
          refine g_region ?_
          refine s_y (y_move rfl) rfl rfl rfl rfl ?_
          refine s_y (y_assign rfl) rfl rfl rfl rfl ?_
          refine s_nil ?_
          refine g_then ?_
          refine g_ret ?_
          rw [show nxL a b zi zj = [] ++ [(zi + 1, zj)] ++ [(zi + 1, zj + 1)] from by rw [nxL_eq hi1 hj1]; (repeat' split) <;> first | rfl | (exfalso; omega)]
          exact g_end trivial (fun a w ha hq_ => res1 ha rfl rfl  w) (fun w h => ⟨(_, sv41.mem 79 (cellsP ([] ++ [(zi + 1, zj)] ++ [(zi + 1, zj + 1)]))), ⟨(OwnP.sv (e := 79) hok43), w, (h.hand (List.Sublist.cons _ (List.Sublist.cons _ (sub_here (sv41.mem 79 (cellsP ([] ++ [(zi + 1, zj)] ++ [(zi + 1, zj + 1)]))) _)))).at_⟩, rfl, h.hand (List.Sublist.cons _ (List.Sublist.cons _ (sub_here (sv41.mem 79 (cellsP ([] ++ [(zi + 1, zj)] ++ [(zi + 1, zj + 1)]))) _)))⟩)
        · (try simp at cq39)
          refine g_skip ?_
          refine g_then ?_
          refine g_seq ?_
          refine g_region ?_
          refine s_y (y_move rfl) rfl rfl rfl rfl ?_
          refine s_y (y_assign rfl) rfl rfl rfl rfl ?_
          refine s_nil ?_
          refine g_then ?_
          refine g_ret ?_
          rw [show nxL a b zi zj = [] ++ [(zi + 1, zj)] from by rw [nxL_eq hi1 hj1]; (repeat' split) <;> first | rfl | (exfalso; omega)]
          exact g_end trivial (fun a w ha hq_ => res1 ha rfl rfl  w) (fun w h => ⟨(_, sv33.mem 79 (cellsP ([] ++ [(zi + 1, zj)]))), ⟨(OwnP.sv (e := 79) hok35), w, (h.hand (List.Sublist.cons _ (sub_here (sv33.mem 79 (cellsP ([] ++ [(zi + 1, zj)]))) _))).at_⟩, rfl, h.hand (List.Sublist.cons _ (sub_here (sv33.mem 79 (cellsP ([] ++ [(zi + 1, zj)]))) _))⟩)
      · (try simp at cq38)
        refine s_no rfl rfl rfl ?_
        refine s_no rfl rfl rfl ?_
        refine s_no rfl rfl rfl ?_
        refine s_no rfl rfl rfl ?_
        refine s_no rfl rfl rfl ?_
        refine s_y (y_pick_f rfl rfl) rfl rfl rfl rfl ?_
        refine s_nil ?_
        refine g_then ?_
        refine g_cond_f rfl ?_
        refine g_skip ?_
        refine g_then ?_
        refine g_seq ?_
        refine g_region ?_
        refine s_y (y_move rfl) rfl rfl rfl rfl ?_
        refine s_y (y_assign rfl) rfl rfl rfl rfl ?_
        refine s_nil ?_
        refine g_then ?_
        refine g_ret ?_
        rw [show nxL a b zi zj = [] ++ [(zi + 1, zj)] from by rw [nxL_eq hi1 hj1]; (repeat' split) <;> first | rfl | (exfalso; omega)]
        exact g_end trivial (fun a w ha hq_ => res1 ha rfl rfl  w) (fun w h => ⟨(_, sv33.mem 79 (cellsP ([] ++ [(zi + 1, zj)]))), ⟨(OwnP.sv (e := 79) hok35), w, (h.hand (List.Sublist.cons _ (sub_here (sv33.mem 79 (cellsP ([] ++ [(zi + 1, zj)]))) _))).at_⟩, rfl, h.hand (List.Sublist.cons _ (sub_here (sv33.mem 79 (cellsP ([] ++ [(zi + 1, zj)]))) _))⟩)
    · (try simp at cq31)
      refine g_skip ?_
      refine g_then ?_
      refine g_seq ?_
      refine g_seq ?_
      refine g_region ?_
      refine s_y (y_move rfl) rfl rfl rfl rfl ?_
      refine s_y (y_add rfl rfl (by omega) (by omega)) rfl rfl rfl rfl ?_
      refine s_y (y_move rfl) rfl rfl rfl rfl ?_
      refine s_y (y_lenV (n := a.length) rfl (by obtain ⟨A, c, h1, _⟩ := ha; exact ⟨A, c, h1⟩) sle_46) rfl rfl rfl rfl ?_
      refine s_y (y_lss rfl rfl) rfl rfl rfl rfl ?_
      refine s_y (y_move rfl) rfl rfl rfl rfl ?_
      refine g_bool 39 rfl (fun cq46 => ?_) (fun cq46 => ?_)
      · (try simp at cq46)
        refine s_y (y_move rfl) rfl rfl rfl rfl ?_
        refine s_y (y_add rfl rfl (by omega) (by omega)) rfl rfl rfl rfl ?_
        refine s_y (y_move rfl) rfl rfl rfl rfl ?_
        refine s_y (y_lenV (n := b.length) rfl (by obtain ⟨A, c, h1, _⟩ := hb; exact ⟨A, c, h1⟩) sle_46) rfl rfl rfl rfl ?_
        refine s_y (y_lss rfl rfl) rfl rfl rfl rfl ?_
        refine s_y (y_pick_t rfl rfl) rfl rfl rfl rfl ?_
        refine s_nil ?_
        refine g_then ?_
        refine g_cond rfl (fun cq47 => ?_) (fun cq47 => ?_)
        · (try simp at cq47)
          refine g_region ?_
          refine s_y (y_move rfl) rfl rfl rfl rfl ?_
          refine s_y (y_move rfl) rfl rfl rfl rfl ?_
          refine s_y (y_add rfl rfl (by omega) (by omega)) rfl rfl rfl rfl ?_
          refine s_y (y_move rfl) rfl rfl rfl rfl ?_
          refine s_y (y_add rfl rfl (by omega) (by omega)) rfl rfl rfl rfl ?_
          refine s_y (y_build (vs := [(0, _), (1, _)]) rfl rfl (fun w => bld_79_0_1 _ _ w)) rfl rfl rfl rfl ?_
          refine s_tr (t_build (vs := [(0, .agg #[.int .i64 (zi + 1), .int .i64 (zj + 1)])]) (cells := [.int .i64 (zi + 1), .int .i64 (zj + 1)]) rfl rfl Try.underlying74 hi79.1 hi79.2.1 (by rw [hi79.2.2.1]; rfl) (by rw [hi79.2.2.1]; rfl) (by rw [hi79.2.2.1]; kernel_rfl)) rfl rfl rfl rfl (fun b48 hb48 => ?_)
          refine s_tr (t_appendP (sv := SV.nil) (xs := []) (n := 0) (p := (zi + 1, zj + 1)) [_] _ rfl rfl rfl (show SV.nil.ok 2 0 (cellsP []) from ⟨rfl, rfl⟩) Try.underlying74 hi79.1 hi79.2.1 hi79.2.2.1 hi79.2.2.2 rfl (fun w h => pair_new (i := 0) (p := (zi + 1, zj + 1)) h rfl) (by omega) (by unfold maxLen; omega)) rfl rfl rfl rfl (fun y52 hy53 => ?_)
          obtain ⟨sv49, gs50⟩ := y52
          obtain ⟨⟨hok51, hok51b, hok51c, hok51j, hok51e⟩, hok51n⟩ := hy53
          refine s_y (y_assign rfl) rfl rfl rfl rfl ?_
          refine s_nil ?_
          refine g_then ?_
          refine g_seq ?_
          refine g_region ?_
          refine s_y (y_move rfl) rfl rfl rfl rfl ?_
          refine s_y (y_assign rfl) rfl rfl rfl rfl ?_
          refine s_nil ?_
          refine g_then ?_
          refine g_ret ?_
          rw [show nxL a b zi zj = [] ++ [(zi + 1, zj + 1)] from by rw [nxL_eq hi1 hj1]; (repeat' split) <;> first | rfl | (exfalso; omega)]
          exact g_end trivial (fun a w ha hq_ => res1 ha rfl rfl  w) (fun w h => ⟨(_, sv49.mem 79 (cellsP ([] ++ [(zi + 1, zj + 1)]))), ⟨(OwnP.sv (e := 79) hok51), w, (h.hand (List.Sublist.cons _ (sub_here (sv49.mem 79 (cellsP ([] ++ [(zi + 1, zj + 1)]))) _))).at_⟩, rfl, h.hand (List.Sublist.cons _ (sub_here (sv49.mem 79 (cellsP ([] ++ [(zi + 1, zj + 1)]))) _))⟩)
        · (try simp at cq47)
          refine g_skip ?_
          refine g_then ?_
          refine g_seq ?_
          refine g_region ?_
          refine s_y (y_move rfl) rfl rfl rfl rfl ?_
          refine s_y (y_assign rfl) rfl rfl rfl rfl ?_
          refine s_nil ?_
          refine g_then ?_
          refine g_ret ?_
          rw [show nxL a b zi zj = [] from by rw [nxL_eq hi1 hj1]; (repeat' split) <;> first | rfl | (exfalso; omega)]
          exact g_end trivial (fun a w ha hq_ => res1 ha rfl rfl  w) (fun w h => ⟨(_, SV.nil.mem 79 (cellsP ([]))), ⟨(OwnP.sv (e := 79) (show SV.nil.ok 2 0 (cellsP []) from ⟨rfl, rfl⟩)), w, (h.hand (sub_here (SV.nil.mem 79 (cellsP ([]))) _)).at_⟩, rfl, h.hand (sub_here (SV.nil.mem 79 (cellsP ([]))) _)⟩)
      · (try simp at cq46)
        refine s_no rfl rfl rfl ?_
        refine s_no rfl rfl rfl ?_
        refine s_no rfl rfl rfl ?_
        refine s_no rfl rfl rfl ?_
        refine s_no rfl rfl rfl ?_
        refine s_y (y_pick_f rfl rfl) rfl rfl rfl rfl ?_
        refine s_nil ?_
        refine g_then ?_
        refine g_cond_f rfl ?_
        refine g_skip ?_
        refine g_then ?_
        refine g_seq ?_
        refine g_region ?_
        refine s_y (y_move rfl) rfl rfl rfl rfl ?_
        refine s_y (y_assign rfl) rfl rfl rfl rfl ?_
        refine s_nil ?_
        refine g_then ?_
        refine g_ret ?_
        rw [show nxL a b zi zj = [] from by rw [nxL_eq hi1 hj1]; (repeat' split) <;> first | rfl | (exfalso; omega)]
        exact g_end trivial (fun a w ha hq_ => res1 ha rfl rfl  w) (fun w h => ⟨(_, SV.nil.mem 79 (cellsP ([]))), ⟨(OwnP.sv (e := 79) (show SV.nil.ok 2 0 (cellsP []) from ⟨rfl, rfl⟩)), w, (h.hand (sub_here (SV.nil.mem 79 (cellsP ([]))) _)).at_⟩, rfl, h.hand (sub_here (SV.nil.mem 79 (cellsP ([]))) _)⟩)

theorem Rover_any (w : World) (v v' : Value) (a b : List Int) (ha : RdV (Value.int .i64) w v a) (hb : RdV (Value.int .i64) w v' b) (hma : melB a = true) (hmb_ : melB b = true) :
    Calls Try.prog 85 [v, v'].toArray w fun e w' => ∃ x : Value × List Value × List (Nat × Obj), (OwnV encV x.1 x.2.1 x.2.2 ∧ x.2.1.length = a.length ∧ (∀ q : Nat, q < a.length → OwnV (Value.int .i64) (rdVal x.2.1 (q : Int)) (rowP a b (q : Int)) x.2.2) ∧ ∃ W : World, ∀ p ∈ x.2.2, W.heap[p.1]? = some p.2) ∧ e = .returned x.1 ∧ Hq w w x.2.2 w' := by
  obtain ⟨hal, hxa⟩ := melB_true.1 hma
  obtain ⟨hbl, hxb⟩ := melB_true.1 hmb_
  obtain ⟨ie46, hi46⟩ := inf_46
  obtain ⟨ie3, hi3⟩ := inf_3
  refine enter (N := 92) Try.func85 rfl rfl rfl ?_
  refine g_seq ?_
  refine g_region ?_
  refine s_y (y_assign rfl) rfl rfl rfl rfl ?_
  refine s_nil ?_
  refine g_then ?_
  refine g_seq ?_
  refine g_region ?_
  refine s_y (y_move rfl) rfl rfl rfl rfl ?_
  refine s_y (y_lenV (n := a.length) rfl (by obtain ⟨A, c, h1, _⟩ := ha; exact ⟨A, c, h1⟩) sle_46) rfl rfl rfl rfl ?_
  refine s_tr (t_makeL (enc := encV) (z := (Value.slice none 0 0)) (n := a.length) rfl Try.underlying66 hi46.1 hi46.2.1 hi46.2.2.1 rfl (by rw [hi46.2.2.2]; omega) (by omega)) rfl rfl rfl rfl (fun bo hbo => ?_)
  rw [show List.replicate a.length (Value.slice none 0 0) = (List.replicate (a.length - 0) (Value.slice none 0 0) ++ []) from by rw [List.append_nil]; rfl]
  refine s_y (y_assign rfl) rfl rfl rfl rfl ?_
  refine s_nil ?_
  refine g_then ?_
  refine g_seq ?_
  refine g_seq ?_
  refine g_region ?_
  refine s_y (y_move rfl) rfl rfl rfl rfl ?_
  refine s_y (y_lenV (n := a.length) rfl (by obtain ⟨A, c, h1, _⟩ := ha; exact ⟨A, c, h1⟩) sle_46) rfl rfl rfl rfl ?_
  refine s_y (y_sub rfl rfl (by omega) (by omega)) rfl rfl rfl rfl ?_
  refine s_y (y_assign rfl) rfl rfl rfl rfl ?_
  refine s_nil ?_
  refine g_then ?_
  refine g_block ?_
  refine g_loop (fun (u : Nat) act W => u ≤ a.length ∧ ∃ (zi : Int) (vs : List Value) (Ms : List (Nat × Obj)) (w1 : World), (zi = (a.length : Int) - 1 - (u : Int)) ∧ (vs.length = u) ∧ (∀ q : Nat, q < u → OwnV (Value.int .i64) (rdVal vs (q : Int)) (rowP a b (zi + 1 + (q : Int))) Ms) ∧ (∃ W : World, ∀ p ∈ Ms, W.heap[p.1]? = some p.2) ∧ Has 92 [] [(0, v), (1, v'), (4, .slice none 0 0), (5, .slice (some ⟨bo, 0, none⟩) a.length a.length), (6, .int .i64 zi)] act ∧ Hp w w1 ((bo, .cells ((List.replicate (a.length - u) (Value.slice none 0 0) ++ vs).map encV ++ []).toArray 46 (0, 0)) :: (Ms ++ ([]))) W) (fun u => a.length - u) 0 (fun act W ha hw => ⟨by omega, (a.length : Int) - 1, [], [], W, (by simp), (by rfl), (by intro q hq; omega), (by exact ⟨w, by simp⟩), ha.weak (sub_get ⟨rfl, rfl, rfl, rfl, rfl, trivial⟩), hw.toHq.lookSub (List.Sublist.refl _)⟩) ?_
  intro u act W ⟨hb_u, zi, vs, Ms, w1, hzi, hvl, hrows, hEs, ha, hw⟩
  refine g_go ha hw ?_
  clear ha hw act W
  refine g_seq ?_
  refine g_seq ?_
  refine g_region ?_
  refine s_y (y_move rfl) rfl rfl rfl rfl ?_
  refine s_y (y_geq rfl rfl) rfl rfl rfl rfl ?_
  refine s_nil ?_
  refine g_then ?_
  refine g_cond rfl (fun cq1 => ?_) (fun cq1 => ?_)
  · (try simp at cq1)
    refine g_skip ?_
    refine g_then ?_
    refine g_seq ?_
    refine g_block ?_
    refine g_seq ?_
    refine g_region ?_
    refine s_y (y_move rfl) rfl rfl rfl rfl ?_
    refine s_y (y_move rfl) rfl rfl rfl rfl ?_
    refine s_y (y_move rfl) rfl rfl rfl rfl ?_
    refine s_y (y_lenV (n := b.length) rfl (by obtain ⟨A, c, h1, _⟩ := hb; exact ⟨A, c, h1⟩) sle_46) rfl rfl rfl rfl ?_
    refine s_tr (t_makeL (enc := (Value.int .i64)) (z := (0 : Int)) (n := b.length) rfl Try.underlying46 hi3.1 hi3.2.1 hi3.2.2.1 rfl (by rw [hi3.2.2.2]; omega) (by omega)) rfl rfl rfl rfl (fun bw hbw => ?_)
    refine s_y (y_idxb1 rfl rfl Try.underlying66 size_46 (by omega) (by omega)) rfl rfl rfl rfl ?_
    refine s_tr0 (t_storeL (enc := encV) (v := (Value.slice (some ⟨bw, 0, none⟩) b.length b.length)) (xs := (List.replicate (a.length - u) (Value.slice none 0 0) ++ vs)) (jk := []) 1 rfl rfl rfl rfl rfl size_46 (by simp; omega)) rfl rfl rfl (fun _ _ => ?_)
    rw [show (List.replicate (a.length - u) (Value.slice none 0 0) ++ vs).set (zi : Int).toNat (Value.slice (some ⟨bw, 0, none⟩) b.length b.length) = (List.replicate (a.length - (u + 1)) (Value.slice none 0 0) ++ ((Value.slice (some ⟨bw, 0, none⟩) b.length b.length) :: vs)) from by rw [show (zi : Int).toNat = a.length - (u + 1) by omega, show a.length - u = (a.length - (u + 1)) + 1 by omega]; exact set_row]
    refine s_nil ?_
    refine g_then ?_
    refine g_seq ?_
    refine g_region ?_
    refine s_y (y_move rfl) rfl rfl rfl rfl ?_
    refine s_y (y_lenV (n := b.length) rfl (by obtain ⟨A, c, h1, _⟩ := hb; exact ⟨A, c, h1⟩) sle_46) rfl rfl rfl rfl ?_
    refine s_y (y_sub rfl rfl (by omega) (by omega)) rfl rfl rfl rfl ?_
    refine s_y (y_assign rfl) rfl rfl rfl rfl ?_
    refine s_nil ?_
    refine g_then ?_
    refine g_block ?_
    refine g_loop (fun (v_ : Nat) act W => v_ ≤ b.length ∧ ∃ (zj : Int) (zs : List Int) (w1 : World), (zj = (b.length : Int) - 1 - (v_ : Int)) ∧ (zs.length = b.length) ∧ (∀ y : Int, zj < y → y < b.length → rdI zs y = ovP a b zi y) ∧ Has 92 [] [(0, v), (1, v'), (4, .slice none 0 0), (5, .slice (some ⟨bo, 0, none⟩) a.length a.length), (6, .int .i64 zi), (7, .int .i64 zj), (18, .int .i64 zi), (19, .bool (decide (zi ≥ 0))), (22, .slice (some ⟨bo, 0, none⟩) a.length a.length), (23, .int .i64 zi), (24, v'), (25, .int .i64 (b.length : Nat)), (26, .slice (some ⟨bw, 0, none⟩) b.length b.length), (27, .pointer (some ⟨bo, (zi : Int).toNat, none⟩)), (28, v'), (29, .int .i64 (b.length : Nat)), (30, .int .i64 ((b.length : Nat) - 1))] act ∧ Hp w w1 ((bw, .cells (zs.map (Value.int .i64) ++ []).toArray 3 (0, 0)) :: (bo, .cells ((List.replicate (a.length - (u + 1)) (Value.slice none 0 0) ++ ((Value.slice (some ⟨bw, 0, none⟩) b.length b.length) :: vs)).map encV ++ []).toArray 46 (0, 0)) :: (Ms ++ ([]))) W) (fun v_ => b.length - v_) 0 (fun act W ha hw => ⟨by omega, (b.length : Int) - 1, List.replicate b.length 0, W, (by simp), (by simp), (by intro y h1 h2; omega), ha.weak (sub_get ⟨rfl, rfl, rfl, rfl, rfl, rfl, rfl, rfl, rfl, rfl, rfl, rfl, rfl, rfl, rfl, rfl, rfl, trivial⟩), hw.toHq.lookSub (List.Sublist.refl _)⟩) ?_
    intro v_ act W ⟨hb_v_, zj, zs, w1, hzj, hzl, hzs, ha, hw⟩
    refine g_go ha hw ?_
    clear ha hw act W
    refine g_seq ?_
    refine g_seq ?_
    refine g_region ?_
    refine s_y (y_move rfl) rfl rfl rfl rfl ?_
    refine s_y (y_geq rfl rfl) rfl rfl rfl rfl ?_
    refine s_nil ?_
    refine g_then ?_
    refine g_cond rfl (fun cq2 => ?_) (fun cq2 => ?_)
    · (try simp at cq2)
      refine g_skip ?_
      refine g_then ?_
      refine g_seq ?_
      refine g_block ?_
      refine g_seq ?_
      have hi0 : 0 ≤ zi := by omega
      have hi1 : zi < a.length := by omega
      have hj0 : 0 ≤ zj := by omega
      have hj1 : zj < b.length := by omega
      refine g_region ?_
      refine s_y (y_assign rfl) rfl rfl rfl rfl ?_
      refine s_nil ?_
      refine g_then ?_
      refine g_seq ?_
      refine g_seq ?_
      refine g_region ?_
      refine s_y (y_move rfl) rfl rfl rfl rfl ?_
      refine s_y (y_move rfl) rfl rfl rfl rfl ?_
      refine s_y (y_move rfl) rfl rfl rfl rfl ?_
      refine s_y (y_move rfl) rfl rfl rfl rfl ?_
      refine s_tr (t_callm rfl rfl ent_86 (fun w h => Rnext_any w v v' a b (ha.below h.below) (hb.below h.below) zi zj (by omega) (by omega) hi0 hi1 hj0 hj1)) rfl rfl rfl rfl (fun x4 hx5 => ?_)
      obtain ⟨vo3, mo3⟩ := x4
      obtain ⟨hOo3, hEo3⟩ := hx5
      refine g_perm' (m' := (bw, .cells (zs.map (Value.int .i64) ++ []).toArray 3 (0, 0)) :: (bo, .cells ((List.replicate (a.length - (u + 1)) (Value.slice none 0 0) ++ ((Value.slice (some ⟨bw, 0, none⟩) b.length b.length) :: vs)).map encV ++ []).toArray 46 (0, 0)) :: (Ms ++ ((mo3 ++ ([]))))) (show ((bw, .cells (zs.map (Value.int .i64) ++ []).toArray 3 (0, 0)) :: (bo, .cells ((List.replicate (a.length - (u + 1)) (Value.slice none 0 0) ++ ((Value.slice (some ⟨bw, 0, none⟩) b.length b.length) :: vs)).map encV ++ []).toArray 46 (0, 0)) :: (Ms ++ ((mo3 ++ ([])))) : List (Nat × Obj)).Perm ((mo3 ++ ((bw, .cells (zs.map (Value.int .i64) ++ []).toArray 3 (0, 0)) :: (bo, .cells ((List.replicate (a.length - (u + 1)) (Value.slice none 0 0) ++ ((Value.slice (some ⟨bw, 0, none⟩) b.length b.length) :: vs)).map encV ++ []).toArray 46 (0, 0)) :: (Ms ++ ([])))) : List (Nat × Obj)) from List.Perm.trans (List.Perm.of_eq (by simp only [List.append_assoc, List.cons_append, List.nil_append, List.append_nil])) (List.Perm.trans (List.perm_append_comm_assoc ((bw, .cells (zs.map (Value.int .i64) ++ []).toArray 3 (0, 0)) :: (bo, .cells ((List.replicate (a.length - (u + 1)) (Value.slice none 0 0) ++ ((Value.slice (some ⟨bw, 0, none⟩) b.length b.length) :: vs)).map encV ++ []).toArray 46 (0, 0)) :: (Ms ++ ([])) : List (Nat × Obj)) ((mo3 ++ ([])) : List (Nat × Obj)) ([] : List (Nat × Obj))) (List.Perm.of_eq (by simp only [List.append_assoc, List.cons_append, List.nil_append, List.append_nil])))) ?_
      refine s_y (y_lenV (n := ((nxL a b zi zj).length)) rfl hOo3.1 sle_74) rfl rfl rfl rfl ?_
      refine s_y (y_move rfl) rfl rfl rfl rfl ?_
      refine s_nil ?_
      refine g_then ?_
      refine g_block ?_
      refine g_loop (fun (k : Nat) act W => k ≤ (nxL a b zi zj).length ∧ ∃ (rest : Int) (w1 : World), (rest = rK a b (nxL a b zi zj) k) ∧ Has 92 [] [(0, v), (1, v'), (4, .slice none 0 0), (5, .slice (some ⟨bo, 0, none⟩) a.length a.length), (6, .int .i64 zi), (7, .int .i64 zj), (8, .int .i64 rest), (18, .int .i64 zi), (19, .bool (decide (zi ≥ 0))), (22, .slice (some ⟨bo, 0, none⟩) a.length a.length), (23, .int .i64 zi), (24, v'), (25, .int .i64 (b.length : Nat)), (26, .slice (some ⟨bw, 0, none⟩) b.length b.length), (27, .pointer (some ⟨bo, (zi : Int).toNat, none⟩)), (28, v'), (29, .int .i64 (b.length : Nat)), (30, .int .i64 ((b.length : Nat) - 1)), (31, .int .i64 zj), (32, .bool (decide (zj ≥ 0))), (35, v), (36, v'), (37, .int .i64 zi), (38, .int .i64 zj), (39, vo3), (40, .int .i64 ((nxL a b zi zj).length : Nat)), (41, .int .i64 (k : Int))] act ∧ Hp w w1 ((bw, .cells (zs.map (Value.int .i64) ++ []).toArray 3 (0, 0)) :: (bo, .cells ((List.replicate (a.length - (u + 1)) (Value.slice none 0 0) ++ ((Value.slice (some ⟨bw, 0, none⟩) b.length b.length) :: vs)).map encV ++ []).toArray 46 (0, 0)) :: (Ms ++ ((mo3 ++ ([]))))) W) (fun k => (nxL a b zi zj).length - k) 0 (fun act W ha hw => ⟨by omega, (-1), W, (by rfl), ha.weak (sub_get ⟨rfl, rfl, rfl, rfl, rfl, rfl, rfl, rfl, rfl, rfl, rfl, rfl, rfl, rfl, rfl, rfl, rfl, rfl, rfl, rfl, rfl, rfl, rfl, rfl, rfl, rfl, rfl, trivial⟩), hw.toHq.lookSub (List.Sublist.refl _)⟩) ?_
      intro k act W ⟨hb_k, rest, w1, hrest, ha, hw⟩
      refine g_go ha hw ?_
      clear ha hw act W
      refine g_seq ?_
      have hnl := nxL_len a b zi zj
      refine g_region ?_
      refine s_y (y_lss rfl rfl) rfl rfl rfl rfl ?_
      refine s_nil ?_
      refine g_then ?_
      refine g_seq ?_
      refine g_cond rfl (fun cq6 => ?_) (fun cq6 => ?_)
      · (try simp at cq6)
        refine g_skip ?_
        refine g_then ?_
        refine g_seq ?_
        refine g_block ?_
        refine g_seq ?_
        have hPc := nxL_at (a := a) (b := b) (i := zi) (j := zj) (k := k) (by omega)
        refine g_region ?_
        refine s_y (y_idxPO rfl rfl hOo3 hEo3 Try.underlying74 size_79 (by omega) (by omega)) rfl rfl rfl rfl ?_
        refine s_y (y_ldP (xs := (nxL a b zi zj)) (fun w h => (hOo3.rd fun p hp => h.at_ p (List.mem_cons_of_mem _ (List.mem_cons_of_mem _ (mem_ar Ms (mem_al mo3 hp))))).rdl) rfl agg_79 size_79 (rdP_at (by omega) (by omega))) rfl rfl rfl rfl ?_
        refine s_tr (t_alloc zero_79 rfl) rfl rfl rfl rfl (fun bp hbp => ?_)
        refine s_tr0 (t_store 0 rfl rfl rfl rfl size_79 rfl rfl) rfl rfl rfl (fun _ _ => ?_)
        refine s_nil ?_
        refine g_then ?_
        refine g_seq ?_
        rcases hPc.2 with e1 | e1
        · skip
          refine g_draw 10 (by kernel_rfl) ?_
          refine j_p (i := 0) rfl (y_move rfl) (by kernel_rfl) (by kernel_rfl) (by kernel_rfl) rfl rfl rfl rfl rfl (.inr (fun _ h => h)) ?_
          refine j_p (i := 1) rfl (y_idxc rfl rfl (fun w => fia_79_0 _ _ w)) (by kernel_rfl) (by kernel_rfl) (by kernel_rfl) rfl rfl rfl rfl rfl (.inr (fun _ h => h)) ?_
          refine j_l (i := 2) rfl (y_ld1 0 rfl rfl agg_3 rfl) (by kernel_rfl) (by kernel_rfl) (by kernel_rfl) (by kernel_rfl) rfl rfl rfl rfl rfl (.inr (fun _ h => h)) ?_
          refine j_p (i := 3) rfl (y_idxb1 rfl rfl Try.underlying66 size_46 (by omega) (by omega)) (by kernel_rfl) (by kernel_rfl) (by kernel_rfl) rfl rfl rfl rfl rfl (.inr (fun _ h => h)) ?_
          refine j_l (i := 4) rfl (y_ldL (enc := encV) (xs := (List.replicate (a.length - (u + 1)) (Value.slice none 0 0) ++ ((Value.slice (some ⟨bw, 0, none⟩) b.length b.length) :: vs))) (jk := []) 2 rfl rfl agg_46 (rdVal_at (by omega) (by simp; omega))) (by kernel_rfl) (by kernel_rfl) (by kernel_rfl) (by kernel_rfl) rfl rfl rfl rfl rfl (.inr (fun _ h => h)) ?_
          rw [show rdVal (List.replicate (a.length - (u + 1)) (Value.slice none 0 0) ++ ((Value.slice (some ⟨bw, 0, none⟩) b.length b.length) :: vs)) ((rdP (nxL a b zi zj) (k : Int)).1) = (Value.slice (some ⟨bw, 0, none⟩) b.length b.length) from by rw [e1.1, show zi = ((a.length - (u + 1) : Nat) : Int) by omega]; exact rd_rowA]
          refine j_p (i := 5) rfl (y_idxc rfl rfl (fun w => fia_79_1 _ _ w)) (by kernel_rfl) (by kernel_rfl) (by kernel_rfl) rfl rfl rfl rfl rfl (.inr (fun _ h => h)) ?_
          refine j_l (i := 6) rfl (y_ld1 0 rfl rfl agg_3 rfl) (by kernel_rfl) (by kernel_rfl) (by kernel_rfl) (by kernel_rfl) rfl rfl rfl rfl rfl (.inr (fun _ h => h)) ?_
          refine j_p (i := 7) rfl (y_idxb1 rfl rfl Try.underlying46 size_3 (by omega) (by omega)) (by kernel_rfl) (by kernel_rfl) (by kernel_rfl) rfl rfl rfl rfl rfl (.inr (fun _ h => h)) ?_
          refine j_l (i := 8) rfl (y_ldL (enc := (Value.int .i64)) (xs := zs) (jk := []) 1 rfl rfl agg_3 (rdI_at (by omega) (by omega))) (by kernel_rfl) (by kernel_rfl) (by kernel_rfl) (by kernel_rfl) rfl rfl rfl rfl rfl (.inr (fun _ h => h)) ?_
          rw [show rdI zs ((rdP (nxL a b zi zj) (k : Int)).2) = ovP a b (rdP (nxL a b zi zj) (k : Int)).1 (rdP (nxL a b zi zj) (k : Int)).2 from by rw [e1.1]; exact hzs _ (by omega) (by omega)]
          refine j_p (i := 9) rfl (y_assign rfl) (by kernel_rfl) (by kernel_rfl) (by kernel_rfl) rfl rfl rfl rfl rfl (.inr (fun _ h => h)) ?_
          refine j_nil (by kernel_rfl) ?_
          refine g_then ?_
          refine g_seq ?_
          refine g_region ?_
          refine s_y (y_move rfl) rfl rfl rfl rfl ?_
          refine s_y (y_lss rfl rfl) rfl rfl rfl rfl ?_
          refine s_y (y_move rfl) rfl rfl rfl rfl ?_
          refine g_bool 56 rfl (fun cq7 => ?_) (fun cq7 => ?_)
          · (try simp at cq7)
            refine s_no rfl rfl rfl ?_
            refine s_no rfl rfl rfl ?_
            refine s_no rfl rfl rfl ?_
            refine s_y (y_pick_t rfl rfl) rfl rfl rfl rfl ?_
            refine s_nil ?_
            refine g_then ?_
            refine g_cond_t rfl ?_
            refine g_region ?_
            refine s_y (y_move rfl) rfl rfl rfl rfl ?_
            refine s_y (y_assign rfl) rfl rfl rfl rfl ?_
            refine s_nil ?_
            refine g_inb ?_
            refine g_then ?_
            refine g_region ?_
            refine s_y (y_add rfl rfl (by omega) (by omega)) rfl rfl rfl rfl ?_
            refine s_y (y_move rfl) rfl rfl rfl rfl ?_
            refine s_nil ?_
            refine g_then ?_
            exact fun act W ha hw => ⟨k + 1, by omega, by omega, (ovP a b (rdP (nxL a b zi zj) (k : Int)).1 (rdP (nxL a b zi zj) (k : Int)).2), W, (by rw [rK, ← hrest]; first | exact (if_pos (by omega)).symm | exact (if_neg (by omega)).symm), ha.weak (sub_get ⟨rfl, rfl, rfl, rfl, rfl, rfl, rfl, rfl, rfl, rfl, rfl, rfl, rfl, rfl, rfl, rfl, rfl, rfl, rfl, rfl, rfl, rfl, rfl, rfl, rfl, rfl, rfl, trivial⟩), hw.toHq.lookSub (List.Sublist.cons _ (List.Sublist.refl _))⟩
          · (try simp at cq7)
            refine s_y (y_move rfl) rfl rfl rfl rfl ?_
            refine s_y (y_move rfl) rfl rfl rfl rfl ?_
            refine s_y (y_lss rfl rfl) rfl rfl rfl rfl ?_
            refine s_y (y_pick_f rfl rfl) rfl rfl rfl rfl ?_
            refine s_nil ?_
            refine g_then ?_
            refine g_cond rfl (fun cq8 => ?_) (fun cq8 => ?_)
            · (try simp at cq8)
              refine g_region ?_
              refine s_y (y_move rfl) rfl rfl rfl rfl ?_
              refine s_y (y_assign rfl) rfl rfl rfl rfl ?_
              refine s_nil ?_
              refine g_inb ?_
              refine g_then ?_
              refine g_region ?_
              refine s_y (y_add rfl rfl (by omega) (by omega)) rfl rfl rfl rfl ?_
              refine s_y (y_move rfl) rfl rfl rfl rfl ?_
              refine s_nil ?_
              refine g_then ?_
              exact fun act W ha hw => ⟨k + 1, by omega, by omega, (ovP a b (rdP (nxL a b zi zj) (k : Int)).1 (rdP (nxL a b zi zj) (k : Int)).2), W, (by rw [rK, ← hrest]; first | exact (if_pos (by omega)).symm | exact (if_neg (by omega)).symm), ha.weak (sub_get ⟨rfl, rfl, rfl, rfl, rfl, rfl, rfl, rfl, rfl, rfl, rfl, rfl, rfl, rfl, rfl, rfl, rfl, rfl, rfl, rfl, rfl, rfl, rfl, rfl, rfl, rfl, rfl, trivial⟩), hw.toHq.lookSub (List.Sublist.cons _ (List.Sublist.refl _))⟩
            · (try simp at cq8)
              refine g_skip ?_
              refine g_inb ?_
              refine g_then ?_
              refine g_region ?_
              refine s_y (y_add rfl rfl (by omega) (by omega)) rfl rfl rfl rfl ?_
              refine s_y (y_move rfl) rfl rfl rfl rfl ?_
              refine s_nil ?_
              refine g_then ?_
              exact fun act W ha hw => ⟨k + 1, by omega, by omega, rest, W, (by rw [rK, ← hrest]; first | exact (if_pos (by omega)).symm | exact (if_neg (by omega)).symm), ha.weak (sub_get ⟨rfl, rfl, rfl, rfl, rfl, rfl, rfl, rfl, rfl, rfl, rfl, rfl, rfl, rfl, rfl, rfl, rfl, rfl, rfl, rfl, rfl, rfl, rfl, rfl, rfl, rfl, rfl, trivial⟩), hw.toHq.lookSub (List.Sublist.cons _ (List.Sublist.refl _))⟩
        · skip
          refine g_draw 10 (by kernel_rfl) ?_
          refine j_p (i := 0) rfl (y_move rfl) (by kernel_rfl) (by kernel_rfl) (by kernel_rfl) rfl rfl rfl rfl rfl (.inr (fun _ h => h)) ?_
          refine j_p (i := 1) rfl (y_idxc rfl rfl (fun w => fia_79_0 _ _ w)) (by kernel_rfl) (by kernel_rfl) (by kernel_rfl) rfl rfl rfl rfl rfl (.inr (fun _ h => h)) ?_
          refine j_l (i := 2) rfl (y_ld1 0 rfl rfl agg_3 rfl) (by kernel_rfl) (by kernel_rfl) (by kernel_rfl) (by kernel_rfl) rfl rfl rfl rfl rfl (.inr (fun _ h => h)) ?_
          refine j_p (i := 3) rfl (y_idxb1 rfl rfl Try.underlying66 size_46 (by omega) (by omega)) (by kernel_rfl) (by kernel_rfl) (by kernel_rfl) rfl rfl rfl rfl rfl (.inr (fun _ h => h)) ?_
          refine j_l (i := 4) rfl (y_ldL (enc := encV) (xs := (List.replicate (a.length - (u + 1)) (Value.slice none 0 0) ++ ((Value.slice (some ⟨bw, 0, none⟩) b.length b.length) :: vs))) (jk := []) 2 rfl rfl agg_46 (rdVal_at (by omega) (by simp; omega))) (by kernel_rfl) (by kernel_rfl) (by kernel_rfl) (by kernel_rfl) rfl rfl rfl rfl rfl (.inr (fun _ h => h)) ?_
          rw [show rdVal (List.replicate (a.length - (u + 1)) (Value.slice none 0 0) ++ ((Value.slice (some ⟨bw, 0, none⟩) b.length b.length) :: vs)) ((rdP (nxL a b zi zj) (k : Int)).1) = rdVal vs ((0 : Nat) : Int) from by rw [e1.1, show zi + 1 = ((a.length - (u + 1) : Nat) : Int) + 1 + ((0 : Nat) : Int) by omega]; exact rd_rowB]
          have hr0l := rowP_len a b (zi + 1)
          have hr0 : OwnV (Value.int .i64) (rdVal vs ((0 : Nat) : Int)) (rowP a b (zi + 1)) Ms := by have h_ := hrows 0 (by omega); rwa [show zi + 1 + ((0 : Nat) : Int) = zi + 1 by omega] at h_
          refine j_p (i := 5) rfl (y_idxc rfl rfl (fun w => fia_79_1 _ _ w)) (by kernel_rfl) (by kernel_rfl) (by kernel_rfl) rfl rfl rfl rfl rfl (.inr (fun _ h => h)) ?_
          refine j_l (i := 6) rfl (y_ld1 0 rfl rfl agg_3 rfl) (by kernel_rfl) (by kernel_rfl) (by kernel_rfl) (by kernel_rfl) rfl rfl rfl rfl rfl (.inr (fun _ h => h)) ?_
          refine j_p (i := 7) rfl (y_idxO (enc := (Value.int .i64)) rfl rfl hr0 hEs Try.underlying46 size_3 (by omega) (by omega)) (by kernel_rfl) (by kernel_rfl) (by kernel_rfl) rfl rfl rfl rfl rfl (.inr (fun _ h => h)) ?_
          refine j_l (i := 8) rfl (y_ldV (enc := (Value.int .i64)) (xs := (rowP a b (zi + 1))) (fun w h => (hr0.rd fun p hp => h.at_ p (List.mem_cons_of_mem _ (List.mem_cons_of_mem _ (List.mem_cons_of_mem _ (mem_al Ms hp))))).rdl) rfl agg_3 (rdI_at (by omega) (by omega))) (by kernel_rfl) (by kernel_rfl) (by kernel_rfl) (by kernel_rfl) rfl rfl rfl rfl rfl (.inr (fun _ h => h)) ?_
          rw [show rdI (rowP a b (zi + 1)) ((rdP (nxL a b zi zj) (k : Int)).2) = ovP a b (rdP (nxL a b zi zj) (k : Int)).1 (rdP (nxL a b zi zj) (k : Int)).2 from by rw [e1.1]; exact rowP_at (by omega) (by omega)]
          refine j_p (i := 9) rfl (y_assign rfl) (by kernel_rfl) (by kernel_rfl) (by kernel_rfl) rfl rfl rfl rfl rfl (.inr (fun _ h => h)) ?_
          refine j_nil (by kernel_rfl) ?_
          refine g_then ?_
          refine g_seq ?_
          refine g_region ?_
          refine s_y (y_move rfl) rfl rfl rfl rfl ?_
          refine s_y (y_lss rfl rfl) rfl rfl rfl rfl ?_
          refine s_y (y_move rfl) rfl rfl rfl rfl ?_
          refine g_bool 56 rfl (fun cq9 => ?_) (fun cq9 => ?_)
          · (try simp at cq9)
            refine s_no rfl rfl rfl ?_
            refine s_no rfl rfl rfl ?_
            refine s_no rfl rfl rfl ?_
            refine s_y (y_pick_t rfl rfl) rfl rfl rfl rfl ?_
            refine s_nil ?_
            refine g_then ?_
            refine g_cond_t rfl ?_
            refine g_region ?_
            refine s_y (y_move rfl) rfl rfl rfl rfl ?_
            refine s_y (y_assign rfl) rfl rfl rfl rfl ?_
            refine s_nil ?_
            refine g_inb ?_
            refine g_then ?_
            refine g_region ?_
            refine s_y (y_add rfl rfl (by omega) (by omega)) rfl rfl rfl rfl ?_
            refine s_y (y_move rfl) rfl rfl rfl rfl ?_
            refine s_nil ?_
            refine g_then ?_
            exact fun act W ha hw => ⟨k + 1, by omega, by omega, (ovP a b (rdP (nxL a b zi zj) (k : Int)).1 (rdP (nxL a b zi zj) (k : Int)).2), W, (by rw [rK, ← hrest]; first | exact (if_pos (by omega)).symm | exact (if_neg (by omega)).symm), ha.weak (sub_get ⟨rfl, rfl, rfl, rfl, rfl, rfl, rfl, rfl, rfl, rfl, rfl, rfl, rfl, rfl, rfl, rfl, rfl, rfl, rfl, rfl, rfl, rfl, rfl, rfl, rfl, rfl, rfl, trivial⟩), hw.toHq.lookSub (List.Sublist.cons _ (List.Sublist.refl _))⟩
          · (try simp at cq9)
            refine s_y (y_move rfl) rfl rfl rfl rfl ?_
            refine s_y (y_move rfl) rfl rfl rfl rfl ?_
            refine s_y (y_lss rfl rfl) rfl rfl rfl rfl ?_
            refine s_y (y_pick_f rfl rfl) rfl rfl rfl rfl ?_
            refine s_nil ?_
            refine g_then ?_
            refine g_cond rfl (fun cq10 => ?_) (fun cq10 => ?_)
            · (try simp at cq10)
              refine g_region ?_
              refine s_y (y_move rfl) rfl rfl rfl rfl ?_
              refine s_y (y_assign rfl) rfl rfl rfl rfl ?_
              refine s_nil ?_
              refine g_inb ?_
              refine g_then ?_
              refine g_region ?_
              refine s_y (y_add rfl rfl (by omega) (by omega)) rfl rfl rfl rfl ?_
              refine s_y (y_move rfl) rfl rfl rfl rfl ?_
              refine s_nil ?_
              refine g_then ?_
              exact fun act W ha hw => ⟨k + 1, by omega, by omega, (ovP a b (rdP (nxL a b zi zj) (k : Int)).1 (rdP (nxL a b zi zj) (k : Int)).2), W, (by rw [rK, ← hrest]; first | exact (if_pos (by omega)).symm | exact (if_neg (by omega)).symm), ha.weak (sub_get ⟨rfl, rfl, rfl, rfl, rfl, rfl, rfl, rfl, rfl, rfl, rfl, rfl, rfl, rfl, rfl, rfl, rfl, rfl, rfl, rfl, rfl, rfl, rfl, rfl, rfl, rfl, rfl, trivial⟩), hw.toHq.lookSub (List.Sublist.cons _ (List.Sublist.refl _))⟩
            · (try simp at cq10)
              refine g_skip ?_
              refine g_inb ?_
              refine g_then ?_
              refine g_region ?_
              refine s_y (y_add rfl rfl (by omega) (by omega)) rfl rfl rfl rfl ?_
              refine s_y (y_move rfl) rfl rfl rfl rfl ?_
              refine s_nil ?_
              refine g_then ?_
              exact fun act W ha hw => ⟨k + 1, by omega, by omega, rest, W, (by rw [rK, ← hrest]; first | exact (if_pos (by omega)).symm | exact (if_neg (by omega)).symm), ha.weak (sub_get ⟨rfl, rfl, rfl, rfl, rfl, rfl, rfl, rfl, rfl, rfl, rfl, rfl, rfl, rfl, rfl, rfl, rfl, rfl, rfl, rfl, rfl, rfl, rfl, rfl, rfl, rfl, rfl, trivial⟩), hw.toHq.lookSub (List.Sublist.cons _ (List.Sublist.refl _))⟩
      · (try simp at cq6)
        refine g_exit ?_
        refine g_thenx ?_
        refine g_thenx ?_
        refine g_inbx ?_
        refine g_then ?_
        have hx1 := mel_rd hxa zi
        have hx2 := mel_rd hxb zj
        have hrr := rK_range (a := a) (b := b) (nxL a b zi zj) (fun q hq => mel_PP hma hmb_ (by have h_ := nxL_mem hq; rcases h_.2 with e | e | e <;> rw [e] <;> simp only <;> omega) (by have h_ := nxL_mem hq; rcases h_.2 with e | e | e <;> rw [e] <;> simp only <;> omega)) k (by omega)
        rw [← hrest] at hrr
        refine g_draw 28 (by kernel_rfl) ?_
        refine j_p (i := 0) rfl (y_move rfl) (by kernel_rfl) (by kernel_rfl) (by kernel_rfl) rfl rfl rfl rfl rfl (.inr (fun _ h => h)) ?_
        refine j_p (i := 1) rfl (y_move rfl) (by kernel_rfl) (by kernel_rfl) (by kernel_rfl) rfl rfl rfl rfl rfl (.inr (fun _ h => h)) ?_
        refine j_p (i := 2) rfl (y_idxb1 rfl rfl Try.underlying66 size_46 (by omega) (by omega)) (by kernel_rfl) (by kernel_rfl) (by kernel_rfl) rfl rfl rfl rfl rfl (.inr (fun _ h => h)) ?_
        refine j_l (i := 3) rfl (y_ldL (enc := encV) (xs := (List.replicate (a.length - (u + 1)) (Value.slice none 0 0) ++ ((Value.slice (some ⟨bw, 0, none⟩) b.length b.length) :: vs))) (jk := []) 1 rfl rfl agg_46 (rdVal_at (by omega) (by simp; omega))) (by kernel_rfl) (by kernel_rfl) (by kernel_rfl) (by kernel_rfl) rfl rfl rfl rfl rfl (.inr (fun _ h => h)) ?_
        rw [show rdVal (List.replicate (a.length - (u + 1)) (Value.slice none 0 0) ++ ((Value.slice (some ⟨bw, 0, none⟩) b.length b.length) :: vs)) zi = (Value.slice (some ⟨bw, 0, none⟩) b.length b.length) from by rw [show zi = ((a.length - (u + 1) : Nat) : Int) by omega]; exact rd_rowA]
        refine j_p (i := 4) rfl (y_move rfl) (by kernel_rfl) (by kernel_rfl) (by kernel_rfl) rfl rfl rfl rfl rfl (.inr (fun _ h => h)) ?_
        refine j_p (i := 5) rfl (y_move rfl) (by kernel_rfl) (by kernel_rfl) (by kernel_rfl) rfl rfl rfl rfl rfl (.inr (fun _ h => h)) ?_
        refine j_p (i := 6) rfl (y_max rfl rfl) (by kernel_rfl) (by kernel_rfl) (by kernel_rfl) rfl rfl rfl rfl rfl (.inr (fun _ h => h)) ?_
        refine j_p (i := 7) rfl (y_move rfl) (by kernel_rfl) (by kernel_rfl) (by kernel_rfl) rfl rfl rfl rfl rfl (.inr (fun _ h => h)) ?_
        refine j_p (i := 8) rfl (y_move rfl) (by kernel_rfl) (by kernel_rfl) (by kernel_rfl) rfl rfl rfl rfl rfl (.inr (fun _ h => h)) ?_
        refine j_p (i := 9) rfl (y_idxV (enc := (Value.int .i64)) rfl rfl ha Try.underlying46 size_3 (by omega) (by omega)) (by kernel_rfl) (by kernel_rfl) (by kernel_rfl) rfl rfl rfl rfl rfl (.inr (fun _ h => h)) ?_
        refine j_l (i := 10) rfl (y_ldV (enc := (Value.int .i64)) (xs := a) (fun w h => ha.rdl.below h.below) rfl agg_3 (rdI_at (by omega) (by omega))) (by kernel_rfl) (by kernel_rfl) (by kernel_rfl) (by kernel_rfl) rfl rfl rfl rfl rfl (.inr (fun _ h => h)) ?_
        refine j_p (i := 11) rfl (y_move rfl) (by kernel_rfl) (by kernel_rfl) (by kernel_rfl) rfl rfl rfl rfl rfl (.inr (fun _ h => h)) ?_
        refine j_p (i := 12) rfl (y_move rfl) (by kernel_rfl) (by kernel_rfl) (by kernel_rfl) rfl rfl rfl rfl rfl (.inr (fun _ h => h)) ?_
        refine j_p (i := 13) rfl (y_idxV (enc := (Value.int .i64)) rfl rfl hb Try.underlying46 size_3 (by omega) (by omega)) (by kernel_rfl) (by kernel_rfl) (by kernel_rfl) rfl rfl rfl rfl rfl (.inr (fun _ h => h)) ?_
        refine j_l (i := 14) rfl (y_ldV (enc := (Value.int .i64)) (xs := b) (fun w h => hb.rdl.below h.below) rfl agg_3 (rdI_at (by omega) (by omega))) (by kernel_rfl) (by kernel_rfl) (by kernel_rfl) (by kernel_rfl) rfl rfl rfl rfl rfl (.inr (fun _ h => h)) ?_
        refine j_p (i := 15) rfl (y_sub rfl rfl (by omega) (by omega)) (by kernel_rfl) (by kernel_rfl) (by kernel_rfl) rfl rfl rfl rfl rfl (.inr (fun _ h => h)) ?_
        refine j_p (i := 16) rfl (y_move rfl) (by kernel_rfl) (by kernel_rfl) (by kernel_rfl) rfl rfl rfl rfl rfl (.inr (fun _ h => h)) ?_
        refine j_p (i := 17) rfl (y_move rfl) (by kernel_rfl) (by kernel_rfl) (by kernel_rfl) rfl rfl rfl rfl rfl (.inr (fun _ h => h)) ?_
        refine j_p (i := 18) rfl (y_idxV (enc := (Value.int .i64)) rfl rfl hb Try.underlying46 size_3 (by omega) (by omega)) (by kernel_rfl) (by kernel_rfl) (by kernel_rfl) rfl rfl rfl rfl rfl (.inr (fun _ h => h)) ?_
        refine j_l (i := 19) rfl (y_ldV (enc := (Value.int .i64)) (xs := b) (fun w h => hb.rdl.below h.below) rfl agg_3 (rdI_at (by omega) (by omega))) (by kernel_rfl) (by kernel_rfl) (by kernel_rfl) (by kernel_rfl) rfl rfl rfl rfl rfl (.inr (fun _ h => h)) ?_
        refine j_p (i := 20) rfl (y_move rfl) (by kernel_rfl) (by kernel_rfl) (by kernel_rfl) rfl rfl rfl rfl rfl (.inr (fun _ h => h)) ?_
        refine j_p (i := 21) rfl (y_move rfl) (by kernel_rfl) (by kernel_rfl) (by kernel_rfl) rfl rfl rfl rfl rfl (.inr (fun _ h => h)) ?_
        refine j_p (i := 22) rfl (y_idxV (enc := (Value.int .i64)) rfl rfl ha Try.underlying46 size_3 (by omega) (by omega)) (by kernel_rfl) (by kernel_rfl) (by kernel_rfl) rfl rfl rfl rfl rfl (.inr (fun _ h => h)) ?_
        refine j_l (i := 23) rfl (y_ldV (enc := (Value.int .i64)) (xs := a) (fun w h => ha.rdl.below h.below) rfl agg_3 (rdI_at (by omega) (by omega))) (by kernel_rfl) (by kernel_rfl) (by kernel_rfl) (by kernel_rfl) rfl rfl rfl rfl rfl (.inr (fun _ h => h)) ?_
        refine j_p (i := 24) rfl (y_sub rfl rfl (by omega) (by omega)) (by kernel_rfl) (by kernel_rfl) (by kernel_rfl) rfl rfl rfl rfl rfl (.inr (fun _ h => h)) ?_
        refine j_p (i := 25) rfl (y_max rfl rfl) (by kernel_rfl) (by kernel_rfl) (by kernel_rfl) rfl rfl rfl rfl rfl (.inr (fun _ h => h)) ?_
        refine j_p (i := 26) rfl (y_add rfl rfl (by (repeat' split) <;> omega) (by (repeat' split) <;> omega)) (by kernel_rfl) (by kernel_rfl) (by kernel_rfl) rfl rfl rfl rfl rfl (.inr (fun _ h => h)) ?_
        rw [show (if rest > 0 then rest else 0) + (if ((rdI b zj) - (rdI a zi)) > ((rdI a zi) - (rdI b zj)) then ((rdI b zj) - (rdI a zi)) else ((rdI a zi) - (rdI b zj))) = ovP a b zi zj from by rw [hrest, show k = (nxL a b zi zj).length by omega]; exact rK_rec hi0 hi1 hj0 hj1]
        refine j_p (i := 27) rfl (y_idxb1 rfl rfl Try.underlying46 size_3 (by omega) (by omega)) (by kernel_rfl) (by kernel_rfl) (by kernel_rfl) rfl rfl rfl rfl rfl (.inr (fun _ h => h)) ?_
        refine j_tr0 (i := 28) rfl (t_storeL (enc := (Value.int .i64)) (v := ovP a b zi zj) (xs := zs) (jk := []) 0 rfl rfl rfl rfl rfl size_3 (by omega)) (by kernel_rfl) rfl rfl rfl (.inl rfl) (fun _ _ => ?_)
        refine j_nil (by kernel_rfl) ?_
        refine g_inb ?_
        refine g_then ?_
        refine g_region ?_
        refine s_y (y_move rfl) rfl rfl rfl rfl ?_
        refine s_y (y_sub rfl rfl (by omega) (by omega)) rfl rfl rfl rfl ?_
        refine s_y (y_assign rfl) rfl rfl rfl rfl ?_
        refine s_nil ?_
        refine g_then ?_
        exact fun act W ha hw => ⟨v_ + 1, by omega, by omega, (zj - 1), (zs.set ((zj : Int).toNat) (ovP a b zi zj)), W, (by omega), (by simp; omega), (by intro y h1 h2; rw [rdI_setJ (by omega) (by omega) (by omega)]; by_cases c : zj = y; rw [if_pos c, c]; rw [if_neg c]; exact hzs y (by omega) h2), ha.weak (sub_get ⟨rfl, rfl, rfl, rfl, rfl, rfl, rfl, rfl, rfl, rfl, rfl, rfl, rfl, rfl, rfl, rfl, rfl, trivial⟩), hw.toHq.lookSub (List.Sublist.cons_cons _ (List.Sublist.cons_cons _ (sub_app Ms (List.nil_sublist _))))⟩
    · (try simp at cq2)
      refine g_exit ?_
      refine g_thenx ?_
      refine g_thenx ?_
      refine g_inbx ?_
      refine g_inb ?_
      refine g_then ?_
      refine g_region ?_
      refine s_y (y_move rfl) rfl rfl rfl rfl ?_
      refine s_y (y_sub rfl rfl (by omega) (by omega)) rfl rfl rfl rfl ?_
      refine s_y (y_assign rfl) rfl rfl rfl rfl ?_
      refine s_nil ?_
      refine g_then ?_
      have hzr : zs = rowP a b zi := by
        refine rdI_ext (by rw [hzl, rowP_len]) fun y hy => ?_
        rw [hzs _ (by omega) (by omega), rowP_at (by omega) (by omega)]
      have hall : ∀ q : Nat, q < u + 1 → OwnV (Value.int .i64) (rdVal ((Value.slice (some ⟨bw, 0, none⟩) b.length b.length) :: vs) (q : Int)) (rowP a b ((zi - 1) + 1 + (q : Int))) ((bw, Obj.cells ((zs.map (Value.int .i64)) ++ []).toArray 3 (0, 0)) :: Ms) := by
        intro q hq
        cases q with
        | zero =>
          rw [show zi - 1 + 1 + ((0 : Nat) : Int) = zi by omega, ← hzr]
          exact (OwnV.blk (b := bw) (jk := []) (t := 3) hzl.symm (Nat.le_refl _)).mono (fun p hp => by rw [List.mem_singleton] at hp; rw [hp]; exact List.mem_cons_self ..)
        | succ q =>
          rw [show zi - 1 + 1 + ((q + 1 : Nat) : Int) = zi + 1 + (q : Int) by omega, rdVal_cons]
          exact (hrows q (by omega)).mono fun p hp => List.mem_cons_of_mem _ hp
      exact fun act W ha hw => ⟨u + 1, by omega, by omega, (zi - 1), ((Value.slice (some ⟨bw, 0, none⟩) b.length b.length) :: vs), ((bw, Obj.cells ((zs.map (Value.int .i64)) ++ []).toArray 3 (0, 0)) :: Ms), W, (by omega), (by simp; omega), (by exact hall), (by exact ⟨W, fun p hp => hw.at_ p (by simp only [List.mem_cons, List.mem_append] at hp ⊢; rcases hp with h_ | h_; exact .inl h_; exact .inr (.inr (.inl h_)))⟩), ha.weak (sub_get ⟨rfl, rfl, rfl, rfl, rfl, trivial⟩), hw.toHq.pick (List.perm_middle (l₁ := [_])) (List.Sublist.refl _)⟩
  · (try simp at cq1)
    refine g_exit ?_
    refine g_thenx ?_
    refine g_thenx ?_
    refine g_inbx ?_
    refine g_then ?_
    refine g_seq ?_
    refine g_region ?_
    refine s_y (y_move rfl) rfl rfl rfl rfl ?_
    refine s_y (y_assign rfl) rfl rfl rfl rfl ?_
    refine s_nil ?_
    refine g_then ?_
    refine g_ret ?_
    have hun : u = a.length := by omega
    rw [show (List.replicate (a.length - u) (Value.slice none 0 0) ++ vs) = vs from by rw [show a.length - u = 0 by omega]; rfl]
    exact g_end trivial (fun a_ w ha_ hq_ => res1 ha_ rfl rfl  w) (fun w h => ⟨(_, vs, ((bo, Obj.cells (vs.map encV ++ []).toArray 46 (0, 0)) :: (Ms ++ []))), ⟨(OwnV.blk (show a.length = vs.length by omega) (Nat.le_refl _)).mono (fun p hp => by rw [List.mem_singleton] at hp; rw [hp]; exact List.mem_cons_self ..), (show vs.length = a.length by omega), fun q hq => (by have h_ := hrows q (by omega); rw [show zi + 1 + (q : Int) = (q : Int) by omega] at h_; exact h_.mono fun p hp => List.mem_cons_of_mem _ (List.mem_append_left _ hp)), w, (h.hand (List.Sublist.refl _)).at_⟩, rfl, h.hand (List.Sublist.refl _)⟩)

theorem ROver_any (w : World) (v v' : Value) (a b : List Int) (ha : RdV (Value.int .i64) w v a) (hb : RdV (Value.int .i64) w v' b) (hma : melB a = true) (hmb_ : melB b = true) :
    Calls Try.prog 54 [v, v'].toArray w fun e w' => e = .returned (.int .i64 (ovP a b 0 0)) ∧ Below w.heap.size w w' := by
  obtain ⟨hal, hxa⟩ := melB_true.1 hma
  obtain ⟨hbl, hxb⟩ := melB_true.1 hmb_
  refine enter (N := 12) Try.func54 rfl rfl rfl ?_
  refine g_seq ?_
  refine g_region ?_
  refine s_y (y_assign rfl) rfl rfl rfl rfl ?_
  refine s_nil ?_
  refine g_then ?_
  refine g_seq ?_
  refine g_region ?_
  refine s_y (y_move rfl) rfl rfl rfl rfl ?_
  refine s_y (y_move rfl) rfl rfl rfl rfl ?_
  refine s_tr (t_callm rfl rfl ent_85 (fun w h => Rover_any w v v' a b (ha.below h.below) (hb.below h.below) hma hmb_)) rfl rfl rfl rfl (fun xx hxx => ?_)
  obtain ⟨vR, xR, mR⟩ := xx
  obtain ⟨hOR', hlR', hrR', hER'⟩ := hxx
  have hOR : OwnV encV vR xR mR := hOR'
  have hlR : xR.length = a.length := hlR'
  have hER : ∃ W : World, ∀ p ∈ mR, W.heap[p.1]? = some p.2 := hER'
  have hrR : ∀ i : Int, 0 ≤ i → i < a.length → OwnV (Value.int .i64) (rdVal xR i) (rowP a b i) mR := fun i h0 h1 => by obtain ⟨q, rfl⟩ := Int.eq_ofNat_of_zero_le h0; exact hrR' q (by omega)
  refine s_y (y_idxO (enc := encV) rfl rfl hOR hER Try.underlying66 size_46 (by omega) (by omega)) rfl rfl rfl rfl ?_
  refine s_y (y_ldV (enc := encV) (xs := xR) (fun w h => (hOR.rd fun p hp => h.at_ p (mem_al mR hp)).rdl) rfl agg_46 (rdVal_at (by omega) (by omega))) rfl rfl rfl rfl ?_
  have hr0 := hrR (0) (by omega) (by omega)
  have hr0l := rowP_len a b (0)
  refine s_y (y_idxO (enc := (Value.int .i64)) rfl rfl hr0 hER Try.underlying46 size_3 (by omega) (by omega)) rfl rfl rfl rfl ?_
  refine s_y (y_ldV (enc := (Value.int .i64)) (xs := (rowP a b (0))) (fun w h => (hr0.rd fun p hp => h.at_ p (mem_al mR hp)).rdl) rfl agg_3 (rdI_at (by omega) (by omega))) rfl rfl rfl rfl ?_
  rw [show rdI (rowP a b (0)) (0) = ovP a b (0) (0) from rowP_at (by omega) (by omega)]
  refine s_y (y_assign rfl) rfl rfl rfl rfl ?_
  refine s_nil ?_
  refine g_then ?_
  refine g_ret ?_
  exact g_end trivial (fun a w ha hq_ => res1 ha rfl rfl  w) (fun w h => ⟨rfl, h.below⟩)

theorem ROverWay_ok (w : World) (v v' : Value) (a b : List Int) (ha : RdV (Value.int .i64) w v a) (hb : RdV (Value.int .i64) w v' b) (hma : melB a = true) (hmb_ : melB b = true) :
    Calls Try.prog 56 [v, v'].toArray w fun e w' => ∃ x : Value × List (Nat × Obj), (OwnP x.1 (wayL a b) x.2 ∧ ∃ W : World, ∀ p ∈ x.2, W.heap[p.1]? = some p.2) ∧ e = .returned (x.1) ∧ Hq w w x.2 w' := by
  obtain ⟨hal, hxa⟩ := melB_true.1 hma
  obtain ⟨hbl, hxb⟩ := melB_true.1 hmb_
  obtain ⟨ie79, hi79⟩ := inf_79
  obtain ⟨ie3, hi3⟩ := inf_3
  refine enter (N := 89) Try.func56 rfl rfl rfl ?_
  refine g_seq ?_
  refine g_region ?_
  refine s_y (y_assign rfl) rfl rfl rfl rfl ?_
  refine s_nil ?_
  refine g_then ?_
  refine g_seq ?_
  refine g_region ?_
  refine s_y (y_move rfl) rfl rfl rfl rfl ?_
  refine s_y (y_move rfl) rfl rfl rfl rfl ?_
  refine s_tr (t_callm rfl rfl ent_85 (fun w h => Rover_any w v v' a b (ha.below h.below) (hb.below h.below) hma hmb_)) rfl rfl rfl rfl (fun xx hxx => ?_)
  obtain ⟨vR, xR, mR⟩ := xx
  obtain ⟨hOR', hlR', hrR', hER'⟩ := hxx
  have hOR : OwnV encV vR xR mR := hOR'
  have hlR : xR.length = a.length := hlR'
  have hER : ∃ W : World, ∀ p ∈ mR, W.heap[p.1]? = some p.2 := hER'
  have hrR : ∀ i : Int, 0 ≤ i → i < a.length → OwnV (Value.int .i64) (rdVal xR i) (rowP a b i) mR := fun i h0 h1 => by obtain ⟨q, rfl⟩ := Int.eq_ofNat_of_zero_le h0; exact hrR' q (by omega)
  refine s_y (y_assign rfl) rfl rfl rfl rfl ?_
  refine s_nil ?_
  refine g_then ?_
  refine g_seq ?_
  refine g_region ?_
  refine s_y (y_build (vs := []) rfl rfl (fun w => bld_79_  w)) rfl rfl rfl rfl ?_
  refine s_tr (t_alloc zero_79 rfl) rfl rfl rfl rfl (fun ba hba => ?_)
  refine s_tr0 (t_store 0 rfl rfl rfl rfl size_79 rfl rfl) rfl rfl rfl (fun _ _ => ?_)
  refine s_nil ?_
  refine g_then ?_
  refine g_seq ?_
  refine g_region ?_
  refine s_y (y_ldn 0 rfl rfl agg_79 size_79 rfl rfl) rfl rfl rfl rfl ?_
  refine s_tr (t_build (vs := [(0, .agg #[.int .i64 0, .int .i64 0])]) (cells := [.int .i64 0, .int .i64 0]) rfl rfl Try.underlying74 hi79.1 hi79.2.1 (by rw [hi79.2.2.1]; rfl) (by rw [hi79.2.2.1]; rfl) (by rw [hi79.2.2.1]; kernel_rfl)) rfl rfl rfl rfl (fun bw hbw => ?_)
  have hok1 : (SV.own bw 1 []).ok 2 1 (cellsP [(0, 0)]) := ⟨Nat.le_refl _, by unfold maxLen; decide, rfl, rfl⟩
  refine g_perm' (m' := ((SV.own bw 1 []).mem 79 (cellsP ([(0, 0)])) ++ ((ba, .cells [.int .i64 0, .int .i64 0].toArray 79 (0, 0)) :: (mR ++ ([]))))) (List.Perm.of_eq rfl) ?_
  refine g_perm' (m' := (ba, .cells [.int .i64 0, .int .i64 0].toArray 79 (0, 0)) :: ((SV.own bw 1 []).mem 79 (cellsP ([(0, 0)])) ++ ((mR ++ ([]))))) (show ((ba, .cells [.int .i64 0, .int .i64 0].toArray 79 (0, 0)) :: ((SV.own bw 1 []).mem 79 (cellsP ([(0, 0)])) ++ ((mR ++ ([])))) : List (Nat × Obj)).Perm (((SV.own bw 1 []).mem 79 (cellsP ([(0, 0)])) ++ ((ba, .cells [.int .i64 0, .int .i64 0].toArray 79 (0, 0)) :: (mR ++ ([])))) : List (Nat × Obj)) from List.Perm.trans (List.Perm.of_eq (by simp only [List.append_assoc, List.cons_append, List.nil_append, List.append_nil])) (List.Perm.trans (List.perm_append_comm_assoc ((ba, .cells [.int .i64 0, .int .i64 0].toArray 79 (0, 0)) :: [] : List (Nat × Obj)) (((SV.own bw 1 []).mem 79 (cellsP ([(0, 0)])) ++ ([])) : List (Nat × Obj)) ((mR ++ ([])) : List (Nat × Obj))) (List.Perm.of_eq (by simp only [List.append_assoc, List.cons_append, List.nil_append, List.append_nil])))) ?_
  refine s_y (y_assign rfl) rfl rfl rfl rfl ?_
  refine s_nil ?_
  refine g_then ?_
  refine g_seq ?_
  refine g_block ?_
  refine g_loop (fun (k : Nat) act W => k ≤ 30 ∧ ∃ (sv : SV) (m : Nat) (zs : List (Int × Int)) (zi : Int) (zj : Int) (w1 : World), (sv.ok 2 m (cellsP zs)) ∧ (m ≤ k + 1) ∧ (posN a b k = (zi, zj)) ∧ (InP a b (zi, zj)) ∧ ((k : Int) ≤ zi + zj) ∧ (∀ k' : Nat, k' < k → posN a b k' ≠ enP a b) ∧ (zs = (List.range (k + 1)).map (posN a b)) ∧ Has 89 [] [(0, v), (1, v'), (4, .slice none 0 0), (5, vR), (6, .pointer (some ⟨ba, 0, none⟩)), (7, sv.val m)] act ∧ Hp w w1 ((ba, .cells [.int .i64 zi, .int .i64 zj].toArray 79 (0, 0)) :: (sv.mem 79 (cellsP zs) ++ ((mR ++ ([]))))) W) (fun k => 50 - k) 0 (fun act W ha hw => ⟨by omega, (SV.own bw 1 []), 1, [(0, 0)], 0, 0, W, (by assumption), (by omega), (by rfl), (by exact ⟨by decide, by simp only; omega, by decide, by simp only; omega⟩), (by omega), (by intro k' h_; omega), (by rfl), ha.weak (sub_get ⟨rfl, rfl, rfl, rfl, rfl, rfl, trivial⟩), hw.toHq.lookSub (List.Sublist.refl _)⟩) ?_
  intro k act W ⟨hb_k, sv, m, zs, zi, zj, w1, hokz, hmi, hpos, hin, hkz, hno, hzs, ha, hw⟩
  refine g_go ha hw ?_
  clear ha hw act W
  obtain ⟨hi0, hi1, hj0, hj1⟩ : 0 ≤ zi ∧ zi < a.length ∧ 0 ≤ zj ∧ zj < b.length := id hin
  refine g_seq ?_
  refine g_seq ?_
  refine g_region ?_
  refine s_y (y_ldn 0 rfl rfl agg_79 size_79 rfl rfl) rfl rfl rfl rfl ?_
  refine s_y (y_move rfl) rfl rfl rfl rfl ?_
  refine s_y (y_lenV (n := a.length) rfl (by obtain ⟨A, c, h1, _⟩ := ha; exact ⟨A, c, h1⟩) sle_46) rfl rfl rfl rfl ?_
  refine s_y (y_sub rfl rfl (by omega) (by omega)) rfl rfl rfl rfl ?_
  refine s_y (y_move rfl) rfl rfl rfl rfl ?_
  refine s_y (y_lenV (n := b.length) rfl (by obtain ⟨A, c, h1, _⟩ := hb; exact ⟨A, c, h1⟩) sle_46) rfl rfl rfl rfl ?_
  refine s_y (y_sub rfl rfl (by omega) (by omega)) rfl rfl rfl rfl ?_
  refine s_y (y_build (vs := [(0, _), (1, _)]) rfl rfl (fun w => bld_79_0_1 _ _ w)) rfl rfl rfl rfl ?_
  refine s_y (y_neqP rfl rfl (fun w => by kernel_rfl) Try.underlying79 hi3.1 (by kernel_rfl) Try.underlying3 (by kernel_rfl)) rfl rfl rfl rfl ?_
  refine s_nil ?_
  refine g_then ?_
  refine g_cond rfl (fun cq2 => ?_) (fun cq2 => ?_)
  · (try simp at cq2)
    have hne : (zi, zj) ≠ enP a b := fun h_ => by unfold enP at h_; injection h_ with q1 q2; omega
    refine g_skip ?_
    refine g_then ?_
    refine g_block ?_
    refine g_seq ?_
    have hx1 := mel_rd hxa zi
    have hx2 := mel_rd hxb zj
    have hcn := ovC_nonneg a b zi zj
    have hcl := mel_C hxa hxb zi zj
    have hpl := mel_PP hma hmb_ (i := zi) (j := zj) (by omega) (by omega)
    have hpn := ovP_nonneg a b zi zj
    refine g_draw 34 (by kernel_rfl) ?_
    refine j_p (i := 0) rfl (y_move rfl) (by kernel_rfl) (by kernel_rfl) (by kernel_rfl) rfl rfl rfl rfl rfl (.inr (fun _ h => h)) ?_
    refine j_p (i := 1) rfl (y_idxc rfl rfl (fun w => fia_79_0 _ _ w)) (by kernel_rfl) (by kernel_rfl) (by kernel_rfl) rfl rfl rfl rfl rfl (.inr (fun _ h => h)) ?_
    refine j_l (i := 2) rfl (y_ld1 0 rfl rfl agg_3 rfl) (by kernel_rfl) (by kernel_rfl) (by kernel_rfl) (by kernel_rfl) rfl rfl rfl rfl rfl (.inr (fun _ h => h)) ?_
    refine j_p (i := 3) rfl (y_idxO (enc := encV) rfl rfl hOR hER Try.underlying66 size_46 (by omega) (by omega)) (by kernel_rfl) (by kernel_rfl) (by kernel_rfl) rfl rfl rfl rfl rfl (.inr (fun _ h => h)) ?_
    refine j_l (i := 4) rfl (y_ldV (enc := encV) (xs := xR) (fun w h => (hOR.rd fun p hp => h.at_ p (List.mem_cons_of_mem _ (mem_ar (sv.mem 79 (cellsP zs)) (mem_al mR hp)))).rdl) rfl agg_46 (rdVal_at (by omega) (by omega))) (by kernel_rfl) (by kernel_rfl) (by kernel_rfl) (by kernel_rfl) rfl rfl rfl rfl rfl (.inr (fun _ h => h)) ?_
    have hrz := hrR (zi) (by omega) (by omega)
    have hrzl := rowP_len a b (zi)
    refine j_p (i := 5) rfl (y_idxc rfl rfl (fun w => fia_79_1 _ _ w)) (by kernel_rfl) (by kernel_rfl) (by kernel_rfl) rfl rfl rfl rfl rfl (.inr (fun _ h => h)) ?_
    refine j_l (i := 6) rfl (y_ld1 0 rfl rfl agg_3 rfl) (by kernel_rfl) (by kernel_rfl) (by kernel_rfl) (by kernel_rfl) rfl rfl rfl rfl rfl (.inr (fun _ h => h)) ?_
    refine j_p (i := 7) rfl (y_idxO (enc := (Value.int .i64)) rfl rfl hrz hER Try.underlying46 size_3 (by omega) (by omega)) (by kernel_rfl) (by kernel_rfl) (by kernel_rfl) rfl rfl rfl rfl rfl (.inr (fun _ h => h)) ?_
    refine j_l (i := 8) rfl (y_ldV (enc := (Value.int .i64)) (xs := (rowP a b (zi))) (fun w h => (hrz.rd fun p hp => h.at_ p (List.mem_cons_of_mem _ (mem_ar (sv.mem 79 (cellsP zs)) (mem_al mR hp)))).rdl) rfl agg_3 (rdI_at (by omega) (by omega))) (by kernel_rfl) (by kernel_rfl) (by kernel_rfl) (by kernel_rfl) rfl rfl rfl rfl rfl (.inr (fun _ h => h)) ?_
    rw [show rdI (rowP a b (zi)) (zj) = ovP a b (zi) (zj) from rowP_at (by omega) (by omega)]
    refine j_p (i := 9) rfl (y_move rfl) (by kernel_rfl) (by kernel_rfl) (by kernel_rfl) rfl rfl rfl rfl rfl (.inr (fun _ h => h)) ?_
    refine j_p (i := 10) rfl (y_idxc rfl rfl (fun w => fia_79_0 _ _ w)) (by kernel_rfl) (by kernel_rfl) (by kernel_rfl) rfl rfl rfl rfl rfl (.inr (fun _ h => h)) ?_
    refine j_l (i := 11) rfl (y_ld1 0 rfl rfl agg_3 rfl) (by kernel_rfl) (by kernel_rfl) (by kernel_rfl) (by kernel_rfl) rfl rfl rfl rfl rfl (.inr (fun _ h => h)) ?_
    refine j_p (i := 12) rfl (y_idxV (enc := (Value.int .i64)) rfl rfl ha Try.underlying46 size_3 (by omega) (by omega)) (by kernel_rfl) (by kernel_rfl) (by kernel_rfl) rfl rfl rfl rfl rfl (.inr (fun _ h => h)) ?_
    refine j_l (i := 13) rfl (y_ldV (enc := (Value.int .i64)) (xs := a) (fun w h => ha.rdl.below h.below) rfl agg_3 (rdI_at (by omega) (by omega))) (by kernel_rfl) (by kernel_rfl) (by kernel_rfl) (by kernel_rfl) rfl rfl rfl rfl rfl (.inr (fun _ h => h)) ?_
    refine j_p (i := 14) rfl (y_move rfl) (by kernel_rfl) (by kernel_rfl) (by kernel_rfl) rfl rfl rfl rfl rfl (.inr (fun _ h => h)) ?_
    refine j_p (i := 15) rfl (y_idxc rfl rfl (fun w => fia_79_1 _ _ w)) (by kernel_rfl) (by kernel_rfl) (by kernel_rfl) rfl rfl rfl rfl rfl (.inr (fun _ h => h)) ?_
    refine j_l (i := 16) rfl (y_ld1 0 rfl rfl agg_3 rfl) (by kernel_rfl) (by kernel_rfl) (by kernel_rfl) (by kernel_rfl) rfl rfl rfl rfl rfl (.inr (fun _ h => h)) ?_
    refine j_p (i := 17) rfl (y_idxV (enc := (Value.int .i64)) rfl rfl hb Try.underlying46 size_3 (by omega) (by omega)) (by kernel_rfl) (by kernel_rfl) (by kernel_rfl) rfl rfl rfl rfl rfl (.inr (fun _ h => h)) ?_
    refine j_l (i := 18) rfl (y_ldV (enc := (Value.int .i64)) (xs := b) (fun w h => hb.rdl.below h.below) rfl agg_3 (rdI_at (by omega) (by omega))) (by kernel_rfl) (by kernel_rfl) (by kernel_rfl) (by kernel_rfl) rfl rfl rfl rfl rfl (.inr (fun _ h => h)) ?_
    refine j_p (i := 19) rfl (y_sub rfl rfl (by omega) (by omega)) (by kernel_rfl) (by kernel_rfl) (by kernel_rfl) rfl rfl rfl rfl rfl (.inr (fun _ h => h)) ?_
    refine j_p (i := 20) rfl (y_move rfl) (by kernel_rfl) (by kernel_rfl) (by kernel_rfl) rfl rfl rfl rfl rfl (.inr (fun _ h => h)) ?_
    refine j_p (i := 21) rfl (y_idxc rfl rfl (fun w => fia_79_1 _ _ w)) (by kernel_rfl) (by kernel_rfl) (by kernel_rfl) rfl rfl rfl rfl rfl (.inr (fun _ h => h)) ?_
    refine j_l (i := 22) rfl (y_ld1 0 rfl rfl agg_3 rfl) (by kernel_rfl) (by kernel_rfl) (by kernel_rfl) (by kernel_rfl) rfl rfl rfl rfl rfl (.inr (fun _ h => h)) ?_
    refine j_p (i := 23) rfl (y_idxV (enc := (Value.int .i64)) rfl rfl hb Try.underlying46 size_3 (by omega) (by omega)) (by kernel_rfl) (by kernel_rfl) (by kernel_rfl) rfl rfl rfl rfl rfl (.inr (fun _ h => h)) ?_
    refine j_l (i := 24) rfl (y_ldV (enc := (Value.int .i64)) (xs := b) (fun w h => hb.rdl.below h.below) rfl agg_3 (rdI_at (by omega) (by omega))) (by kernel_rfl) (by kernel_rfl) (by kernel_rfl) (by kernel_rfl) rfl rfl rfl rfl rfl (.inr (fun _ h => h)) ?_
    refine j_p (i := 25) rfl (y_move rfl) (by kernel_rfl) (by kernel_rfl) (by kernel_rfl) rfl rfl rfl rfl rfl (.inr (fun _ h => h)) ?_
    refine j_p (i := 26) rfl (y_idxc rfl rfl (fun w => fia_79_0 _ _ w)) (by kernel_rfl) (by kernel_rfl) (by kernel_rfl) rfl rfl rfl rfl rfl (.inr (fun _ h => h)) ?_
    refine j_l (i := 27) rfl (y_ld1 0 rfl rfl agg_3 rfl) (by kernel_rfl) (by kernel_rfl) (by kernel_rfl) (by kernel_rfl) rfl rfl rfl rfl rfl (.inr (fun _ h => h)) ?_
    refine j_p (i := 28) rfl (y_idxV (enc := (Value.int .i64)) rfl rfl ha Try.underlying46 size_3 (by omega) (by omega)) (by kernel_rfl) (by kernel_rfl) (by kernel_rfl) rfl rfl rfl rfl rfl (.inr (fun _ h => h)) ?_
    refine j_l (i := 29) rfl (y_ldV (enc := (Value.int .i64)) (xs := a) (fun w h => ha.rdl.below h.below) rfl agg_3 (rdI_at (by omega) (by omega))) (by kernel_rfl) (by kernel_rfl) (by kernel_rfl) (by kernel_rfl) rfl rfl rfl rfl rfl (.inr (fun _ h => h)) ?_
    refine j_p (i := 30) rfl (y_sub rfl rfl (by omega) (by omega)) (by kernel_rfl) (by kernel_rfl) (by kernel_rfl) rfl rfl rfl rfl rfl (.inr (fun _ h => h)) ?_
    refine j_p (i := 31) rfl (y_max rfl rfl) (by kernel_rfl) (by kernel_rfl) (by kernel_rfl) rfl rfl rfl rfl rfl (.inr (fun _ h => h)) ?_
    rw [show (if ((rdI b zj) - (rdI a zi)) > ((rdI a zi) - (rdI b zj)) then ((rdI b zj) - (rdI a zi)) else ((rdI a zi) - (rdI b zj))) = ovC a b zi zj from rfl]
    refine j_p (i := 32) rfl (y_sub rfl rfl (by omega) (by omega)) (by kernel_rfl) (by kernel_rfl) (by kernel_rfl) rfl rfl rfl rfl rfl (.inr (fun _ h => h)) ?_
    refine j_p (i := 33) rfl (y_assign rfl) (by kernel_rfl) (by kernel_rfl) (by kernel_rfl) rfl rfl rfl rfl rfl (.inr (fun _ h => h)) ?_
    refine j_nil (by kernel_rfl) ?_
    refine g_then ?_
    refine g_seq ?_
    refine g_seq ?_
    refine g_region ?_
    refine s_y (y_move rfl) rfl rfl rfl rfl ?_
    refine s_y (y_move rfl) rfl rfl rfl rfl ?_
    refine s_y (y_idxc rfl rfl (fun w => fia_79_0 _ _ w)) rfl rfl rfl rfl ?_
    refine s_y (y_ld1 0 rfl rfl agg_3 rfl) rfl rfl rfl rfl ?_
    refine s_y (y_idxc rfl rfl (fun w => fia_79_1 _ _ w)) rfl rfl rfl rfl ?_
    refine s_y (y_ld1 0 rfl rfl agg_3 rfl) rfl rfl rfl rfl ?_
    refine s_tr (t_callm rfl rfl ent_86 (fun w h => Rnext_any w v v' a b (ha.below h.below) (hb.below h.below) zi zj (by omega) (by omega) hi0 hi1 hj0 hj1)) rfl rfl rfl rfl (fun x4 hx5 => ?_)
    obtain ⟨vo3, mo3⟩ := x4
    obtain ⟨hOo3, hEo3⟩ := hx5
    refine g_perm' (m' := (ba, .cells [.int .i64 zi, .int .i64 zj].toArray 79 (0, 0)) :: (sv.mem 79 (cellsP zs) ++ ((mR ++ ((mo3 ++ ([]))))))) (show ((ba, .cells [.int .i64 zi, .int .i64 zj].toArray 79 (0, 0)) :: (sv.mem 79 (cellsP zs) ++ ((mR ++ ((mo3 ++ ([])))))) : List (Nat × Obj)).Perm ((mo3 ++ ((ba, .cells [.int .i64 zi, .int .i64 zj].toArray 79 (0, 0)) :: (sv.mem 79 (cellsP zs) ++ ((mR ++ ([])))))) : List (Nat × Obj)) from List.Perm.trans (List.Perm.of_eq (by simp only [List.append_assoc, List.cons_append, List.nil_append, List.append_nil])) (List.Perm.trans (List.perm_append_comm_assoc ((ba, .cells [.int .i64 zi, .int .i64 zj].toArray 79 (0, 0)) :: (sv.mem 79 (cellsP zs) ++ ((mR ++ ([])))) : List (Nat × Obj)) ((mo3 ++ ([])) : List (Nat × Obj)) ([] : List (Nat × Obj))) (List.Perm.of_eq (by simp only [List.append_assoc, List.cons_append, List.nil_append, List.append_nil])))) ?_
    refine s_y (y_lenV (n := ((nxL a b zi zj).length)) rfl hOo3.1 sle_74) rfl rfl rfl rfl ?_
    refine s_y (y_move rfl) rfl rfl rfl rfl ?_
    refine s_nil ?_
    refine g_then ?_
    refine g_block ?_
    refine g_loop (fun (k2 : Nat) act W => k2 ≤ (nxL a b zi zj).length ∧ ∃ (w1 : World), (∀ k' : Nat, k' < k2 → ovP a b (rdP (nxL a b zi zj) (k' : Int)).1 (rdP (nxL a b zi zj) (k' : Int)).2 ≠ ovP a b zi zj - ovC a b zi zj) ∧ Has 89 [] [(0, v), (1, v'), (4, .slice none 0 0), (5, vR), (6, .pointer (some ⟨ba, 0, none⟩)), (7, sv.val m), (8, .int .i64 ((ovP a b (zi) (zj)) - (ovC a b zi zj))), (17, .agg #[.int .i64 zi, .int .i64 zj]), (18, v), (19, .int .i64 (a.length : Nat)), (20, .int .i64 ((a.length : Nat) - 1)), (21, v'), (22, .int .i64 (b.length : Nat)), (23, .int .i64 ((b.length : Nat) - 1)), (24, .agg #[.int .i64 ((a.length : Nat) - 1), .int .i64 ((b.length : Nat) - 1)]), (25, .bool (!decide (zi = ((a.length : Nat) - 1) ∧ zj = ((b.length : Nat) - 1)))), (26, vR), (27, .pointer (some ⟨ba, 0, none⟩)), (28, .int .i64 zi), (29, .pointer (some (elemA (adrOf vR) (zi : Int).toNat))), (30, (rdVal xR (zi))), (31, .pointer (some ⟨ba, 1, none⟩)), (32, .int .i64 zj), (33, .pointer (some (elemA (adrOf (rdVal xR (zi))) (zj : Int).toNat))), (34, .int .i64 (ovP a b (zi) (zj))), (35, v), (36, .pointer (some ⟨ba, 0, none⟩)), (37, .int .i64 zi), (38, .pointer (some (elemA (adrOf v) (zi : Int).toNat))), (39, .int .i64 (rdI a zi)), (40, v'), (41, .pointer (some ⟨ba, 1, none⟩)), (42, .int .i64 zj), (43, .pointer (some (elemA (adrOf v') (zj : Int).toNat))), (44, .int .i64 (rdI b zj)), (45, .int .i64 ((rdI a zi) - (rdI b zj))), (46, v'), (47, .pointer (some ⟨ba, 1, none⟩)), (48, .int .i64 zj), (49, .pointer (some (elemA (adrOf v') (zj : Int).toNat))), (50, .int .i64 (rdI b zj)), (51, v), (52, .pointer (some ⟨ba, 0, none⟩)), (53, .int .i64 zi), (54, .pointer (some (elemA (adrOf v) (zi : Int).toNat))), (55, .int .i64 (rdI a zi)), (56, .int .i64 ((rdI b zj) - (rdI a zi))), (57, .int .i64 (ovC a b zi zj)), (58, .int .i64 ((ovP a b (zi) (zj)) - (ovC a b zi zj))), (59, v), (60, v'), (61, .pointer (some ⟨ba, 0, none⟩)), (62, .int .i64 zi), (63, .pointer (some ⟨ba, 1, none⟩)), (64, .int .i64 zj), (65, vo3), (66, .int .i64 ((nxL a b zi zj).length : Nat)), (67, .int .i64 (k2 : Int))] act ∧ Hp w w1 ((ba, .cells [.int .i64 zi, .int .i64 zj].toArray 79 (0, 0)) :: (sv.mem 79 (cellsP zs) ++ ((mR ++ ((mo3 ++ ([]))))))) W) (fun k2 => (nxL a b zi zj).length - k2) 0 (fun act W ha hw => ⟨by omega, W, (by intro k' h_; omega), ha.weak (sub_get ⟨rfl, rfl, rfl, rfl, rfl, rfl, rfl, rfl, rfl, rfl, rfl, rfl, rfl, rfl, rfl, rfl, rfl, rfl, rfl, rfl, rfl, rfl, rfl, rfl, rfl, rfl, rfl, rfl, rfl, rfl, rfl, rfl, rfl, rfl, rfl, rfl, rfl, rfl, rfl, rfl, rfl, rfl, rfl, rfl, rfl, rfl, rfl, rfl, rfl, rfl, rfl, rfl, rfl, rfl, rfl, rfl, rfl, rfl, trivial⟩), hw.toHq.lookSub (List.Sublist.refl _)⟩) ?_
    intro k2 act W ⟨hb_k2, w1, hno2, ha, hw⟩
    refine g_go ha hw ?_
    clear ha hw act W
    refine g_seq ?_
    have hnl := nxL_len a b zi zj
    refine g_region ?_
    refine s_y (y_lss rfl rfl) rfl rfl rfl rfl ?_
    refine s_nil ?_
    refine g_then ?_
    refine g_seq ?_
    refine g_cond rfl (fun cq6 => ?_) (fun cq6 => ?_)
    · (try simp at cq6)
      refine g_skip ?_
      refine g_then ?_
      refine g_seq ?_
      refine g_block ?_
      refine g_seq ?_
      have hPc := nxL_at (a := a) (b := b) (i := zi) (j := zj) (k := k2) (by omega)
      refine g_region ?_
      refine s_y (y_idxPO rfl rfl hOo3 hEo3 Try.underlying74 size_79 (by omega) (by omega)) rfl rfl rfl rfl ?_
      refine s_y (y_ldP (xs := (nxL a b zi zj)) (fun w h => (hOo3.rd fun p hp => h.at_ p (List.mem_cons_of_mem _ (mem_ar (sv.mem 79 (cellsP zs)) (mem_ar mR (mem_al mo3 hp))))).rdl) rfl agg_79 size_79 (rdP_at (by omega) (by omega))) rfl rfl rfl rfl ?_
      refine s_tr (t_alloc zero_79 rfl) rfl rfl rfl rfl (fun b7 hb7 => ?_)
      refine s_tr0 (t_store 0 rfl rfl rfl rfl size_79 rfl rfl) rfl rfl rfl (fun _ _ => ?_)
      refine s_nil ?_
      refine g_then ?_
      refine g_seq ?_
      refine g_draw 11 (by kernel_rfl) ?_
      refine j_p (i := 0) rfl (y_move rfl) (by kernel_rfl) (by kernel_rfl) (by kernel_rfl) rfl rfl rfl rfl rfl (.inr (fun _ h => h)) ?_
      refine j_p (i := 1) rfl (y_idxc rfl rfl (fun w => fia_79_0 _ _ w)) (by kernel_rfl) (by kernel_rfl) (by kernel_rfl) rfl rfl rfl rfl rfl (.inr (fun _ h => h)) ?_
      refine j_l (i := 2) rfl (y_ld1 0 rfl rfl agg_3 rfl) (by kernel_rfl) (by kernel_rfl) (by kernel_rfl) (by kernel_rfl) rfl rfl rfl rfl rfl (.inr (fun _ h => h)) ?_
      refine j_p (i := 3) rfl (y_idxO (enc := encV) rfl rfl hOR hER Try.underlying66 size_46 (by omega) (by omega)) (by kernel_rfl) (by kernel_rfl) (by kernel_rfl) rfl rfl rfl rfl rfl (.inr (fun _ h => h)) ?_
      refine j_l (i := 4) rfl (y_ldV (enc := encV) (xs := xR) (fun w h => (hOR.rd fun p hp => h.at_ p (List.mem_cons_of_mem _ (List.mem_cons_of_mem _ (mem_ar (sv.mem 79 (cellsP zs)) (mem_al mR hp))))).rdl) rfl agg_46 (rdVal_at (by omega) (by omega))) (by kernel_rfl) (by kernel_rfl) (by kernel_rfl) (by kernel_rfl) rfl rfl rfl rfl rfl (.inr (fun _ h => h)) ?_
      have hrp := hrR ((rdP (nxL a b zi zj) (k2 : Int)).1) (by omega) (by omega)
      have hrpl := rowP_len a b ((rdP (nxL a b zi zj) (k2 : Int)).1)
      refine j_p (i := 5) rfl (y_idxc rfl rfl (fun w => fia_79_1 _ _ w)) (by kernel_rfl) (by kernel_rfl) (by kernel_rfl) rfl rfl rfl rfl rfl (.inr (fun _ h => h)) ?_
      refine j_l (i := 6) rfl (y_ld1 0 rfl rfl agg_3 rfl) (by kernel_rfl) (by kernel_rfl) (by kernel_rfl) (by kernel_rfl) rfl rfl rfl rfl rfl (.inr (fun _ h => h)) ?_
      refine j_p (i := 7) rfl (y_idxO (enc := (Value.int .i64)) rfl rfl hrp hER Try.underlying46 size_3 (by omega) (by omega)) (by kernel_rfl) (by kernel_rfl) (by kernel_rfl) rfl rfl rfl rfl rfl (.inr (fun _ h => h)) ?_
      refine j_l (i := 8) rfl (y_ldV (enc := (Value.int .i64)) (xs := (rowP a b ((rdP (nxL a b zi zj) (k2 : Int)).1))) (fun w h => (hrp.rd fun p hp => h.at_ p (List.mem_cons_of_mem _ (List.mem_cons_of_mem _ (mem_ar (sv.mem 79 (cellsP zs)) (mem_al mR hp))))).rdl) rfl agg_3 (rdI_at (by omega) (by omega))) (by kernel_rfl) (by kernel_rfl) (by kernel_rfl) (by kernel_rfl) rfl rfl rfl rfl rfl (.inr (fun _ h => h)) ?_
      rw [show rdI (rowP a b ((rdP (nxL a b zi zj) (k2 : Int)).1)) ((rdP (nxL a b zi zj) (k2 : Int)).2) = ovP a b ((rdP (nxL a b zi zj) (k2 : Int)).1) ((rdP (nxL a b zi zj) (k2 : Int)).2) from rowP_at (by omega) (by omega)]
      refine j_p (i := 9) rfl (y_move rfl) (by kernel_rfl) (by kernel_rfl) (by kernel_rfl) rfl rfl rfl rfl rfl (.inr (fun _ h => h)) ?_
      refine j_p (i := 10) rfl (y_eql rfl rfl) (by kernel_rfl) (by kernel_rfl) (by kernel_rfl) rfl rfl rfl rfl rfl (.inr (fun _ h => h)) ?_
      refine j_nil (by kernel_rfl) ?_
      refine g_then ?_
      refine g_cond rfl (fun cq8 => ?_) (fun cq8 => ?_)
      · (try simp at cq8)
        have hnx : nxt a b (zi, zj) = (rdP (nxL a b zi zj) (k2 : Int)) := (nxL_pick hin hne (by omega) (cq8) hno2).symm
        have hcc := nxt_cd hin hne
        have hnin : InP a b ((rdP (nxL a b zi zj) (k2 : Int)).1, (rdP (nxL a b zi zj) (k2 : Int)).2) := by rw [← hnx]; exact hcc.2.1
        have hzz := hcc.2.2
        rw [hnx] at hzz
        have hsum : (rdP (nxL a b zi zj) (k2 : Int)).1 + (rdP (nxL a b zi zj) (k2 : Int)).2 ≥ zi + zj + 1 := by rcases hzz with h_ | h_ | h_ <;> rw [h_] <;> simp only <;> omega
        refine g_seq ?_
        refine g_region ?_
        refine s_y (y_ldn 0 rfl rfl agg_79 size_79 rfl rfl) rfl rfl rfl rfl ?_
        refine s_tr0 (t_store 1 rfl rfl rfl rfl size_79 rfl rfl) rfl rfl rfl (fun _ _ => ?_)
        refine s_nil ?_
        refine g_then ?_
        refine g_exit ?_
        refine g_inbo rfl ?_
        refine g_thenx ?_
        refine g_thenx ?_
        refine g_inbx ?_
        refine g_then ?_
        refine g_region ?_
        refine s_y (y_move rfl) rfl rfl rfl rfl ?_
        refine s_y (y_ldn 1 rfl rfl agg_79 size_79 rfl rfl) rfl rfl rfl rfl ?_
        refine s_tr (t_build (vs := [(0, .agg #[.int .i64 ((rdP (nxL a b zi zj) (k2 : Int)).1), .int .i64 ((rdP (nxL a b zi zj) (k2 : Int)).2)])]) (cells := [.int .i64 ((rdP (nxL a b zi zj) (k2 : Int)).1), .int .i64 ((rdP (nxL a b zi zj) (k2 : Int)).2)]) rfl rfl Try.underlying74 hi79.1 hi79.2.1 (by rw [hi79.2.2.1]; rfl) (by rw [hi79.2.2.1]; rfl) (by rw [hi79.2.2.1]; kernel_rfl)) rfl rfl rfl rfl (fun b9 hb9 => ?_)
        refine s_tr (t_appendP (sv := sv) (xs := zs) (n := m) (p := ((rdP (nxL a b zi zj) (k2 : Int)).1, (rdP (nxL a b zi zj) (k2 : Int)).2)) [_, _, _] _ rfl rfl rfl hokz Try.underlying74 hi79.1 hi79.2.1 hi79.2.2.1 hi79.2.2.2 rfl (fun w h => pair_new (i := 0) (p := ((rdP (nxL a b zi zj) (k2 : Int)).1, (rdP (nxL a b zi zj) (k2 : Int)).2)) h rfl) (by omega) (by unfold maxLen; omega)) rfl rfl rfl rfl (fun y13 hy14 => ?_)
        obtain ⟨sv10, gs11⟩ := y13
        obtain ⟨⟨hok12, hok12b, hok12c, hok12j, hok12e⟩, hok12n⟩ := hy14
        refine s_y (y_assign rfl) rfl rfl rfl rfl ?_
        refine s_nil ?_
        refine g_inb ?_
        refine g_then ?_
        exact fun act W ha hw => ⟨k + 1, by omega, by omega, sv10, (m + 1), (zs ++ [((rdP (nxL a b zi zj) (k2 : Int)).1, (rdP (nxL a b zi zj) (k2 : Int)).2)]), ((rdP (nxL a b zi zj) (k2 : Int)).1), ((rdP (nxL a b zi zj) (k2 : Int)).2), W, (by exact hok12), (by omega), (by rw [posN, hpos, hnx]), (by exact hnin), (by omega), (by intro k' h_; rcases Nat.lt_or_ge k' k with c | c; exact hno k' c; rw [show k' = k by omega, hpos]; exact hne), (by rw [List.range_succ, List.map_append, ← hzs, List.map_cons, List.map_nil, posN, hpos, hnx]), ha.weak (sub_get ⟨rfl, rfl, rfl, rfl, rfl, rfl, trivial⟩), hw.toHq.lookSub (List.Sublist.cons _ (List.Sublist.cons _ (List.Sublist.cons_cons _ (sub_app (sv10.mem 79 (cellsP (zs ++ [((rdP (nxL a b zi zj) (k2 : Int)).1, (rdP (nxL a b zi zj) (k2 : Int)).2)]))) (sub_skip gs11 (sub_app mR (List.nil_sublist _)))))))⟩
      · (try simp at cq8)
        have hcd : ovP a b (rdP (nxL a b zi zj) (k2 : Int)).1 (rdP (nxL a b zi zj) (k2 : Int)).2 ≠ ovP a b zi zj - ovC a b zi zj := cq8
        refine g_skip ?_
        refine g_inb ?_
        refine g_then ?_
        refine g_region ?_
        refine s_y (y_add rfl rfl (by omega) (by omega)) rfl rfl rfl rfl ?_
        refine s_y (y_move rfl) rfl rfl rfl rfl ?_
        refine s_nil ?_
        refine g_then ?_
        exact fun act W ha hw => ⟨k2 + 1, by omega, by omega, W, (by intro k' h_; rcases Nat.lt_or_ge k' k2 with c | c; exact hno2 k' c; rw [show k' = k2 by omega]; exact hcd), ha.weak (sub_get ⟨rfl, rfl, rfl, rfl, rfl, rfl, rfl, rfl, rfl, rfl, rfl, rfl, rfl, rfl, rfl, rfl, rfl, rfl, rfl, rfl, rfl, rfl, rfl, rfl, rfl, rfl, rfl, rfl, rfl, rfl, rfl, rfl, rfl, rfl, rfl, rfl, rfl, rfl, rfl, rfl, rfl, rfl, rfl, rfl, rfl, rfl, rfl, rfl, rfl, rfl, rfl, rfl, rfl, rfl, rfl, rfl, rfl, rfl, trivial⟩), hw.toHq.lookSub (List.Sublist.cons _ (List.Sublist.refl _))⟩
    · (try simp at cq6)
      exact absurd (nxL_none hin hne fun k' h_ => hno2 k' (by omega)) id
  · (try simp at cq2)
    have hen : zi = (a.length : Int) - 1 ∧ zj = (b.length : Int) - 1 := by simpa using cq2
    refine g_exit ?_
    refine g_thenx ?_
    refine g_thenx ?_
    refine g_inbx ?_
    refine g_then ?_
    refine g_seq ?_
    refine g_region ?_
    refine s_y (y_move rfl) rfl rfl rfl rfl ?_
    refine s_y (y_assign rfl) rfl rfl rfl rfl ?_
    refine s_nil ?_
    refine g_then ?_
    refine g_ret ?_
    have hkk : kN a b = k := kN_eq (by omega) (by rw [hpos]; unfold enP; rw [hen.1, hen.2]) hno
    rw [show wayL a b = zs from by unfold wayL; rw [hkk, hzs]]
    exact g_end trivial (fun a w ha hq_ => res1 ha rfl rfl  w) (fun w h => ⟨(_, sv.mem 79 (cellsP zs)), ⟨(OwnP.sv hokz), w, (h.hand (List.Sublist.cons _ (sub_here (sv.mem 79 (cellsP zs)) _))).at_⟩, rfl, h.hand (List.Sublist.cons _ (sub_here (sv.mem 79 (cellsP zs)) _))⟩)

end Go.Proofs.Ytnnpdgegejklpaa
