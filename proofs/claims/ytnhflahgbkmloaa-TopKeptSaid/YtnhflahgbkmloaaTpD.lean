/- top: even's read, Sum, Spread; chords' move, Vector; the law TopSum. -/
import Derived.Test.YtnhflahgbkmloaaTpB
import Derived.Test.YtnhflahgbkmloaaTpSum
namespace Go.Proofs.Ytnhflahgbkmloaa
open Go.RowKit Go.Sx Go.Wh Go.Dft
set_option linter.unusedVariables false
set_option linter.unusedSimpArgs false
set_option maxRecDepth 100000
set_option maxHeartbeats 4000000

private theorem zero_49 : (Try.prog.info? 49).bind (·.zero) = some (.agg #[(.int .i64 0), (.slice none 0 0)]) := by kernel_rfl
private theorem bld_49_0 (x0 : Int) (w : World) : (Instr.build 49 #[(0, (.int .i64 x0))]).run Try.prog w = .ok (.agg #[(.int .i64 x0), (.slice none 0 0)]) w := by kernel_rfl
private theorem size_49 : (Try.prog.info? 49).map (·.size) = some 2 := by kernel_rfl
private theorem ent_38 : Enters Try.prog 38 := enters_of Try.func38 (by kernel_rfl) rfl
private theorem fld_49_1 (b off : Nat) (w : World) : (Instr.fieldAt 49 (.pointer (some ⟨b, off, none⟩)) 1).run Try.prog w = .ok (.pointer (some ⟨b, off + 1, none⟩)) w := by kernel_rfl
private theorem agg_27 : isAggB Try.prog 27 = some false := by kernel_rfl
private theorem inf_3 : ∃ ie, Try.prog.info? 3 = some ie ∧ ie.zero = some (.int .i64 0) ∧ ie.size = 1 ∧ ie.bytes = 8 := info_of (by kernel_rfl) (by kernel_rfl)
private theorem size_27 : (Try.prog.info? 27).map (·.size) = some 1 := by kernel_rfl
private theorem agg_49 : isAggB Try.prog 49 = some true := by kernel_rfl
private theorem sle_27 : Try.prog.underlying 27 = some (.slice (Try.prog.elem 27)) := by kernel_rfl
private theorem size_3 : (Try.prog.info? 3).map (·.size) = some 1 := by kernel_rfl
private theorem agg_3 : isAggB Try.prog 3 = some false := by kernel_rfl
private theorem fld_49_0 (b off : Nat) (w : World) : (Instr.fieldAt 49 (.pointer (some ⟨b, off, none⟩)) 0).run Try.prog w = .ok (.pointer (some ⟨b, off, none⟩)) w := by kernel_rfl
private theorem ent_34 : Enters Try.prog 34 := enters_of Try.func34 (by kernel_rfl) rfl
private theorem ent_35 : Enters Try.prog 35 := enters_of Try.func35 (by kernel_rfl) rfl
private theorem ent_13 : Enters Try.prog 13 := enters_of Try.func13 (by kernel_rfl) rfl
private theorem agg_53 : isAggB Try.prog 53 = some false := by kernel_rfl
private theorem ent_60 : Enters Try.prog 60 := enters_of Try.func60 (by kernel_rfl) rfl
private theorem ent_59 : Enters Try.prog 59 := enters_of Try.func59 (by kernel_rfl) rfl
private theorem ent_47 : Enters Try.prog 47 := enters_of Try.func47 (by kernel_rfl) rfl
private theorem ent_46 : Enters Try.prog 46 := enters_of Try.func46 (by kernel_rfl) rfl
private theorem ent_36 : Enters Try.prog 36 := enters_of Try.func36 (by kernel_rfl) rfl
private theorem ent_37 : Enters Try.prog 37 := enters_of Try.func37 (by kernel_rfl) rfl
private theorem ent_8 : Enters Try.prog 8 := enters_of Try.func8 (by kernel_rfl) rfl
private theorem ent_9 : Enters Try.prog 9 := enters_of Try.func9 (by kernel_rfl) rfl
private theorem ent_11 : Enters Try.prog 11 := enters_of Try.func11 (by kernel_rfl) rfl
private theorem ent_10 : Enters Try.prog 10 := enters_of Try.func10 (by kernel_rfl) rfl

theorem rdI_take {xs : List Int} {k : Nat} (h : k < xs.length) : xs.take (k + 1) = xs.take k ++ [rdI xs (k : Int)] := by
  rw [List.take_succ_eq_append_getElem h]
  simp [rdI_nat, List.getD_eq_getElem?_getD, h]


theorem pow_small {n : Nat} (h : n ≤ 16) : 2 ^ n ≤ 65536 := by
  have := Nat.pow_le_pow_right (show 0 < 2 by decide) h
  exact this
theorem two_cast (n : Nat) : (2 : Int) ^ (n : Int).toNat = ((2 ^ n : Nat) : Int) := by rw [Int.toNat_natCast]; simp
theorem two_cast' (n : Nat) : ((2 ^ n : Nat) : Int) = (2 : Int) ^ n := by simp

theorem isCircle_any (w : World) (n : Int) :
    Calls Try.prog 38 [.int .i64 n].toArray w fun e w' => e = .returned (.bool (decide (2 ≤ n ∧ n ≤ 16))) ∧ Below w.heap.size w w' := by
  refine enter (N := 9) Try.func38 rfl rfl rfl ?_
  refine g_seq ?_
  refine g_region ?_
  refine s_y (y_assign rfl) rfl rfl rfl rfl ?_
  refine s_nil ?_
  refine g_then ?_
  refine g_seq ?_
  refine g_region ?_
  refine s_y (y_move rfl) rfl rfl rfl rfl ?_
  refine s_y (y_geq rfl rfl) rfl rfl rfl rfl ?_
  refine s_y (y_move rfl) rfl rfl rfl rfl ?_
  refine g_bool 5 rfl (fun cq1 => ?_) (fun cq1 => ?_)
  · (try simp at cq1)
    refine s_y (y_move rfl) rfl rfl rfl rfl ?_
    refine s_y (y_leq rfl rfl) rfl rfl rfl rfl ?_
    refine s_y (y_pick_t rfl rfl) rfl rfl rfl rfl ?_
    refine s_y (y_assign rfl) rfl rfl rfl rfl ?_
    refine s_nil ?_
    refine g_then ?_
    refine g_ret ?_
    rw [show decide (2 ≤ n ∧ n ≤ 16) = decide (n ≤ 16) from by first | exact decide_eq_false (by omega) | exact decide_eq_decide.2 (by omega)]
    exact g_end trivial (fun a w ha hq_ => res1 ha rfl rfl  w) (fun w h => ⟨rfl, h.below⟩)
  · (try simp at cq1)
    refine s_no rfl rfl rfl ?_
    refine s_no rfl rfl rfl ?_
    refine s_y (y_pick_f rfl rfl) rfl rfl rfl rfl ?_
    refine s_y (y_assign rfl) rfl rfl rfl rfl ?_
    refine s_nil ?_
    refine g_then ?_
    refine g_ret ?_
    rw [show decide (2 ≤ n ∧ n ≤ 16) = false from by first | exact decide_eq_false (by omega) | exact decide_eq_decide.2 (by omega)]
    exact g_end trivial (fun a w ha hq_ => res1 ha rfl rfl  w) (fun w h => ⟨rfl, h.below⟩)

theorem eread_ok (w : World) (n c : Nat) (hn : 2 ≤ n) (hn2 : n ≤ 16) (hc0 : 1 ≤ c) (hc : c < 2 ^ n) :
    Calls Try.prog 34 [.int .i64 (n : Int), .int .i64 (c : Int)].toArray w fun e w' => ∃ x : Value × List (Nat × Obj), (OwnV (Value.int .i64) x.1 (tonesL c n) x.2 ∧ ∃ W : World, ∀ p ∈ x.2, W.heap[p.1]? = some p.2) ∧ e = .returned (.tuple #[.agg #[.int .i64 (n : Int), x.1], .bool true]) ∧ Hq w w x.2 w' := by
  have hpw := pow_small hn2
  have hpp := Nat.two_pow_pos n
  obtain ⟨ie3, hi3⟩ := inf_3
  refine enter (N := 41) Try.func34 rfl rfl rfl ?_
  refine g_seq ?_
  refine g_region ?_
  refine s_tr (t_alloc zero_49 rfl) rfl rfl rfl rfl (fun b4 hb4 => ?_)
  refine s_y (y_assign rfl) rfl rfl rfl rfl ?_
  refine s_nil ?_
  refine g_then ?_
  refine g_seq ?_
  refine g_region ?_
  refine s_y (y_move rfl) rfl rfl rfl rfl ?_
  refine s_y (y_build (vs := [(0, _)]) rfl rfl (fun w => bld_49_0 _ w)) rfl rfl rfl rfl ?_
  refine s_tr (t_alloc zero_49 rfl) rfl rfl rfl rfl (fun b6 hb6 => ?_)
  refine s_tr0 (t_store 0 rfl rfl rfl rfl size_49 rfl rfl) rfl rfl rfl (fun _ _ => ?_)
  refine s_nil ?_
  refine g_then ?_
  refine g_seq ?_
  refine g_seq ?_
  refine g_region ?_
  refine s_y (y_move rfl) rfl rfl rfl rfl ?_
  refine s_tr (t_call rfl rfl ent_38 (fun w h => by have h_ := isCircle_any w (n : Int); rwa [decide_eq_true (show 2 ≤ (n : Int) ∧ (n : Int) ≤ 16 by omega)] at h_)) rfl rfl rfl rfl (fun _ _ => ?_)
  refine s_y (y_not_t rfl) rfl rfl rfl rfl ?_
  refine s_y (y_move rfl) rfl rfl rfl rfl ?_
  refine s_y (y_move rfl) rfl rfl rfl rfl ?_
  refine s_y (y_lss_f rfl rfl (by omega)) rfl rfl rfl rfl ?_
  refine s_y (y_pick_f rfl rfl) rfl rfl rfl rfl ?_
  refine s_y (y_move rfl) rfl rfl rfl rfl ?_
  refine s_y (y_move rfl) rfl rfl rfl rfl ?_
  refine s_y (y_move rfl) rfl rfl rfl rfl ?_
  refine s_y (y_shl1 rfl rfl (by omega) (by omega)) rfl rfl rfl rfl ?_
  rw [two_cast]
  refine s_y (y_geq_f rfl rfl (by omega)) rfl rfl rfl rfl ?_
  refine s_y (y_pick_f rfl rfl) rfl rfl rfl rfl ?_
  refine s_nil ?_
  refine g_then ?_
  refine g_cond_f rfl ?_
  refine g_skip ?_
  refine g_then ?_
  refine g_seq ?_
  refine g_seq ?_
  refine g_region ?_
  refine s_y (y_move rfl) rfl rfl rfl rfl ?_
  refine s_y (y_move rfl) rfl rfl rfl rfl ?_
  refine s_nil ?_
  refine g_then ?_
  refine g_block ?_
  refine g_loop (fun (i : Nat) act W => i ≤ n ∧ ∃ (sv : SV) (m : Nat) (zs : List Int) (w1 : World), (sv.ok 1 m (zs.map (Value.int .i64))) ∧ (m ≤ i) ∧ (zs = tonesL c i) ∧ Has 41 [] [(1, .int .i64 (c : Int)), (4, .pointer (some ⟨b4, 0, none⟩)), (5, .bool false), (6, .pointer (some ⟨b6, 0, none⟩)), (24, .int .i64 (n : Int)), (25, .int .i64 (i : Int))] act ∧ Hp w w1 ((b6, .cells [.int .i64 (n : Int), sv.val m].toArray 49 (0, 0)) :: (b4, .cells [.int .i64 0, .slice none 0 0].toArray 49 (0, 0)) :: (sv.mem 3 (zs.map (Value.int .i64)) ++ ([]))) W) (fun i => n - i) 0 (fun act W ha hw => ⟨by omega, SV.nil, 0, [], W, (by exact ⟨rfl, rfl⟩), (by omega), (by rfl), ha.weak (sub_get ⟨rfl, rfl, rfl, rfl, rfl, rfl, trivial⟩), hw.toHq.lookSub (List.Sublist.refl _)⟩) ?_
  intro i act W ⟨hb_i, sv, m, zs, w1, hokz, hmi, hzs, ha, hw⟩
  refine g_go ha hw ?_
  clear ha hw act W
  have hdb := Int.ediv_nonneg (show (0 : Int) ≤ (c : Int) by omega) (show (0 : Int) ≤ 2 ^ (i : Int).toNat from Int.pow_nonneg (by decide))
  have hdb2 := Int.ediv_le_self (2 ^ (i : Int).toNat) (show (0 : Int) ≤ (c : Int) by omega)
  refine g_seq ?_
  refine g_region ?_
  refine s_y (y_lss rfl rfl) rfl rfl rfl rfl ?_
  refine s_nil ?_
  refine g_then ?_
  refine g_seq ?_
  refine g_cond rfl (fun cq1 => ?_) (fun cq1 => ?_)
  · (try simp at cq1)
    refine g_skip ?_
    refine g_then ?_
    refine g_seq ?_
    refine g_block ?_
    refine g_seq ?_
    refine g_region ?_
    refine s_y (y_move rfl) rfl rfl rfl rfl ?_
    refine s_y (y_assign rfl) rfl rfl rfl rfl ?_
    refine s_nil ?_
    refine g_then ?_
    refine g_seq ?_
    refine g_region ?_
    refine s_y (y_move rfl) rfl rfl rfl rfl ?_
    refine s_y (y_move rfl) rfl rfl rfl rfl ?_
    refine s_y (y_shr rfl rfl (by omega) (by omega) (by omega)) rfl rfl rfl rfl ?_
    refine s_y (y_and rfl rfl (by omega) (by omega)) rfl rfl rfl rfl ?_
    rw [show ((((c : Int) / 2 ^ ((i : Int) : Int).toNat : Int).toNat &&& (1 : Int).toNat : Nat) : Int) = bitI (c : Int) i from rfl]
    refine s_y (y_eql rfl rfl) rfl rfl rfl rfl ?_
    refine s_nil ?_
    refine g_then ?_
    refine g_cond rfl (fun cq2 => ?_) (fun cq2 => ?_)
    · (try simp at cq2)
      have hb1 : bitI (c : Int) i = 1 := cq2
      refine g_region ?_
      refine s_y (y_fld rfl (fun w => fld_49_1 _ _ w)) rfl rfl rfl rfl ?_
      refine s_y (y_ld1 0 rfl rfl agg_27 rfl) rfl rfl rfl rfl ?_
      refine s_y (y_move rfl) rfl rfl rfl rfl ?_
      refine s_tr (t_build (vs := [(0, .int .i64 (i : Int))]) (cells := [.int .i64 (i : Int)]) rfl rfl Try.underlying27 hi3.1 hi3.2.1 (by rw [hi3.2.2.1]; rfl) (by rw [hi3.2.2.1]; rfl) (by rw [hi3.2.2.1]; kernel_rfl)) rfl rfl rfl rfl (fun b3 hb3 => ?_)
      refine s_tr (t_appendL (enc := (Value.int .i64)) (sv := sv) (xs := zs) (n := m) (v := (i : Int)) [_, _, _] _ rfl rfl rfl hokz Try.underlying27 hi3.1 hi3.2.1 hi3.2.2.1 hi3.2.2.2 rfl (fun w h => h.toHq.cell (i := 0) rfl rfl) rfl (by omega) (by unfold maxLen; omega)) rfl rfl rfl rfl (fun y7 hy8 => ?_)
      obtain ⟨sv4, gs5⟩ := y7
      obtain ⟨hok6, hok6b, hok6c, hok6j, hok6e⟩ := hy8
      refine s_y (y_fld rfl (fun w => fld_49_1 _ _ w)) rfl rfl rfl rfl ?_
      refine s_tr0 (t_store 1 rfl rfl rfl (SV.cells1 _ _) size_27 rfl (by simp [SV.one])) rfl rfl rfl (fun _ _ => ?_)
      refine s_nil ?_
      refine g_inb ?_
      refine g_then ?_
      refine g_region ?_
      refine s_y (y_add rfl rfl (by omega) (by omega)) rfl rfl rfl rfl ?_
      refine s_y (y_move rfl) rfl rfl rfl rfl ?_
      refine s_nil ?_
      refine g_then ?_
      exact fun act W ha hw => ⟨i + 1, by omega, by omega, sv4, (m + 1), (zs ++ [(i : Int)]), W, (by exact hok6), (by omega), (by rw [hzs]; first | exact (if_pos hb1).symm | exact (if_neg hb1).symm), ha.weak (sub_get ⟨rfl, rfl, rfl, rfl, rfl, rfl, trivial⟩), hw.toHq.lookSub (List.Sublist.cons _ (List.Sublist.cons_cons _ (List.Sublist.cons_cons _ (sub_app (sv4.mem 3 ((zs ++ [(i : Int)]).map (Value.int .i64))) (List.nil_sublist _)))))⟩
    · (try simp at cq2)
      have hb1 : ¬ bitI (c : Int) i = 1 := cq2
      refine g_skip ?_
      refine g_inb ?_
      refine g_then ?_
      refine g_region ?_
      refine s_y (y_add rfl rfl (by omega) (by omega)) rfl rfl rfl rfl ?_
      refine s_y (y_move rfl) rfl rfl rfl rfl ?_
      refine s_nil ?_
      refine g_then ?_
      exact fun act W ha hw => ⟨i + 1, by omega, by omega, sv, m, zs, W, (by exact hokz), (by omega), (by rw [hzs]; first | exact (if_pos hb1).symm | exact (if_neg hb1).symm), ha.weak (sub_get ⟨rfl, rfl, rfl, rfl, rfl, rfl, trivial⟩), hw.toHq.lookSub (List.Sublist.refl _)⟩
  · (try simp at cq1)
    refine g_exit ?_
    refine g_thenx ?_
    refine g_thenx ?_
    refine g_inbx ?_
    refine g_then ?_
    refine g_seq ?_
    refine g_region ?_
    refine s_y (y_ldn 0 rfl rfl agg_49 size_49 rfl rfl) rfl rfl rfl rfl ?_
    refine s_tr0 (t_store (vs := [.int .i64 (n : Int), sv.val m]) 1 rfl rfl rfl (by simp [Value.cells, (SV.cells1 _ _)]) size_49 rfl (by simp only [List.all_cons, List.all_nil, SV.one, Bool.and_true]; rfl)) rfl rfl rfl (fun _ _ => ?_)
    refine s_y (y_assign rfl) rfl rfl rfl rfl ?_
    refine s_nil ?_
    refine g_then ?_
    refine g_ret ?_
    rw [show tonesL c n = zs from by rw [hzs, show i = n by omega]]
    exact g_end trivial (fun a w ha hq_ => res_ct (c := [.int .i64 (n : Int), sv.val m]) 1 ha hq_ rfl rfl rfl rfl  agg_49 size_49 rfl) (fun w h => ⟨(_, sv.mem 3 (zs.map (Value.int .i64))), ⟨OwnV.sv hokz, w, (h.hand (List.Sublist.cons _ (List.Sublist.cons _ (sub_here (sv.mem 3 (zs.map (Value.int .i64))) _)))).at_⟩, rfl, h.hand (List.Sublist.cons _ (List.Sublist.cons _ (sub_here (sv.mem 3 (zs.map (Value.int .i64))) _)))⟩)

theorem eread_bad (w : World) (n c : Int) (hno : ¬ (2 ≤ n ∧ n ≤ 16 ∧ 1 ≤ c ∧ c < 2 ^ n.toNat)) :
    Calls Try.prog 34 [.int .i64 n, .int .i64 c].toArray w fun e w' => ∃ x : Int, True ∧ e = .returned (.tuple #[.agg #[.int .i64 x, .slice none 0 0], .bool false]) ∧ Hq w w [] w' := by
  refine enter (N := 41) Try.func34 rfl rfl rfl ?_
  refine g_seq ?_
  refine g_region ?_
  refine s_tr (t_alloc zero_49 rfl) rfl rfl rfl rfl (fun b4 hb4 => ?_)
  refine s_y (y_assign rfl) rfl rfl rfl rfl ?_
  refine s_nil ?_
  refine g_then ?_
  refine g_seq ?_
  refine g_region ?_
  refine s_y (y_move rfl) rfl rfl rfl rfl ?_
  refine s_y (y_build (vs := [(0, _)]) rfl rfl (fun w => bld_49_0 _ w)) rfl rfl rfl rfl ?_
  refine s_tr (t_alloc zero_49 rfl) rfl rfl rfl rfl (fun b6 hb6 => ?_)
  refine s_tr0 (t_store 0 rfl rfl rfl rfl size_49 rfl rfl) rfl rfl rfl (fun _ _ => ?_)
  refine s_nil ?_
  refine g_then ?_
  refine g_seq ?_
  refine g_seq ?_
  refine g_region ?_
  refine s_y (y_move rfl) rfl rfl rfl rfl ?_
  refine s_tr (t_call rfl rfl ent_38 (fun w h => isCircle_any w n)) rfl rfl rfl rfl (fun _ _ => ?_)
  refine s_y (y_not rfl) rfl rfl rfl rfl ?_
  refine s_y (y_move rfl) rfl rfl rfl rfl ?_
  refine g_bool 13 rfl (fun cq1 => ?_) (fun cq1 => ?_)
  · (try simp at cq1)
    refine s_no rfl rfl rfl ?_
    refine s_no rfl rfl rfl ?_
    refine s_y (y_pick_t rfl rfl) rfl rfl rfl rfl ?_
    refine s_y (y_move rfl) rfl rfl rfl rfl ?_
    refine s_no rfl rfl rfl ?_
    refine s_no rfl rfl rfl ?_
    refine s_no rfl rfl rfl ?_
    refine s_no rfl rfl rfl ?_
    refine s_y (y_pick_t rfl rfl) rfl rfl rfl rfl ?_
    refine s_nil ?_
    refine g_then ?_
    refine g_cond_t rfl ?_
    refine g_seq ?_
    refine g_region ?_
    refine s_y (y_ldn 0 rfl rfl agg_49 size_49 rfl rfl) rfl rfl rfl rfl ?_
    refine s_tr0 (t_store 1 rfl rfl rfl rfl size_49 rfl rfl) rfl rfl rfl (fun _ _ => ?_)
    refine s_y (y_assign rfl) rfl rfl rfl rfl ?_
    refine s_nil ?_
    refine g_then ?_
    refine g_ret ?_
    refine g_thenr ?_
    exact g_end trivial (fun a w ha hq_ => res_ct (c := [.int .i64 n, .slice none 0 0]) 1 ha hq_ rfl rfl rfl rfl  agg_49 size_49 rfl) (fun w h => ⟨n, trivial, rfl, h.hand (List.nil_sublist _)⟩)
  · (try simp at cq1)
    have hcir : 2 ≤ n ∧ n ≤ 16 := by simpa using cq1
    refine s_y (y_move rfl) rfl rfl rfl rfl ?_
    refine s_y (y_lss rfl rfl) rfl rfl rfl rfl ?_
    refine s_y (y_pick_f rfl rfl) rfl rfl rfl rfl ?_
    refine s_y (y_move rfl) rfl rfl rfl rfl ?_
    refine g_bool 17 rfl (fun cq2 => ?_) (fun cq2 => ?_)
    · (try simp at cq2)
      refine s_no rfl rfl rfl ?_
      refine s_no rfl rfl rfl ?_
      refine s_no rfl rfl rfl ?_
      refine s_no rfl rfl rfl ?_
      refine s_y (y_pick_t rfl rfl) rfl rfl rfl rfl ?_
      refine s_nil ?_
      refine g_then ?_
      refine g_cond_t rfl ?_
      refine g_seq ?_
      refine g_region ?_
      refine s_y (y_ldn 0 rfl rfl agg_49 size_49 rfl rfl) rfl rfl rfl rfl ?_
      refine s_tr0 (t_store 1 rfl rfl rfl rfl size_49 rfl rfl) rfl rfl rfl (fun _ _ => ?_)
      refine s_y (y_assign rfl) rfl rfl rfl rfl ?_
      refine s_nil ?_
      refine g_then ?_
      refine g_ret ?_
      refine g_thenr ?_
      exact g_end trivial (fun a w ha hq_ => res_ct (c := [.int .i64 n, .slice none 0 0]) 1 ha hq_ rfl rfl rfl rfl  agg_49 size_49 rfl) (fun w h => ⟨n, trivial, rfl, h.hand (List.nil_sublist _)⟩)
    · (try simp at cq2)
      refine s_y (y_move rfl) rfl rfl rfl rfl ?_
      refine s_y (y_move rfl) rfl rfl rfl rfl ?_
      refine s_y (y_shl1 rfl rfl (by omega) (by omega)) rfl rfl rfl rfl ?_
      refine s_y (y_geq rfl rfl) rfl rfl rfl rfl ?_
      refine s_y (y_pick_f rfl rfl) rfl rfl rfl rfl ?_
      refine s_nil ?_
      refine g_then ?_
      refine g_cond rfl (fun cq3 => ?_) (fun cq3 => ?_)
      · (try simp at cq3)
        refine g_seq ?_
        refine g_region ?_
        refine s_y (y_ldn 0 rfl rfl agg_49 size_49 rfl rfl) rfl rfl rfl rfl ?_
        refine s_tr0 (t_store 1 rfl rfl rfl rfl size_49 rfl rfl) rfl rfl rfl (fun _ _ => ?_)
        refine s_y (y_assign rfl) rfl rfl rfl rfl ?_
        refine s_nil ?_
        refine g_then ?_
        refine g_ret ?_
        refine g_thenr ?_
        exact g_end trivial (fun a w ha hq_ => res_ct (c := [.int .i64 n, .slice none 0 0]) 1 ha hq_ rfl rfl rfl rfl  agg_49 size_49 rfl) (fun w h => ⟨n, trivial, rfl, h.hand (List.nil_sublist _)⟩)
      · (try simp at cq3)
        exact absurd ⟨by omega, by omega, by omega, by omega⟩ hno

theorem sum_any (w : World) (n : Nat) (A : Option Addr) (cp : Nat) (xs : List Int) (hv : RdV (Value.int .i64) w (.slice A xs.length cp) xs) (hn : 2 ≤ n) (hn2 : n ≤ 16) (hl : xs.length ≤ 16) (hx : ∀ x ∈ xs, 0 ≤ x ∧ x < n) :
    Calls Try.prog 35 [.agg #[.int .i64 (n : Int), .slice A xs.length cp]].toArray w fun e w' => e = .returned (.int .i64 (outP n xs xs.length)) ∧ Below w.heap.size w w' := by
  obtain ⟨ie3_, hi3_⟩ := inf_3
  refine enter (N := 40) Try.func35 rfl rfl rfl ?_
  refine g_seq ?_
  refine g_region ?_
  refine s_tr (t_box rfl rfl) rfl rfl rfl rfl (fun b1 hb1 => ?_)
  refine s_y (y_assign rfl) rfl rfl rfl rfl ?_
  refine s_nil ?_
  refine g_then ?_
  refine g_seq ?_
  refine g_region ?_
  refine s_y (y_assign rfl) rfl rfl rfl rfl ?_
  refine s_nil ?_
  refine g_then ?_
  refine g_seq ?_
  refine g_seq ?_
  refine g_region ?_
  refine s_y (y_fld rfl (fun w => fld_49_1 _ _ w)) rfl rfl rfl rfl ?_
  refine s_y (y_ld1 0 rfl rfl agg_27 rfl) rfl rfl rfl rfl ?_
  refine s_y (y_lenV (n := xs.length) rfl (by obtain ⟨A, c, h1, _⟩ := hv; exact ⟨A, c, h1⟩) sle_27) rfl rfl rfl rfl ?_
  refine s_y (y_move rfl) rfl rfl rfl rfl ?_
  refine s_nil ?_
  refine g_then ?_
  refine g_block ?_
  refine g_loop (fun (i : Nat) act W => i ≤ xs.length ∧ ∃ (sm : Int) (w1 : World), (sm = outP n xs i) ∧ (-8192 * (i : Int) ≤ sm ∧ sm ≤ 8192 * (i : Int)) ∧ Has 40 [] [(1, .pointer (some ⟨b1, 0, none⟩)), (2, .int .i64 0), (3, .int .i64 sm), (9, .slice A xs.length cp), (10, .int .i64 (xs.length : Nat)), (11, .int .i64 (i : Int))] act ∧ Hp w w1 ((b1, .cells [.int .i64 (n : Int), .slice A xs.length cp].toArray 49 (0, 0)) :: []) W) (fun i => xs.length - i) 0 (fun act W ha hw => ⟨by omega, 0, W, (by rfl), (by omega), ha.weak (sub_get ⟨rfl, rfl, rfl, rfl, rfl, rfl, trivial⟩), hw.toHq.lookSub (List.Sublist.refl _)⟩) ?_
  intro i act W ⟨hb_i, sm, w1, hsm, hsb, ha, hw⟩
  refine g_go ha hw ?_
  clear ha hw act W
  refine g_seq ?_
  refine g_region ?_
  refine s_y (y_lss rfl rfl) rfl rfl rfl rfl ?_
  refine s_nil ?_
  refine g_then ?_
  refine g_seq ?_
  refine g_cond rfl (fun cq1 => ?_) (fun cq1 => ?_)
  · (try simp at cq1)
    refine g_skip ?_
    refine g_then ?_
    refine g_seq ?_
    refine g_block ?_
    refine g_seq ?_
    refine g_region ?_
    refine s_y (y_move rfl) rfl rfl rfl rfl ?_
    refine s_y (y_idxV (enc := (Value.int .i64)) rfl rfl hv Try.underlying27 size_3 (by omega) (by omega)) rfl rfl rfl rfl ?_
    refine s_y (y_ldV (enc := (Value.int .i64)) (xs := xs) (fun w h => hv.rdl.below h.below) rfl agg_3 (rdI_at (by omega) (by omega))) rfl rfl rfl rfl ?_
    refine s_y (y_assign rfl) rfl rfl rfl rfl ?_
    refine s_y (y_assign rfl) rfl rfl rfl rfl ?_
    refine s_nil ?_
    refine g_then ?_
    refine g_seq ?_
    obtain ⟨v7, hc7, hr7⟩ := run_cut_hi (P := Try.prog) hv Try.underlying27 hi3_.1 hi3_.2.2.1 i (by omega)
    have hv7 := hr7 w hv
    have htl : (xs.take i).length = i := by rw [List.length_take]; omega
    refine g_region ?_
    refine s_y (y_fld rfl (fun w => fld_49_1 _ _ w)) rfl rfl rfl rfl ?_
    refine s_y (y_ld1 0 rfl rfl agg_27 rfl) rfl rfl rfl rfl ?_
    refine s_y (y_move rfl) rfl rfl rfl rfl ?_
    refine s_y (y_slice rfl none_ev (some_ev rfl) hc7 sle_27) rfl rfl rfl rfl ?_
    refine s_y (y_lenV (n := ((xs.take i).length)) rfl (by obtain ⟨A, c, h1, _⟩ := hv7; exact ⟨A, c, h1⟩) sle_27) rfl rfl rfl rfl ?_
    refine s_y (y_move rfl) rfl rfl rfl rfl ?_
    refine s_nil ?_
    refine g_then ?_
    refine g_block ?_
    refine g_loop (fun (j : Nat) act W => j ≤ (xs.take i).length ∧ ∃ (sm2 : Int) (w1 : World), (sm2 = outP n xs i + inL n (rdI xs (i : Int)) ((xs.take i).take j)) ∧ (-8192 * (i : Int) - 512 * (j : Int) ≤ sm2 ∧ sm2 ≤ 8192 * (i : Int) + 512 * (j : Int)) ∧ Has 40 [] [(1, .pointer (some ⟨b1, 0, none⟩)), (2, .int .i64 0), (3, .int .i64 sm2), (4, .int .i64 (i : Int)), (5, .int .i64 (rdI xs (i : Int))), (9, .slice A xs.length cp), (10, .int .i64 (xs.length : Nat)), (11, .int .i64 (i : Int)), (12, .bool (decide ((i : Int) < (xs.length : Nat)))), (13, .int .i64 (i : Int)), (14, .pointer (some (elemA (adrOf (.slice A xs.length cp)) ((i : Int) : Int).toNat))), (15, .int .i64 (rdI xs (i : Int))), (16, .pointer (some ⟨b1, 1, none⟩)), (17, .slice A xs.length cp), (18, .int .i64 (i : Int)), (19, v7), (20, .int .i64 ((xs.take i).length : Nat)), (21, .int .i64 (j : Int))] act ∧ Hp w w1 ((b1, .cells [.int .i64 (n : Int), .slice A xs.length cp].toArray 49 (0, 0)) :: []) W) (fun j => (xs.take i).length - j) 0 (fun act W ha hw => ⟨by omega, sm, W, (by simp [inL, hsm]), (by omega), ha.weak (sub_get ⟨rfl, rfl, rfl, rfl, rfl, rfl, rfl, rfl, rfl, rfl, rfl, rfl, rfl, rfl, rfl, rfl, rfl, rfl, trivial⟩), hw.toHq.lookSub (List.Sublist.refl _)⟩) ?_
    intro j act W ⟨hb_j, sm2, w1, hsm2, hsb2, ha, hw⟩
    refine g_go ha hw ?_
    clear ha hw act W
    have htl : (xs.take i).length = i := by rw [List.length_take]; omega
    refine g_seq ?_
    refine g_region ?_
    refine s_y (y_lss rfl rfl) rfl rfl rfl rfl ?_
    refine s_nil ?_
    refine g_then ?_
    refine g_seq ?_
    refine g_cond rfl (fun cq2 => ?_) (fun cq2 => ?_)
    · (try simp at cq2)
      refine g_skip ?_
      refine g_then ?_
      refine g_seq ?_
      refine g_block ?_
      refine g_seq ?_
      refine g_region ?_
      refine s_y (y_idxV (enc := (Value.int .i64)) rfl rfl hv7 Try.underlying27 size_3 (by omega) (by omega)) rfl rfl rfl rfl ?_
      refine s_y (y_ldV (enc := (Value.int .i64)) (xs := xs.take i) (fun w h => hv7.rdl.below h.below) rfl agg_3 (rdI_at (by omega) (by omega))) rfl rfl rfl rfl ?_
      refine s_y (y_assign rfl) rfl rfl rfl rfl ?_
      refine s_nil ?_
      refine g_then ?_
      have hxi := hx _ (rdI_mem (xs := xs) (i := (i : Int)) (by omega) (by omega))
      have hyj := hx _ (List.mem_of_mem_take (rdI_mem (xs := xs.take i) (i := (j : Int)) (by omega) (by omega)))
      have hmb := mulb (a := rdI xs (i : Int) - rdI (xs.take i) (j : Int)) (b := (n : Int) - rdI xs (i : Int) + rdI (xs.take i) (j : Int)) ⟨by omega, by omega⟩ ⟨by omega, by omega⟩
      refine g_region ?_
      refine s_y (y_move rfl) rfl rfl rfl rfl ?_
      refine s_y (y_move rfl) rfl rfl rfl rfl ?_
      refine s_y (y_move rfl) rfl rfl rfl rfl ?_
      refine s_y (y_sub rfl rfl (by omega) (by omega)) rfl rfl rfl rfl ?_
      refine s_y (y_fld rfl (fun w => fld_49_0 _ _ w)) rfl rfl rfl rfl ?_
      refine s_y (y_ld1 0 rfl rfl agg_3 rfl) rfl rfl rfl rfl ?_
      refine s_y (y_move rfl) rfl rfl rfl rfl ?_
      refine s_y (y_sub rfl rfl (by omega) (by omega)) rfl rfl rfl rfl ?_
      refine s_y (y_move rfl) rfl rfl rfl rfl ?_
      refine s_y (y_add rfl rfl (by omega) (by omega)) rfl rfl rfl rfl ?_
      refine s_y (y_mul rfl rfl (by omega) (by omega)) rfl rfl rfl rfl ?_
      refine s_y (y_add rfl rfl (by omega) (by omega)) rfl rfl rfl rfl ?_
      refine s_y (y_assign rfl) rfl rfl rfl rfl ?_
      refine s_nil ?_
      refine g_inb ?_
      refine g_then ?_
      refine g_region ?_
      refine s_y (y_add rfl rfl (by omega) (by omega)) rfl rfl rfl rfl ?_
      refine s_y (y_move rfl) rfl rfl rfl rfl ?_
      refine s_nil ?_
      refine g_then ?_
      exact fun act W ha hw => ⟨j + 1, by omega, by omega, (sm2 + (((rdI xs (i : Int)) - (rdI (xs.take i) (j : Int))) * (((n : Int) - (rdI xs (i : Int))) + (rdI (xs.take i) (j : Int))))), W, (by rw [rdI_take (by omega), inL_snoc, hsm2]; unfold spT; omega), (by omega), ha.weak (sub_get ⟨rfl, rfl, rfl, rfl, rfl, rfl, rfl, rfl, rfl, rfl, rfl, rfl, rfl, rfl, rfl, rfl, rfl, rfl, trivial⟩), hw.toHq.lookSub (List.Sublist.refl _)⟩
    · (try simp at cq2)
      refine g_exit ?_
      refine g_thenx ?_
      refine g_thenx ?_
      refine g_inbx ?_
      refine g_inb ?_
      refine g_then ?_
      refine g_region ?_
      refine s_y (y_add rfl rfl (by omega) (by omega)) rfl rfl rfl rfl ?_
      refine s_y (y_move rfl) rfl rfl rfl rfl ?_
      refine s_nil ?_
      refine g_then ?_
      exact fun act W ha hw => ⟨i + 1, by omega, by omega, sm2, W, (by show _ = outP n xs i + inL n (rdI xs (i : Int)) (xs.take i); rw [hsm2, show j = (xs.take i).length by omega, List.take_length]), (by omega), ha.weak (sub_get ⟨rfl, rfl, rfl, rfl, rfl, rfl, trivial⟩), hw.toHq.lookSub (List.Sublist.refl _)⟩
  · (try simp at cq1)
    refine g_exit ?_
    refine g_thenx ?_
    refine g_thenx ?_
    refine g_inbx ?_
    refine g_then ?_
    refine g_seq ?_
    refine g_region ?_
    refine s_y (y_move rfl) rfl rfl rfl rfl ?_
    refine s_y (y_assign rfl) rfl rfl rfl rfl ?_
    refine s_nil ?_
    refine g_then ?_
    refine g_ret ?_
    rw [show sm = outP n xs xs.length from by rw [hsm, show i = xs.length by omega]]
    exact g_end trivial (fun a w ha hq_ => res1 ha rfl rfl  w) (fun w h => ⟨rfl, h.below⟩)

theorem Sum_ok (w : World) (n c : Nat) (hn : 2 ≤ n) (hn2 : n ≤ 16) (hc0 : 1 ≤ c) (hc : c < 2 ^ n) :
    Calls Try.prog 8 [.int .i64 (n : Int), .int .i64 (c : Int)].toArray w fun e w' => e = .returned (.tuple #[.int .i64 (outP n (tonesL c n) (tonesL c n).length), .int .i64 0]) ∧ Below w.heap.size w w' := by
  refine enter (N := 18) Try.func8 rfl rfl rfl ?_
  refine g_seq ?_
  refine g_region ?_
  refine s_y (y_assign rfl) rfl rfl rfl rfl ?_
  refine s_y (y_assign rfl) rfl rfl rfl rfl ?_
  refine s_nil ?_
  refine g_then ?_
  refine g_seq ?_
  refine g_region ?_
  refine s_y (y_move rfl) rfl rfl rfl rfl ?_
  refine s_y (y_move rfl) rfl rfl rfl rfl ?_
  refine s_tr (t_callm rfl rfl ent_34 (fun w h => eread_ok w n c hn hn2 hc0 hc)) rfl rfl rfl rfl (fun xo hxo => ?_)
  obtain ⟨vo, mo⟩ := xo
  obtain ⟨hOo, hEo⟩ := hxo
  have hOo : OwnV (Value.int .i64) vo (tonesL c n) mo := hOo
  obtain ⟨Ao, co, hvo⟩ := id hOo.1
  subst hvo
  refine s_y (y_move rfl) rfl rfl rfl rfl ?_
  refine s_y (y_extract rfl rfl) rfl rfl rfl rfl ?_
  refine s_y (y_extract rfl rfl) rfl rfl rfl rfl ?_
  refine s_tr (t_alloc zero_49 rfl) rfl rfl rfl rfl (fun b6 hb6 => ?_)
  refine s_tr0 (t_store (vs := [.int .i64 (n : Int), (.slice Ao (tonesL c n).length co)]) 0 rfl rfl rfl (by simp [Value.cells, hOo.cells1]) size_49 rfl (by simp only [List.all_cons, List.all_nil, hOo.one, Bool.and_true]; rfl)) rfl rfl rfl (fun _ _ => ?_)
  refine s_y (y_assign rfl) rfl rfl rfl rfl ?_
  refine s_nil ?_
  refine g_then ?_
  refine g_seq ?_
  refine g_seq ?_
  refine g_region ?_
  refine s_y (y_move rfl) rfl rfl rfl rfl ?_
  refine s_y (y_not_t rfl) rfl rfl rfl rfl ?_
  refine s_nil ?_
  refine g_then ?_
  refine g_cond_f rfl ?_
  refine g_skip ?_
  refine g_then ?_
  refine g_seq ?_
  refine g_region ?_
  refine s_y (y_ldn 0 rfl rfl agg_49 size_49 rfl rfl) rfl rfl rfl rfl ?_
  refine s_tr (t_call rfl rfl ent_35 (fun w h => sum_any w n Ao co (tonesL c n) (hOo.rd fun p hp => h.at_ p (List.mem_cons_of_mem _ (mem_al mo hp))) hn hn2 (Nat.le_trans (tonesL_len c n) hn2) (tonesL_range c n))) rfl rfl rfl rfl (fun _ _ => ?_)
  refine s_y (y_assign rfl) rfl rfl rfl rfl ?_
  refine s_y (y_assign rfl) rfl rfl rfl rfl ?_
  refine s_nil ?_
  refine g_then ?_
  refine g_ret ?_
  exact g_end trivial (fun a w ha hq_ => res2 ha rfl rfl rfl  w) (fun w h => ⟨rfl, h.below⟩)

theorem Sum_no (w : World) (n c : Int) (hno : ¬ (2 ≤ n ∧ n ≤ 16 ∧ 1 ≤ c ∧ c < 2 ^ n.toNat)) :
    Calls Try.prog 8 [.int .i64 n, .int .i64 c].toArray w fun e w' => e = .returned (.tuple #[.int .i64 0, .int .i64 2]) ∧ Below w.heap.size w w' := by
  refine enter (N := 18) Try.func8 rfl rfl rfl ?_
  refine g_seq ?_
  refine g_region ?_
  refine s_y (y_assign rfl) rfl rfl rfl rfl ?_
  refine s_y (y_assign rfl) rfl rfl rfl rfl ?_
  refine s_nil ?_
  refine g_then ?_
  refine g_seq ?_
  refine g_region ?_
  refine s_y (y_move rfl) rfl rfl rfl rfl ?_
  refine s_y (y_move rfl) rfl rfl rfl rfl ?_
  refine s_tr (t_callm (A := fun _ : Int => True) (vf := fun x => .tuple #[.agg #[.int .i64 x, .slice none 0 0], .bool false]) (mm := fun _ => []) rfl rfl ent_34 (fun w h => eread_bad w n c hno)) rfl rfl rfl rfl (fun xz _ => ?_)
  refine s_y (y_move rfl) rfl rfl rfl rfl ?_
  refine s_y (y_extract rfl rfl) rfl rfl rfl rfl ?_
  refine s_y (y_extract rfl rfl) rfl rfl rfl rfl ?_
  refine s_tr (t_alloc zero_49 rfl) rfl rfl rfl rfl (fun b6 hb6 => ?_)
  refine s_tr0 (t_store 0 rfl rfl rfl rfl size_49 rfl rfl) rfl rfl rfl (fun _ _ => ?_)
  refine s_y (y_assign rfl) rfl rfl rfl rfl ?_
  refine s_nil ?_
  refine g_then ?_
  refine g_seq ?_
  refine g_seq ?_
  refine g_region ?_
  refine s_y (y_move rfl) rfl rfl rfl rfl ?_
  refine s_y (y_not_f rfl) rfl rfl rfl rfl ?_
  refine s_nil ?_
  refine g_then ?_
  refine g_cond_t rfl ?_
  refine g_seq ?_
  refine g_region ?_
  refine s_y (y_assign rfl) rfl rfl rfl rfl ?_
  refine s_y (y_assign rfl) rfl rfl rfl rfl ?_
  refine s_nil ?_
  refine g_then ?_
  refine g_ret ?_
  refine g_thenr ?_
  exact g_end trivial (fun a w ha hq_ => res2 ha rfl rfl rfl  w) (fun w h => ⟨rfl, h.below⟩)

theorem Scale_t (w : World) (n c : Nat) (hn : 2 ≤ n) (hn2 : n ≤ 16) (hc0 : 1 ≤ c) (hc : c < 2 ^ n) :
    Calls Try.prog 9 [.int .i64 (n : Int), .int .i64 (c : Int)].toArray w fun e w' => e = .returned (.bool (true)) ∧ Below w.heap.size w w' := by
  have hpw := pow_small hn2
  have hpp := Nat.two_pow_pos n
  refine enter (N := 21) Try.func9 rfl rfl rfl ?_
  refine g_seq ?_
  refine g_region ?_
  refine s_y (y_assign rfl) rfl rfl rfl rfl ?_
  refine s_nil ?_
  refine g_then ?_
  refine g_seq ?_
  refine g_region ?_
  refine s_y (y_move rfl) rfl rfl rfl rfl ?_
  refine s_y (y_geq_t rfl rfl (by omega)) rfl rfl rfl rfl ?_
  refine s_y (y_move rfl) rfl rfl rfl rfl ?_
  refine s_y (y_move rfl) rfl rfl rfl rfl ?_
  refine s_y (y_leq_t rfl rfl (by omega)) rfl rfl rfl rfl ?_
  refine s_y (y_pick_t rfl rfl) rfl rfl rfl rfl ?_
  refine s_y (y_move rfl) rfl rfl rfl rfl ?_
  refine s_y (y_move rfl) rfl rfl rfl rfl ?_
  refine s_y (y_geq_t rfl rfl (by omega)) rfl rfl rfl rfl ?_
  refine s_y (y_pick_t rfl rfl) rfl rfl rfl rfl ?_
  refine s_y (y_move rfl) rfl rfl rfl rfl ?_
  refine s_y (y_move rfl) rfl rfl rfl rfl ?_
  refine s_y (y_move rfl) rfl rfl rfl rfl ?_
  refine s_y (y_shl1 rfl rfl (by omega) (by omega)) rfl rfl rfl rfl ?_
  rw [two_cast]
  refine s_y (y_lss_t rfl rfl (by omega)) rfl rfl rfl rfl ?_
  refine s_y (y_pick_t rfl rfl) rfl rfl rfl rfl ?_
  refine s_y (y_assign rfl) rfl rfl rfl rfl ?_
  refine s_nil ?_
  refine g_then ?_
  refine g_ret ?_
  exact g_end trivial (fun a w ha hq_ => res1 ha rfl rfl  w) (fun w h => ⟨rfl, h.below⟩)

def spN (n k m : Nat) : Nat → Nat
  | 0 => 0
  | i + 1 => spN n k m i ||| 2 ^ ((i * n + m) / k % n)
theorem spN_lt {n k m : Nat} (h : 0 < n) : ∀ i, spN n k m i < 2 ^ n
  | 0 => Nat.two_pow_pos n
  | i + 1 => Nat.or_lt_two_pow (spN_lt h i) (Nat.pow_lt_pow_right (by decide) (Nat.mod_lt _ h))
theorem sp_cast (n k m i : Nat) : ((i : Int) * (n : Int) + (m : Int)) / (k : Int) % (n : Int) = (((i * n + m) / k % n : Nat) : Int) := by simp

theorem Spread_ok (w : World) (n k m : Nat) (hn : 2 ≤ n) (hn2 : n ≤ 16) (hk : 1 ≤ k) (hk2 : k ≤ n) (hm : m < n) :
    Calls Try.prog 13 [.int .i64 (n : Int), .int .i64 (k : Int), .int .i64 (m : Int)].toArray w fun e w' => e = .returned (.tuple #[.int .i64 ((spN n k m k : Nat) : Int), .int .i64 0]) ∧ Below w.heap.size w w' := by
  have hpw := pow_small hn2
  have hpp := Nat.two_pow_pos n
  refine enter (N := 49) Try.func13 rfl rfl rfl ?_
  refine g_seq ?_
  refine g_region ?_
  refine s_y (y_assign rfl) rfl rfl rfl rfl ?_
  refine s_y (y_assign rfl) rfl rfl rfl rfl ?_
  refine s_nil ?_
  refine g_then ?_
  refine g_seq ?_
  refine g_seq ?_
  refine g_region ?_
  refine s_y (y_move rfl) rfl rfl rfl rfl ?_
  refine s_tr (t_call rfl rfl ent_38 (fun w h => by have h_ := isCircle_any w (n : Int); rwa [decide_eq_true (show 2 ≤ (n : Int) ∧ (n : Int) ≤ 16 by omega)] at h_)) rfl rfl rfl rfl (fun _ _ => ?_)
  refine s_y (y_not_t rfl) rfl rfl rfl rfl ?_
  refine s_y (y_move rfl) rfl rfl rfl rfl ?_
  refine s_y (y_move rfl) rfl rfl rfl rfl ?_
  refine s_y (y_lss_f rfl rfl (by omega)) rfl rfl rfl rfl ?_
  refine s_y (y_pick_f rfl rfl) rfl rfl rfl rfl ?_
  refine s_y (y_move rfl) rfl rfl rfl rfl ?_
  refine s_y (y_move rfl) rfl rfl rfl rfl ?_
  refine s_y (y_move rfl) rfl rfl rfl rfl ?_
  refine s_y (y_gtr_f rfl rfl (by omega)) rfl rfl rfl rfl ?_
  refine s_y (y_pick_f rfl rfl) rfl rfl rfl rfl ?_
  refine s_y (y_move rfl) rfl rfl rfl rfl ?_
  refine s_y (y_move rfl) rfl rfl rfl rfl ?_
  refine s_y (y_lss_f rfl rfl (by omega)) rfl rfl rfl rfl ?_
  refine s_y (y_pick_f rfl rfl) rfl rfl rfl rfl ?_
  refine s_y (y_move rfl) rfl rfl rfl rfl ?_
  refine s_y (y_move rfl) rfl rfl rfl rfl ?_
  refine s_y (y_move rfl) rfl rfl rfl rfl ?_
  refine s_y (y_geq_f rfl rfl (by omega)) rfl rfl rfl rfl ?_
  refine s_y (y_pick_f rfl rfl) rfl rfl rfl rfl ?_
  refine s_nil ?_
  refine g_then ?_
  refine g_cond_f rfl ?_
  refine g_skip ?_
  refine g_then ?_
  refine g_seq ?_
  refine g_region ?_
  refine s_y (y_assign rfl) rfl rfl rfl rfl ?_
  refine s_nil ?_
  refine g_then ?_
  refine g_seq ?_
  refine g_seq ?_
  refine g_region ?_
  refine s_y (y_move rfl) rfl rfl rfl rfl ?_
  refine s_y (y_move rfl) rfl rfl rfl rfl ?_
  refine s_nil ?_
  refine g_then ?_
  refine g_block ?_
  refine g_loop (fun (i : Nat) act W => i ≤ k ∧ ∃ (z : Nat) (w1 : World), (z = spN n k m i) ∧ Has 49 [] [(0, .int .i64 (n : Int)), (1, .int .i64 (k : Int)), (2, .int .i64 (m : Int)), (6, .int .i64 0), (7, .int .i64 0), (8, .int .i64 ((z : Nat) : Int)), (31, .int .i64 (k : Int)), (32, .int .i64 (i : Int))] act ∧ Hp w w1 ([]) W) (fun i => k - i) 0 (fun act W ha hw => ⟨by omega, 0, W, (by rfl), ha.weak (sub_get ⟨rfl, rfl, rfl, rfl, rfl, rfl, rfl, rfl, trivial⟩), hw.toHq.lookSub (List.Sublist.refl _)⟩) ?_
  intro i act W ⟨hb_i, z, w1, hz, ha, hw⟩
  refine g_go ha hw ?_
  clear ha hw act W
  have hsl := spN_lt (n := n) (k := k) (m := m) (by omega) i
  rw [← hz] at hsl
  refine g_seq ?_
  refine g_region ?_
  refine s_y (y_lss rfl rfl) rfl rfl rfl rfl ?_
  refine s_nil ?_
  refine g_then ?_
  refine g_seq ?_
  refine g_cond rfl (fun cq1 => ?_) (fun cq1 => ?_)
  · (try simp at cq1)
    refine g_skip ?_
    refine g_then ?_
    refine g_seq ?_
    refine g_block ?_
    refine g_seq ?_
    refine g_region ?_
    refine s_y (y_move rfl) rfl rfl rfl rfl ?_
    refine s_y (y_assign rfl) rfl rfl rfl rfl ?_
    refine s_nil ?_
    refine g_then ?_
    have hin : (i : Int) * (n : Int) ≤ 16 * 16 := Int.mul_le_mul (by omega) (by omega) (by omega) (by omega)
    have hin0 : 0 ≤ (i : Int) * (n : Int) := Int.mul_nonneg (by omega) (by omega)
    have hdv := Int.ediv_nonneg (show 0 ≤ (i : Int) * (n : Int) + (m : Int) by omega) (show (0 : Int) ≤ (k : Int) by omega)
    have hdv2 := Int.ediv_le_self (k : Int) (show 0 ≤ (i : Int) * (n : Int) + (m : Int) by omega)
    have hml := Nat.mod_lt ((i * n + m) / k) (show 0 < n by omega)
    have hpe : 2 ^ ((i * n + m) / k % n) < 2 ^ n := Nat.pow_lt_pow_right (by decide) hml
    refine g_region ?_
    refine s_y (y_move rfl) rfl rfl rfl rfl ?_
    refine s_y (y_move rfl) rfl rfl rfl rfl ?_
    refine s_y (y_move rfl) rfl rfl rfl rfl ?_
    refine s_y (y_mul rfl rfl (by omega) (by omega)) rfl rfl rfl rfl ?_
    refine s_y (y_move rfl) rfl rfl rfl rfl ?_
    refine s_y (y_add rfl rfl (by omega) (by omega)) rfl rfl rfl rfl ?_
    refine s_y (y_move rfl) rfl rfl rfl rfl ?_
    refine s_y (y_quo rfl rfl (by omega) (by omega)) rfl rfl rfl rfl ?_
    refine s_y (y_move rfl) rfl rfl rfl rfl ?_
    refine s_y (y_rem rfl rfl (by omega) (by omega)) rfl rfl rfl rfl ?_
    rw [sp_cast]
    refine s_y (y_shl1 rfl rfl (by omega) (by omega)) rfl rfl rfl rfl ?_
    rw [two_cast]
    refine s_y (y_orN z (2 ^ ((i * n + m) / k % n)) rfl rfl (by rfl) (by rfl) (by omega) (by omega)) rfl rfl rfl rfl ?_
    refine s_y (y_assign rfl) rfl rfl rfl rfl ?_
    refine s_nil ?_
    refine g_inb ?_
    refine g_then ?_
    refine g_region ?_
    refine s_y (y_add rfl rfl (by omega) (by omega)) rfl rfl rfl rfl ?_
    refine s_y (y_move rfl) rfl rfl rfl rfl ?_
    refine s_nil ?_
    refine g_then ?_
    exact fun act W ha hw => ⟨i + 1, by omega, by omega, (z ||| (2 ^ ((i * n + m) / k % n))), W, (by rw [hz]; rfl), ha.weak (sub_get ⟨rfl, rfl, rfl, rfl, rfl, rfl, rfl, rfl, trivial⟩), hw.toHq.lookSub (List.Sublist.refl _)⟩
  · (try simp at cq1)
    refine g_exit ?_
    refine g_thenx ?_
    refine g_thenx ?_
    refine g_inbx ?_
    refine g_then ?_
    refine g_seq ?_
    refine g_region ?_
    refine s_y (y_move rfl) rfl rfl rfl rfl ?_
    refine s_y (y_assign rfl) rfl rfl rfl rfl ?_
    refine s_y (y_assign rfl) rfl rfl rfl rfl ?_
    refine s_nil ?_
    refine g_then ?_
    refine g_ret ?_
    rw [show z = spN n k m k from by rw [hz, show i = k by omega]]
    exact g_end trivial (fun a w ha hq_ => res2 ha rfl rfl rfl  w) (fun w h => ⟨rfl, h.below⟩)

theorem Spread_bad (w : World) (n k : Int) (hno : ¬ (2 ≤ n ∧ n ≤ 16 ∧ 1 ≤ k ∧ k ≤ n)) :
    Calls Try.prog 13 [.int .i64 n, .int .i64 k, .int .i64 0].toArray w fun e w' => e = .returned (.tuple #[.int .i64 0, .int .i64 2]) ∧ Below w.heap.size w w' := by
  refine enter (N := 49) Try.func13 rfl rfl rfl ?_
  refine g_seq ?_
  refine g_region ?_
  refine s_y (y_assign rfl) rfl rfl rfl rfl ?_
  refine s_y (y_assign rfl) rfl rfl rfl rfl ?_
  refine s_nil ?_
  refine g_then ?_
  refine g_seq ?_
  refine g_seq ?_
  refine g_region ?_
  refine s_y (y_move rfl) rfl rfl rfl rfl ?_
  refine s_tr (t_call rfl rfl ent_38 (fun w h => isCircle_any w n)) rfl rfl rfl rfl (fun _ _ => ?_)
  refine s_y (y_not rfl) rfl rfl rfl rfl ?_
  refine s_y (y_move rfl) rfl rfl rfl rfl ?_
  refine g_bool 13 rfl (fun cq1 => ?_) (fun cq1 => ?_)
  · (try simp at cq1)
    refine s_no rfl rfl rfl ?_
    refine s_no rfl rfl rfl ?_
    refine s_y (y_pick_t rfl rfl) rfl rfl rfl rfl ?_
    refine s_y (y_move rfl) rfl rfl rfl rfl ?_
    refine s_no rfl rfl rfl ?_
    refine s_no rfl rfl rfl ?_
    refine s_no rfl rfl rfl ?_
    refine s_y (y_pick_t rfl rfl) rfl rfl rfl rfl ?_
    refine s_y (y_move rfl) rfl rfl rfl rfl ?_
    refine s_no rfl rfl rfl ?_
    refine s_no rfl rfl rfl ?_
    refine s_y (y_pick_t rfl rfl) rfl rfl rfl rfl ?_
    refine s_y (y_move rfl) rfl rfl rfl rfl ?_
    refine s_no rfl rfl rfl ?_
    refine s_no rfl rfl rfl ?_
    refine s_no rfl rfl rfl ?_
    refine s_y (y_pick_t rfl rfl) rfl rfl rfl rfl ?_
    refine s_nil ?_
    refine g_then ?_
    refine g_cond_t rfl ?_
    refine g_seq ?_
    refine g_region ?_
    refine s_y (y_assign rfl) rfl rfl rfl rfl ?_
    refine s_y (y_assign rfl) rfl rfl rfl rfl ?_
    refine s_nil ?_
    refine g_then ?_
    refine g_ret ?_
    refine g_thenr ?_
    exact g_end trivial (fun a w ha hq_ => res2 ha rfl rfl rfl  w) (fun w h => ⟨rfl, h.below⟩)
  · (try simp at cq1)
    have hcir : 2 ≤ n ∧ n ≤ 16 := by simpa using cq1
    refine s_y (y_move rfl) rfl rfl rfl rfl ?_
    refine s_y (y_lss rfl rfl) rfl rfl rfl rfl ?_
    refine s_y (y_pick_f rfl rfl) rfl rfl rfl rfl ?_
    refine s_y (y_move rfl) rfl rfl rfl rfl ?_
    refine g_bool 17 rfl (fun cq2 => ?_) (fun cq2 => ?_)
    · (try simp at cq2)
      refine s_no rfl rfl rfl ?_
      refine s_no rfl rfl rfl ?_
      refine s_no rfl rfl rfl ?_
      refine s_y (y_pick_t rfl rfl) rfl rfl rfl rfl ?_
      refine s_y (y_move rfl) rfl rfl rfl rfl ?_
      refine s_no rfl rfl rfl ?_
      refine s_no rfl rfl rfl ?_
      refine s_y (y_pick_t rfl rfl) rfl rfl rfl rfl ?_
      refine s_y (y_move rfl) rfl rfl rfl rfl ?_
      refine s_no rfl rfl rfl ?_
      refine s_no rfl rfl rfl ?_
      refine s_no rfl rfl rfl ?_
      refine s_y (y_pick_t rfl rfl) rfl rfl rfl rfl ?_
      refine s_nil ?_
      refine g_then ?_
      refine g_cond_t rfl ?_
      refine g_seq ?_
      refine g_region ?_
      refine s_y (y_assign rfl) rfl rfl rfl rfl ?_
      refine s_y (y_assign rfl) rfl rfl rfl rfl ?_
      refine s_nil ?_
      refine g_then ?_
      refine g_ret ?_
      refine g_thenr ?_
      exact g_end trivial (fun a w ha hq_ => res2 ha rfl rfl rfl  w) (fun w h => ⟨rfl, h.below⟩)
    · (try simp at cq2)
      refine s_y (y_move rfl) rfl rfl rfl rfl ?_
      refine s_y (y_move rfl) rfl rfl rfl rfl ?_
      refine s_y (y_gtr rfl rfl) rfl rfl rfl rfl ?_
      refine s_y (y_pick_f rfl rfl) rfl rfl rfl rfl ?_
      refine s_y (y_move rfl) rfl rfl rfl rfl ?_
      refine g_bool 22 rfl (fun cq3 => ?_) (fun cq3 => ?_)
      · (try simp at cq3)
        refine s_no rfl rfl rfl ?_
        refine s_no rfl rfl rfl ?_
        refine s_y (y_pick_t rfl rfl) rfl rfl rfl rfl ?_
        refine s_y (y_move rfl) rfl rfl rfl rfl ?_
        refine s_no rfl rfl rfl ?_
        refine s_no rfl rfl rfl ?_
        refine s_no rfl rfl rfl ?_
        refine s_y (y_pick_t rfl rfl) rfl rfl rfl rfl ?_
        refine s_nil ?_
        refine g_then ?_
        refine g_cond_t rfl ?_
        refine g_seq ?_
        refine g_region ?_
        refine s_y (y_assign rfl) rfl rfl rfl rfl ?_
        refine s_y (y_assign rfl) rfl rfl rfl rfl ?_
        refine s_nil ?_
        refine g_then ?_
        refine g_ret ?_
        refine g_thenr ?_
        exact g_end trivial (fun a w ha hq_ => res2 ha rfl rfl rfl  w) (fun w h => ⟨rfl, h.below⟩)
      · (try simp at cq3)
        exact absurd ⟨by omega, by omega, by omega, by omega⟩ hno

theorem spreads_t (w : World) :
    Calls Try.prog 10 [].toArray w fun e w' => e = .returned (.bool (true)) ∧ Below w.heap.size w w' := by
  refine enter (N := 13) Try.func10 rfl rfl rfl ?_
  refine g_seq ?_
  refine g_region ?_
  refine s_y (y_assign rfl) rfl rfl rfl rfl ?_
  refine s_nil ?_
  refine g_then ?_
  refine g_seq ?_
  refine g_region ?_
  refine s_tr (t_call rfl rfl ent_13 (fun w h => by have h_ := Spread_ok w 4 2 0 (by decide) (by decide) (by decide) (by decide) (by decide); rwa [show ((spN 4 2 0 2 : Nat) : Int) = 5 from by decide +kernel] at h_)) rfl rfl rfl rfl (fun _ _ => ?_)
  refine s_y (y_move rfl) rfl rfl rfl rfl ?_
  refine s_y (y_extract rfl rfl) rfl rfl rfl rfl ?_
  refine s_y (y_extract rfl rfl) rfl rfl rfl rfl ?_
  refine s_y (y_assign rfl) rfl rfl rfl rfl ?_
  refine s_y (y_assign rfl) rfl rfl rfl rfl ?_
  refine s_nil ?_
  refine g_then ?_
  refine g_seq ?_
  refine g_region ?_
  refine s_y (y_move rfl) rfl rfl rfl rfl ?_
  refine s_y (y_eql_t rfl rfl (by decide)) rfl rfl rfl rfl ?_
  refine s_y (y_move rfl) rfl rfl rfl rfl ?_
  refine s_y (y_move rfl) rfl rfl rfl rfl ?_
  refine s_y (y_eql_t rfl rfl (by decide)) rfl rfl rfl rfl ?_
  refine s_y (y_pick_t rfl rfl) rfl rfl rfl rfl ?_
  refine s_y (y_assign rfl) rfl rfl rfl rfl ?_
  refine s_nil ?_
  refine g_then ?_
  refine g_ret ?_
  exact g_end trivial (fun a w ha hq_ => res1 ha rfl rfl  w) (fun w h => ⟨rfl, h.below⟩)

theorem cmove_any (w : World) (n a k : Nat) (hn : 2 ≤ n) (hn2 : n ≤ 16) (ha : a < 2 ^ n) (hk : k < n) :
    Calls Try.prog 47 [.int .i64 (n : Int), .int .i64 (a : Int), .int .i64 (k : Int)].toArray w fun e w' => e = .returned (.int .i64 (((movN n a k : Nat) : Int))) ∧ Below w.heap.size w w' := by
  have hpw := pow_small hn2
  have hpp := Nat.two_pow_pos n
  have hs : a <<< k < 4294967296 := by
    have h1 : 2 ^ k ≤ 65536 := pow_small (by omega)
    have h2 : a * 2 ^ k < 65536 * 65536 := Nat.mul_lt_mul_of_lt_of_le (by omega) h1 (by decide)
    rw [Nat.shiftLeft_eq]; omega
  have hr := shr_le a (n - k)
  have ho : (a <<< k) ||| (a >>> (n - k)) < 2 ^ 32 := Nat.or_lt_two_pow (by generalize a <<< k = z at hs; omega) (by omega)
  have ho' : (a <<< k) ||| (a >>> (n - k)) < 4611686018427387904 := by generalize (a <<< k) ||| (a >>> (n - k)) = z at ho; omega
  have hs' : a <<< k < 4611686018427387904 := by generalize a <<< k = z at hs; omega
  have hk1 : (k : Int) % (n : Int) = k := Int.emod_eq_of_lt (by omega) (by omega)
  have hkk : ((k : Int) % (n : Int) + (n : Int)) % (n : Int) = (k : Int) := by rw [hk1, Int.add_emod_right, hk1]
  refine enter (N := 27) Try.func47 rfl rfl rfl ?_
  refine g_seq ?_
  refine g_region ?_
  refine s_y (y_assign rfl) rfl rfl rfl rfl ?_
  refine s_nil ?_
  refine g_then ?_
  refine g_seq ?_
  refine g_region ?_
  refine s_y (y_move rfl) rfl rfl rfl rfl ?_
  refine s_y (y_move rfl) rfl rfl rfl rfl ?_
  refine s_y (y_rem rfl rfl (by omega) (by omega)) rfl rfl rfl rfl ?_
  refine s_y (y_move rfl) rfl rfl rfl rfl ?_
  refine s_y (y_add rfl rfl (by omega) (by omega)) rfl rfl rfl rfl ?_
  refine s_y (y_move rfl) rfl rfl rfl rfl ?_
  refine s_y (y_rem rfl rfl (by omega) (by omega)) rfl rfl rfl rfl ?_
  rw [hkk]
  refine s_y (y_assign rfl) rfl rfl rfl rfl ?_
  refine s_nil ?_
  refine g_then ?_
  refine g_seq ?_
  refine g_draw 14 (by kernel_rfl) ?_
  refine j_p (i := 0) rfl (y_move rfl) (by kernel_rfl) (by kernel_rfl) (by kernel_rfl) rfl rfl rfl rfl rfl (.inr (fun _ h => h)) ?_
  refine j_p (i := 1) rfl (y_move rfl) (by kernel_rfl) (by kernel_rfl) (by kernel_rfl) rfl rfl rfl rfl rfl (.inr (fun _ h => h)) ?_
  refine j_p (i := 2) rfl (y_shlN a k rfl rfl (by rfl) (by rfl) (by omega) (by omega)) (by kernel_rfl) (by kernel_rfl) (by kernel_rfl) rfl rfl rfl rfl rfl (.inr (fun _ h => h)) ?_
  refine j_p (i := 3) rfl (y_move rfl) (by kernel_rfl) (by kernel_rfl) (by kernel_rfl) rfl rfl rfl rfl rfl (.inr (fun _ h => h)) ?_
  refine j_p (i := 4) rfl (y_move rfl) (by kernel_rfl) (by kernel_rfl) (by kernel_rfl) rfl rfl rfl rfl rfl (.inr (fun _ h => h)) ?_
  refine j_p (i := 5) rfl (y_move rfl) (by kernel_rfl) (by kernel_rfl) (by kernel_rfl) rfl rfl rfl rfl rfl (.inr (fun _ h => h)) ?_
  refine j_p (i := 6) rfl (y_sub rfl rfl (by omega) (by omega)) (by kernel_rfl) (by kernel_rfl) (by kernel_rfl) rfl rfl rfl rfl rfl (.inr (fun _ h => h)) ?_
  refine j_p (i := 7) rfl (y_shrN a (n - k) rfl rfl (by rfl) (by omega) (by omega)) (by kernel_rfl) (by kernel_rfl) (by kernel_rfl) rfl rfl rfl rfl rfl (.inr (fun _ h => h)) ?_
  refine j_p (i := 8) rfl (y_orN (a <<< k) (a >>> (n - k)) rfl rfl (by rfl) (by rfl) (by omega) (by omega)) (by kernel_rfl) (by kernel_rfl) (by kernel_rfl) rfl rfl rfl rfl rfl (.inr (fun _ h => h)) ?_
  refine j_p (i := 9) rfl (y_move rfl) (by kernel_rfl) (by kernel_rfl) (by kernel_rfl) rfl rfl rfl rfl rfl (.inr (fun _ h => h)) ?_
  refine j_p (i := 10) rfl (y_shl1 rfl rfl (by omega) (by omega)) (by kernel_rfl) (by kernel_rfl) (by kernel_rfl) rfl rfl rfl rfl rfl (.inr (fun _ h => h)) ?_
  rw [two_cast]
  refine j_p (i := 11) rfl (y_sub rfl rfl (by omega) (by omega)) (by kernel_rfl) (by kernel_rfl) (by kernel_rfl) rfl rfl rfl rfl rfl (.inr (fun _ h => h)) ?_
  refine j_p (i := 12) rfl (y_andN ((a <<< k) ||| (a >>> (n - k))) (2 ^ n - 1) rfl rfl (by rfl) (by omega) (by omega) (by omega)) (by kernel_rfl) (by kernel_rfl) (by kernel_rfl) rfl rfl rfl rfl rfl (.inr (fun _ h => h)) ?_
  refine j_p (i := 13) rfl (y_assign rfl) (by kernel_rfl) (by kernel_rfl) (by kernel_rfl) rfl rfl rfl rfl rfl (.inr (fun _ h => h)) ?_
  refine j_nil (by kernel_rfl) ?_
  refine g_then ?_
  refine g_ret ?_
  rw [show movN n a k = ((a <<< k) ||| (a >>> (n - k))) &&& (2 ^ n - 1) from rfl]
  exact g_end trivial (fun a w ha hq_ => res1 ha rfl rfl  w) (fun w h => ⟨rfl, h.below⟩)

theorem cvalid1_t (w : World) (x : Int) (n bn : Nat) (hn : 2 ≤ n) (hn2 : n ≤ 16) (hx : 0 ≤ x) (hx2 : x < 2 ^ n) (hbn : w.heap[bn]? = some (.cells [.int .i64 (n : Int)].toArray 53 (0, 0))) :
    Calls Try.prog 60 [.int .i64 x, .pointer (some ⟨bn, 0, none⟩)].toArray w fun e w' => e = .returned (.bool (false)) ∧ Below w.heap.size w w' := by
  have hpw := pow_small hn2
  have hpp := Nat.two_pow_pos n
  have hx3 : x < ((2 ^ n : Nat) : Int) := by rw [two_cast']; exact hx2
  refine enter (N := 12) Try.func60 rfl rfl rfl ?_
  refine g_seq ?_
  refine g_region ?_
  refine s_y (y_assign rfl) rfl rfl rfl rfl ?_
  refine s_nil ?_
  refine g_then ?_
  refine g_seq ?_
  refine g_region ?_
  refine s_y (y_move rfl) rfl rfl rfl rfl ?_
  refine s_y (y_lss_f rfl rfl (by omega)) rfl rfl rfl rfl ?_
  refine s_y (y_move rfl) rfl rfl rfl rfl ?_
  refine s_y (y_move rfl) rfl rfl rfl rfl ?_
  refine s_y (y_ldO1 hbn rfl agg_53 rfl) rfl rfl rfl rfl ?_
  refine s_y (y_shl1 rfl rfl (by omega) (by omega)) rfl rfl rfl rfl ?_
  rw [two_cast]
  refine s_y (y_geq_f rfl rfl (by omega)) rfl rfl rfl rfl ?_
  refine s_y (y_pick_f rfl rfl) rfl rfl rfl rfl ?_
  refine s_y (y_assign rfl) rfl rfl rfl rfl ?_
  refine s_nil ?_
  refine g_then ?_
  refine g_ret ?_
  exact g_end trivial (fun a w ha hq_ => res1 ha rfl rfl  w) (fun w h => ⟨rfl, h.below⟩)

theorem cvalid_t (w : World) (n : Nat) (v : Value) (xs : List Int) (hv : RdV (Value.int .i64) w v xs) (hl : xs.length ≤ 10) (hn : 2 ≤ n) (hn2 : n ≤ 16) (hxs : ∀ x ∈ xs, 0 ≤ x ∧ x < 2 ^ n) :
    Calls Try.prog 36 [.int .i64 (n : Int), v].toArray w fun e w' => e = .returned (.bool (true)) ∧ Below w.heap.size w w' := by
  refine enter (N := 17) Try.func36 rfl rfl rfl ?_
  refine g_seq ?_
  refine g_region ?_
  refine s_tr (t_box rfl rfl) rfl rfl rfl rfl (fun bn hbn => ?_)
  refine s_y (y_assign rfl) rfl rfl rfl rfl ?_
  refine s_nil ?_
  refine g_then ?_
  refine g_seq ?_
  refine g_region ?_
  refine s_y (y_ld1 0 rfl rfl agg_53 rfl) rfl rfl rfl rfl ?_
  refine s_y (y_geq_t rfl rfl (by omega)) rfl rfl rfl rfl ?_
  refine s_y (y_move rfl) rfl rfl rfl rfl ?_
  refine s_y (y_ld1 0 rfl rfl agg_53 rfl) rfl rfl rfl rfl ?_
  refine s_y (y_leq_t rfl rfl (by omega)) rfl rfl rfl rfl ?_
  refine s_y (y_pick_t rfl rfl) rfl rfl rfl rfl ?_
  refine s_y (y_move rfl) rfl rfl rfl rfl ?_
  refine s_y (y_move rfl) rfl rfl rfl rfl ?_
  refine s_y (y_func rfl rfl) rfl rfl rfl rfl ?_
  refine s_tr (t_call rfl rfl ent_59 (fun w h => by have h_ := ContainsFunc_any w v xs (hv.below h.below) (by omega) 60 [.pointer (some ⟨bn, 0, none⟩)] (fun _ => false) ent_60 (fun x W hx hb => cvalid1_t W x n bn hn hn2 (hxs x hx).1 (hxs x hx).2 (below_at hb (at_of (i := 0) h rfl))); rwa [show xs.any (fun _ => false) = false from by simp] at h_)) rfl rfl rfl rfl (fun _ _ => ?_)
  refine s_y (y_not_f rfl) rfl rfl rfl rfl ?_
  refine s_y (y_pick_t rfl rfl) rfl rfl rfl rfl ?_
  refine s_y (y_assign rfl) rfl rfl rfl rfl ?_
  refine s_nil ?_
  refine g_then ?_
  refine g_ret ?_
  exact g_end trivial (fun a w ha hq_ => res1 ha rfl rfl  w) (fun w h => ⟨rfl, h.below⟩)

theorem vector_any (w : World) (n c : Nat) (hn : 2 ≤ n) (hn2 : n ≤ 16) (hc : c < 2 ^ n) :
    Calls Try.prog 37 [.int .i64 (n : Int), .int .i64 (c : Int)].toArray w fun e w' => ∃ x : Value × List (Nat × Obj), (OwnV (Value.int .i64) x.1 (vecC n c) x.2 ∧ ∃ W : World, ∀ p ∈ x.2, W.heap[p.1]? = some p.2) ∧ e = .returned (x.1) ∧ Hq w w x.2 w' := by
  have hpw := pow_small hn2
  have hpp := Nat.two_pow_pos n
  obtain ⟨ie3, hi3⟩ := inf_3
  refine enter (N := 33) Try.func37 rfl rfl rfl ?_
  refine g_seq ?_
  refine g_region ?_
  refine s_y (y_assign rfl) rfl rfl rfl rfl ?_
  refine s_nil ?_
  refine g_then ?_
  refine g_seq ?_
  refine g_region ?_
  refine s_tr (t_build0 (enc := (Value.int .i64)) Try.underlying27 hi3.1) rfl rfl rfl rfl (fun b8 hb8 => ?_)
  have hok1 : (SV.own b8 0 []).ok 1 0 (List.map (Value.int .i64) []) := ⟨Nat.le_refl _, Nat.zero_le _, rfl, rfl⟩
  refine s_y (y_assign rfl) rfl rfl rfl rfl ?_
  refine s_nil ?_
  refine g_then ?_
  refine g_seq ?_
  refine g_seq ?_
  refine g_region ?_
  refine s_y (y_assign rfl) rfl rfl rfl rfl ?_
  refine s_nil ?_
  refine g_then ?_
  refine g_block ?_
  refine g_loop (fun (i : Nat) act W => i ≤ n / 2 ∧ ∃ (sv : SV) (m : Nat) (zs : List Int) (w1 : World), (sv.ok 1 m (zs.map (Value.int .i64))) ∧ (m ≤ i) ∧ (zs = (List.range i).map fun e => ((vcN n c (e + 1) : Nat) : Int)) ∧ Has 33 [] [(0, .int .i64 (n : Int)), (1, .int .i64 (c : Int)), (4, .slice none 0 0), (5, sv.val m), (6, .int .i64 ((i : Int) + 1))] act ∧ Hp w w1 ((sv.mem 3 (zs.map (Value.int .i64)) ++ ([]))) W) (fun i => n / 2 - i) 0 (fun act W ha hw => ⟨by omega, (SV.own b8 0 []), 0, [], W, (by assumption), (by omega), (by rfl), ha.weak (sub_get ⟨rfl, rfl, rfl, rfl, rfl, trivial⟩), hw.toHq.lookSub (List.Sublist.refl _)⟩) ?_
  intro i act W ⟨hb_i, sv, m, zs, w1, hokz, hmi, hzs, ha, hw⟩
  refine g_go ha hw ?_
  clear ha hw act W
  refine g_seq ?_
  refine g_seq ?_
  refine g_region ?_
  refine s_y (y_move rfl) rfl rfl rfl rfl ?_
  refine s_y (y_move rfl) rfl rfl rfl rfl ?_
  refine s_y (y_quo rfl rfl (by omega) (by omega)) rfl rfl rfl rfl ?_
  refine s_y (y_leq rfl rfl) rfl rfl rfl rfl ?_
  refine s_nil ?_
  refine g_then ?_
  refine g_cond rfl (fun cq2 => ?_) (fun cq2 => ?_)
  · (try simp at cq2)
    refine g_skip ?_
    refine g_then ?_
    refine g_seq ?_
    refine g_block ?_
    refine g_seq ?_
    have hml := movN_lt n c (i + 1)
    refine g_region ?_
    refine s_y (y_move rfl) rfl rfl rfl rfl ?_
    refine s_y (y_move rfl) rfl rfl rfl rfl ?_
    refine s_y (y_move rfl) rfl rfl rfl rfl ?_
    refine s_y (y_move rfl) rfl rfl rfl rfl ?_
    refine s_tr (t_call rfl rfl ent_47 (fun w h => cmove_any w n c (i + 1) hn hn2 hc (by omega))) rfl rfl rfl rfl (fun _ _ => ?_)
    refine s_y (y_andN c (movN n c (i + 1)) rfl rfl (by rfl) (by rfl) (by omega) (by omega)) rfl rfl rfl rfl ?_
    refine s_tr (t_call rfl rfl ent_46 (fun w h => chords_count w (c &&& movN n c (i + 1)) (Nat.lt_of_le_of_lt Nat.and_le_left (by omega)))) rfl rfl rfl rfl (fun _ _ => ?_)
    refine s_y (y_assign rfl) rfl rfl rfl rfl ?_
    refine s_nil ?_
    refine g_then ?_
    refine g_seq ?_
    refine g_seq ?_
    have hb16 := bs_le 16 (c &&& movN n c (i + 1))
    refine g_region ?_
    refine s_y (y_move rfl) rfl rfl rfl rfl ?_
    refine s_y (y_mul rfl rfl (by omega) (by omega)) rfl rfl rfl rfl ?_
    refine s_y (y_move rfl) rfl rfl rfl rfl ?_
    refine s_y (y_eql rfl rfl) rfl rfl rfl rfl ?_
    refine s_nil ?_
    refine g_then ?_
    refine g_cond rfl (fun cq3 => ?_) (fun cq3 => ?_)
    · (try simp at cq3)
      refine g_region ?_
      refine s_y (y_move rfl) rfl rfl rfl rfl ?_
      refine s_y (y_quo rfl rfl (by omega) (by omega)) rfl rfl rfl rfl ?_
      refine s_y (y_assign rfl) rfl rfl rfl rfl ?_
      refine s_nil ?_
      refine g_then ?_
      refine g_region ?_
      refine s_y (y_move rfl) rfl rfl rfl rfl ?_
      refine s_y (y_move rfl) rfl rfl rfl rfl ?_
      refine s_tr (t_build (vs := [(0, .int .i64 (((bs 16 (c &&& movN n c (i + 1)) : Nat) : Int) / 2))]) (cells := [.int .i64 (((bs 16 (c &&& movN n c (i + 1)) : Nat) : Int) / 2)]) rfl rfl Try.underlying27 hi3.1 hi3.2.1 (by rw [hi3.2.2.1]; rfl) (by rw [hi3.2.2.1]; rfl) (by rw [hi3.2.2.1]; kernel_rfl)) rfl rfl rfl rfl (fun b4 hb4 => ?_)
      refine s_tr (t_appendL (enc := (Value.int .i64)) (sv := sv) (xs := zs) (n := m) (v := ((bs 16 (c &&& movN n c (i + 1)) : Nat) : Int) / 2) [_] _ rfl rfl rfl hokz Try.underlying27 hi3.1 hi3.2.1 hi3.2.2.1 hi3.2.2.2 rfl (fun w h => h.toHq.cell (i := 0) rfl rfl) rfl (by omega) (by unfold maxLen; omega)) rfl rfl rfl rfl (fun y8 hy9 => ?_)
      obtain ⟨sv5, gs6⟩ := y8
      obtain ⟨hok7, hok7b, hok7c, hok7j, hok7e⟩ := hy9
      refine s_y (y_assign rfl) rfl rfl rfl rfl ?_
      refine s_nil ?_
      refine g_inb ?_
      refine g_then ?_
      refine g_region ?_
      refine s_y (y_move rfl) rfl rfl rfl rfl ?_
      refine s_y (y_add rfl rfl (by omega) (by omega)) rfl rfl rfl rfl ?_
      refine s_y (y_assign rfl) rfl rfl rfl rfl ?_
      refine s_nil ?_
      refine g_then ?_
      exact fun act W ha hw => ⟨i + 1, by omega, by omega, sv5, (m + 1), (zs ++ [((bs 16 (c &&& movN n c (i + 1)) : Nat) : Int) / 2]), W, (by exact hok7), (by omega), (by rw [hzs, List.range_succ, List.map_append]; congr 1; rw [List.map_cons, List.map_nil]; congr 1; unfold vcN; first | (rw [if_pos (by omega)]; simp) | (rw [if_neg (by omega)])), ha.weak (sub_get ⟨rfl, rfl, rfl, rfl, rfl, trivial⟩), hw.toHq.lookSub (List.Sublist.cons _ (sub_app (sv5.mem 3 ((zs ++ [((bs 16 (c &&& movN n c (i + 1)) : Nat) : Int) / 2]).map (Value.int .i64))) (List.nil_sublist _)))⟩
    · (try simp at cq3)
      refine g_skip ?_
      refine g_then ?_
      refine g_region ?_
      refine s_y (y_move rfl) rfl rfl rfl rfl ?_
      refine s_y (y_move rfl) rfl rfl rfl rfl ?_
      refine s_tr (t_build (vs := [(0, .int .i64 ((bs 16 (c &&& movN n c (i + 1)) : Nat) : Int))]) (cells := [.int .i64 ((bs 16 (c &&& movN n c (i + 1)) : Nat) : Int)]) rfl rfl Try.underlying27 hi3.1 hi3.2.1 (by rw [hi3.2.2.1]; rfl) (by rw [hi3.2.2.1]; rfl) (by rw [hi3.2.2.1]; kernel_rfl)) rfl rfl rfl rfl (fun b10 hb10 => ?_)
      refine s_tr (t_appendL (enc := (Value.int .i64)) (sv := sv) (xs := zs) (n := m) (v := ((bs 16 (c &&& movN n c (i + 1)) : Nat) : Int)) [_] _ rfl rfl rfl hokz Try.underlying27 hi3.1 hi3.2.1 hi3.2.2.1 hi3.2.2.2 rfl (fun w h => h.toHq.cell (i := 0) rfl rfl) rfl (by omega) (by unfold maxLen; omega)) rfl rfl rfl rfl (fun y14 hy15 => ?_)
      obtain ⟨sv11, gs12⟩ := y14
      obtain ⟨hok13, hok13b, hok13c, hok13j, hok13e⟩ := hy15
      refine s_y (y_assign rfl) rfl rfl rfl rfl ?_
      refine s_nil ?_
      refine g_inb ?_
      refine g_then ?_
      refine g_region ?_
      refine s_y (y_move rfl) rfl rfl rfl rfl ?_
      refine s_y (y_add rfl rfl (by omega) (by omega)) rfl rfl rfl rfl ?_
      refine s_y (y_assign rfl) rfl rfl rfl rfl ?_
      refine s_nil ?_
      refine g_then ?_
      exact fun act W ha hw => ⟨i + 1, by omega, by omega, sv11, (m + 1), (zs ++ [((bs 16 (c &&& movN n c (i + 1)) : Nat) : Int)]), W, (by exact hok13), (by omega), (by rw [hzs, List.range_succ, List.map_append]; congr 1; rw [List.map_cons, List.map_nil]; congr 1; unfold vcN; first | (rw [if_pos (by omega)]; simp) | (rw [if_neg (by omega)])), ha.weak (sub_get ⟨rfl, rfl, rfl, rfl, rfl, trivial⟩), hw.toHq.lookSub (List.Sublist.cons _ (sub_app (sv11.mem 3 ((zs ++ [((bs 16 (c &&& movN n c (i + 1)) : Nat) : Int)]).map (Value.int .i64))) (List.nil_sublist _)))⟩
  · (try simp at cq2)
    refine g_exit ?_
    refine g_thenx ?_
    refine g_thenx ?_
    refine g_inbx ?_
    refine g_then ?_
    refine g_seq ?_
    refine g_region ?_
    refine s_y (y_move rfl) rfl rfl rfl rfl ?_
    refine s_y (y_assign rfl) rfl rfl rfl rfl ?_
    refine s_nil ?_
    refine g_then ?_
    refine g_ret ?_
    rw [show vecC n c = zs from by rw [hzs, show i = n / 2 by omega]; rfl]
    exact g_end trivial (fun a w ha hq_ => res1 ha rfl rfl  w) (fun w h => ⟨(_, sv.mem 3 (zs.map (Value.int .i64))), ⟨(OwnV.sv hokz), w, (h.hand (sub_here (sv.mem 3 (zs.map (Value.int .i64))) _)).at_⟩, rfl, h.hand (sub_here (sv.mem 3 (zs.map (Value.int .i64))) _)⟩)

theorem Vector_ok (w : World) (n c : Nat) (hn : 2 ≤ n) (hn2 : n ≤ 16) (hc : c < 2 ^ n) :
    Calls Try.prog 11 [.int .i64 (n : Int), .int .i64 (c : Int)].toArray w fun e w' => ∃ x : Value × List (Nat × Obj), (OwnV (Value.int .i64) x.1 (vecC n c) x.2 ∧ ∃ W : World, ∀ p ∈ x.2, W.heap[p.1]? = some p.2) ∧ e = .returned (.tuple #[x.1, .int .i64 0]) ∧ Hq w w x.2 w' := by
  obtain ⟨ie3, hi3⟩ := inf_3
  refine enter (N := 14) Try.func11 rfl rfl rfl ?_
  refine g_seq ?_
  refine g_region ?_
  refine s_y (y_assign rfl) rfl rfl rfl rfl ?_
  refine s_y (y_assign rfl) rfl rfl rfl rfl ?_
  refine s_nil ?_
  refine g_then ?_
  refine g_seq ?_
  refine g_seq ?_
  refine g_region ?_
  refine s_y (y_move rfl) rfl rfl rfl rfl ?_
  refine s_y (y_move rfl) rfl rfl rfl rfl ?_
  refine s_tr (t_build (vs := [(0, .int .i64 (c : Int))]) (cells := [.int .i64 (c : Int)]) rfl rfl Try.underlying27 hi3.1 hi3.2.1 (by rw [hi3.2.2.1]; rfl) (by rw [hi3.2.2.1]; rfl) (by rw [hi3.2.2.1]; kernel_rfl)) rfl rfl rfl rfl (fun bl hbl => ?_)
  refine s_tr (t_call rfl rfl ent_36 (fun w h => cvalid_t w n _ [(c : Int)] (RdV.own (enc := (Value.int .i64)) (xs := [(c : Int)]) (jk := []) (at_of (i := 0) h rfl) rfl (Nat.le_refl _)) (by simp) hn hn2 (by intro x hx; simp only [List.mem_cons, List.not_mem_nil, or_false] at hx; subst hx; exact ⟨by omega, by exact_mod_cast hc⟩))) rfl rfl rfl rfl (fun _ _ => ?_)
  refine s_y (y_not_t rfl) rfl rfl rfl rfl ?_
  refine s_nil ?_
  refine g_then ?_
  refine g_cond_f rfl ?_
  refine g_skip ?_
  refine g_then ?_
  refine g_seq ?_
  refine g_region ?_
  refine s_y (y_move rfl) rfl rfl rfl rfl ?_
  refine s_y (y_move rfl) rfl rfl rfl rfl ?_
  refine s_tr (t_callm rfl rfl ent_37 (fun w h => vector_any w n c hn hn2 hc)) rfl rfl rfl rfl (fun x2 hx3 => ?_)
  obtain ⟨vo1, mo1⟩ := x2
  obtain ⟨hOo1, hEo1⟩ := hx3
  refine s_y (y_assign rfl) rfl rfl rfl rfl ?_
  refine s_y (y_assign rfl) rfl rfl rfl rfl ?_
  refine s_nil ?_
  refine g_then ?_
  refine g_ret ?_
  exact g_end trivial (fun a w ha hq_ => res2 ha rfl rfl rfl  w) (fun w h => ⟨(_, mo1), ⟨hOo1, w, (h.hand (sub_here mo1 _)).at_⟩, rfl, h.hand (sub_here mo1 _)⟩)

theorem TopSum_ok (w : World) (n c : Nat) (hn : 2 ≤ n) (hn2 : n ≤ 16) (hc0 : 1 ≤ c) (hc : c < 2 ^ n) :
    Calls Try.prog 3 [.int .i64 (n : Int), .int .i64 (c : Int)].toArray w fun e w' => e = .returned (.bool (true)) ∧ Below w.heap.size w w' := by
  refine enter (N := 70) Try.func3 rfl rfl rfl ?_
  refine g_seq ?_
  refine g_region ?_
  refine s_y (y_assign rfl) rfl rfl rfl rfl ?_
  refine s_nil ?_
  refine g_then ?_
  refine g_seq ?_
  refine g_region ?_
  refine s_y (y_move rfl) rfl rfl rfl rfl ?_
  refine s_y (y_move rfl) rfl rfl rfl rfl ?_
  refine s_tr (t_call rfl rfl ent_8 (fun w h => Sum_ok w n c hn hn2 hc0 hc)) rfl rfl rfl rfl (fun _ _ => ?_)
  refine s_y (y_move rfl) rfl rfl rfl rfl ?_
  refine s_y (y_extract rfl rfl) rfl rfl rfl rfl ?_
  refine s_y (y_extract rfl rfl) rfl rfl rfl rfl ?_
  refine s_y (y_assign rfl) rfl rfl rfl rfl ?_
  refine s_y (y_assign rfl) rfl rfl rfl rfl ?_
  refine s_nil ?_
  refine g_then ?_
  refine g_seq ?_
  refine g_seq ?_
  refine g_region ?_
  refine s_y (y_move rfl) rfl rfl rfl rfl ?_
  refine s_y (y_neq_f rfl rfl (by decide)) rfl rfl rfl rfl ?_
  refine s_y (y_move rfl) rfl rfl rfl rfl ?_
  refine s_y (y_move rfl) rfl rfl rfl rfl ?_
  refine s_y (y_move rfl) rfl rfl rfl rfl ?_
  refine s_tr (t_call rfl rfl ent_9 (fun w h => Scale_t w n c hn hn2 hc0 hc)) rfl rfl rfl rfl (fun _ _ => ?_)
  refine s_y (y_not_t rfl) rfl rfl rfl rfl ?_
  refine s_y (y_pick_f rfl rfl) rfl rfl rfl rfl ?_
  refine s_nil ?_
  refine g_then ?_
  refine g_cond_f rfl ?_
  refine g_skip ?_
  refine g_then ?_
  refine g_seq ?_
  refine g_region ?_
  refine s_y (y_move rfl) rfl rfl rfl rfl ?_
  refine s_y (y_move rfl) rfl rfl rfl rfl ?_
  refine s_tr (t_callm rfl rfl ent_11 (fun w h => Vector_ok w n c hn hn2 hc)) rfl rfl rfl rfl (fun x2 hx3 => ?_)
  obtain ⟨vo1, mo1⟩ := x2
  obtain ⟨hOo1, hEo1⟩ := hx3
  refine s_y (y_move rfl) rfl rfl rfl rfl ?_
  refine s_y (y_extract rfl rfl) rfl rfl rfl rfl ?_
  refine s_y (y_extract rfl rfl) rfl rfl rfl rfl ?_
  refine s_y (y_assign rfl) rfl rfl rfl rfl ?_
  refine s_y (y_assign rfl) rfl rfl rfl rfl ?_
  refine s_nil ?_
  refine g_then ?_
  refine g_seq ?_
  refine g_seq ?_
  refine g_region ?_
  refine s_y (y_move rfl) rfl rfl rfl rfl ?_
  refine s_y (y_neq_f rfl rfl (by decide)) rfl rfl rfl rfl ?_
  refine s_y (y_move rfl) rfl rfl rfl rfl ?_
  refine s_y (y_move rfl) rfl rfl rfl rfl ?_
  refine s_y (y_lenV (n := ((vecC n c).length)) rfl hOo1.1 sle_27) rfl rfl rfl rfl ?_
  refine s_y (y_move rfl) rfl rfl rfl rfl ?_
  refine s_y (y_quo rfl rfl (by omega) (by omega)) rfl rfl rfl rfl ?_
  refine s_y (y_neq_f rfl rfl (by rw [vecC_len]; omega)) rfl rfl rfl rfl ?_
  refine s_y (y_pick_f rfl rfl) rfl rfl rfl rfl ?_
  refine s_nil ?_
  refine g_then ?_
  refine g_cond_f rfl ?_
  refine g_skip ?_
  refine g_then ?_
  refine g_seq ?_
  refine g_region ?_
  refine s_y (y_assign rfl) rfl rfl rfl rfl ?_
  refine s_nil ?_
  refine g_then ?_
  refine g_seq ?_
  refine g_seq ?_
  have hvl : (vecC n c).length = n / 2 := vecC_len n c
  refine g_region ?_
  refine s_y (y_move rfl) rfl rfl rfl rfl ?_
  refine s_y (y_lenV (n := ((vecC n c).length)) rfl hOo1.1 sle_27) rfl rfl rfl rfl ?_
  refine s_y (y_move rfl) rfl rfl rfl rfl ?_
  refine s_nil ?_
  refine g_then ?_
  refine g_block ?_
  refine g_loop (fun (i : Nat) act W => i ≤ n / 2 ∧ ∃ (sm : Int) (w1 : World), (sm = Sm (fun e : Nat => rdI (vecC n c) (e : Int) * ((e : Int) + 1) * ((n : Int) - e - 1)) i) ∧ (0 ≤ sm ∧ sm ≤ 1000000000000000 * (i : Int)) ∧ Has 70 [] [(0, .int .i64 (n : Int)), (4, .bool false), (5, .int .i64 (outP n (tonesL c n) (tonesL c n).length)), (8, .int .i64 sm), (45, vo1), (46, .int .i64 ((vecC n c).length : Nat)), (47, .int .i64 (i : Int))] act ∧ Hp w w1 ((mo1 ++ ([]))) W) (fun i => n / 2 - i) 0 (fun act W ha hw => ⟨by omega, 0, W, (by rfl), (by omega), ha.weak (sub_get ⟨rfl, rfl, rfl, rfl, rfl, rfl, rfl, trivial⟩), hw.toHq.lookSub (List.Sublist.refl _)⟩) ?_
  intro i act W ⟨hb_i, sm, w1, hsm, hsb, ha, hw⟩
  refine g_go ha hw ?_
  clear ha hw act W
  refine g_seq ?_
  refine g_region ?_
  refine s_y (y_lss rfl rfl) rfl rfl rfl rfl ?_
  refine s_nil ?_
  refine g_then ?_
  refine g_seq ?_
  refine g_cond rfl (fun cq4 => ?_) (fun cq4 => ?_)
  · (try simp at cq4)
    refine g_skip ?_
    refine g_then ?_
    refine g_seq ?_
    refine g_block ?_
    refine g_seq ?_
    refine g_region ?_
    refine s_y (y_move rfl) rfl rfl rfl rfl ?_
    refine s_y (y_idxO (enc := (Value.int .i64)) rfl rfl hOo1 hEo1 Try.underlying27 size_3 (by omega) (by omega)) rfl rfl rfl rfl ?_
    refine s_y (y_ldV (enc := (Value.int .i64)) (xs := vecC n c) (fun w h => (hOo1.rd fun p hp => h.at_ p (mem_al mo1 hp)).rdl) rfl agg_3 (rdI_at (by omega) (by omega))) rfl rfl rfl rfl ?_
    refine s_y (y_assign rfl) rfl rfl rfl rfl ?_
    refine s_y (y_assign rfl) rfl rfl rfl rfl ?_
    refine s_nil ?_
    refine g_then ?_
    have hvr := vecC_range (c := c) (show i < n / 2 by omega)
    have hm1 := mul_small (a := rdI (vecC n c) (i : Int)) (b := (i : Int) + 1) (by omega) (by omega) (by omega) (by omega)
    have hm1' := mulb (a := rdI (vecC n c) (i : Int)) (b := (i : Int) + 1) ⟨by omega, by omega⟩ ⟨by omega, by omega⟩
    have hm2 := mul_small (a := rdI (vecC n c) (i : Int) * ((i : Int) + 1)) (b := (n : Int) - (i : Int) - 1) (by omega) (by omega) (by omega) (by omega)
    refine g_region ?_
    refine s_y (y_move rfl) rfl rfl rfl rfl ?_
    refine s_y (y_move rfl) rfl rfl rfl rfl ?_
    refine s_y (y_move rfl) rfl rfl rfl rfl ?_
    refine s_y (y_add rfl rfl (by omega) (by omega)) rfl rfl rfl rfl ?_
    refine s_y (y_mul rfl rfl (by omega) (by omega)) rfl rfl rfl rfl ?_
    refine s_y (y_move rfl) rfl rfl rfl rfl ?_
    refine s_y (y_move rfl) rfl rfl rfl rfl ?_
    refine s_y (y_sub rfl rfl (by omega) (by omega)) rfl rfl rfl rfl ?_
    refine s_y (y_sub rfl rfl (by omega) (by omega)) rfl rfl rfl rfl ?_
    refine s_y (y_mul rfl rfl (by omega) (by omega)) rfl rfl rfl rfl ?_
    refine s_y (y_add rfl rfl (by omega) (by omega)) rfl rfl rfl rfl ?_
    refine s_y (y_assign rfl) rfl rfl rfl rfl ?_
    refine s_nil ?_
    refine g_inb ?_
    refine g_then ?_
    refine g_region ?_
    refine s_y (y_add rfl rfl (by omega) (by omega)) rfl rfl rfl rfl ?_
    refine s_y (y_move rfl) rfl rfl rfl rfl ?_
    refine s_nil ?_
    refine g_then ?_
    exact fun act W ha hw => ⟨i + 1, by omega, by omega, (sm + (((rdI (vecC n c) (i : Int)) * ((i : Int) + 1)) * (((n : Int) - (i : Int)) - 1))), W, (by rw [hsm]; rfl), (by omega), ha.weak (sub_get ⟨rfl, rfl, rfl, rfl, rfl, rfl, rfl, trivial⟩), hw.toHq.lookSub (List.Sublist.refl _)⟩
  · (try simp at cq4)
    refine g_exit ?_
    refine g_thenx ?_
    refine g_thenx ?_
    refine g_inbx ?_
    refine g_then ?_
    refine g_seq ?_
    refine g_region ?_
    refine s_y (y_move rfl) rfl rfl rfl rfl ?_
    refine s_y (y_move rfl) rfl rfl rfl rfl ?_
    refine s_y (y_eql_t rfl rfl (by rw [hsm, show i = n / 2 by omega]; exact sum_law hn hn2 hc)) rfl rfl rfl rfl ?_
    refine s_y (y_move rfl) rfl rfl rfl rfl ?_
    refine s_tr (t_call rfl rfl ent_10 (fun w h => spreads_t w)) rfl rfl rfl rfl (fun _ _ => ?_)
    refine s_y (y_pick_t rfl rfl) rfl rfl rfl rfl ?_
    refine s_y (y_assign rfl) rfl rfl rfl rfl ?_
    refine s_nil ?_
    refine g_then ?_
    refine g_ret ?_
    exact g_end trivial (fun a w ha hq_ => res1 ha rfl rfl  w) (fun w h => ⟨rfl, h.below⟩)

theorem TopSum_no (w : World) (n c : Int) (hno : ¬ (2 ≤ n ∧ n ≤ 16 ∧ 1 ≤ c ∧ c < 2 ^ n.toNat)) :
    Calls Try.prog 3 [.int .i64 n, .int .i64 c].toArray w fun e w' => e = .returned (.bool (true)) ∧ Below w.heap.size w w' := by
  refine enter (N := 70) Try.func3 rfl rfl rfl ?_
  refine g_seq ?_
  refine g_region ?_
  refine s_y (y_assign rfl) rfl rfl rfl rfl ?_
  refine s_nil ?_
  refine g_then ?_
  refine g_seq ?_
  refine g_region ?_
  refine s_y (y_move rfl) rfl rfl rfl rfl ?_
  refine s_y (y_move rfl) rfl rfl rfl rfl ?_
  refine s_tr (t_call rfl rfl ent_8 (fun w h => Sum_no w n c hno)) rfl rfl rfl rfl (fun _ _ => ?_)
  refine s_y (y_move rfl) rfl rfl rfl rfl ?_
  refine s_y (y_extract rfl rfl) rfl rfl rfl rfl ?_
  refine s_y (y_extract rfl rfl) rfl rfl rfl rfl ?_
  refine s_y (y_assign rfl) rfl rfl rfl rfl ?_
  refine s_y (y_assign rfl) rfl rfl rfl rfl ?_
  refine s_nil ?_
  refine g_then ?_
  refine g_seq ?_
  refine g_seq ?_
  refine g_region ?_
  refine s_y (y_move rfl) rfl rfl rfl rfl ?_
  refine s_y (y_neq_t rfl rfl (by decide)) rfl rfl rfl rfl ?_
  refine s_y (y_move rfl) rfl rfl rfl rfl ?_
  refine s_no rfl rfl rfl ?_
  refine s_no rfl rfl rfl ?_
  refine s_no rfl rfl rfl ?_
  refine s_no rfl rfl rfl ?_
  refine s_y (y_pick_t rfl rfl) rfl rfl rfl rfl ?_
  refine s_nil ?_
  refine g_then ?_
  refine g_cond_t rfl ?_
  refine g_seq ?_
  refine g_region ?_
  refine s_y (y_move rfl) rfl rfl rfl rfl ?_
  refine s_y (y_eql_t rfl rfl (by decide)) rfl rfl rfl rfl ?_
  refine s_y (y_move rfl) rfl rfl rfl rfl ?_
  refine s_tr (t_call rfl rfl ent_10 (fun w h => spreads_t w)) rfl rfl rfl rfl (fun _ _ => ?_)
  refine s_y (y_pick_t rfl rfl) rfl rfl rfl rfl ?_
  refine s_y (y_assign rfl) rfl rfl rfl rfl ?_
  refine s_nil ?_
  refine g_then ?_
  refine g_ret ?_
  refine g_thenr ?_
  exact g_end trivial (fun a w ha hq_ => res1 ha rfl rfl  w) (fun w h => ⟨rfl, h.below⟩)

theorem TopSum_law (w : World) (n c : Int) (_ : (Lit.int .i64 n).wf = true) (_ : (Lit.int .i64 c).wf = true) : Calls Try.prog 3 [.int .i64 n, .int .i64 c].toArray w fun e w' => e = .returned (.bool (true)) ∧ Below w.heap.size w w' := by
  by_cases h : 2 ≤ n ∧ n ≤ 16 ∧ 1 ≤ c ∧ c < 2 ^ n.toNat
  · obtain ⟨h1, h2, h3, h4⟩ := h
    obtain ⟨m, rfl⟩ := Int.eq_ofNat_of_zero_le (show 0 ≤ n by omega)
    obtain ⟨x, rfl⟩ := Int.eq_ofNat_of_zero_le (show 0 ≤ c by omega)
    rw [two_cast] at h4
    exact TopSum_ok w m x (by omega) (by omega) (by omega) (by omega)
  · exact TopSum_no w n c h

end Go.Proofs.Ytnhflahgbkmloaa
