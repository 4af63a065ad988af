/- edits: what read hands back. -/
import Derived.Test.YtnnpdgegejklpaaEdGrid
import Derived.Test.YtnnpdgegejklpaaEdC
namespace Go.Proofs.Ytnnpdgegejklpaa
open Go.RowKit Go.Sx
set_option linter.unusedVariables false
set_option linter.unusedSimpArgs false
set_option maxRecDepth 100000
set_option maxHeartbeats 4000000

def gridM (a b : ByteArray) (pi po ps : Int) (x : Nat × Nat × Nat × List Value × List Nat) : List (Nat × Obj) :=
  (x.1, gridO a b pi po ps (.slice (some ⟨x.2.1, 0, none⟩) (a.size + 1) x.2.2.1)) :: (x.2.1, .cells (x.2.2.2.2.map (rowV (b.size + 1)) ++ x.2.2.2.1).toArray 46 (0, 0)) :: rowsM (D a b pi po ps) (b.size + 1) x.2.2.2.2

private theorem agg_28 : isAggB Try.prog 28 = some true := by kernel_rfl
private theorem size_28 : (Try.prog.info? 28).map (·.size) = some 3 := by kernel_rfl
private theorem bld_99_0_1_2 (x0 : ByteArray) (x1 : ByteArray) (x2_0 : Int) (x2_1 : Int) (x2_2 : Int) (w : World) : (Instr.build 99 #[(0, (.string x0)), (1, (.string x1)), (2, (.agg #[(.int .i64 x2_0), (.int .i64 x2_1), (.int .i64 x2_2)]))]).run Try.prog w = .ok (.agg #[(.string x0), (.string x1), (.int .i64 x2_0), (.int .i64 x2_1), (.int .i64 x2_2), (.slice none 0 0)]) w := by kernel_rfl
private theorem ent_68 : Enters Try.prog 68 := enters_of Try.func68 (by kernel_rfl) rfl
private theorem ent_69 : Enters Try.prog 69 := enters_of Try.func69 (by kernel_rfl) rfl
private theorem inf_46 : ∃ ie, Try.prog.info? 46 = some ie ∧ ie.zero = some (.slice none 0 0) ∧ ie.size = 1 ∧ ie.bytes = 24 := info_of (by kernel_rfl) (by kernel_rfl)
private theorem inf_3 : ∃ ie, Try.prog.info? 3 = some ie ∧ ie.zero = some (.int .i64 0) ∧ ie.size = 1 ∧ ie.bytes = 8 := info_of (by kernel_rfl) (by kernel_rfl)
private theorem fld_99_3 (b off : Nat) (w : World) : (Instr.fieldAt 99 (.pointer (some ⟨b, off, none⟩)) 3).run Try.prog w = .ok (.pointer (some ⟨b, off + 5, none⟩)) w := by kernel_rfl
private theorem agg_66 : isAggB Try.prog 66 = some false := by kernel_rfl
private theorem size_66 : (Try.prog.info? 66).map (·.size) = some 1 := by kernel_rfl
private theorem size_46 : (Try.prog.info? 46).map (·.size) = some 1 := by kernel_rfl
private theorem agg_46 : isAggB Try.prog 46 = some false := by kernel_rfl
private theorem sle_46 : Try.prog.underlying 46 = some (.slice (Try.prog.elem 46)) := by kernel_rfl
private theorem zero_3 : (Try.prog.info? 3).bind (·.zero) = some (.int .i64 0) := by kernel_rfl
private theorem size_3 : (Try.prog.info? 3).map (·.size) = some 1 := by kernel_rfl
private theorem ent_64 : Enters Try.prog 64 := enters_of Try.func64 (by kernel_rfl) rfl
private theorem ent_88 : Enters Try.prog 88 := enters_of Try.func88 (by kernel_rfl) rfl
private theorem zero_97 : (Try.prog.info? 97).bind (·.zero) = some (.agg #[(.pointer none), (.int .i64 0), (.int .i64 0), (.int .i64 0), (.int .i64 0)]) := by kernel_rfl
private theorem size_97 : (Try.prog.info? 97).map (·.size) = some 5 := by kernel_rfl
private theorem agg_3 : isAggB Try.prog 3 = some false := by kernel_rfl
private theorem agg_97 : isAggB Try.prog 97 = some true := by kernel_rfl
private theorem ent_65 : Enters Try.prog 65 := enters_of Try.func65 (by kernel_rfl) rfl

theorem isLine_ok (w : World) (s : ByteArray) (h : (s.size : Int) ≤ 12) : Calls Try.prog 68 [.string s].toArray w fun e w' => e = .returned (.bool true) ∧ Below w.heap.size w w' := by
  have := isLine_any w s; rw [decide_eq_true h] at this; exact this
theorem valid_ok (w : World) (i o s : Int) (h : okP i o s) : Calls Try.prog 69 [.agg #[.int .i64 i, .int .i64 o, .int .i64 s]].toArray w fun e w' => e = .returned (.bool true) ∧ Below w.heap.size w w' := by
  have := valid_any w i o s; rw [decide_eq_true h] at this; exact this

theorem read_bad (w : World) (a b : ByteArray) (pi po ps : Int) (h : ¬ (a.size ≤ 12 ∧ b.size ≤ 12 ∧ okP pi po ps)) :
    Calls Try.prog 62 [.string a, .string b, .agg #[.int .i64 pi, .int .i64 po, .int .i64 ps]].toArray w fun e w' => ∃ g : Nat, e = .returned (.tuple #[.pointer (some ⟨g, 0, none⟩), .bool false]) ∧ Below w.heap.size w w' := by
  refine enter (N := 91) Try.func62 rfl rfl rfl ?_
  refine g_seq ?_
  refine g_region ?_
  refine s_tr (t_box rfl rfl) rfl rfl rfl rfl (fun b1 hb1 => ?_)
  refine s_y (y_assign rfl) rfl rfl rfl rfl ?_
  refine s_y (y_assign rfl) rfl rfl rfl rfl ?_
  refine s_nil ?_
  refine g_then ?_
  refine g_seq ?_
  refine g_region ?_
  refine s_y (y_move rfl) rfl rfl rfl rfl ?_
  refine s_y (y_move rfl) rfl rfl rfl rfl ?_
  refine s_y (y_ldn 0 rfl rfl agg_28 size_28 rfl rfl) rfl rfl rfl rfl ?_
  refine s_y (y_build (vs := [(0, _), (1, _), (2, _)]) rfl rfl (fun w => bld_99_0_1_2 _ _ _ _ _ w)) rfl rfl rfl rfl ?_
  refine s_tr (t_box rfl rfl) rfl rfl rfl rfl (fun b2 hb2 => ?_)
  refine s_y (y_assign rfl) rfl rfl rfl rfl ?_
  refine s_nil ?_
  refine g_then ?_
  refine g_seq ?_
  refine g_seq ?_
  refine g_region ?_
  refine s_y (y_move rfl) rfl rfl rfl rfl ?_
  refine s_tr (t_call rfl rfl ent_68 (fun w h => isLine_any w _)) rfl rfl rfl rfl (fun _ _ => ?_)
  refine s_y (y_not rfl) rfl rfl rfl rfl ?_
  refine s_y (y_move rfl) rfl rfl rfl rfl ?_
  refine g_bool 21 rfl (fun hq3 => ?_) (fun hq3 => ?_)
  · (try simp at hq3)
    refine s_no rfl rfl rfl ?_
    refine s_no rfl rfl rfl ?_
    refine s_no rfl rfl rfl ?_
    refine s_y (y_pick_t rfl rfl) rfl rfl rfl rfl ?_
    refine s_y (y_move rfl) rfl rfl rfl rfl ?_
    refine s_no rfl rfl rfl ?_
    refine s_no rfl rfl rfl ?_
    refine s_no rfl rfl rfl ?_
    refine s_y (y_pick_t rfl rfl) rfl rfl rfl rfl ?_
    refine s_nil ?_
    refine g_then ?_
    refine g_cond_t rfl ?_
    refine g_seq ?_
    refine g_region ?_
    refine s_y (y_move rfl) rfl rfl rfl rfl ?_
    refine s_y (y_assign rfl) rfl rfl rfl rfl ?_
    refine s_y (y_assign rfl) rfl rfl rfl rfl ?_
    refine s_nil ?_
    refine g_then ?_
    refine g_ret ?_
    refine g_thenr ?_
    exact g_end trivial (fun a w ha _ => res2 ha rfl rfl rfl w) (fun w h => ⟨_, rfl, h.below⟩)
  · (try simp at hq3)
    refine s_y (y_move rfl) rfl rfl rfl rfl ?_
    refine s_tr (t_call rfl rfl ent_68 (fun w h => isLine_any w _)) rfl rfl rfl rfl (fun _ _ => ?_)
    refine s_y (y_not rfl) rfl rfl rfl rfl ?_
    refine s_y (y_pick_f rfl rfl) rfl rfl rfl rfl ?_
    refine s_y (y_move rfl) rfl rfl rfl rfl ?_
    refine g_bool 26 rfl (fun hq4 => ?_) (fun hq4 => ?_)
    · (try simp at hq4)
      refine s_no rfl rfl rfl ?_
      refine s_no rfl rfl rfl ?_
      refine s_no rfl rfl rfl ?_
      refine s_y (y_pick_t rfl rfl) rfl rfl rfl rfl ?_
      refine s_nil ?_
      refine g_then ?_
      refine g_cond_t rfl ?_
      refine g_seq ?_
      refine g_region ?_
      refine s_y (y_move rfl) rfl rfl rfl rfl ?_
      refine s_y (y_assign rfl) rfl rfl rfl rfl ?_
      refine s_y (y_assign rfl) rfl rfl rfl rfl ?_
      refine s_nil ?_
      refine g_then ?_
      refine g_ret ?_
      refine g_thenr ?_
      exact g_end trivial (fun a w ha _ => res2 ha rfl rfl rfl w) (fun w h => ⟨_, rfl, h.below⟩)
    · (try simp at hq4)
      refine s_y (y_ldn 1 rfl rfl agg_28 size_28 rfl rfl) rfl rfl rfl rfl ?_
      refine s_tr (t_call rfl rfl ent_69 (fun w h => valid_any w _ _ _)) rfl rfl rfl rfl (fun _ _ => ?_)
      refine s_y (y_not rfl) rfl rfl rfl rfl ?_
      refine s_y (y_pick_f rfl rfl) rfl rfl rfl rfl ?_
      refine s_nil ?_
      refine g_then ?_
      refine g_cond rfl (fun hq5 => ?_) (fun hq5 => ?_)
      · (try simp at hq5)
        refine g_seq ?_
        refine g_region ?_
        refine s_y (y_move rfl) rfl rfl rfl rfl ?_
        refine s_y (y_assign rfl) rfl rfl rfl rfl ?_
        refine s_y (y_assign rfl) rfl rfl rfl rfl ?_
        refine s_nil ?_
        refine g_then ?_
        refine g_ret ?_
        refine g_thenr ?_
        exact g_end trivial (fun a w ha _ => res2 ha rfl rfl rfl w) (fun w h => ⟨_, rfl, h.below⟩)
      · (try simp at hq5)
        exact (h ⟨by omega, by omega, by assumption⟩).elim

theorem read_ok (w : World) (a b : ByteArray) (pi po ps : Int) (ha12 : a.size ≤ 12) (hb12 : b.size ≤ 12) (hp : okP pi po ps) :
    Calls Try.prog 62 [.string a, .string b, .agg #[.int .i64 pi, .int .i64 po, .int .i64 ps]].toArray w fun e w' => ∃ x : Nat × Nat × Nat × List Value × List Nat, (x.2.2.2.2.length = a.size + 1) ∧ e = .returned (.tuple #[.pointer (some ⟨x.1, 0, none⟩), .bool true]) ∧
      Hq w w (gridM a b pi po ps x) w' := by
  have hsa : (a.size : Int) ≤ 12 := by omega
  have hsb : (b.size : Int) ≤ 12 := by omega
  obtain ⟨hp1, hp2, hp3⟩ := id hp
  obtain ⟨ie46, i46, z46, s46, y46⟩ := inf_46
  obtain ⟨ie3, i3, z3, s3, y3⟩ := inf_3
  refine enter (N := 91) Try.func62 rfl rfl rfl ?_
  refine g_seq ?_
  refine g_region ?_
  refine s_tr (t_box rfl rfl) rfl rfl rfl rfl (fun b1 hb1 => ?_)
  refine s_y (y_assign rfl) rfl rfl rfl rfl ?_
  refine s_y (y_assign rfl) rfl rfl rfl rfl ?_
  refine s_nil ?_
  refine g_then ?_
  refine g_seq ?_
  refine g_region ?_
  refine s_y (y_move rfl) rfl rfl rfl rfl ?_
  refine s_y (y_move rfl) rfl rfl rfl rfl ?_
  refine s_y (y_ldn 0 rfl rfl agg_28 size_28 rfl rfl) rfl rfl rfl rfl ?_
  refine s_y (y_build (vs := [(0, _), (1, _), (2, _)]) rfl rfl (fun w => bld_99_0_1_2 _ _ _ _ _ w)) rfl rfl rfl rfl ?_
  refine s_tr (t_box rfl rfl) rfl rfl rfl rfl (fun b2 hb2 => ?_)
  refine s_y (y_assign rfl) rfl rfl rfl rfl ?_
  refine s_nil ?_
  refine g_then ?_
  refine g_seq ?_
  refine g_seq ?_
  refine g_region ?_
  refine s_y (y_move rfl) rfl rfl rfl rfl ?_
  refine s_tr (t_call rfl rfl ent_68 (fun w h => by first | exact isLine_ok w a hsa | exact isLine_ok w b hsb)) rfl rfl rfl rfl (fun _ _ => ?_)
  refine s_y (y_not_t rfl) rfl rfl rfl rfl ?_
  refine s_y (y_move rfl) rfl rfl rfl rfl ?_
  refine s_y (y_move rfl) rfl rfl rfl rfl ?_
  refine s_tr (t_call rfl rfl ent_68 (fun w h => by first | exact isLine_ok w a hsa | exact isLine_ok w b hsb)) rfl rfl rfl rfl (fun _ _ => ?_)
  refine s_y (y_not_t rfl) rfl rfl rfl rfl ?_
  refine s_y (y_pick_f rfl rfl) rfl rfl rfl rfl ?_
  refine s_y (y_move rfl) rfl rfl rfl rfl ?_
  refine s_y (y_ldn 1 rfl rfl agg_28 size_28 rfl rfl) rfl rfl rfl rfl ?_
  refine s_tr (t_call rfl rfl ent_69 (fun w h => valid_ok w pi po ps hp)) rfl rfl rfl rfl (fun _ _ => ?_)
  refine s_y (y_not_t rfl) rfl rfl rfl rfl ?_
  refine s_y (y_pick_f rfl rfl) rfl rfl rfl rfl ?_
  refine s_nil ?_
  refine g_then ?_
  refine g_cond_f rfl ?_
  refine g_skip ?_
  refine g_then ?_
  refine g_seq ?_
  refine g_seq ?_
  refine g_region ?_
  refine s_y (y_move rfl) rfl rfl rfl rfl ?_
  refine s_y (y_lens rfl Try.underlying9) rfl rfl rfl rfl ?_
  refine s_y (y_add rfl rfl (by omega) (by omega)) rfl rfl rfl rfl ?_
  refine s_y (y_move rfl) rfl rfl rfl rfl ?_
  refine s_nil ?_
  refine g_then ?_
  refine g_block ?_
  refine g_loop (fun (i : Nat) act W => i ≤ a.size + 1 ∧ ∃ (ds : List Deferred) (w1 : World) (sv : SV) (Bs : List Nat), Bs.length = i ∧ Marks w w1 ds ∧ sv.ok 1 i (Bs.map (rowV (b.size + 1))) ∧
      Has 91 ds [(35, .int .i64 i), (34, .int .i64 ((a.size : Int) + 1)), (8, .pointer (some ⟨b2, 0, none⟩)), (1, .string b), (0, .string a)] act ∧
      Hp w w1 ((b2, gridO a b pi po ps (sv.val i)) :: (sv.mem 46 (Bs.map (rowV (b.size + 1))) ++ rowsM (D a b pi po ps) (b.size + 1) Bs)) W) (fun i => a.size + 1 - i) 0 (fun act W ha hw => ⟨Nat.zero_le _, [], W, .nil, [], rfl, trivial, ⟨rfl, rfl⟩, ha.weak (sub_get ⟨rfl, rfl, rfl, rfl, rfl, trivial⟩), hw.toHq.lookSub (List.Sublist.cons_cons _ (List.nil_sublist _))⟩) ?_
  intro i act W ⟨hi, ds, w1, sv, Bs, hBs, hM, hok, ha, hw⟩
  refine g_go ha hw ?_
  clear ha hw act W
  refine g_seq ?_
  refine g_region ?_
  refine s_y (y_lss rfl rfl) rfl rfl rfl rfl ?_
  refine s_nil ?_
  refine g_then ?_
  refine g_seq ?_
  refine g_cond rfl (fun hq3 => ?_) (fun hq3 => ?_)
  · (try simp at hq3)
    refine g_skip ?_
    refine g_then ?_
    refine g_seq ?_
    refine g_block ?_
    refine g_seq ?_
    refine g_region ?_
    refine s_y (y_move rfl) rfl rfl rfl rfl ?_
    refine s_y (y_assign rfl) rfl rfl rfl rfl ?_
    refine s_nil ?_
    refine g_then ?_
    refine g_seq ?_
    refine g_draw 10 (by kernel_rfl) ?_
    refine j_p (i := 0) rfl (y_move rfl) (by kernel_rfl) (by kernel_rfl) (by kernel_rfl) rfl rfl rfl rfl rfl (.inr (fun _ h => h)) ?_
    refine j_p (i := 1) rfl (y_move rfl) (by kernel_rfl) (by kernel_rfl) (by kernel_rfl) rfl rfl rfl rfl rfl (.inr (fun _ h => h)) ?_
    refine j_p (i := 2) rfl (y_nil rfl) (by kernel_rfl) (by kernel_rfl) (by kernel_rfl) rfl rfl rfl rfl rfl (.inr (fun _ h => h)) ?_
    refine j_p (i := 3) rfl (y_fld rfl (fun w => fld_99_3 _ _ w)) (by kernel_rfl) (by kernel_rfl) (by kernel_rfl) rfl rfl rfl rfl rfl (.inr (fun _ h => h)) ?_
    refine j_l (i := 4) rfl (y_ld1 0 rfl rfl agg_66 rfl) (by kernel_rfl) (by kernel_rfl) (by kernel_rfl) (by kernel_rfl) rfl rfl rfl rfl rfl (.inr (fun _ h => h)) ?_
    refine j_p (i := 5) rfl (y_move rfl) (by kernel_rfl) (by kernel_rfl) (by kernel_rfl) rfl rfl rfl rfl rfl (.inr (fun _ h => h)) ?_
    refine j_p (i := 6) rfl (y_lens rfl Try.underlying9) (by kernel_rfl) (by kernel_rfl) (by kernel_rfl) rfl rfl rfl rfl rfl (.inr (fun _ h => h)) ?_
    refine j_p (i := 7) rfl (y_add rfl rfl (by omega) (by omega)) (by kernel_rfl) (by kernel_rfl) (by kernel_rfl) rfl rfl rfl rfl rfl (.inr (fun _ h => h)) ?_
    refine j_tr (i := 8) rfl (t_make (n := b.size + 1) rfl Try.underlying46 i3 z3 s3 rfl (by rw [y3]; omega) (by omega)) (by kernel_rfl) rfl rfl rfl rfl (.inr (fun x w hb h => (h.tail hb.2))) (fun bR hbR => ?_)
    refine j_tr (i := 9) rfl (t_build (vs := [(0, rowV (b.size + 1) bR)]) (cells := [rowV (b.size + 1) bR]) rfl rfl Try.underlying66 i46 z46 (by rw [s46]; rfl) (by rw [s46]; rfl) (by rw [s46]; kernel_rfl)) (by kernel_rfl) rfl rfl rfl rfl (.inr (fun x w hb h => ((h.tail hb.2).tail hbR.2))) (fun bB hbB => ?_)
    refine j_tr (i := 10) rfl (t_append (sv := sv) (n := i) (xs := Bs.map (rowV (b.size + 1))) (news := [rowV (b.size + 1) bR]) [_, _, _] _ rfl rfl rfl hok Try.underlying66 i46 z46 s46 y46 rfl (by decide) (fun w h j u hj => match j, hj with | 0, hj => by cases hj; exact h.toHq.cell (i := 0) rfl rfl | j + 1, hj => by simp at hj) rfl rfl (by decide) (by omega) (by unfold maxLen; omega)) (by kernel_rfl) rfl rfl rfl rfl (.inl rfl) (fun y hy => ?_)
    obtain ⟨sv2, gs⟩ := y
    obtain ⟨hok2, bb, cap, jk, hsv⟩ := hy
    have hsv2 : sv2 = .own bb cap jk := hsv
    subst hsv2
    clear hsv
    have cr : ((Bs.map (rowV (b.size + 1)) ++ [rowV (b.size + 1) bR]) ++ jk)[((i : Nat) : Int).toNat]? = some (rowV (b.size + 1) bR) := by simp [hBs]
    refine j_p (i := 11) rfl (y_nil rfl) (by kernel_rfl) (by kernel_rfl) (by kernel_rfl) rfl rfl rfl rfl rfl (.inl rfl) ?_
    refine j_p (i := 12) rfl (y_fld rfl (fun w => fld_99_3 _ _ w)) (by kernel_rfl) (by kernel_rfl) (by kernel_rfl) rfl rfl rfl rfl rfl (.inl rfl) ?_
    refine j_tr0 (i := 13) rfl (t_store 2 rfl rfl rfl rfl size_66 rfl rfl) (by kernel_rfl) rfl rfl rfl (.inl rfl) (fun _ _ => ?_)
    refine j_nil (by kernel_rfl) ?_
    refine g_then ?_
    refine g_seq ?_
    refine g_region ?_
    refine s_y (y_move rfl) rfl rfl rfl rfl ?_
    refine s_y (y_nil rfl) rfl rfl rfl rfl ?_
    refine s_y (y_fld rfl (fun w => fld_99_3 _ _ w)) rfl rfl rfl rfl ?_
    refine s_y (y_ld1 2 rfl rfl agg_66 rfl) rfl rfl rfl rfl ?_
    refine s_y (y_move rfl) rfl rfl rfl rfl ?_
    refine s_y (y_idxb1 rfl rfl Try.underlying66 size_46 (by omega) (by omega)) rfl rfl rfl rfl ?_
    refine s_y (y_ld1 3 rfl rfl agg_46 cr) rfl rfl rfl rfl ?_
    refine s_y (y_lensl rfl sle_46) rfl rfl rfl rfl ?_
    refine s_y (y_move rfl) rfl rfl rfl rfl ?_
    refine s_nil ?_
    refine g_then ?_
    refine g_block ?_
    refine g_loop (fun (j : Nat) act W => j ≤ b.size + 1 ∧ ∃ (ds : List Deferred) (w1 : World), Marks w w1 ds ∧
      Has 91 ds [(59, .int .i64 j), (58, .int .i64 (b.size + 1 : Nat)), (9, .int .i64 i), (35, .int .i64 i), (34, .int .i64 ((a.size : Int) + 1)), (8, .pointer (some ⟨b2, 0, none⟩)), (1, .string b), (0, .string a)] act ∧
      Hp w w1 ((bR, rowO (curRow (D a b pi po ps) (b.size + 1) i j)) :: (b2, gridO a b pi po ps (.slice (some ⟨bb, 0, none⟩) (i + 1) cap)) :: (bb, .cells ((Bs.map (rowV (b.size + 1)) ++ [rowV (b.size + 1) bR]) ++ jk).toArray 46 (0, 0)) :: rowsM (D a b pi po ps) (b.size + 1) Bs) W) (fun j => b.size + 1 - j) 0 (fun act W ha hw => ⟨Nat.zero_le _, _, W, hM.look hw.marks, ha.weak (sub_get ⟨rfl, rfl, rfl, rfl, rfl, rfl, rfl, rfl, trivial⟩), ?h0⟩) ?_
    case h0 =>
      rw [show rowO (curRow (D a b pi po ps) (b.size + 1) i 0) = .cells (List.replicate (b.size + 1) (.int .i64 0)).toArray 3 (0, 0) from by rw [curRow_zero, rowO, List.map_replicate]]
      exact hw.toHq.lookSub (List.Sublist.cons _ (List.Sublist.cons_cons _ (List.Sublist.cons_cons _ (List.Sublist.cons_cons _ (List.sublist_append_right gs _)))))
    intro j act W ⟨hj, ds, w1, hM, ha, hw⟩
    refine g_go ha hw ?_
    clear ha hw act W
    refine g_seq ?_
    refine g_region ?_
    refine s_y (y_lss rfl rfl) rfl rfl rfl rfl ?_
    refine s_nil ?_
    refine g_then ?_
    refine g_seq ?_
    refine g_cond rfl (fun hq4 => ?_) (fun hq4 => ?_)
    · (try simp at hq4)
      refine g_skip ?_
      refine g_then ?_
      refine g_seq ?_
      refine g_block ?_
      refine g_seq ?_
      refine g_region ?_
      refine s_y (y_move rfl) rfl rfl rfl rfl ?_
      refine s_y (y_assign rfl) rfl rfl rfl rfl ?_
      refine s_nil ?_
      refine g_then ?_
      refine g_seq ?_
      refine g_region ?_
      refine s_tr (t_alloc zero_3 rfl) rfl rfl rfl rfl (fun be hbe => ?_)
      refine s_tr0 (t_store 0 rfl rfl rfl rfl size_3 rfl rfl) rfl rfl rfl (fun _ _ => ?_)
      refine s_nil ?_
      refine g_then ?_
      refine g_seq ?_
      refine g_seq ?_
      refine g_region ?_
      refine s_y (y_move rfl) rfl rfl rfl rfl ?_
      refine s_y (y_move rfl) rfl rfl rfl rfl ?_
      refine s_y (y_move rfl) rfl rfl rfl rfl ?_
      refine s_tr (t_callm (A := fun _ => True) rfl rfl ent_64 (fun w h => (into_any w _ _ _).mono fun e w' ⟨x, h1, h2⟩ => ⟨x, trivial, h1, h2⟩)) rfl rfl rfl rfl (fun x _ => ?_)
      obtain ⟨bi, bj, bg⟩ := x
      refine s_nil ?_
      refine g_then ?_
      refine g_block ?_
      refine g_range (gf := 88) (lb := [.pointer (some ⟨bi, 0, none⟩), .pointer (some ⟨bj, 0, none⟩), .pointer (some ⟨bg, 0, none⟩)]) (encs := edgeV b2) (xs := (edges a b i j)) rfl ent_88 (fun _ => rfl) (by decide) (fun _ W => GridS b2 bg bi bj a b i j W)
        (fun k m' => m' = ((bj, .cells [.int .i64 (j : Int)].toArray 3 (0, 0)) :: (bi, .cells [.int .i64 (i : Int)].toArray 3 (0, 0)) :: (bg, .cells [.pointer (some ⟨b2, 0, none⟩)].toArray 89 (0, 0)) :: (be, .cells [.int .i64 (bestF (edgeC a b pi po ps) ((edges a b i j).take k))].toArray 3 (0, 0)) :: (bR, rowO (curRow (D a b pi po ps) (b.size + 1) i j)) :: (b2, gridO a b pi po ps (.slice (some ⟨bb, 0, none⟩) (i + 1) cap)) :: (bb, .cells ((Bs.map (rowV (b.size + 1)) ++ [rowV (b.size + 1) bR]) ++ jk).toArray 46 (0, 0)) :: rowsM (D a b pi po ps) (b.size + 1) Bs)) (fun _ _ _ => False)
        (fun we _ => into_iter b2 bg bi bj a b i j (by omega) (by omega) (by omega) (by omega) (by omega) (by omega))
        (by rintro we k _ W _ rfl h; exact ⟨(h.at_ _ (List.mem_of_getElem? (i := 1) rfl)), (h.at_ _ (List.mem_of_getElem? (i := 0) rfl)), (h.at_ _ (List.mem_of_getElem? (i := 2) rfl)), _, _, _, _, (h.at_ _ (List.mem_of_getElem? (i := 5) rfl))⟩) (by show _ = _; rw [List.take_zero]; rfl) ?hr ?hd (fun _ _ _ _ _ _ _ h => h.elim)
      case hr =>
        rintro we W1 hwe lp k x _ hx rfl hq K hK
        have hxm : x ∈ (edges a b i j) := List.mem_of_getElem? hx
        have hbs := bestF_snoc (edgeC a b pi po ps) _ _ _ hx
        refine g_region ?_
        refine s_tr (t_alloc zero_97 rfl) rfl rfl rfl rfl (fun eb heb => ?_)
        refine s_tr0 (t_store 0 rfl rfl rfl rfl size_97 rfl rfl) rfl rfl rfl (fun _ _ => ?_)
        refine s_nil ?_
        refine g_then ?_
        refine hK _ _ (fun W2 hW2 => ?_)
        refine g_block ?_
        refine g_seq ?_
        refine g_draw 8 (by kernel_rfl) ?_
        refine j_l (i := 0) rfl (y_ld1 4 rfl rfl agg_3 rfl) (by kernel_rfl) (by kernel_rfl) (by kernel_rfl) (by kernel_rfl) rfl rfl rfl rfl rfl (.inr (fun _ h => h)) ?_
        refine j_p (i := 1) rfl (y_lss rfl rfl) (by kernel_rfl) (by kernel_rfl) (by kernel_rfl) rfl rfl rfl rfl rfl (.inr (fun _ h => h)) ?_
        refine j_p (i := 2) rfl (y_move rfl) (by kernel_rfl) (by kernel_rfl) (by kernel_rfl) rfl rfl rfl rfl rfl (.inr (fun _ h => h)) ?_
        refine g_bool 69 rfl (fun hq5 => ?_) (fun hq5 => ?_)
        · (try simp at hq5)
          refine j_no (i := 3) rfl (by kernel_rfl) (by kernel_rfl) (by kernel_rfl) rfl rfl rfl rfl rfl (.inr (fun _ h => h)) ?_
          refine j_no (i := 4) rfl (by kernel_rfl) (by kernel_rfl) (by kernel_rfl) rfl rfl rfl rfl rfl (.inr (fun _ h => h)) ?_
          refine j_no (i := 5) rfl (by kernel_rfl) (by kernel_rfl) (by kernel_rfl) rfl rfl rfl rfl rfl (.inr (fun _ h => h)) ?_
          refine j_no (i := 6) rfl (by kernel_rfl) (by kernel_rfl) (by kernel_rfl) rfl rfl rfl rfl rfl (.inr (fun _ h => h)) ?_
          refine j_p (i := 7) rfl (y_pick_t rfl rfl) (by kernel_rfl) (by kernel_rfl) (by kernel_rfl) rfl rfl rfl rfl rfl (.inr (fun _ h => h)) ?_
          refine j_nil (by kernel_rfl) ?_
          refine g_then ?_
          refine g_cond_t rfl ?_
          refine g_region ?_
          refine s_y (y_ldn 0 rfl rfl agg_97 size_97 rfl rfl) rfl rfl rfl rfl ?_
          refine s_tr (t_call rfl rfl ent_65 (fun w h => cost_edge (gridAt_of hBs (by omega) (h.at_ _ (List.mem_of_getElem? (i := 6) rfl)) (h.at_ _ (List.mem_of_getElem? (i := 7) rfl)) (h.at_ _ (List.mem_of_getElem? (i := 5) rfl)) (fun p hp => h.at_ p (List.mem_append_right [_, _, _, _, _, _, _, _] hp))) hp1 hp2 hp3 (by omega) (by omega) (by omega) hxm)) rfl rfl rfl rfl (fun _ _ => ?_)
          refine s_tr0 (t_store 4 rfl rfl rfl rfl size_3 rfl rfl) rfl rfl rfl (fun _ _ => ?_)
          refine s_nil ?_
          refine g_inb ?_
          refine fun act W _ hW => ⟨fun k o h ho => hW.marks k o h ho, _, ?_, (hq.round hW2 hW (fun x hx => List.mem_cons_of_mem _ hx) (fun x hx => hx)).tail (Nat.le_trans hq.size heb.2)⟩
          show _ = _
          first | (rw [hbs, if_pos (by omega)]; first | done | rfl) | (rw [hbs, if_neg (by omega)]; first | done | rfl)
        · (try simp at hq5)
          refine j_l (i := 3) rfl (y_ldn 0 rfl rfl agg_97 size_97 rfl rfl) (by kernel_rfl) (by kernel_rfl) (by kernel_rfl) (by kernel_rfl) rfl rfl rfl rfl rfl (.inr (fun _ h => h)) ?_
          refine j_l (i := 5) rfl (y_ld1 4 rfl rfl agg_3 rfl) (by kernel_rfl) (by kernel_rfl) (by kernel_rfl) (by kernel_rfl) rfl rfl rfl rfl rfl (.inr (fun _ h => h)) ?_
          refine j_tr (i := 4) rfl (t_call rfl rfl ent_65 (fun w h => cost_edge (gridAt_of hBs (by omega) (h.at_ _ (List.mem_of_getElem? (i := 6) rfl)) (h.at_ _ (List.mem_of_getElem? (i := 7) rfl)) (h.at_ _ (List.mem_of_getElem? (i := 5) rfl)) (fun p hp => h.at_ p (List.mem_append_right [_, _, _, _, _, _, _, _] hp))) hp1 hp2 hp3 (by omega) (by omega) (by omega) hxm)) (by kernel_rfl) rfl rfl rfl rfl (.inr (fun x w hb h => h)) (fun _ _ => ?_)
          refine j_p (i := 6) rfl (y_lss rfl rfl) (by kernel_rfl) (by kernel_rfl) (by kernel_rfl) rfl rfl rfl rfl rfl (.inr (fun _ h => h)) ?_
          refine j_p (i := 7) rfl (y_pick_f rfl rfl) (by kernel_rfl) (by kernel_rfl) (by kernel_rfl) rfl rfl rfl rfl rfl (.inr (fun _ h => h)) ?_
          refine j_nil (by kernel_rfl) ?_
          refine g_then ?_
          refine g_cond rfl (fun hq6 => ?_) (fun hq6 => ?_)
          · (try simp at hq6)
            refine g_region ?_
            refine s_y (y_ldn 0 rfl rfl agg_97 size_97 rfl rfl) rfl rfl rfl rfl ?_
            refine s_tr (t_call rfl rfl ent_65 (fun w h => cost_edge (gridAt_of hBs (by omega) (h.at_ _ (List.mem_of_getElem? (i := 6) rfl)) (h.at_ _ (List.mem_of_getElem? (i := 7) rfl)) (h.at_ _ (List.mem_of_getElem? (i := 5) rfl)) (fun p hp => h.at_ p (List.mem_append_right [_, _, _, _, _, _, _, _] hp))) hp1 hp2 hp3 (by omega) (by omega) (by omega) hxm)) rfl rfl rfl rfl (fun _ _ => ?_)
            refine s_tr0 (t_store 4 rfl rfl rfl rfl size_3 rfl rfl) rfl rfl rfl (fun _ _ => ?_)
            refine s_nil ?_
            refine g_inb ?_
            refine fun act W _ hW => ⟨fun k o h ho => hW.marks k o h ho, _, ?_, (hq.round hW2 hW (fun x hx => List.mem_cons_of_mem _ hx) (fun x hx => hx)).tail (Nat.le_trans hq.size heb.2)⟩
            show _ = _
            first | (rw [hbs, if_pos (by omega)]; first | done | rfl) | (rw [hbs, if_neg (by omega)]; first | done | rfl)
          · (try simp at hq6)
            refine g_skip ?_
            refine g_inb ?_
            refine fun act W _ hW => ⟨fun k o h ho => hW.marks k o h ho, _, ?_, (hq.round hW2 hW (fun x hx => List.mem_cons_of_mem _ hx) (fun x hx => hx)).tail (Nat.le_trans hq.size heb.2)⟩
            show _ = _
            first | (rw [hbs, if_pos (by omega)]; first | done | rfl) | (rw [hbs, if_neg (by omega)]; first | done | rfl)
      rintro we W Dm _ hwe rfl hq hD hW hbk
      have hM2 := hM.next hwe hbk hD hW
      rw [List.take_length]
      have hbest : (if 0 > bestF (edgeC a b pi po ps) (edges a b i j) then 0 else bestF (edgeC a b pi po ps) (edges a b i j)) = D a b pi po ps i j := by rw [← best_edges a b hp1 hp2 hp3 i j]; split <;> omega
      have hbl : ∀ v : Int, Nat.ble (((j : Nat) : Int).toNat + [Value.int .i64 v].length) ((curRow (D a b pi po ps) (b.size + 1) i j).map (Value.int .i64)).length = true := fun v => by rw [List.length_map, curRow_len _ _ _ _ (by omega)]; exact Nat.ble_eq_true_of_le (by simp; omega)
      refine g_inb ?_
      refine g_then ?_
      refine g_draw 11 (by kernel_rfl) ?_
      refine j_p (i := 0) rfl (y_move rfl) (by kernel_rfl) (by kernel_rfl) (by kernel_rfl) rfl rfl rfl rfl rfl (.inr (fun _ h => h)) ?_
      refine j_p (i := 1) rfl (y_nil rfl) (by kernel_rfl) (by kernel_rfl) (by kernel_rfl) rfl rfl rfl rfl rfl (.inr (fun _ h => h)) ?_
      refine j_p (i := 2) rfl (y_fld rfl (fun w => fld_99_3 _ _ w)) (by kernel_rfl) (by kernel_rfl) (by kernel_rfl) rfl rfl rfl rfl rfl (.inr (fun _ h => h)) ?_
      refine j_l (i := 3) rfl (y_ld1 5 rfl rfl agg_66 rfl) (by kernel_rfl) (by kernel_rfl) (by kernel_rfl) (by kernel_rfl) rfl rfl rfl rfl rfl (.inr (fun _ h => h)) ?_
      refine j_p (i := 4) rfl (y_move rfl) (by kernel_rfl) (by kernel_rfl) (by kernel_rfl) rfl rfl rfl rfl rfl (.inr (fun _ h => h)) ?_
      refine j_p (i := 5) rfl (y_idxb1 rfl rfl Try.underlying66 size_46 (by omega) (by omega)) (by kernel_rfl) (by kernel_rfl) (by kernel_rfl) rfl rfl rfl rfl rfl (.inr (fun _ h => h)) ?_
      refine j_l (i := 6) rfl (y_ld1 6 rfl rfl agg_46 cr) (by kernel_rfl) (by kernel_rfl) (by kernel_rfl) (by kernel_rfl) rfl rfl rfl rfl rfl (.inr (fun _ h => h)) ?_
      refine j_p (i := 7) rfl (y_move rfl) (by kernel_rfl) (by kernel_rfl) (by kernel_rfl) rfl rfl rfl rfl rfl (.inr (fun _ h => h)) ?_
      refine j_l (i := 8) rfl (y_ld1 3 rfl rfl agg_3 rfl) (by kernel_rfl) (by kernel_rfl) (by kernel_rfl) (by kernel_rfl) rfl rfl rfl rfl rfl (.inr (fun _ h => h)) ?_
      refine j_p (i := 9) rfl (y_max rfl rfl) (by kernel_rfl) (by kernel_rfl) (by kernel_rfl) rfl rfl rfl rfl rfl (.inr (fun _ h => h)) ?_
      refine j_p (i := 10) rfl (y_idxb1 rfl rfl Try.underlying46 size_3 (by omega) (by omega)) (by kernel_rfl) (by kernel_rfl) (by kernel_rfl) rfl rfl rfl rfl rfl (.inr (fun _ h => h)) ?_
      refine j_tr0 (i := 11) rfl (t_store 4 rfl rfl rfl rfl size_3 (hbl _) rfl) (by kernel_rfl) rfl rfl rfl (.inl rfl) (fun _ _ => ?_)
      refine j_nil (by kernel_rfl) ?_
      refine g_inb ?_
      refine g_then ?_
      refine g_region ?_
      refine s_y (y_add rfl rfl (by omega) (by omega)) rfl rfl rfl rfl ?_
      refine s_y (y_move rfl) rfl rfl rfl rfl ?_
      refine s_nil ?_
      refine g_then ?_
      refine fun act W ha hw => ⟨j + 1, by omega, by omega, _, W, hM2.look hw.marks, ha.weak (sub_get ⟨rfl, rfl, rfl, rfl, rfl, rfl, rfl, rfl, trivial⟩), ?_⟩
      rw [show rowO (curRow (D a b pi po ps) (b.size + 1) i (j + 1)) = .cells (setCs ((curRow (D a b pi po ps) (b.size + 1) i j).map (Value.int .i64)) ((j : Nat) : Int).toNat [.int .i64 _]).toArray 3 (0, 0) from by rw [row_store _ _ _ _ _ (by omega) hbest]; try rfl]
      exact hw.toHq.lookSub (List.Sublist.cons _ (List.Sublist.cons _ (List.Sublist.cons _ (List.Sublist.cons _ (List.Sublist.refl _)))))
    · (try simp at hq4)
      refine g_exit ?_
      refine g_thenx ?_
      refine g_thenx ?_
      refine g_inbx ?_
      refine g_inb ?_
      refine g_then ?_
      refine g_region ?_
      refine s_y (y_add rfl rfl (by omega) (by omega)) rfl rfl rfl rfl ?_
      refine s_y (y_move rfl) rfl rfl rfl rfl ?_
      refine s_nil ?_
      refine g_then ?_
      exact fun act W ha hw => ⟨i + 1, by omega, by omega, _, _, .own bb cap jk, Bs ++ [bR], by simp [hBs], hM, by rw [List.map_append]; exact hok2, ha.weak (sub_get ⟨rfl, rfl, rfl, rfl, rfl, trivial⟩), by
        have hj : j = b.size + 1 := by omega
        subst hj
        rw [rowsM_snoc, List.map_append, hBs, ← curRow_full]
        exact Hp.perm hw (List.perm_append_comm (l₁ := [_]) (l₂ := _ :: _ :: _))⟩
  · (try simp at hq3)
    refine g_exit ?_
    refine g_thenx ?_
    refine g_thenx ?_
    refine g_inbx ?_
    refine g_then ?_
    refine g_seq ?_
    refine g_region ?_
    refine s_y (y_move rfl) rfl rfl rfl rfl ?_
    refine s_y (y_assign rfl) rfl rfl rfl rfl ?_
    refine s_y (y_assign rfl) rfl rfl rfl rfl ?_
    refine s_nil ?_
    refine g_then ?_
    refine g_ret ?_
    refine g_end hM (fun a w ha _ => res2 ha rfl rfl rfl w) (fun w h => ?_)
    have hin : i = a.size + 1 := by omega
    subst hin
    cases sv with
    | nil => exact absurd hok.1 (by omega)
    | own bb cap jk => exact ⟨(b2, bb, cap, jk, Bs), hBs, rfl, h.base⟩

end Go.Proofs.Ytnnpdgegejklpaa
