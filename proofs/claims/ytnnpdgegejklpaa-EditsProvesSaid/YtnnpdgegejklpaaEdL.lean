/- edits: Script. -/
import Derived.Test.YtnnpdgegejklpaaEdK
import Derived.Test.YtnnpdgegejklpaaEdH
namespace Go.Proofs.Ytnnpdgegejklpaa
open Go.RowKit Go.Sx 
set_option linter.unusedVariables false
set_option linter.unusedSimpArgs false
set_option maxRecDepth 100000
set_option maxHeartbeats 4000000

private theorem agg_28 : isAggB Try.prog 28 = some true := by kernel_rfl
private theorem size_28 : (Try.prog.info? 28).map (·.size) = some 3 := by kernel_rfl
private theorem ent_62 : Enters Try.prog 62 := enters_of Try.func62 (by kernel_rfl) rfl
private theorem zero_89 : (Try.prog.info? 89).bind (·.zero) = some (.pointer none) := by kernel_rfl
private theorem size_89 : (Try.prog.info? 89).map (·.size) = some 1 := by kernel_rfl
private theorem zero_38 : (Try.prog.info? 38).bind (·.zero) = some (.slice none 0 0) := by kernel_rfl
private theorem zero_3 : (Try.prog.info? 3).bind (·.zero) = some (.int .i64 0) := by kernel_rfl
private theorem size_3 : (Try.prog.info? 3).map (·.size) = some 1 := by kernel_rfl
private theorem agg_3 : isAggB Try.prog 3 = some false := by kernel_rfl
private theorem agg_89 : isAggB Try.prog 89 = some false := by kernel_rfl
private theorem ent_64 : Enters Try.prog 64 := enters_of Try.func64 (by kernel_rfl) rfl
private theorem ent_88 : Enters Try.prog 88 := enters_of Try.func88 (by kernel_rfl) rfl
private theorem zero_97 : (Try.prog.info? 97).bind (·.zero) = some (.agg #[(.pointer none), (.int .i64 0), (.int .i64 0), (.int .i64 0), (.int .i64 0)]) := by kernel_rfl
private theorem size_97 : (Try.prog.info? 97).map (·.size) = some 5 := by kernel_rfl
private theorem agg_97 : isAggB Try.prog 97 = some true := by kernel_rfl
private theorem fld_99_3 (b off : Nat) (w : World) : (Instr.fieldAt 99 (.pointer (some ⟨b, off, none⟩)) 3).run Try.prog w = .ok (.pointer (some ⟨b, off + 5, none⟩)) w := by kernel_rfl
private theorem agg_66 : isAggB Try.prog 66 = some false := by kernel_rfl
private theorem size_46 : (Try.prog.info? 46).map (·.size) = some 1 := by kernel_rfl
private theorem agg_46 : isAggB Try.prog 46 = some false := by kernel_rfl
private theorem ent_65 : Enters Try.prog 65 := enters_of Try.func65 (by kernel_rfl) rfl
private theorem agg_38 : isAggB Try.prog 38 = some false := by kernel_rfl
private theorem fld_97_3 (b off : Nat) (w : World) : (Instr.fieldAt 97 (.pointer (some ⟨b, off, none⟩)) 3).run Try.prog w = .ok (.pointer (some ⟨b, off + 3, none⟩)) w := by kernel_rfl
private theorem agg_88 : isAggB Try.prog 88 = some true := by kernel_rfl
private theorem size_88 : (Try.prog.info? 88).map (·.size) = some 2 := by kernel_rfl
private theorem inf_88 : ∃ ie, Try.prog.info? 88 = some ie ∧ ie.zero = some (.agg #[(.int .i64 0), (.int .i64 0)]) ∧ ie.size = 2 ∧ ie.bytes = 16 := info_of (by kernel_rfl) (by kernel_rfl)
private theorem size_38 : (Try.prog.info? 38).map (·.size) = some 1 := by kernel_rfl
private theorem fld_97_1 (b off : Nat) (w : World) : (Instr.fieldAt 97 (.pointer (some ⟨b, off, none⟩)) 1).run Try.prog w = .ok (.pointer (some ⟨b, off + 1, none⟩)) w := by kernel_rfl
private theorem fld_97_2 (b off : Nat) (w : World) : (Instr.fieldAt 97 (.pointer (some ⟨b, off, none⟩)) 2).run Try.prog w = .ok (.pointer (some ⟨b, off + 2, none⟩)) w := by kernel_rfl
private theorem ent_67 : Enters Try.prog 67 := enters_of Try.func67 (by kernel_rfl) rfl

theorem Script_ok (w : World) (a b : ByteArray) (pi po ps : Int) (ha12 : a.size ≤ 12) (hb12 : b.size ≤ 12) (hok : okP pi po ps) :
    Calls Try.prog 27 [.string a, .string b, .agg #[.int .i64 pi, .int .i64 po, .int .i64 ps]].toArray w fun e w' => ∃ s : List (Int × Int), (s.length ≤ 24 ∧ runE a pi po ps st0 s = some (firstB b b.size, D a b pi po ps a.size b.size, a.size)) ∧ ∃ x : Value × List (Nat × Obj), (OwnP x.1 s x.2 ∧ ∃ W : World, ∀ p ∈ x.2, W.heap[p.1]? = some p.2) ∧ e = .returned (.tuple #[x.1, .int .i64 0]) ∧ Hq w w x.2 w' := by
  have hM : Marks w w [] := trivial
  have hp1 := hok.1
  have hp2 := hok.2.1
  have hp3 := hok.2.2
  obtain ⟨ie88, hi88⟩ := inf_88
  refine enter (N := 63) Try.func27 rfl rfl rfl ?_
  refine g_seq ?_
  refine g_region ?_
  refine s_tr (t_box rfl rfl) rfl rfl rfl rfl (fun b5 hb5 => ?_)
  refine s_y (y_assign rfl) rfl rfl rfl rfl ?_
  refine s_y (y_assign rfl) rfl rfl rfl rfl ?_
  refine s_nil ?_
  refine g_then ?_
  refine g_seq ?_
  refine g_region ?_
  refine s_y (y_move rfl) rfl rfl rfl rfl ?_
  refine s_y (y_move rfl) rfl rfl rfl rfl ?_
  refine s_y (y_ldn 0 rfl rfl agg_28 size_28 rfl rfl) rfl rfl rfl rfl ?_
  refine s_tr (t_callm (A := fun x : Nat × Nat × Nat × List Value × List Nat => x.2.2.2.2.length = a.size + 1) (vf := fun x => .tuple #[.pointer (some ⟨x.1, 0, none⟩), .bool true]) rfl rfl ent_62 (fun w hw => (read_ok w a b pi po ps ha12 hb12 hok).mono fun e w' ⟨x, h1, h2, h3⟩ => ⟨x, h1, h2, h3⟩)) rfl rfl rfl rfl (fun xg hxg => ?_)
  obtain ⟨g, bb, cap, jk, Bs⟩ := xg
  have hl : Bs.length = a.size + 1 := hxg
  refine s_y (y_move rfl) rfl rfl rfl rfl ?_
  refine s_y (y_extract rfl rfl) rfl rfl rfl rfl ?_
  refine s_y (y_extract rfl rfl) rfl rfl rfl rfl ?_
  refine s_tr (t_alloc zero_89 rfl) rfl rfl rfl rfl (fun b8 hb8 => ?_)
  refine s_tr0 (t_store 0 rfl rfl rfl rfl size_89 rfl rfl) rfl rfl rfl (fun _ _ => ?_)
  refine s_y (y_assign rfl) rfl rfl rfl rfl ?_
  refine s_nil ?_
  refine g_then ?_
  refine g_seq ?_
  refine g_seq ?_
  refine g_region ?_
  refine s_y (y_move rfl) rfl rfl rfl rfl ?_
  refine s_y (y_not_t rfl) rfl rfl rfl rfl ?_
  refine s_nil ?_
  refine g_then ?_
  refine g_cond_f rfl ?_
  refine g_skip ?_
  refine g_then ?_
  refine g_seq ?_
  refine g_region ?_
  refine s_tr (t_alloc zero_38 rfl) rfl rfl rfl rfl (fun b10 hb10 => ?_)
  refine s_nil ?_
  refine g_then ?_
  refine g_seq ?_
  refine g_seq ?_
  refine g_region ?_
  refine s_y (y_move rfl) rfl rfl rfl rfl ?_
  refine s_y (y_lens rfl Try.underlying9) rfl rfl rfl rfl ?_
  refine s_y (y_move rfl) rfl rfl rfl rfl ?_
  refine s_y (y_lens rfl Try.underlying9) rfl rfl rfl rfl ?_
  refine s_tr (t_alloc zero_3 rfl) rfl rfl rfl rfl (fun b11 hb11 => ?_)
  refine s_tr (t_alloc zero_3 rfl) rfl rfl rfl rfl (fun b12 hb12 => ?_)
  refine s_tr0 (t_store 1 rfl rfl rfl rfl size_3 rfl rfl) rfl rfl rfl (fun _ _ => ?_)
  refine s_tr0 (t_store 0 rfl rfl rfl rfl size_3 rfl rfl) rfl rfl rfl (fun _ _ => ?_)
  refine s_nil ?_
  refine g_then ?_
  refine g_block ?_
  refine g_loop (fun (n0 : Nat) act W => True ∧ ∃ (c11 : Nat) (c12 : Nat) (i : Nat) (j : Nat) (sv : SV) (m : Nat) (zs : List (Int × Int)) (ds : List Deferred) (w1 : World), Marks w w1 ds ∧ (sv.ok 2 m (cellsP zs)) ∧ (m = zs.length) ∧ (n0 = i + j ∧ i ≤ a.size ∧ j ≤ b.size) ∧ (ScrInv a b pi po ps i j zs) ∧ Has 63 ds [(6, .slice none 0 0), (7, .int .i64 0), (8, .pointer (some ⟨b8, 0, none⟩)), (10, .pointer (some ⟨b10, 0, none⟩)), (11, .pointer (some ⟨c11, 0, none⟩)), (12, .pointer (some ⟨c12, 0, none⟩))] act ∧ Hp w w1 ((c12, .cells [.int .i64 (j : Int)].toArray 3 (0, 0)) :: (c11, .cells [.int .i64 (i : Int)].toArray 3 (0, 0)) :: (b10, .cells [sv.val m].toArray 38 (0, 0)) :: (b8, .cells [.pointer (some ⟨g, 0, none⟩)].toArray 89 (0, 0)) :: (g, .cells [.string a, .string b, .int .i64 pi, .int .i64 po, .int .i64 ps, .slice (some ⟨bb, 0, none⟩) (a.size + 1) cap].toArray 99 (0, 0)) :: (bb, .cells (Bs.map (rowV (b.size + 1)) ++ jk).toArray 46 (0, 0)) :: (sv.mem 88 (cellsP zs) ++ (((rowsM (D a b pi po ps) (b.size + 1) Bs) ++ ((b5, .cells [.int .i64 pi, .int .i64 po, .int .i64 ps].toArray 28 (0, 0)) :: []))))) W) (fun n0 => n0) (a.size + b.size) (fun act W ha hw => ⟨trivial, b11, b12, a.size, b.size, SV.nil, 0, [], _, W, hM.look hw.marks, (by exact ⟨rfl, rfl⟩), (by rfl), (by omega), (by exact ScrInv.start ..), ha.weak (sub_get ⟨rfl, rfl, rfl, rfl, rfl, rfl, trivial⟩), hw.toHq.lookSub (List.Sublist.refl _)⟩) ?_
  intro n0 act W ⟨hb_n0, c11, c12, i, j, sv, m, zs, ds, w1, hM, hokz, hmz, hij, hinv, ha, hw⟩
  refine g_go ha hw ?_
  clear ha hw act W
  have hzl := hinv.2
  refine g_seq ?_
  refine g_seq ?_
  refine g_region ?_
  refine s_y (y_ld1 1 rfl rfl agg_3 rfl) rfl rfl rfl rfl ?_
  refine s_y (y_ld1 0 rfl rfl agg_3 rfl) rfl rfl rfl rfl ?_
  refine s_y (y_add rfl rfl (by omega) (by omega)) rfl rfl rfl rfl ?_
  refine s_y (y_gtr rfl rfl) rfl rfl rfl rfl ?_
  refine s_nil ?_
  refine g_then ?_
  refine g_cond rfl (fun cq1 => ?_) (fun cq1 => ?_)
  · (try simp at cq1)
    refine g_skip ?_
    refine g_then ?_
    refine g_seq ?_
    refine g_block ?_
    refine g_seq ?_
    refine g_region ?_
    refine s_y (y_ld1 3 rfl rfl agg_89 rfl) rfl rfl rfl rfl ?_
    refine s_y (y_ld1 1 rfl rfl agg_3 rfl) rfl rfl rfl rfl ?_
    refine s_y (y_ld1 0 rfl rfl agg_3 rfl) rfl rfl rfl rfl ?_
    refine s_tr (t_callm (A := fun _ => True) rfl rfl ent_64 (fun w h => (into_any w _ _ _).mono fun e w' ⟨x, h1, h2⟩ => ⟨x, trivial, h1, h2⟩)) rfl rfl rfl rfl (fun xi _ => ?_)
    obtain ⟨bi, bj, bg⟩ := xi
    refine s_nil ?_
    refine g_then ?_
    refine g_block ?_
    refine g_range (gf := 88) (lb := [.pointer (some ⟨bi, 0, none⟩), .pointer (some ⟨bj, 0, none⟩), .pointer (some ⟨bg, 0, none⟩)]) (encs := edgeV g) (xs := (edges a b (i : Int) (j : Int))) rfl ent_88 (fun _ => rfl) (by decide) (fun _ W => GridS g bg bi bj a b (i : Int) (j : Int) W)
      (fun k m' => ∃ (gs2 : List (Nat × Obj)), (∀ x ∈ (edges a b (i : Int) (j : Int)).take (k), ¬ edgeC a b pi po ps x = D a b pi po ps i j) ∧ m' = (bj, .cells [.int .i64 (j : Int)].toArray 3 (0, 0)) :: (bi, .cells [.int .i64 (i : Int)].toArray 3 (0, 0)) :: (bg, .cells [.pointer (some ⟨g, 0, none⟩)].toArray 89 (0, 0)) :: (c12, .cells [.int .i64 (j : Int)].toArray 3 (0, 0)) :: (c11, .cells [.int .i64 (i : Int)].toArray 3 (0, 0)) :: (b10, .cells [sv.val m].toArray 38 (0, 0)) :: (b8, .cells [.pointer (some ⟨g, 0, none⟩)].toArray 89 (0, 0)) :: (g, .cells [.string a, .string b, .int .i64 pi, .int .i64 po, .int .i64 ps, .slice (some ⟨bb, 0, none⟩) (a.size + 1) cap].toArray 99 (0, 0)) :: (bb, .cells (Bs.map (rowV (b.size + 1)) ++ jk).toArray 46 (0, 0)) :: (sv.mem 88 (cellsP zs) ++ (((rowsM (D a b pi po ps) (b.size + 1) Bs) ++ ((b5, .cells [.int .i64 pi, .int .i64 po, .int .i64 ps].toArray 28 (0, 0)) :: (gs2 ++ ([]))))))) (fun c k m' => (c = .exit 2 ∧ ∃ (i2 : Nat) (j2 : Nat) (sv2 : SV) (m2 : Nat) (zs2 : List (Int × Int)) (gs2 : List (Nat × Obj)), (sv2.ok 2 m2 (cellsP zs2)) ∧ (m2 = zs2.length) ∧ (i2 + j2 < i + j ∧ i2 ≤ a.size ∧ j2 ≤ b.size) ∧ (ScrInv a b pi po ps i2 j2 zs2) ∧ m' = (bj, .cells [.int .i64 (j : Int)].toArray 3 (0, 0)) :: (bi, .cells [.int .i64 (i : Int)].toArray 3 (0, 0)) :: (bg, .cells [.pointer (some ⟨g, 0, none⟩)].toArray 89 (0, 0)) :: (c12, .cells [.int .i64 (j2 : Int)].toArray 3 (0, 0)) :: (c11, .cells [.int .i64 (i2 : Int)].toArray 3 (0, 0)) :: (b10, .cells [sv2.val m2].toArray 38 (0, 0)) :: (b8, .cells [.pointer (some ⟨g, 0, none⟩)].toArray 89 (0, 0)) :: (g, .cells [.string a, .string b, .int .i64 pi, .int .i64 po, .int .i64 ps, .slice (some ⟨bb, 0, none⟩) (a.size + 1) cap].toArray 99 (0, 0)) :: (bb, .cells (Bs.map (rowV (b.size + 1)) ++ jk).toArray 46 (0, 0)) :: (sv2.mem 88 (cellsP zs2) ++ (((rowsM (D a b pi po ps) (b.size + 1) Bs) ++ ((b5, .cells [.int .i64 pi, .int .i64 po, .int .i64 ps].toArray 28 (0, 0)) :: (gs2 ++ ([]))))))))
      (fun we hwe => into_iter g bg bi bj a b i j (by omega) (by omega) (by omega) (by omega) (by omega) (by omega))
      (by rintro we k _ W _ ⟨gs2, hno, rfl⟩ h; exact ⟨(h.at_ _ (List.mem_cons_of_mem _ (List.mem_cons_self ..))), (h.at_ _ (List.mem_cons_self ..)), (h.at_ _ (List.mem_cons_of_mem _ (List.mem_cons_of_mem _ (List.mem_cons_self ..)))), _, _, _, _, (h.at_ _ (List.mem_cons_of_mem _ (List.mem_cons_of_mem _ (List.mem_cons_of_mem _ (List.mem_cons_of_mem _ (List.mem_cons_of_mem _ (List.mem_cons_of_mem _ (List.mem_cons_of_mem _ (List.mem_cons_self ..)))))))))⟩) ⟨[], (by intro x hx; simp at hx), rfl⟩ ?_ ?_ ?_
    · skip
      rintro we W1 hwe lp k x _ hx ⟨gs2, hno, rfl⟩ hq K hK
      have hx0 := hx
      have hxm := List.mem_of_getElem? hx
      obtain ⟨q1, q2, q3, q4, q5⟩ := edges_mem hxm (by omega) (by omega)
      obtain ⟨x1, x2, x3, x4⟩ := x
      simp only at q1 q2 q3 q4 q5
      obtain ⟨i', rfl⟩ : ∃ i' : Nat, x1 = i' := ⟨x1.toNat, by omega⟩
      obtain ⟨j', rfl⟩ : ∃ j' : Nat, x2 = j' := ⟨x2.toNat, by omega⟩
      obtain ⟨B, hB0⟩ : ∃ B, Bs[i]? = some B := ⟨_, List.getElem?_eq_getElem (by omega)⟩
      have hB1 : Bs[((i : Nat) : Int).toNat]? = some B := by rw [Int.toNat_natCast]; exact hB0
      have hp := rowsM_mem (D a b pi po ps) (b.size + 1) Bs i B hB0
      have hc : ((tabRow (D a b pi po ps) (b.size + 1) i).map (Value.int .i64))[((j : Nat) : Int).toNat]? = some (.int .i64 (D a b pi po ps i j)) := by rw [Int.toNat_natCast, List.getElem?_map, tabRow_at _ _ _ _ (by omega)]; rfl
      refine g_region ?_
      refine s_tr (t_alloc zero_97 rfl) rfl rfl rfl rfl (fun eb heb => ?_)
      refine s_tr0 (t_store 0 rfl rfl rfl rfl size_97 rfl rfl) rfl rfl rfl (fun _ _ => ?_)
      refine s_nil ?_
      refine g_then ?_
      refine hK _ _ (fun W2 hW2 => ?_)
      refine g_block ?_
      refine g_seq ?_
      refine g_draw 13 (by kernel_rfl) ?_
      refine j_l (i := 0) rfl (y_ldn 0 rfl rfl agg_97 size_97 rfl rfl) (by kernel_rfl) (by kernel_rfl) (by kernel_rfl) (by kernel_rfl) rfl rfl rfl rfl rfl (.inr (fun _ h => h)) ?_
      refine j_l (i := 2) rfl (y_ld1 7 rfl rfl agg_89 rfl) (by kernel_rfl) (by kernel_rfl) (by kernel_rfl) (by kernel_rfl) rfl rfl rfl rfl rfl (.inr (fun _ h => h)) ?_
      refine j_p (i := 3) rfl (y_nil rfl) (by kernel_rfl) (by kernel_rfl) (by kernel_rfl) rfl rfl rfl rfl rfl (.inr (fun _ h => h)) ?_
      refine j_p (i := 4) rfl (y_fld rfl (fun w => fld_99_3 _ _ w)) (by kernel_rfl) (by kernel_rfl) (by kernel_rfl) rfl rfl rfl rfl rfl (.inr (fun _ h => h)) ?_
      refine j_l (i := 5) rfl (y_ld1 8 rfl rfl agg_66 rfl) (by kernel_rfl) (by kernel_rfl) (by kernel_rfl) (by kernel_rfl) rfl rfl rfl rfl rfl (.inr (fun _ h => h)) ?_
      refine j_l (i := 6) rfl (y_ld1 5 rfl rfl agg_3 rfl) (by kernel_rfl) (by kernel_rfl) (by kernel_rfl) (by kernel_rfl) rfl rfl rfl rfl rfl (.inr (fun _ h => h)) ?_
      refine j_p (i := 7) rfl (y_idxb1 rfl rfl Try.underlying66 size_46 (by omega) (by omega)) (by kernel_rfl) (by kernel_rfl) (by kernel_rfl) rfl rfl rfl rfl rfl (.inr (fun _ h => h)) ?_
      refine j_l (i := 8) rfl (y_ldL (enc := (rowV (b.size + 1))) (xs := Bs) (jk := jk) 9 rfl rfl agg_46 (hB1)) (by kernel_rfl) (by kernel_rfl) (by kernel_rfl) (by kernel_rfl) rfl rfl rfl rfl rfl (.inr (fun _ h => h)) ?_
      refine j_l (i := 9) rfl (y_ld1 4 rfl rfl agg_3 rfl) (by kernel_rfl) (by kernel_rfl) (by kernel_rfl) (by kernel_rfl) rfl rfl rfl rfl rfl (.inr (fun _ h => h)) ?_
      refine j_p (i := 10) rfl (y_idxb1 rfl rfl Try.underlying46 size_3 (by omega) (by omega)) (by kernel_rfl) (by kernel_rfl) (by kernel_rfl) rfl rfl rfl rfl rfl (.inr (fun _ h => h)) ?_
      refine j_l (i := 11) rfl (y_ldM (List.mem_cons_of_mem _ (List.mem_cons_of_mem _ (List.mem_cons_of_mem _ (List.mem_cons_of_mem _ (List.mem_cons_of_mem _ (List.mem_cons_of_mem _ (List.mem_cons_of_mem _ (List.mem_cons_of_mem _ (List.mem_cons_of_mem _ (List.mem_cons_of_mem _ (mem_ar (sv.mem 88 (cellsP zs)) (mem_al (rowsM (D a b pi po ps) (b.size + 1) Bs) hp)))))))))))) rfl agg_3 hc) (by kernel_rfl) (by kernel_rfl) (by kernel_rfl) (by kernel_rfl) rfl rfl rfl rfl rfl (.inr (fun _ h => h)) ?_
      refine j_tr (i := 1) rfl (t_call rfl rfl ent_65 (fun w h => cost_full (gridAt_full hl (h.at_ _ (List.mem_cons_of_mem _ (List.mem_cons_of_mem _ (List.mem_cons_of_mem _ (List.mem_cons_of_mem _ (List.mem_cons_of_mem _ (List.mem_cons_of_mem _ (List.mem_cons_of_mem _ (List.mem_cons_of_mem _ (List.mem_cons_self ..)))))))))) (h.at_ _ (List.mem_cons_of_mem _ (List.mem_cons_of_mem _ (List.mem_cons_of_mem _ (List.mem_cons_of_mem _ (List.mem_cons_of_mem _ (List.mem_cons_of_mem _ (List.mem_cons_of_mem _ (List.mem_cons_of_mem _ (List.mem_cons_of_mem _ (List.mem_cons_self ..))))))))))) (fun p hp => h.at_ p (List.mem_cons_of_mem _ (List.mem_cons_of_mem _ (List.mem_cons_of_mem _ (List.mem_cons_of_mem _ (List.mem_cons_of_mem _ (List.mem_cons_of_mem _ (List.mem_cons_of_mem _ (List.mem_cons_of_mem _ (List.mem_cons_of_mem _ (List.mem_cons_of_mem _ (mem_ar (sv.mem 88 (cellsP zs)) (mem_al (rowsM (D a b pi po ps) (b.size + 1) Bs) hp)))))))))))))) hok (by omega) (by omega) (by omega) (by omega) hxm)) (by kernel_rfl) rfl rfl rfl rfl (.inr (fun x w hb h => h)) (fun _ _ => ?_)
      refine j_p (i := 12) rfl (y_eql rfl rfl) (by kernel_rfl) (by kernel_rfl) (by kernel_rfl) rfl rfl rfl rfl rfl (.inr (fun _ h => h)) ?_
      refine j_nil (by kernel_rfl) ?_
      refine g_then ?_
      refine g_cond rfl (fun cq3 => ?_) (fun cq3 => ?_)
      · (try simp at cq3)
        have he : edgeC a b pi po ps ((i' : Int), (j' : Int), x3, x4) = D a b pi po ps i j := cq3
        refine g_seq ?_
        refine g_region ?_
        refine s_y (y_ld1 6 rfl rfl agg_38 rfl) rfl rfl rfl rfl ?_
        refine s_y (y_fld rfl (fun w => fld_97_3 _ _ w)) rfl rfl rfl rfl ?_
        refine s_y (y_ldn 0 rfl rfl agg_88 size_88 rfl rfl) rfl rfl rfl rfl ?_
        refine s_tr (t_build (vs := [(0, .agg #[.int .i64 x3, .int .i64 x4])]) (cells := [.int .i64 x3, .int .i64 x4]) rfl rfl Try.underlying38 hi88.1 hi88.2.1 (by rw [hi88.2.2.1]; rfl) (by rw [hi88.2.2.1]; rfl) (by rw [hi88.2.2.1]; kernel_rfl)) rfl rfl rfl rfl (fun b4 hb4 => ?_)
        refine s_tr (t_appendP (sv := sv) (xs := zs) (n := m) (p := (x3, x4)) [_, _, _, _, _, _, _, _, _, _, _] _ rfl rfl rfl hokz Try.underlying38 hi88.1 hi88.2.1 hi88.2.2.1 hi88.2.2.2 rfl (fun w h => pair_new (i := 0) (p := (x3, x4)) h rfl) (by omega) (by unfold maxLen; omega)) rfl rfl rfl rfl (fun y8 hy9 => ?_)
        obtain ⟨sv5, gs6⟩ := y8
        obtain ⟨⟨hok7, hok7b, hok7c, hok7j, hok7e⟩, hok7n⟩ := hy9
        refine s_tr0 (t_store 7 rfl rfl rfl (SV.cells1 _ _) size_38 rfl (by simp [SV.one])) rfl rfl rfl (fun _ _ => ?_)
        refine s_nil ?_
        refine g_then ?_
        refine g_seq ?_
        refine g_drawC 5 (fun W => W.heap[eb]? = some (Obj.cells [.pointer (some ⟨g, 0, none⟩), .int .i64 (i' : Int), .int .i64 (j' : Int), .int .i64 x3, .int .i64 x4].toArray 97 (0, 0))) (by kernel_rfl) ?_
        refine j_p (i := 0) rfl (y_fld rfl (fun w => fld_97_1 _ _ w)) (by kernel_rfl) (by kernel_rfl) (by kernel_rfl) rfl rfl rfl rfl rfl (.inr (fun _ h => (h.at_ _ (List.mem_cons_of_mem _ (List.mem_cons_self ..))))) ?_
        refine j_l (i := 1) rfl (y_ldC (fun w h => h) rfl agg_3 rfl) (by kernel_rfl) (by kernel_rfl) (by kernel_rfl) (by kernel_rfl) rfl rfl rfl rfl rfl (.inr (fun _ h => (h.at_ _ (List.mem_cons_of_mem _ (List.mem_cons_self ..))))) ?_
        refine j_p (i := 2) rfl (y_fld rfl (fun w => fld_97_2 _ _ w)) (by kernel_rfl) (by kernel_rfl) (by kernel_rfl) rfl rfl rfl rfl rfl (.inr (fun _ h => (h.at_ _ (List.mem_cons_of_mem _ (List.mem_cons_self ..))))) ?_
        refine j_l (i := 3) rfl (y_ldC (fun w h => h) rfl agg_3 rfl) (by kernel_rfl) (by kernel_rfl) (by kernel_rfl) (by kernel_rfl) rfl rfl rfl rfl rfl (.inr (fun _ h => (h.at_ _ (List.mem_cons_of_mem _ (List.mem_cons_self ..))))) ?_
        refine j_tr0 (i := 4) rfl (t_store 6 rfl rfl rfl rfl size_3 rfl rfl) (by kernel_rfl) rfl rfl rfl (.inr (fun x w hb h => (h.at_ _ (List.mem_cons_of_mem _ (List.mem_cons_self ..))))) (fun _ _ => ?_)
        refine j_tr0 (i := 5) rfl (t_store 5 rfl rfl rfl rfl size_3 rfl rfl) (by kernel_rfl) rfl rfl rfl (.inl rfl) (fun _ _ => ?_)
        refine j_nil (by kernel_rfl) ?_
        refine g_then ?_
        refine g_exit ?_
        refine g_inbo rfl ?_
        exact fun act W _ hW => ⟨fun k o h ho => hW.marks k o h ho, _, ⟨rfl, i', j', sv5, (m + 1), (zs ++ [(x3, x4)]), (b4, .cells [.int .i64 x3, .int .i64 x4].toArray 88 (0, 0)) :: (eb, .cells [.pointer (some ⟨g, 0, none⟩), .int .i64 (i' : Int), .int .i64 (j' : Int), .int .i64 x3, .int .i64 x4].toArray 97 (0, 0)) :: (gs6 ++ ((gs2 ++ ([])))), (by exact hok7), (by simp; omega), (by omega), (by have h_ := hinv.step hij.2.1 hij.2.2 hxm he; simpa using h_), (by simp only [List.append_nil, List.nil_append, List.cons_append, List.append_assoc])⟩, (show Hq w we ((bj, .cells [.int .i64 (j : Int)].toArray 3 (0, 0)) :: (bi, .cells [.int .i64 (i : Int)].toArray 3 (0, 0)) :: (bg, .cells [.pointer (some ⟨g, 0, none⟩)].toArray 89 (0, 0)) :: (c12, .cells [.int .i64 (j' : Int)].toArray 3 (0, 0)) :: (c11, .cells [.int .i64 (i' : Int)].toArray 3 (0, 0)) :: (b10, .cells [sv5.val (m + 1)].toArray 38 (0, 0)) :: (b8, .cells [.pointer (some ⟨g, 0, none⟩)].toArray 89 (0, 0)) :: (g, .cells [.string a, .string b, .int .i64 pi, .int .i64 po, .int .i64 ps, .slice (some ⟨bb, 0, none⟩) (a.size + 1) cap].toArray 99 (0, 0)) :: (bb, .cells (Bs.map (rowV (b.size + 1)) ++ jk).toArray 46 (0, 0)) :: (sv5.mem 88 (cellsP (zs ++ [(x3, x4)])) ++ (((rowsM (D a b pi po ps) (b.size + 1) Bs) ++ ((b5, .cells [.int .i64 pi, .int .i64 po, .int .i64 ps].toArray 28 (0, 0)) :: (b4, .cells [.int .i64 x3, .int .i64 x4].toArray 88 (0, 0)) :: (eb, .cells [.pointer (some ⟨g, 0, none⟩), .int .i64 (i' : Int), .int .i64 (j' : Int), .int .i64 x3, .int .i64 x4].toArray 97 (0, 0)) :: (gs6 ++ ((gs2 ++ ([]))))))))) W from (hq.round hW2 hW (show ∀ y ∈ ((bj, .cells [.int .i64 (j : Int)].toArray 3 (0, 0)) :: (bi, .cells [.int .i64 (i : Int)].toArray 3 (0, 0)) :: (bg, .cells [.pointer (some ⟨g, 0, none⟩)].toArray 89 (0, 0)) :: (c12, .cells [.int .i64 (j : Int)].toArray 3 (0, 0)) :: (c11, .cells [.int .i64 (i : Int)].toArray 3 (0, 0)) :: (b10, .cells [sv.val m].toArray 38 (0, 0)) :: (b8, .cells [.pointer (some ⟨g, 0, none⟩)].toArray 89 (0, 0)) :: (g, .cells [.string a, .string b, .int .i64 pi, .int .i64 po, .int .i64 ps, .slice (some ⟨bb, 0, none⟩) (a.size + 1) cap].toArray 99 (0, 0)) :: (bb, .cells (Bs.map (rowV (b.size + 1)) ++ jk).toArray 46 (0, 0)) :: (sv.mem 88 (cellsP zs) ++ (((rowsM (D a b pi po ps) (b.size + 1) Bs) ++ ((b5, .cells [.int .i64 pi, .int .i64 po, .int .i64 ps].toArray 28 (0, 0)) :: (gs2 ++ ([])))))) : List (Nat × Obj)).map (·.1), y ∈ ((eb, .cells [.pointer (some ⟨g, 0, none⟩), .int .i64 (i' : Int), .int .i64 (j' : Int), .int .i64 x3, .int .i64 x4].toArray 97 (0, 0)) :: (bj, .cells [.int .i64 (j : Int)].toArray 3 (0, 0)) :: (bi, .cells [.int .i64 (i : Int)].toArray 3 (0, 0)) :: (bg, .cells [.pointer (some ⟨g, 0, none⟩)].toArray 89 (0, 0)) :: (c12, .cells [.int .i64 (j : Int)].toArray 3 (0, 0)) :: (c11, .cells [.int .i64 (i : Int)].toArray 3 (0, 0)) :: (b10, .cells [sv.val m].toArray 38 (0, 0)) :: (b8, .cells [.pointer (some ⟨g, 0, none⟩)].toArray 89 (0, 0)) :: (g, .cells [.string a, .string b, .int .i64 pi, .int .i64 po, .int .i64 ps, .slice (some ⟨bb, 0, none⟩) (a.size + 1) cap].toArray 99 (0, 0)) :: (bb, .cells (Bs.map (rowV (b.size + 1)) ++ jk).toArray 46 (0, 0)) :: (sv.mem 88 (cellsP zs) ++ (((rowsM (D a b pi po ps) (b.size + 1) Bs) ++ ((b5, .cells [.int .i64 pi, .int .i64 po, .int .i64 ps].toArray 28 (0, 0)) :: (gs2 ++ ([])))))) : List (Nat × Obj)).map (·.1) from fun y hy => by simp only [List.map_append, List.map_cons, List.map_nil, List.mem_append, List.mem_cons] at hy ⊢; rcases hy with h | h | h | h | h | h | h | h | h | h | h | h | h | h; exact (.inr (.inl h)); exact (.inr (.inr (.inl h))); exact (.inr (.inr (.inr (.inl h)))); exact (.inr (.inr (.inr (.inr (.inl h))))); exact (.inr (.inr (.inr (.inr (.inr (.inl h)))))); exact (.inr (.inr (.inr (.inr (.inr (.inr (.inl h))))))); exact (.inr (.inr (.inr (.inr (.inr (.inr (.inr (.inl h)))))))); exact (.inr (.inr (.inr (.inr (.inr (.inr (.inr (.inr (.inl h))))))))); exact (.inr (.inr (.inr (.inr (.inr (.inr (.inr (.inr (.inr (.inl h)))))))))); exact (.inr (.inr (.inr (.inr (.inr (.inr (.inr (.inr (.inr (.inr (.inl h))))))))))); exact (.inr (.inr (.inr (.inr (.inr (.inr (.inr (.inr (.inr (.inr (.inr (.inl h)))))))))))); exact (.inr (.inr (.inr (.inr (.inr (.inr (.inr (.inr (.inr (.inr (.inr (.inr (.inl h))))))))))))); exact (.inr (.inr (.inr (.inr (.inr (.inr (.inr (.inr (.inr (.inr (.inr (.inr (.inr (.inl h)))))))))))))); exact (.inr (.inr (.inr (.inr (.inr (.inr (.inr (.inr (.inr (.inr (.inr (.inr (.inr (.inr h))))))))))))))) (show ∀ y ∈ ((eb, .cells [.pointer (some ⟨g, 0, none⟩), .int .i64 (i' : Int), .int .i64 (j' : Int), .int .i64 x3, .int .i64 x4].toArray 97 (0, 0)) :: (bj, .cells [.int .i64 (j : Int)].toArray 3 (0, 0)) :: (bi, .cells [.int .i64 (i : Int)].toArray 3 (0, 0)) :: (bg, .cells [.pointer (some ⟨g, 0, none⟩)].toArray 89 (0, 0)) :: (c12, .cells [.int .i64 (j : Int)].toArray 3 (0, 0)) :: (c11, .cells [.int .i64 (i : Int)].toArray 3 (0, 0)) :: (b10, .cells [sv.val m].toArray 38 (0, 0)) :: (b8, .cells [.pointer (some ⟨g, 0, none⟩)].toArray 89 (0, 0)) :: (g, .cells [.string a, .string b, .int .i64 pi, .int .i64 po, .int .i64 ps, .slice (some ⟨bb, 0, none⟩) (a.size + 1) cap].toArray 99 (0, 0)) :: (bb, .cells (Bs.map (rowV (b.size + 1)) ++ jk).toArray 46 (0, 0)) :: (sv.mem 88 (cellsP zs) ++ (((rowsM (D a b pi po ps) (b.size + 1) Bs) ++ ((b5, .cells [.int .i64 pi, .int .i64 po, .int .i64 ps].toArray 28 (0, 0)) :: (gs2 ++ ([])))))) : List (Nat × Obj)).map (·.1), y ∈ ((b4, .cells [.int .i64 x3, .int .i64 x4].toArray 88 (0, 0)) :: (eb, .cells [.pointer (some ⟨g, 0, none⟩), .int .i64 (i' : Int), .int .i64 (j' : Int), .int .i64 x3, .int .i64 x4].toArray 97 (0, 0)) :: (bj, .cells [.int .i64 (j : Int)].toArray 3 (0, 0)) :: (bi, .cells [.int .i64 (i : Int)].toArray 3 (0, 0)) :: (bg, .cells [.pointer (some ⟨g, 0, none⟩)].toArray 89 (0, 0)) :: (c12, .cells [.int .i64 (j' : Int)].toArray 3 (0, 0)) :: (c11, .cells [.int .i64 (i' : Int)].toArray 3 (0, 0)) :: (b10, .cells [sv5.val (m + 1)].toArray 38 (0, 0)) :: (b8, .cells [.pointer (some ⟨g, 0, none⟩)].toArray 89 (0, 0)) :: (g, .cells [.string a, .string b, .int .i64 pi, .int .i64 po, .int .i64 ps, .slice (some ⟨bb, 0, none⟩) (a.size + 1) cap].toArray 99 (0, 0)) :: (bb, .cells (Bs.map (rowV (b.size + 1)) ++ jk).toArray 46 (0, 0)) :: (sv5.mem 88 (cellsP (zs ++ [(x3, x4)])) ++ ((gs6 ++ (((rowsM (D a b pi po ps) (b.size + 1) Bs) ++ ((b5, .cells [.int .i64 pi, .int .i64 po, .int .i64 ps].toArray 28 (0, 0)) :: (gs2 ++ ([])))))))) : List (Nat × Obj)).map (·.1) from fun y hy => by simp only [List.map_append, List.map_cons, List.map_nil, List.mem_append, List.mem_cons] at hy ⊢; rcases hy with h | h | h | h | h | h | h | h | h | h | h | h | h | h | h; exact (.inr (.inl h)); exact (.inr (.inr (.inl h))); exact (.inr (.inr (.inr (.inl h)))); exact (.inr (.inr (.inr (.inr (.inl h))))); exact (.inr (.inr (.inr (.inr (.inr (.inl h)))))); exact (.inr (.inr (.inr (.inr (.inr (.inr (.inl h))))))); exact (.inr (.inr (.inr (.inr (.inr (.inr (.inr (.inl h)))))))); exact (.inr (.inr (.inr (.inr (.inr (.inr (.inr (.inr (.inl h))))))))); exact (.inr (.inr (.inr (.inr (.inr (.inr (.inr (.inr (.inr (.inl h)))))))))); exact (.inr (.inr (.inr (.inr (.inr (.inr (.inr (.inr (.inr (.inr (.inl h))))))))))); (have h := hok7n y h; simp only [List.map_append, List.mem_append] at h; rcases h with h | h; exact (.inr (.inr (.inr (.inr (.inr (.inr (.inr (.inr (.inr (.inr (.inr (.inl h)))))))))))); exact (.inr (.inr (.inr (.inr (.inr (.inr (.inr (.inr (.inr (.inr (.inr (.inr (.inl h)))))))))))))); exact (.inr (.inr (.inr (.inr (.inr (.inr (.inr (.inr (.inr (.inr (.inr (.inr (.inr (.inl h)))))))))))))); exact (.inr (.inr (.inr (.inr (.inr (.inr (.inr (.inr (.inr (.inr (.inr (.inr (.inr (.inr (.inl h))))))))))))))); exact (.inr (.inr (.inr (.inr (.inr (.inr (.inr (.inr (.inr (.inr (.inr (.inr (.inr (.inr (.inr (.inl h)))))))))))))))); exact (.inr (.inr (.inr (.inr (.inr (.inr (.inr (.inr (.inr (.inr (.inr (.inr (.inr (.inr (.inr (.inr h)))))))))))))))))).perm (List.Perm.trans (show ((b4, .cells [.int .i64 x3, .int .i64 x4].toArray 88 (0, 0)) :: (eb, .cells [.pointer (some ⟨g, 0, none⟩), .int .i64 (i' : Int), .int .i64 (j' : Int), .int .i64 x3, .int .i64 x4].toArray 97 (0, 0)) :: (bj, .cells [.int .i64 (j : Int)].toArray 3 (0, 0)) :: (bi, .cells [.int .i64 (i : Int)].toArray 3 (0, 0)) :: (bg, .cells [.pointer (some ⟨g, 0, none⟩)].toArray 89 (0, 0)) :: (c12, .cells [.int .i64 (j' : Int)].toArray 3 (0, 0)) :: (c11, .cells [.int .i64 (i' : Int)].toArray 3 (0, 0)) :: (b10, .cells [sv5.val (m + 1)].toArray 38 (0, 0)) :: (b8, .cells [.pointer (some ⟨g, 0, none⟩)].toArray 89 (0, 0)) :: (g, .cells [.string a, .string b, .int .i64 pi, .int .i64 po, .int .i64 ps, .slice (some ⟨bb, 0, none⟩) (a.size + 1) cap].toArray 99 (0, 0)) :: (bb, .cells (Bs.map (rowV (b.size + 1)) ++ jk).toArray 46 (0, 0)) :: (sv5.mem 88 (cellsP (zs ++ [(x3, x4)])) ++ ((gs6 ++ (((rowsM (D a b pi po ps) (b.size + 1) Bs) ++ ((b5, .cells [.int .i64 pi, .int .i64 po, .int .i64 ps].toArray 28 (0, 0)) :: (gs2 ++ ([])))))))) : List (Nat × Obj)).Perm ((eb, .cells [.pointer (some ⟨g, 0, none⟩), .int .i64 (i' : Int), .int .i64 (j' : Int), .int .i64 x3, .int .i64 x4].toArray 97 (0, 0)) :: (bj, .cells [.int .i64 (j : Int)].toArray 3 (0, 0)) :: (bi, .cells [.int .i64 (i : Int)].toArray 3 (0, 0)) :: (bg, .cells [.pointer (some ⟨g, 0, none⟩)].toArray 89 (0, 0)) :: (c12, .cells [.int .i64 (j' : Int)].toArray 3 (0, 0)) :: (c11, .cells [.int .i64 (i' : Int)].toArray 3 (0, 0)) :: (b10, .cells [sv5.val (m + 1)].toArray 38 (0, 0)) :: (b8, .cells [.pointer (some ⟨g, 0, none⟩)].toArray 89 (0, 0)) :: (g, .cells [.string a, .string b, .int .i64 pi, .int .i64 po, .int .i64 ps, .slice (some ⟨bb, 0, none⟩) (a.size + 1) cap].toArray 99 (0, 0)) :: (bb, .cells (Bs.map (rowV (b.size + 1)) ++ jk).toArray 46 (0, 0)) :: (sv5.mem 88 (cellsP (zs ++ [(x3, x4)])) ++ ((gs6 ++ (((rowsM (D a b pi po ps) (b.size + 1) Bs) ++ ((b5, .cells [.int .i64 pi, .int .i64 po, .int .i64 ps].toArray 28 (0, 0)) :: (b4, .cells [.int .i64 x3, .int .i64 x4].toArray 88 (0, 0)) :: (gs2 ++ ([])))))))) : List (Nat × Obj)) from List.Perm.trans (List.Perm.of_eq (by simp only [List.append_assoc, List.cons_append, List.nil_append, List.append_nil])) (List.Perm.trans (List.perm_append_comm_assoc ((b4, .cells [.int .i64 x3, .int .i64 x4].toArray 88 (0, 0)) :: [] : List (Nat × Obj)) ((eb, .cells [.pointer (some ⟨g, 0, none⟩), .int .i64 (i' : Int), .int .i64 (j' : Int), .int .i64 x3, .int .i64 x4].toArray 97 (0, 0)) :: (bj, .cells [.int .i64 (j : Int)].toArray 3 (0, 0)) :: (bi, .cells [.int .i64 (i : Int)].toArray 3 (0, 0)) :: (bg, .cells [.pointer (some ⟨g, 0, none⟩)].toArray 89 (0, 0)) :: (c12, .cells [.int .i64 (j' : Int)].toArray 3 (0, 0)) :: (c11, .cells [.int .i64 (i' : Int)].toArray 3 (0, 0)) :: (b10, .cells [sv5.val (m + 1)].toArray 38 (0, 0)) :: (b8, .cells [.pointer (some ⟨g, 0, none⟩)].toArray 89 (0, 0)) :: (g, .cells [.string a, .string b, .int .i64 pi, .int .i64 po, .int .i64 ps, .slice (some ⟨bb, 0, none⟩) (a.size + 1) cap].toArray 99 (0, 0)) :: (bb, .cells (Bs.map (rowV (b.size + 1)) ++ jk).toArray 46 (0, 0)) :: (sv5.mem 88 (cellsP (zs ++ [(x3, x4)])) ++ ((gs6 ++ (((rowsM (D a b pi po ps) (b.size + 1) Bs) ++ ((b5, .cells [.int .i64 pi, .int .i64 po, .int .i64 ps].toArray 28 (0, 0)) :: [])))))) : List (Nat × Obj)) ((gs2 ++ ([])) : List (Nat × Obj))) (List.Perm.of_eq (by simp only [List.append_assoc, List.cons_append, List.nil_append, List.append_nil])))) (List.Perm.trans (show ((eb, .cells [.pointer (some ⟨g, 0, none⟩), .int .i64 (i' : Int), .int .i64 (j' : Int), .int .i64 x3, .int .i64 x4].toArray 97 (0, 0)) :: (bj, .cells [.int .i64 (j : Int)].toArray 3 (0, 0)) :: (bi, .cells [.int .i64 (i : Int)].toArray 3 (0, 0)) :: (bg, .cells [.pointer (some ⟨g, 0, none⟩)].toArray 89 (0, 0)) :: (c12, .cells [.int .i64 (j' : Int)].toArray 3 (0, 0)) :: (c11, .cells [.int .i64 (i' : Int)].toArray 3 (0, 0)) :: (b10, .cells [sv5.val (m + 1)].toArray 38 (0, 0)) :: (b8, .cells [.pointer (some ⟨g, 0, none⟩)].toArray 89 (0, 0)) :: (g, .cells [.string a, .string b, .int .i64 pi, .int .i64 po, .int .i64 ps, .slice (some ⟨bb, 0, none⟩) (a.size + 1) cap].toArray 99 (0, 0)) :: (bb, .cells (Bs.map (rowV (b.size + 1)) ++ jk).toArray 46 (0, 0)) :: (sv5.mem 88 (cellsP (zs ++ [(x3, x4)])) ++ ((gs6 ++ (((rowsM (D a b pi po ps) (b.size + 1) Bs) ++ ((b5, .cells [.int .i64 pi, .int .i64 po, .int .i64 ps].toArray 28 (0, 0)) :: (b4, .cells [.int .i64 x3, .int .i64 x4].toArray 88 (0, 0)) :: (gs2 ++ ([])))))))) : List (Nat × Obj)).Perm ((bj, .cells [.int .i64 (j : Int)].toArray 3 (0, 0)) :: (bi, .cells [.int .i64 (i : Int)].toArray 3 (0, 0)) :: (bg, .cells [.pointer (some ⟨g, 0, none⟩)].toArray 89 (0, 0)) :: (c12, .cells [.int .i64 (j' : Int)].toArray 3 (0, 0)) :: (c11, .cells [.int .i64 (i' : Int)].toArray 3 (0, 0)) :: (b10, .cells [sv5.val (m + 1)].toArray 38 (0, 0)) :: (b8, .cells [.pointer (some ⟨g, 0, none⟩)].toArray 89 (0, 0)) :: (g, .cells [.string a, .string b, .int .i64 pi, .int .i64 po, .int .i64 ps, .slice (some ⟨bb, 0, none⟩) (a.size + 1) cap].toArray 99 (0, 0)) :: (bb, .cells (Bs.map (rowV (b.size + 1)) ++ jk).toArray 46 (0, 0)) :: (sv5.mem 88 (cellsP (zs ++ [(x3, x4)])) ++ ((gs6 ++ (((rowsM (D a b pi po ps) (b.size + 1) Bs) ++ ((b5, .cells [.int .i64 pi, .int .i64 po, .int .i64 ps].toArray 28 (0, 0)) :: (b4, .cells [.int .i64 x3, .int .i64 x4].toArray 88 (0, 0)) :: (eb, .cells [.pointer (some ⟨g, 0, none⟩), .int .i64 (i' : Int), .int .i64 (j' : Int), .int .i64 x3, .int .i64 x4].toArray 97 (0, 0)) :: (gs2 ++ ([])))))))) : List (Nat × Obj)) from List.Perm.trans (List.Perm.of_eq (by simp only [List.append_assoc, List.cons_append, List.nil_append, List.append_nil])) (List.Perm.trans (List.perm_append_comm_assoc ((eb, .cells [.pointer (some ⟨g, 0, none⟩), .int .i64 (i' : Int), .int .i64 (j' : Int), .int .i64 x3, .int .i64 x4].toArray 97 (0, 0)) :: [] : List (Nat × Obj)) ((bj, .cells [.int .i64 (j : Int)].toArray 3 (0, 0)) :: (bi, .cells [.int .i64 (i : Int)].toArray 3 (0, 0)) :: (bg, .cells [.pointer (some ⟨g, 0, none⟩)].toArray 89 (0, 0)) :: (c12, .cells [.int .i64 (j' : Int)].toArray 3 (0, 0)) :: (c11, .cells [.int .i64 (i' : Int)].toArray 3 (0, 0)) :: (b10, .cells [sv5.val (m + 1)].toArray 38 (0, 0)) :: (b8, .cells [.pointer (some ⟨g, 0, none⟩)].toArray 89 (0, 0)) :: (g, .cells [.string a, .string b, .int .i64 pi, .int .i64 po, .int .i64 ps, .slice (some ⟨bb, 0, none⟩) (a.size + 1) cap].toArray 99 (0, 0)) :: (bb, .cells (Bs.map (rowV (b.size + 1)) ++ jk).toArray 46 (0, 0)) :: (sv5.mem 88 (cellsP (zs ++ [(x3, x4)])) ++ ((gs6 ++ (((rowsM (D a b pi po ps) (b.size + 1) Bs) ++ ((b5, .cells [.int .i64 pi, .int .i64 po, .int .i64 ps].toArray 28 (0, 0)) :: (b4, .cells [.int .i64 x3, .int .i64 x4].toArray 88 (0, 0)) :: [])))))) : List (Nat × Obj)) ((gs2 ++ ([])) : List (Nat × Obj))) (List.Perm.of_eq (by simp only [List.append_assoc, List.cons_append, List.nil_append, List.append_nil])))) (show ((bj, .cells [.int .i64 (j : Int)].toArray 3 (0, 0)) :: (bi, .cells [.int .i64 (i : Int)].toArray 3 (0, 0)) :: (bg, .cells [.pointer (some ⟨g, 0, none⟩)].toArray 89 (0, 0)) :: (c12, .cells [.int .i64 (j' : Int)].toArray 3 (0, 0)) :: (c11, .cells [.int .i64 (i' : Int)].toArray 3 (0, 0)) :: (b10, .cells [sv5.val (m + 1)].toArray 38 (0, 0)) :: (b8, .cells [.pointer (some ⟨g, 0, none⟩)].toArray 89 (0, 0)) :: (g, .cells [.string a, .string b, .int .i64 pi, .int .i64 po, .int .i64 ps, .slice (some ⟨bb, 0, none⟩) (a.size + 1) cap].toArray 99 (0, 0)) :: (bb, .cells (Bs.map (rowV (b.size + 1)) ++ jk).toArray 46 (0, 0)) :: (sv5.mem 88 (cellsP (zs ++ [(x3, x4)])) ++ ((gs6 ++ (((rowsM (D a b pi po ps) (b.size + 1) Bs) ++ ((b5, .cells [.int .i64 pi, .int .i64 po, .int .i64 ps].toArray 28 (0, 0)) :: (b4, .cells [.int .i64 x3, .int .i64 x4].toArray 88 (0, 0)) :: (eb, .cells [.pointer (some ⟨g, 0, none⟩), .int .i64 (i' : Int), .int .i64 (j' : Int), .int .i64 x3, .int .i64 x4].toArray 97 (0, 0)) :: (gs2 ++ ([])))))))) : List (Nat × Obj)).Perm ((bj, .cells [.int .i64 (j : Int)].toArray 3 (0, 0)) :: (bi, .cells [.int .i64 (i : Int)].toArray 3 (0, 0)) :: (bg, .cells [.pointer (some ⟨g, 0, none⟩)].toArray 89 (0, 0)) :: (c12, .cells [.int .i64 (j' : Int)].toArray 3 (0, 0)) :: (c11, .cells [.int .i64 (i' : Int)].toArray 3 (0, 0)) :: (b10, .cells [sv5.val (m + 1)].toArray 38 (0, 0)) :: (b8, .cells [.pointer (some ⟨g, 0, none⟩)].toArray 89 (0, 0)) :: (g, .cells [.string a, .string b, .int .i64 pi, .int .i64 po, .int .i64 ps, .slice (some ⟨bb, 0, none⟩) (a.size + 1) cap].toArray 99 (0, 0)) :: (bb, .cells (Bs.map (rowV (b.size + 1)) ++ jk).toArray 46 (0, 0)) :: (sv5.mem 88 (cellsP (zs ++ [(x3, x4)])) ++ (((rowsM (D a b pi po ps) (b.size + 1) Bs) ++ ((b5, .cells [.int .i64 pi, .int .i64 po, .int .i64 ps].toArray 28 (0, 0)) :: (b4, .cells [.int .i64 x3, .int .i64 x4].toArray 88 (0, 0)) :: (eb, .cells [.pointer (some ⟨g, 0, none⟩), .int .i64 (i' : Int), .int .i64 (j' : Int), .int .i64 x3, .int .i64 x4].toArray 97 (0, 0)) :: (gs6 ++ ((gs2 ++ ([])))))))) : List (Nat × Obj)) from List.Perm.trans (List.Perm.of_eq (by simp only [List.append_assoc, List.cons_append, List.nil_append, List.append_nil])) (List.Perm.trans (List.Perm.append_left ((bj, .cells [.int .i64 (j : Int)].toArray 3 (0, 0)) :: (bi, .cells [.int .i64 (i : Int)].toArray 3 (0, 0)) :: (bg, .cells [.pointer (some ⟨g, 0, none⟩)].toArray 89 (0, 0)) :: (c12, .cells [.int .i64 (j' : Int)].toArray 3 (0, 0)) :: (c11, .cells [.int .i64 (i' : Int)].toArray 3 (0, 0)) :: (b10, .cells [sv5.val (m + 1)].toArray 38 (0, 0)) :: (b8, .cells [.pointer (some ⟨g, 0, none⟩)].toArray 89 (0, 0)) :: (g, .cells [.string a, .string b, .int .i64 pi, .int .i64 po, .int .i64 ps, .slice (some ⟨bb, 0, none⟩) (a.size + 1) cap].toArray 99 (0, 0)) :: (bb, .cells (Bs.map (rowV (b.size + 1)) ++ jk).toArray 46 (0, 0)) :: (sv5.mem 88 (cellsP (zs ++ [(x3, x4)])) ++ ([])) : List (Nat × Obj)) (List.perm_append_comm_assoc ((gs6 ++ ([])) : List (Nat × Obj)) (((rowsM (D a b pi po ps) (b.size + 1) Bs) ++ ((b5, .cells [.int .i64 pi, .int .i64 po, .int .i64 ps].toArray 28 (0, 0)) :: (b4, .cells [.int .i64 x3, .int .i64 x4].toArray 88 (0, 0)) :: (eb, .cells [.pointer (some ⟨g, 0, none⟩), .int .i64 (i' : Int), .int .i64 (j' : Int), .int .i64 x3, .int .i64 x4].toArray 97 (0, 0)) :: [])) : List (Nat × Obj)) ((gs2 ++ ([])) : List (Nat × Obj)))) (List.Perm.of_eq (by simp only [List.append_assoc, List.cons_append, List.nil_append, List.append_nil])))))))⟩
      · (try simp at cq3)
        have hne : ¬ edgeC a b pi po ps ((i' : Int), (j' : Int), x3, x4) = D a b pi po ps i j := cq3
        refine g_skip ?_
        refine g_inb ?_
        exact fun act W _ hW => ⟨fun k o h ho => hW.marks k o h ho, _, ⟨(eb, .cells [.pointer (some ⟨g, 0, none⟩), .int .i64 (i' : Int), .int .i64 (j' : Int), .int .i64 x3, .int .i64 x4].toArray 97 (0, 0)) :: (gs2 ++ ([])), (by intro y hy; rw [List.take_add_one, hx0] at hy; rcases List.mem_append.1 hy with hy | hy; exact hno y hy; simp at hy; subst hy; exact hne), (by simp only [List.append_nil, List.nil_append, List.cons_append, List.append_assoc])⟩, (show Hq w we ((bj, .cells [.int .i64 (j : Int)].toArray 3 (0, 0)) :: (bi, .cells [.int .i64 (i : Int)].toArray 3 (0, 0)) :: (bg, .cells [.pointer (some ⟨g, 0, none⟩)].toArray 89 (0, 0)) :: (c12, .cells [.int .i64 (j : Int)].toArray 3 (0, 0)) :: (c11, .cells [.int .i64 (i : Int)].toArray 3 (0, 0)) :: (b10, .cells [sv.val m].toArray 38 (0, 0)) :: (b8, .cells [.pointer (some ⟨g, 0, none⟩)].toArray 89 (0, 0)) :: (g, .cells [.string a, .string b, .int .i64 pi, .int .i64 po, .int .i64 ps, .slice (some ⟨bb, 0, none⟩) (a.size + 1) cap].toArray 99 (0, 0)) :: (bb, .cells (Bs.map (rowV (b.size + 1)) ++ jk).toArray 46 (0, 0)) :: (sv.mem 88 (cellsP zs) ++ (((rowsM (D a b pi po ps) (b.size + 1) Bs) ++ ((b5, .cells [.int .i64 pi, .int .i64 po, .int .i64 ps].toArray 28 (0, 0)) :: (eb, .cells [.pointer (some ⟨g, 0, none⟩), .int .i64 (i' : Int), .int .i64 (j' : Int), .int .i64 x3, .int .i64 x4].toArray 97 (0, 0)) :: (gs2 ++ ([]))))))) W from (hq.round hW2 hW (show ∀ y ∈ ((bj, .cells [.int .i64 (j : Int)].toArray 3 (0, 0)) :: (bi, .cells [.int .i64 (i : Int)].toArray 3 (0, 0)) :: (bg, .cells [.pointer (some ⟨g, 0, none⟩)].toArray 89 (0, 0)) :: (c12, .cells [.int .i64 (j : Int)].toArray 3 (0, 0)) :: (c11, .cells [.int .i64 (i : Int)].toArray 3 (0, 0)) :: (b10, .cells [sv.val m].toArray 38 (0, 0)) :: (b8, .cells [.pointer (some ⟨g, 0, none⟩)].toArray 89 (0, 0)) :: (g, .cells [.string a, .string b, .int .i64 pi, .int .i64 po, .int .i64 ps, .slice (some ⟨bb, 0, none⟩) (a.size + 1) cap].toArray 99 (0, 0)) :: (bb, .cells (Bs.map (rowV (b.size + 1)) ++ jk).toArray 46 (0, 0)) :: (sv.mem 88 (cellsP zs) ++ (((rowsM (D a b pi po ps) (b.size + 1) Bs) ++ ((b5, .cells [.int .i64 pi, .int .i64 po, .int .i64 ps].toArray 28 (0, 0)) :: (gs2 ++ ([])))))) : List (Nat × Obj)).map (·.1), y ∈ ((eb, .cells [.pointer (some ⟨g, 0, none⟩), .int .i64 (i' : Int), .int .i64 (j' : Int), .int .i64 x3, .int .i64 x4].toArray 97 (0, 0)) :: (bj, .cells [.int .i64 (j : Int)].toArray 3 (0, 0)) :: (bi, .cells [.int .i64 (i : Int)].toArray 3 (0, 0)) :: (bg, .cells [.pointer (some ⟨g, 0, none⟩)].toArray 89 (0, 0)) :: (c12, .cells [.int .i64 (j : Int)].toArray 3 (0, 0)) :: (c11, .cells [.int .i64 (i : Int)].toArray 3 (0, 0)) :: (b10, .cells [sv.val m].toArray 38 (0, 0)) :: (b8, .cells [.pointer (some ⟨g, 0, none⟩)].toArray 89 (0, 0)) :: (g, .cells [.string a, .string b, .int .i64 pi, .int .i64 po, .int .i64 ps, .slice (some ⟨bb, 0, none⟩) (a.size + 1) cap].toArray 99 (0, 0)) :: (bb, .cells (Bs.map (rowV (b.size + 1)) ++ jk).toArray 46 (0, 0)) :: (sv.mem 88 (cellsP zs) ++ (((rowsM (D a b pi po ps) (b.size + 1) Bs) ++ ((b5, .cells [.int .i64 pi, .int .i64 po, .int .i64 ps].toArray 28 (0, 0)) :: (gs2 ++ ([])))))) : List (Nat × Obj)).map (·.1) from fun y hy => by simp only [List.map_append, List.map_cons, List.map_nil, List.mem_append, List.mem_cons] at hy ⊢; rcases hy with h | h | h | h | h | h | h | h | h | h | h | h | h | h; exact (.inr (.inl h)); exact (.inr (.inr (.inl h))); exact (.inr (.inr (.inr (.inl h)))); exact (.inr (.inr (.inr (.inr (.inl h))))); exact (.inr (.inr (.inr (.inr (.inr (.inl h)))))); exact (.inr (.inr (.inr (.inr (.inr (.inr (.inl h))))))); exact (.inr (.inr (.inr (.inr (.inr (.inr (.inr (.inl h)))))))); exact (.inr (.inr (.inr (.inr (.inr (.inr (.inr (.inr (.inl h))))))))); exact (.inr (.inr (.inr (.inr (.inr (.inr (.inr (.inr (.inr (.inl h)))))))))); exact (.inr (.inr (.inr (.inr (.inr (.inr (.inr (.inr (.inr (.inr (.inl h))))))))))); exact (.inr (.inr (.inr (.inr (.inr (.inr (.inr (.inr (.inr (.inr (.inr (.inl h)))))))))))); exact (.inr (.inr (.inr (.inr (.inr (.inr (.inr (.inr (.inr (.inr (.inr (.inr (.inl h))))))))))))); exact (.inr (.inr (.inr (.inr (.inr (.inr (.inr (.inr (.inr (.inr (.inr (.inr (.inr (.inl h)))))))))))))); exact (.inr (.inr (.inr (.inr (.inr (.inr (.inr (.inr (.inr (.inr (.inr (.inr (.inr (.inr h))))))))))))))) (show ∀ y ∈ ((eb, .cells [.pointer (some ⟨g, 0, none⟩), .int .i64 (i' : Int), .int .i64 (j' : Int), .int .i64 x3, .int .i64 x4].toArray 97 (0, 0)) :: (bj, .cells [.int .i64 (j : Int)].toArray 3 (0, 0)) :: (bi, .cells [.int .i64 (i : Int)].toArray 3 (0, 0)) :: (bg, .cells [.pointer (some ⟨g, 0, none⟩)].toArray 89 (0, 0)) :: (c12, .cells [.int .i64 (j : Int)].toArray 3 (0, 0)) :: (c11, .cells [.int .i64 (i : Int)].toArray 3 (0, 0)) :: (b10, .cells [sv.val m].toArray 38 (0, 0)) :: (b8, .cells [.pointer (some ⟨g, 0, none⟩)].toArray 89 (0, 0)) :: (g, .cells [.string a, .string b, .int .i64 pi, .int .i64 po, .int .i64 ps, .slice (some ⟨bb, 0, none⟩) (a.size + 1) cap].toArray 99 (0, 0)) :: (bb, .cells (Bs.map (rowV (b.size + 1)) ++ jk).toArray 46 (0, 0)) :: (sv.mem 88 (cellsP zs) ++ (((rowsM (D a b pi po ps) (b.size + 1) Bs) ++ ((b5, .cells [.int .i64 pi, .int .i64 po, .int .i64 ps].toArray 28 (0, 0)) :: (gs2 ++ ([])))))) : List (Nat × Obj)).map (·.1), y ∈ ((eb, .cells [.pointer (some ⟨g, 0, none⟩), .int .i64 (i' : Int), .int .i64 (j' : Int), .int .i64 x3, .int .i64 x4].toArray 97 (0, 0)) :: (bj, .cells [.int .i64 (j : Int)].toArray 3 (0, 0)) :: (bi, .cells [.int .i64 (i : Int)].toArray 3 (0, 0)) :: (bg, .cells [.pointer (some ⟨g, 0, none⟩)].toArray 89 (0, 0)) :: (c12, .cells [.int .i64 (j : Int)].toArray 3 (0, 0)) :: (c11, .cells [.int .i64 (i : Int)].toArray 3 (0, 0)) :: (b10, .cells [sv.val m].toArray 38 (0, 0)) :: (b8, .cells [.pointer (some ⟨g, 0, none⟩)].toArray 89 (0, 0)) :: (g, .cells [.string a, .string b, .int .i64 pi, .int .i64 po, .int .i64 ps, .slice (some ⟨bb, 0, none⟩) (a.size + 1) cap].toArray 99 (0, 0)) :: (bb, .cells (Bs.map (rowV (b.size + 1)) ++ jk).toArray 46 (0, 0)) :: (sv.mem 88 (cellsP zs) ++ (((rowsM (D a b pi po ps) (b.size + 1) Bs) ++ ((b5, .cells [.int .i64 pi, .int .i64 po, .int .i64 ps].toArray 28 (0, 0)) :: (gs2 ++ ([])))))) : List (Nat × Obj)).map (·.1) from fun y hy => by simp only [List.map_append, List.map_cons, List.map_nil, List.mem_append, List.mem_cons] at hy ⊢; rcases hy with h | h | h | h | h | h | h | h | h | h | h | h | h | h | h; exact (.inl h); exact (.inr (.inl h)); exact (.inr (.inr (.inl h))); exact (.inr (.inr (.inr (.inl h)))); exact (.inr (.inr (.inr (.inr (.inl h))))); exact (.inr (.inr (.inr (.inr (.inr (.inl h)))))); exact (.inr (.inr (.inr (.inr (.inr (.inr (.inl h))))))); exact (.inr (.inr (.inr (.inr (.inr (.inr (.inr (.inl h)))))))); exact (.inr (.inr (.inr (.inr (.inr (.inr (.inr (.inr (.inl h))))))))); exact (.inr (.inr (.inr (.inr (.inr (.inr (.inr (.inr (.inr (.inl h)))))))))); exact (.inr (.inr (.inr (.inr (.inr (.inr (.inr (.inr (.inr (.inr (.inl h))))))))))); exact (.inr (.inr (.inr (.inr (.inr (.inr (.inr (.inr (.inr (.inr (.inr (.inl h)))))))))))); exact (.inr (.inr (.inr (.inr (.inr (.inr (.inr (.inr (.inr (.inr (.inr (.inr (.inl h))))))))))))); exact (.inr (.inr (.inr (.inr (.inr (.inr (.inr (.inr (.inr (.inr (.inr (.inr (.inr (.inl h)))))))))))))); exact (.inr (.inr (.inr (.inr (.inr (.inr (.inr (.inr (.inr (.inr (.inr (.inr (.inr (.inr h)))))))))))))))).perm (show ((eb, .cells [.pointer (some ⟨g, 0, none⟩), .int .i64 (i' : Int), .int .i64 (j' : Int), .int .i64 x3, .int .i64 x4].toArray 97 (0, 0)) :: (bj, .cells [.int .i64 (j : Int)].toArray 3 (0, 0)) :: (bi, .cells [.int .i64 (i : Int)].toArray 3 (0, 0)) :: (bg, .cells [.pointer (some ⟨g, 0, none⟩)].toArray 89 (0, 0)) :: (c12, .cells [.int .i64 (j : Int)].toArray 3 (0, 0)) :: (c11, .cells [.int .i64 (i : Int)].toArray 3 (0, 0)) :: (b10, .cells [sv.val m].toArray 38 (0, 0)) :: (b8, .cells [.pointer (some ⟨g, 0, none⟩)].toArray 89 (0, 0)) :: (g, .cells [.string a, .string b, .int .i64 pi, .int .i64 po, .int .i64 ps, .slice (some ⟨bb, 0, none⟩) (a.size + 1) cap].toArray 99 (0, 0)) :: (bb, .cells (Bs.map (rowV (b.size + 1)) ++ jk).toArray 46 (0, 0)) :: (sv.mem 88 (cellsP zs) ++ (((rowsM (D a b pi po ps) (b.size + 1) Bs) ++ ((b5, .cells [.int .i64 pi, .int .i64 po, .int .i64 ps].toArray 28 (0, 0)) :: (gs2 ++ ([])))))) : List (Nat × Obj)).Perm ((bj, .cells [.int .i64 (j : Int)].toArray 3 (0, 0)) :: (bi, .cells [.int .i64 (i : Int)].toArray 3 (0, 0)) :: (bg, .cells [.pointer (some ⟨g, 0, none⟩)].toArray 89 (0, 0)) :: (c12, .cells [.int .i64 (j : Int)].toArray 3 (0, 0)) :: (c11, .cells [.int .i64 (i : Int)].toArray 3 (0, 0)) :: (b10, .cells [sv.val m].toArray 38 (0, 0)) :: (b8, .cells [.pointer (some ⟨g, 0, none⟩)].toArray 89 (0, 0)) :: (g, .cells [.string a, .string b, .int .i64 pi, .int .i64 po, .int .i64 ps, .slice (some ⟨bb, 0, none⟩) (a.size + 1) cap].toArray 99 (0, 0)) :: (bb, .cells (Bs.map (rowV (b.size + 1)) ++ jk).toArray 46 (0, 0)) :: (sv.mem 88 (cellsP zs) ++ (((rowsM (D a b pi po ps) (b.size + 1) Bs) ++ ((b5, .cells [.int .i64 pi, .int .i64 po, .int .i64 ps].toArray 28 (0, 0)) :: (eb, .cells [.pointer (some ⟨g, 0, none⟩), .int .i64 (i' : Int), .int .i64 (j' : Int), .int .i64 x3, .int .i64 x4].toArray 97 (0, 0)) :: (gs2 ++ ([])))))) : List (Nat × Obj)) from List.Perm.trans (List.Perm.of_eq (by simp only [List.append_assoc, List.cons_append, List.nil_append, List.append_nil])) (List.Perm.trans (List.perm_append_comm_assoc ((eb, .cells [.pointer (some ⟨g, 0, none⟩), .int .i64 (i' : Int), .int .i64 (j' : Int), .int .i64 x3, .int .i64 x4].toArray 97 (0, 0)) :: [] : List (Nat × Obj)) ((bj, .cells [.int .i64 (j : Int)].toArray 3 (0, 0)) :: (bi, .cells [.int .i64 (i : Int)].toArray 3 (0, 0)) :: (bg, .cells [.pointer (some ⟨g, 0, none⟩)].toArray 89 (0, 0)) :: (c12, .cells [.int .i64 (j : Int)].toArray 3 (0, 0)) :: (c11, .cells [.int .i64 (i : Int)].toArray 3 (0, 0)) :: (b10, .cells [sv.val m].toArray 38 (0, 0)) :: (b8, .cells [.pointer (some ⟨g, 0, none⟩)].toArray 89 (0, 0)) :: (g, .cells [.string a, .string b, .int .i64 pi, .int .i64 po, .int .i64 ps, .slice (some ⟨bb, 0, none⟩) (a.size + 1) cap].toArray 99 (0, 0)) :: (bb, .cells (Bs.map (rowV (b.size + 1)) ++ jk).toArray 46 (0, 0)) :: (sv.mem 88 (cellsP zs) ++ (((rowsM (D a b pi po ps) (b.size + 1) Bs) ++ ((b5, .cells [.int .i64 pi, .int .i64 po, .int .i64 ps].toArray 28 (0, 0)) :: [])))) : List (Nat × Obj)) ((gs2 ++ ([])) : List (Nat × Obj))) (List.Perm.of_eq (by simp only [List.append_assoc, List.cons_append, List.nil_append, List.append_nil])))))⟩
    · skip
      rintro we W Dm _ hwe ⟨gs2, hno, rfl⟩ hq hD hW hbk
      have hM := hM.next hwe hbk hD hW
      exfalso
      obtain ⟨x, hx1, hx2⟩ := edge_least a b hok i j (by omega)
      exact hno x (by rw [List.take_length]; exact hx1) hx2
    · skip
      rintro we W Dm _ k _ hwe (⟨rfl, i2, j2, sv2, m2, zs2, gs2, hok2, hm2, hij2, hinv2, rfl⟩) hq hD hW hbk
      have hM := hM.next hwe hbk hD hW
      refine g_exit ?_
      refine g_inbx ?_
      refine g_inb ?_
      refine g_then ?_
      refine g_seq ?_
      refine g_region ?_
      refine s_y (y_ld1 4 rfl rfl agg_3 rfl) rfl rfl rfl rfl ?_
      refine s_y (y_ld1 3 rfl rfl agg_3 rfl) rfl rfl rfl rfl ?_
      refine s_nil ?_
      refine g_then ?_
      refine g_region ?_
      refine s_tr (t_alloc zero_3 rfl) rfl rfl rfl rfl (fun b11 hb11 => ?_)
      refine s_tr0 (t_store 0 rfl rfl rfl rfl size_3 rfl rfl) rfl rfl rfl (fun _ _ => ?_)
      refine s_tr (t_alloc zero_3 rfl) rfl rfl rfl rfl (fun b12 hb12 => ?_)
      refine s_tr0 (t_store 0 rfl rfl rfl rfl size_3 rfl rfl) rfl rfl rfl (fun _ _ => ?_)
      refine s_nil ?_
      refine g_then ?_
      exact fun act W ha hw => ⟨(i2 + j2), by omega, trivial, b11, b12, i2, j2, sv2, m2, zs2, _, W, hM.look hw.marks, (by exact hok2), (by exact hm2), (by omega), (by exact hinv2), ha.weak (sub_get ⟨rfl, rfl, rfl, rfl, rfl, rfl, trivial⟩), hw.toHq.lookSub (List.Sublist.cons_cons _ (List.Sublist.cons_cons _ (List.Sublist.cons _ (List.Sublist.cons _ (List.Sublist.cons _ (List.Sublist.cons _ (List.Sublist.cons _ (List.Sublist.cons_cons _ (List.Sublist.cons_cons _ (List.Sublist.cons_cons _ (List.Sublist.cons_cons _ (sub_app (sv2.mem 88 (cellsP zs2)) (sub_app (rowsM (D a b pi po ps) (b.size + 1) Bs) (List.Sublist.cons_cons _ (List.nil_sublist _)))))))))))))))⟩
  · (try simp at cq1)
    refine g_exit ?_
    refine g_thenx ?_
    refine g_thenx ?_
    refine g_inbx ?_
    refine g_then ?_
    refine g_seq ?_
    refine g_region ?_
    refine s_y (y_ld1 2 rfl rfl agg_38 rfl) rfl rfl rfl rfl ?_
    refine s_tr (t_callx (ι := Unit) (A := fun _ => True) (vf := fun _ => .tuple #[]) (wf := fun _ => _) (mf := fun _ => (c12, .cells [.int .i64 (j : Int)].toArray 3 (0, 0)) :: (c11, .cells [.int .i64 (i : Int)].toArray 3 (0, 0)) :: (b10, .cells [sv.val m].toArray 38 (0, 0)) :: (b8, .cells [.pointer (some ⟨g, 0, none⟩)].toArray 89 (0, 0)) :: (g, .cells [.string a, .string b, .int .i64 pi, .int .i64 po, .int .i64 ps, .slice (some ⟨bb, 0, none⟩) (a.size + 1) cap].toArray 99 (0, 0)) :: (bb, .cells (Bs.map (rowV (b.size + 1)) ++ jk).toArray 46 (0, 0)) :: (sv.mem 88 (cellsP zs.reverse) ++ (((rowsM (D a b pi po ps) (b.size + 1) Bs) ++ ((b5, .cells [.int .i64 pi, .int .i64 po, .int .i64 ps].toArray 28 (0, 0)) :: []))))) rfl rfl ent_67 (fun w h => by simp only [Array.append_empty, Array.empty_append]; exact (Rev_sv (sv := sv) (zs := zs) ((c12, .cells [.int .i64 (j : Int)].toArray 3 (0, 0)) :: (c11, .cells [.int .i64 (i : Int)].toArray 3 (0, 0)) :: (b10, .cells [sv.val m].toArray 38 (0, 0)) :: (b8, .cells [.pointer (some ⟨g, 0, none⟩)].toArray 89 (0, 0)) :: (g, .cells [.string a, .string b, .int .i64 pi, .int .i64 po, .int .i64 ps, .slice (some ⟨bb, 0, none⟩) (a.size + 1) cap].toArray 99 (0, 0)) :: (bb, .cells (Bs.map (rowV (b.size + 1)) ++ jk).toArray 46 (0, 0)) :: []) _ rfl hokz (by omega) h).mono fun e w' ⟨h1, h2⟩ => ⟨(), trivial, h1, h2⟩)) rfl rfl rfl rfl (fun _ _ => ?_)
    refine s_nil ?_
    refine g_then ?_
    refine g_seq ?_
    refine g_region ?_
    refine s_y (y_ld1 2 rfl rfl agg_38 rfl) rfl rfl rfl rfl ?_
    refine s_y (y_assign rfl) rfl rfl rfl rfl ?_
    refine s_y (y_assign rfl) rfl rfl rfl rfl ?_
    refine s_nil ?_
    refine g_then ?_
    refine g_ret ?_
    obtain rfl : i = 0 := by omega
    obtain rfl : j = 0 := by omega
    have hfin : zs.reverse.length ≤ 24 ∧ runE a pi po ps st0 zs.reverse = some (firstB b b.size, D a b pi po ps a.size b.size, a.size) := ⟨by simp; omega, hinv.done⟩
    exact g_end hM (fun a w ha hq_ => res2 ha rfl rfl rfl  w) (fun w h => ⟨zs.reverse, hfin, (_, sv.mem 88 (cellsP zs.reverse)), ⟨(OwnP.sv (rev_ok hokz)), w, (h.hand (List.Sublist.cons _ (List.Sublist.cons _ (List.Sublist.cons _ (List.Sublist.cons _ (List.Sublist.cons _ (List.Sublist.cons _ (sub_here (sv.mem 88 (cellsP zs.reverse)) _)))))))).at_⟩, rfl, h.hand (List.Sublist.cons _ (List.Sublist.cons _ (List.Sublist.cons _ (List.Sublist.cons _ (List.Sublist.cons _ (List.Sublist.cons _ (sub_here (sv.mem 88 (cellsP zs.reverse)) _)))))))⟩)

theorem Script_bad (w : World) (a b : ByteArray) (pi po ps : Int) (h : ¬ (a.size ≤ 12 ∧ b.size ≤ 12 ∧ okP pi po ps)) :
    Calls Try.prog 27 [.string a, .string b, .agg #[.int .i64 pi, .int .i64 po, .int .i64 ps]].toArray w fun e w' => e = .returned (.tuple #[.slice none 0 0, .int .i64 2]) ∧ Below w.heap.size w w' := by
  refine enter (N := 63) Try.func27 rfl rfl rfl ?_
  refine g_seq ?_
  refine g_region ?_
  refine s_tr (t_box rfl rfl) rfl rfl rfl rfl (fun b1 hb1 => ?_)
  refine s_y (y_assign rfl) rfl rfl rfl rfl ?_
  refine s_y (y_assign rfl) rfl rfl rfl rfl ?_
  refine s_nil ?_
  refine g_then ?_
  refine g_seq ?_
  refine g_region ?_
  refine s_y (y_move rfl) rfl rfl rfl rfl ?_
  refine s_y (y_move rfl) rfl rfl rfl rfl ?_
  refine s_y (y_ldn 0 rfl rfl agg_28 size_28 rfl rfl) rfl rfl rfl rfl ?_
  refine s_tr (t_callm (A := fun _ => True) (vf := fun g : Nat => .tuple #[.pointer (some ⟨g, 0, none⟩), .bool false]) (mm := fun _ => []) rfl rfl ent_62 (fun w hw => (read_bad w a b pi po ps h).mono fun e w' ⟨g, h1, h2⟩ => ⟨g, trivial, h1, Hq.of_below h2⟩)) rfl rfl rfl rfl (fun g _ => ?_)
  refine s_y (y_move rfl) rfl rfl rfl rfl ?_
  refine s_y (y_extract rfl rfl) rfl rfl rfl rfl ?_
  refine s_y (y_extract rfl rfl) rfl rfl rfl rfl ?_
  refine s_tr (t_alloc zero_89 rfl) rfl rfl rfl rfl (fun b2 hb2 => ?_)
  refine s_tr0 (t_store 0 rfl rfl rfl rfl size_89 rfl rfl) rfl rfl rfl (fun _ _ => ?_)
  refine s_y (y_assign rfl) rfl rfl rfl rfl ?_
  refine s_nil ?_
  refine g_then ?_
  refine g_seq ?_
  refine g_seq ?_
  refine g_region ?_
  refine s_y (y_move rfl) rfl rfl rfl rfl ?_
  refine s_y (y_not_f rfl) rfl rfl rfl rfl ?_
  refine s_nil ?_
  refine g_then ?_
  refine g_cond_t rfl ?_
  refine g_seq ?_
  refine g_region ?_
  refine s_y (y_assign rfl) rfl rfl rfl rfl ?_
  refine s_y (y_assign rfl) rfl rfl rfl rfl ?_
  refine s_nil ?_
  refine g_then ?_
  refine g_ret ?_
  refine g_thenr ?_
  exact g_end trivial (fun a w ha hq_ => res2 ha rfl rfl rfl  w) (fun w h => ⟨rfl, h.below⟩)

end Go.Proofs.Ytnnpdgegejklpaa
