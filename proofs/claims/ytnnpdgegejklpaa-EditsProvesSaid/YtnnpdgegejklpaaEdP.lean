/- edits: CheckHeights. -/
import Derived.Test.YtnnpdgegejklpaaEdO
namespace Go.Proofs.Ytnnpdgegejklpaa
open Go.RowKit Go.Sx 
set_option linter.unusedVariables false
set_option linter.unusedSimpArgs false
set_option maxRecDepth 100000
set_option maxHeartbeats 4000000

private theorem zero_3 : (Try.prog.info? 3).bind (·.zero) = some (.int .i64 0) := by kernel_rfl
private theorem zero_4 : (Try.prog.info? 4).bind (·.zero) = some (.bool false) := by kernel_rfl
private theorem zero_24 : (Try.prog.info? 24).bind (·.zero) = some (.int .i64 0) := by kernel_rfl
private theorem agg_28 : isAggB Try.prog 28 = some true := by kernel_rfl
private theorem size_28 : (Try.prog.info? 28).map (·.size) = some 3 := by kernel_rfl
private theorem ent_62 : Enters Try.prog 62 := enters_of Try.func62 (by kernel_rfl) rfl
private theorem agg_66 : isAggB Try.prog 66 = some false := by kernel_rfl
private theorem sle_66 : Try.prog.underlying 66 = some (.slice (Try.prog.elem 66)) := by kernel_rfl
private theorem size_3 : (Try.prog.info? 3).map (·.size) = some 1 := by kernel_rfl
private theorem size_4 : (Try.prog.info? 4).map (·.size) = some 1 := by kernel_rfl
private theorem size_24 : (Try.prog.info? 24).map (·.size) = some 1 := by kernel_rfl
private theorem agg_3 : isAggB Try.prog 3 = some false := by kernel_rfl
private theorem agg_4 : isAggB Try.prog 4 = some false := by kernel_rfl
private theorem agg_24 : isAggB Try.prog 24 = some false := by kernel_rfl
private theorem size_46 : (Try.prog.info? 46).map (·.size) = some 1 := by kernel_rfl
private theorem agg_46 : isAggB Try.prog 46 = some false := by kernel_rfl
private theorem sle_46 : Try.prog.underlying 46 = some (.slice (Try.prog.elem 46)) := by kernel_rfl
private theorem ent_80 : Enters Try.prog 80 := enters_of Try.func80 (by kernel_rfl) rfl
private theorem ent_81 : Enters Try.prog 81 := enters_of Try.func81 (by kernel_rfl) rfl
private theorem ent_64 : Enters Try.prog 64 := enters_of Try.func64 (by kernel_rfl) rfl
private theorem ent_88 : Enters Try.prog 88 := enters_of Try.func88 (by kernel_rfl) rfl
private theorem zero_97 : (Try.prog.info? 97).bind (·.zero) = some (.agg #[(.pointer none), (.int .i64 0), (.int .i64 0), (.int .i64 0), (.int .i64 0)]) := by kernel_rfl
private theorem size_97 : (Try.prog.info? 97).map (·.size) = some 5 := by kernel_rfl
private theorem fld_97_1 (b off : Nat) (w : World) : (Instr.fieldAt 97 (.pointer (some ⟨b, off, none⟩)) 1).run Try.prog w = .ok (.pointer (some ⟨b, off + 1, none⟩)) w := by kernel_rfl
private theorem fld_97_2 (b off : Nat) (w : World) : (Instr.fieldAt 97 (.pointer (some ⟨b, off, none⟩)) 2).run Try.prog w = .ok (.pointer (some ⟨b, off + 2, none⟩)) w := by kernel_rfl
private theorem fld_97_3 (b off : Nat) (w : World) : (Instr.fieldAt 97 (.pointer (some ⟨b, off, none⟩)) 3).run Try.prog w = .ok (.pointer (some ⟨b, off + 3, none⟩)) w := by kernel_rfl
private theorem agg_88 : isAggB Try.prog 88 = some true := by kernel_rfl
private theorem size_88 : (Try.prog.info? 88).map (·.size) = some 2 := by kernel_rfl
private theorem ent_72 : Enters Try.prog 72 := enters_of Try.func72 (by kernel_rfl) rfl

theorem CheckH_ok (w : World) (a b : ByteArray) (pi po ps : Int) (v : Value) (vs : List Value) (hs : List (List Int)) (hh : RdVV w v vs hs) (hlh : hs.length ≤ 9223372036854775807) (ha12 : a.size ≤ 12) (hb12 : b.size ≤ 12) (hok : okP pi po ps) :
    Calls Try.prog 47 [.string a, .string b, .agg #[.int .i64 pi, .int .i64 po, .int .i64 ps], v].toArray w fun e w' => e = .returned (.tuple #[.int .i64 (hgtR a b pi po ps hs).1, .bool (hgtR a b pi po ps hs).2, .int .i64 0]) ∧ Below w.heap.size w w' := by
  have hM : Marks w w [] := trivial
  have hvl := hh.len
  refine enter (N := 110) Try.func47 rfl rfl rfl ?_
  refine g_seq ?_
  refine g_region ?_
  refine s_tr (t_box rfl rfl) rfl rfl rfl rfl (fun b6 hb6 => ?_)
  refine s_tr (t_box rfl hh.cells1) rfl rfl rfl rfl (fun b7 hb7 => ?_)
  refine s_tr (t_alloc zero_3 rfl) rfl rfl rfl rfl (fun b8 hb8 => ?_)
  refine s_tr (t_alloc zero_4 rfl) rfl rfl rfl rfl (fun b9 hb9 => ?_)
  refine s_tr (t_alloc zero_24 rfl) rfl rfl rfl rfl (fun b10 hb10 => ?_)
  refine s_nil ?_
  refine g_then ?_
  refine g_seq ?_
  refine g_region ?_
  refine s_y (y_move rfl) rfl rfl rfl rfl ?_
  refine s_y (y_move rfl) rfl rfl rfl rfl ?_
  refine s_y (y_ldn 4 rfl rfl agg_28 size_28 rfl rfl) rfl rfl rfl rfl ?_
  refine s_tr (t_callm (A := fun x : Nat × Nat × Nat × List Value × List Nat => x.2.2.2.2.length = a.size + 1) (vf := fun x => .tuple #[.pointer (some ⟨x.1, 0, none⟩), .bool true]) rfl rfl ent_62 (fun w hw => (read_ok w a b pi po ps ha12 hb12 hok).mono fun e w' ⟨x, h1, h2, h3⟩ => ⟨x, h1, h2, h3⟩)) rfl rfl rfl rfl (fun xg hxg => ?_)
  obtain ⟨g, bb, cap, jk, Bs⟩ := xg
  refine g_less (List.Sublist.cons_cons _ (List.Sublist.cons _ (sub_skip (rowsM (D a b pi po ps) (b.size + 1) Bs) (List.Sublist.refl _)))) (fun w1 => ?_)
  have hM : Marks w w1 [] := trivial
  refine s_y (y_move rfl) rfl rfl rfl rfl ?_
  refine s_y (y_extract rfl rfl) rfl rfl rfl rfl ?_
  refine s_y (y_extract rfl rfl) rfl rfl rfl rfl ?_
  refine s_y (y_assign rfl) rfl rfl rfl rfl ?_
  refine s_y (y_assign rfl) rfl rfl rfl rfl ?_
  refine s_nil ?_
  refine g_then ?_
  refine g_seq ?_
  refine g_seq ?_
  refine g_region ?_
  refine s_y (y_move rfl) rfl rfl rfl rfl ?_
  refine s_y (y_not_t rfl) rfl rfl rfl rfl ?_
  refine s_nil ?_
  refine g_then ?_
  refine g_cond_f rfl ?_
  refine g_skip ?_
  refine g_then ?_
  refine g_seq ?_
  refine g_seq ?_
  refine g_region ?_
  refine s_y (y_ld1 4 rfl rfl agg_66 rfl) rfl rfl rfl rfl ?_
  refine s_y (y_lenV (n := hs.length) rfl hh.shape sle_66) rfl rfl rfl rfl ?_
  refine s_y (y_move rfl) rfl rfl rfl rfl ?_
  refine s_y (y_lens rfl Try.underlying9) rfl rfl rfl rfl ?_
  refine s_y (y_add rfl rfl (by omega) (by omega)) rfl rfl rfl rfl ?_
  refine s_y (y_neq rfl rfl) rfl rfl rfl rfl ?_
  refine s_nil ?_
  refine g_then ?_
  refine g_cond rfl (fun cq1 => ?_) (fun cq1 => ?_)
  · (try simp at cq1)
    refine g_seq ?_
    refine g_region ?_
    refine s_tr0 (t_store 3 rfl rfl rfl rfl size_3 rfl rfl) rfl rfl rfl (fun _ _ => ?_)
    refine s_tr0 (t_store 2 rfl rfl rfl rfl size_4 rfl rfl) rfl rfl rfl (fun _ _ => ?_)
    refine s_tr0 (t_store 1 rfl rfl rfl rfl size_24 rfl rfl) rfl rfl rfl (fun _ _ => ?_)
    refine s_nil ?_
    refine g_then ?_
    refine g_ret ?_
    refine g_thenr ?_
    rw [hgtR_f (fun h_ => by have := h_.1.1; omega)]
    exact g_end hM (fun a w ha hq_ => res_c3 3 2 1 ha hq_ rfl rfl rfl rfl rfl rfl rfl agg_3 agg_4 agg_24) (fun w h => ⟨rfl, h.below⟩)
  · (try simp at cq1)
    refine g_skip ?_
    refine g_then ?_
    refine g_seq ?_
    refine g_seq ?_
    refine g_region ?_
    refine s_y (y_ld1 4 rfl rfl agg_66 rfl) rfl rfl rfl rfl ?_
    refine s_y (y_lenV (n := hs.length) rfl hh.shape sle_66) rfl rfl rfl rfl ?_
    refine s_y (y_move rfl) rfl rfl rfl rfl ?_
    refine s_nil ?_
    refine g_then ?_
    refine g_block ?_
    refine g_loop (fun (i : Nat) act W => i ≤ hs.length ∧ ∃ (ds : List Deferred) (w1 : World), Marks w w1 ds ∧ (∀ r ∈ hs.take i, r.length = b.size + 1 ∧ ∀ x ∈ r, -1000 ≤ x ∧ x ≤ 1000) ∧ Has 110 ds [(0, .string a), (1, .string b), (6, .pointer (some ⟨b6, 0, none⟩)), (7, .pointer (some ⟨b7, 0, none⟩)), (8, .pointer (some ⟨b8, 0, none⟩)), (9, .pointer (some ⟨b9, 0, none⟩)), (10, .pointer (some ⟨b10, 0, none⟩)), (11, .pointer (some ⟨g, 0, none⟩)), (35, v), (36, .int .i64 (hs.length : Nat)), (37, .int .i64 (i : Int))] act ∧ Hp w w1 ((g, .cells [.string a, .string b, .int .i64 pi, .int .i64 po, .int .i64 ps, .slice (some ⟨bb, 0, none⟩) (a.size + 1) cap].toArray 99 (0, 0)) :: (b10, .cells [.int .i64 0].toArray 24 (0, 0)) :: (b9, .cells [.bool false].toArray 4 (0, 0)) :: (b8, .cells [.int .i64 0].toArray 3 (0, 0)) :: (b7, .cells [v].toArray 66 (0, 0)) :: (b6, .cells [.int .i64 pi, .int .i64 po, .int .i64 ps].toArray 28 (0, 0)) :: []) W) (fun i => hs.length - i) 0 (fun act W ha hw => ⟨by omega, _, W, hM.look hw.marks, (by intro r hr; simp at hr), ha.weak (sub_get ⟨rfl, rfl, rfl, rfl, rfl, rfl, rfl, rfl, rfl, rfl, rfl, trivial⟩), hw.toHq.lookSub (List.Sublist.refl _)⟩) ?_
    intro i act W ⟨hb_i, ds, w1, hM, hsh, ha, hw⟩
    refine g_go ha hw ?_
    clear ha hw act W
    refine g_seq ?_
    refine g_region ?_
    refine s_y (y_lss rfl rfl) rfl rfl rfl rfl ?_
    refine s_nil ?_
    refine g_then ?_
    refine g_seq ?_
    refine g_cond rfl (fun cq2 => ?_) (fun cq2 => ?_)
    · (try simp at cq2)
      refine g_skip ?_
      refine g_then ?_
      refine g_seq ?_
      refine g_block ?_
      refine g_seq ?_
      refine g_region ?_
      refine s_y (y_idxR (i := (i : Int)) rfl rfl hh Try.underlying66 size_46 (by omega) (by omega)) rfl rfl rfl rfl ?_
      refine s_y (y_ldV (enc := encV) (xs := vs) (fun w h => hh.rdl.below h.below) rfl agg_46 (rdVal_at (by omega) (by have := hh.len; omega))) rfl rfl rfl rfl ?_
      refine s_y (y_assign rfl) rfl rfl rfl rfl ?_
      refine s_nil ?_
      refine g_then ?_
      refine g_seq ?_
      refine g_region ?_
      refine s_y (y_move rfl) rfl rfl rfl rfl ?_
      refine s_y (y_lenV (n := ((rdR hs (i : Int)).length)) rfl (by obtain ⟨A, c, h1, _⟩ := (hh.at_ (i := (i : Int)) (by omega) (by omega)); exact ⟨A, c, h1⟩) sle_46) rfl rfl rfl rfl ?_
      refine s_y (y_move rfl) rfl rfl rfl rfl ?_
      refine s_y (y_lens rfl Try.underlying9) rfl rfl rfl rfl ?_
      refine s_y (y_add rfl rfl (by omega) (by omega)) rfl rfl rfl rfl ?_
      refine s_y (y_neq rfl rfl) rfl rfl rfl rfl ?_
      refine s_y (y_move rfl) rfl rfl rfl rfl ?_
      refine g_bool 47 rfl (fun cq3 => ?_) (fun cq3 => ?_)
      · (try simp at cq3)
        refine s_no rfl rfl rfl ?_
        refine s_no rfl rfl rfl ?_
        refine s_no rfl rfl rfl ?_
        refine s_y (y_pick_t rfl rfl) rfl rfl rfl rfl ?_
        refine s_y (y_move rfl) rfl rfl rfl rfl ?_
        refine s_no rfl rfl rfl ?_
        refine s_no rfl rfl rfl ?_
        refine s_no rfl rfl rfl ?_
        refine s_y (y_pick_t rfl rfl) rfl rfl rfl rfl ?_
        refine s_nil ?_
        refine g_then ?_
        refine g_cond_t rfl ?_
        refine g_seq ?_
        refine g_region ?_
        refine s_tr0 (t_store 3 rfl rfl rfl rfl size_3 rfl rfl) rfl rfl rfl (fun _ _ => ?_)
        refine s_tr0 (t_store 2 rfl rfl rfl rfl size_4 rfl rfl) rfl rfl rfl (fun _ _ => ?_)
        refine s_tr0 (t_store 1 rfl rfl rfl rfl size_24 rfl rfl) rfl rfl rfl (fun _ _ => ?_)
        refine s_nil ?_
        refine g_then ?_
        refine g_ret ?_
        refine g_inbr ?_
        refine g_thenr ?_
        refine g_thenr ?_
        refine g_inbr ?_
        refine g_thenr ?_
        rw [hgtR_f (fun h_ => by have h1 := h_.1.2 (rdR hs (i : Int)) (rdR_mem (by omega) (by omega)); first | (have := h1.1; omega) | (have := h1.2 _ hmn.1; omega) | (have := h1.2 _ hmx.1; omega))]
        exact g_end hM (fun a w ha hq_ => res_c3 3 2 1 ha hq_ rfl rfl rfl rfl rfl rfl rfl agg_3 agg_4 agg_24) (fun w h => ⟨rfl, h.below⟩)
      · (try simp at cq3)
        refine s_y (y_move rfl) rfl rfl rfl rfl ?_
        refine s_tr (t_callm (A := fun z : Int => z ∈ (rdR hs (i : Int)) ∧ ∀ x ∈ (rdR hs (i : Int)), z ≤ x) (vf := fun z => .int .i64 z) (mm := fun _ => []) rfl rfl ent_80 (fun w h => (Min_any w _ (rdR hs (i : Int)) ((hh.at_ (i := (i : Int)) (by omega) (by omega)).below h.below) (by omega) (by omega)).mono fun e w' ⟨z, h1, h2, h3⟩ => ⟨z, h1, h2, Hq.of_below h3⟩)) rfl rfl rfl rfl (fun zmin hmn => ?_)
        refine s_y (y_lss rfl rfl) rfl rfl rfl rfl ?_
        refine s_y (y_pick_f rfl rfl) rfl rfl rfl rfl ?_
        refine s_y (y_move rfl) rfl rfl rfl rfl ?_
        refine g_bool 52 rfl (fun cq4 => ?_) (fun cq4 => ?_)
        · (try simp at cq4)
          refine s_no rfl rfl rfl ?_
          refine s_no rfl rfl rfl ?_
          refine s_no rfl rfl rfl ?_
          refine s_y (y_pick_t rfl rfl) rfl rfl rfl rfl ?_
          refine s_nil ?_
          refine g_then ?_
          refine g_cond_t rfl ?_
          refine g_seq ?_
          refine g_region ?_
          refine s_tr0 (t_store 3 rfl rfl rfl rfl size_3 rfl rfl) rfl rfl rfl (fun _ _ => ?_)
          refine s_tr0 (t_store 2 rfl rfl rfl rfl size_4 rfl rfl) rfl rfl rfl (fun _ _ => ?_)
          refine s_tr0 (t_store 1 rfl rfl rfl rfl size_24 rfl rfl) rfl rfl rfl (fun _ _ => ?_)
          refine s_nil ?_
          refine g_then ?_
          refine g_ret ?_
          refine g_inbr ?_
          refine g_thenr ?_
          refine g_thenr ?_
          refine g_inbr ?_
          refine g_thenr ?_
          rw [hgtR_f (fun h_ => by have h1 := h_.1.2 (rdR hs (i : Int)) (rdR_mem (by omega) (by omega)); first | (have := h1.1; omega) | (have := h1.2 _ hmn.1; omega) | (have := h1.2 _ hmx.1; omega))]
          exact g_end hM (fun a w ha hq_ => res_c3 3 2 1 ha hq_ rfl rfl rfl rfl rfl rfl rfl agg_3 agg_4 agg_24) (fun w h => ⟨rfl, h.below⟩)
        · (try simp at cq4)
          refine s_y (y_move rfl) rfl rfl rfl rfl ?_
          refine s_tr (t_callm (A := fun z : Int => z ∈ (rdR hs (i : Int)) ∧ ∀ x ∈ (rdR hs (i : Int)), x ≤ z) (vf := fun z => .int .i64 z) (mm := fun _ => []) rfl rfl ent_81 (fun w h => (Max_any w _ (rdR hs (i : Int)) ((hh.at_ (i := (i : Int)) (by omega) (by omega)).below h.below) (by omega) (by omega)).mono fun e w' ⟨z, h1, h2, h3⟩ => ⟨z, h1, h2, Hq.of_below h3⟩)) rfl rfl rfl rfl (fun zmax hmx => ?_)
          refine s_y (y_gtr rfl rfl) rfl rfl rfl rfl ?_
          refine s_y (y_pick_f rfl rfl) rfl rfl rfl rfl ?_
          refine s_nil ?_
          refine g_then ?_
          refine g_cond rfl (fun cq5 => ?_) (fun cq5 => ?_)
          · (try simp at cq5)
            refine g_seq ?_
            refine g_region ?_
            refine s_tr0 (t_store 3 rfl rfl rfl rfl size_3 rfl rfl) rfl rfl rfl (fun _ _ => ?_)
            refine s_tr0 (t_store 2 rfl rfl rfl rfl size_4 rfl rfl) rfl rfl rfl (fun _ _ => ?_)
            refine s_tr0 (t_store 1 rfl rfl rfl rfl size_24 rfl rfl) rfl rfl rfl (fun _ _ => ?_)
            refine s_nil ?_
            refine g_then ?_
            refine g_ret ?_
            refine g_inbr ?_
            refine g_thenr ?_
            refine g_thenr ?_
            refine g_inbr ?_
            refine g_thenr ?_
            rw [hgtR_f (fun h_ => by have h1 := h_.1.2 (rdR hs (i : Int)) (rdR_mem (by omega) (by omega)); first | (have := h1.1; omega) | (have := h1.2 _ hmn.1; omega) | (have := h1.2 _ hmx.1; omega))]
            exact g_end hM (fun a w ha hq_ => res_c3 3 2 1 ha hq_ rfl rfl rfl rfl rfl rfl rfl agg_3 agg_4 agg_24) (fun w h => ⟨rfl, h.below⟩)
          · (try simp at cq5)
            refine g_skip ?_
            refine g_inb ?_
            refine g_then ?_
            refine g_region ?_
            refine s_y (y_add rfl rfl (by omega) (by omega)) rfl rfl rfl rfl ?_
            refine s_y (y_move rfl) rfl rfl rfl rfl ?_
            refine s_nil ?_
            refine g_then ?_
            exact fun act W ha hw => ⟨i + 1, by omega, by omega, _, W, hM.look hw.marks, (by rw [rdR_take (by omega)]; intro r hr; rcases List.mem_append.1 hr with hr | hr; exact hsh r hr; rw [List.mem_singleton] at hr; subst hr; exact ⟨by omega, fun x hx => ⟨by have := hmn.2 x hx; omega, by have := hmx.2 x hx; omega⟩⟩), ha.weak (sub_get ⟨rfl, rfl, rfl, rfl, rfl, rfl, rfl, rfl, rfl, rfl, rfl, trivial⟩), hw.toHq.lookSub (List.Sublist.refl _)⟩
    · (try simp at cq2)
      refine g_exit ?_
      refine g_thenx ?_
      refine g_thenx ?_
      refine g_inbx ?_
      refine g_then ?_
      refine g_seq ?_
      refine g_seq ?_
      have hall : shapeH a b hs := ⟨by omega, by have h_ := hsh; rw [show i = hs.length by omega, List.take_length] at h_; exact h_⟩
      have hln := hall.1
      have hrow : ∀ k : Nat, k ≤ a.size → (rdR hs (k : Int)).length = b.size + 1 := fun k hk => (hall.2 _ (rdR_mem (by omega) (by omega))).1
      have hbnd : ∀ k l : Nat, k ≤ a.size → l ≤ b.size → -1000 ≤ ht hs k l ∧ ht hs k l ≤ 1000 := fun k l hk hl_ => (hall.2 _ (rdR_mem (i := (k : Int)) (by omega) (by omega))).2 _ (rdI_mem (by omega) (by rw [hrow k hk]; omega))
      refine g_region ?_
      refine s_y (y_ld1 4 rfl rfl agg_66 rfl) rfl rfl rfl rfl ?_
      refine s_y (y_lenV (n := hs.length) rfl hh.shape sle_66) rfl rfl rfl rfl ?_
      refine s_y (y_move rfl) rfl rfl rfl rfl ?_
      refine s_nil ?_
      refine g_then ?_
      refine g_block ?_
      refine g_loop (fun (p : Nat) act W => p ≤ hs.length ∧ ∃ (ds : List Deferred) (w1 : World), Marks w w1 ds ∧ (∀ i' j' : Nat, i' < p → j' ≤ b.size → ∀ x ∈ edges a b (i' : Int) (j' : Int), edgeH a b pi po ps hs i' j' x) ∧ Has 110 ds [(0, .string a), (1, .string b), (6, .pointer (some ⟨b6, 0, none⟩)), (7, .pointer (some ⟨b7, 0, none⟩)), (8, .pointer (some ⟨b8, 0, none⟩)), (9, .pointer (some ⟨b9, 0, none⟩)), (10, .pointer (some ⟨b10, 0, none⟩)), (11, .pointer (some ⟨g, 0, none⟩)), (58, v), (59, .int .i64 (hs.length : Nat)), (60, .int .i64 (p : Int))] act ∧ Hp w w1 ((g, .cells [.string a, .string b, .int .i64 pi, .int .i64 po, .int .i64 ps, .slice (some ⟨bb, 0, none⟩) (a.size + 1) cap].toArray 99 (0, 0)) :: (b10, .cells [.int .i64 0].toArray 24 (0, 0)) :: (b9, .cells [.bool false].toArray 4 (0, 0)) :: (b8, .cells [.int .i64 0].toArray 3 (0, 0)) :: (b7, .cells [v].toArray 66 (0, 0)) :: (b6, .cells [.int .i64 pi, .int .i64 po, .int .i64 ps].toArray 28 (0, 0)) :: []) W) (fun p => hs.length - p) 0 (fun act W ha hw => ⟨by omega, _, W, hM.look hw.marks, (by intro i' j' h1; omega), ha.weak (sub_get ⟨rfl, rfl, rfl, rfl, rfl, rfl, rfl, rfl, rfl, rfl, rfl, trivial⟩), hw.toHq.lookSub (List.Sublist.refl _)⟩) ?_
      intro p act W ⟨hb_p, ds, w1, hM, hE, ha, hw⟩
      refine g_go ha hw ?_
      clear ha hw act W
      have hrp : p < hs.length → (rdR hs (p : Int)).length = b.size + 1 := fun hp_ => hrow p (by omega)
      refine g_seq ?_
      refine g_region ?_
      refine s_y (y_lss rfl rfl) rfl rfl rfl rfl ?_
      refine s_nil ?_
      refine g_then ?_
      refine g_seq ?_
      refine g_cond rfl (fun cq6 => ?_) (fun cq6 => ?_)
      · (try simp at cq6)
        refine g_skip ?_
        refine g_then ?_
        refine g_seq ?_
        refine g_block ?_
        refine g_seq ?_
        refine g_region ?_
        refine s_y (y_move rfl) rfl rfl rfl rfl ?_
        refine s_y (y_idxR (i := (p : Int)) rfl rfl hh Try.underlying66 size_46 (by omega) (by omega)) rfl rfl rfl rfl ?_
        refine s_y (y_ldV (enc := encV) (xs := vs) (fun w h => hh.rdl.below h.below) rfl agg_46 (rdVal_at (by omega) (by have := hh.len; omega))) rfl rfl rfl rfl ?_
        refine s_y (y_assign rfl) rfl rfl rfl rfl ?_
        refine s_y (y_assign rfl) rfl rfl rfl rfl ?_
        refine s_nil ?_
        refine g_then ?_
        refine g_seq ?_
        refine g_region ?_
        refine s_y (y_move rfl) rfl rfl rfl rfl ?_
        refine s_y (y_lenV (n := ((rdR hs (p : Int)).length)) rfl (by obtain ⟨A, c, h1, _⟩ := (hh.at_ (i := (p : Int)) (by omega) (by omega)); exact ⟨A, c, h1⟩) sle_46) rfl rfl rfl rfl ?_
        refine s_y (y_move rfl) rfl rfl rfl rfl ?_
        refine s_nil ?_
        refine g_then ?_
        refine g_block ?_
        refine g_loop (fun (q : Nat) act W => q ≤ b.size + 1 ∧ ∃ (ds : List Deferred) (w1 : World), Marks w w1 ds ∧ (∀ j' : Nat, j' < q → ∀ x ∈ edges a b (p : Int) (j' : Int), edgeH a b pi po ps hs p j' x) ∧ Has 110 ds [(0, .string a), (1, .string b), (6, .pointer (some ⟨b6, 0, none⟩)), (7, .pointer (some ⟨b7, 0, none⟩)), (8, .pointer (some ⟨b8, 0, none⟩)), (9, .pointer (some ⟨b9, 0, none⟩)), (10, .pointer (some ⟨b10, 0, none⟩)), (11, .pointer (some ⟨g, 0, none⟩)), (15, .int .i64 (p : Int)), (16, (rdVal vs (p : Int))), (58, v), (59, .int .i64 (hs.length : Nat)), (60, .int .i64 (p : Int)), (61, .bool (decide ((p : Int) < (hs.length : Nat)))), (62, .int .i64 (p : Int)), (63, .pointer (some (elemA (adrOf v) ((p : Int) : Int).toNat))), (64, (rdVal vs (p : Int))), (65, (rdVal vs (p : Int))), (66, .int .i64 ((rdR hs (p : Int)).length : Nat)), (67, .int .i64 (q : Int))] act ∧ Hp w w1 ((g, .cells [.string a, .string b, .int .i64 pi, .int .i64 po, .int .i64 ps, .slice (some ⟨bb, 0, none⟩) (a.size + 1) cap].toArray 99 (0, 0)) :: (b10, .cells [.int .i64 0].toArray 24 (0, 0)) :: (b9, .cells [.bool false].toArray 4 (0, 0)) :: (b8, .cells [.int .i64 0].toArray 3 (0, 0)) :: (b7, .cells [v].toArray 66 (0, 0)) :: (b6, .cells [.int .i64 pi, .int .i64 po, .int .i64 ps].toArray 28 (0, 0)) :: []) W) (fun q => b.size + 1 - q) 0 (fun act W ha hw => ⟨by omega, _, W, hM.look hw.marks, (by intro j' h1; omega), ha.weak (sub_get ⟨rfl, rfl, rfl, rfl, rfl, rfl, rfl, rfl, rfl, rfl, rfl, rfl, rfl, rfl, rfl, rfl, rfl, rfl, rfl, rfl, trivial⟩), hw.toHq.lookSub (List.Sublist.refl _)⟩) ?_
        intro q act W ⟨hb_q, ds, w1, hM, hF, ha, hw⟩
        refine g_go ha hw ?_
        clear ha hw act W
        refine g_seq ?_
        refine g_region ?_
        refine s_y (y_lss rfl rfl) rfl rfl rfl rfl ?_
        refine s_nil ?_
        refine g_then ?_
        refine g_seq ?_
        refine g_cond rfl (fun cq7 => ?_) (fun cq7 => ?_)
        · (try simp at cq7)
          refine g_skip ?_
          refine g_then ?_
          refine g_seq ?_
          refine g_block ?_
          refine g_seq ?_
          refine g_region ?_
          refine s_y (y_move rfl) rfl rfl rfl rfl ?_
          refine s_y (y_idxV (enc := (Value.int .i64)) (i := (q : Int)) rfl rfl (hh.at_ (i := (p : Int)) (by omega) (by omega)) Try.underlying46 size_3 (by omega) (by omega)) rfl rfl rfl rfl ?_
          refine s_y (y_ldV (enc := (Value.int .i64)) (xs := (rdR hs (p : Int))) (fun w h => (hh.at_ (i := (p : Int)) (by omega) (by omega)).rdl.below h.below) rfl agg_3 (rdI_at (by omega) (by omega))) rfl rfl rfl rfl ?_
          refine s_tr (t_alloc zero_3 rfl) rfl rfl rfl rfl (fun bx hbx => ?_)
          refine s_y (y_assign rfl) rfl rfl rfl rfl ?_
          refine s_tr0 (t_store 0 rfl rfl rfl rfl size_3 rfl rfl) rfl rfl rfl (fun _ _ => ?_)
          refine s_nil ?_
          refine g_then ?_
          refine g_seq ?_
          refine g_region ?_
          refine s_y (y_move rfl) rfl rfl rfl rfl ?_
          refine s_y (y_move rfl) rfl rfl rfl rfl ?_
          refine s_y (y_move rfl) rfl rfl rfl rfl ?_
          refine s_tr (t_callm (A := fun _ => True) rfl rfl ent_64 (fun w h => (into_any w _ _ _).mono fun e w' ⟨x, h1, h2⟩ => ⟨x, trivial, h1, h2⟩)) rfl rfl rfl rfl (fun xi _ => ?_)
          obtain ⟨bi, bj, bg⟩ := xi
          refine s_nil ?_
          refine g_then ?_
          refine g_block ?_
          refine g_range (gf := 88) (lb := [.pointer (some ⟨bi, 0, none⟩), .pointer (some ⟨bj, 0, none⟩), .pointer (some ⟨bg, 0, none⟩)]) (encs := edgeV g) (xs := (edges a b (p : Int) (q : Int))) rfl ent_88 (fun _ => rfl) (by decide) (fun _ W => GridS g bg bi bj a b (p : Int) (q : Int) W)
            (fun k m' => ∃ (gs8 : List (Nat × Obj)), (∀ x ∈ (edges a b (p : Int) (q : Int)).take (k), edgeH a b pi po ps hs p q x) ∧ m' = (bj, .cells [.int .i64 (q : Int)].toArray 3 (0, 0)) :: (bi, .cells [.int .i64 (p : Int)].toArray 3 (0, 0)) :: (bg, .cells [.pointer (some ⟨g, 0, none⟩)].toArray 89 (0, 0)) :: (bx, .cells [.int .i64 (rdI (rdR hs (p : Int)) (q : Int))].toArray 3 (0, 0)) :: (g, .cells [.string a, .string b, .int .i64 pi, .int .i64 po, .int .i64 ps, .slice (some ⟨bb, 0, none⟩) (a.size + 1) cap].toArray 99 (0, 0)) :: (b10, .cells [.int .i64 0].toArray 24 (0, 0)) :: (b9, .cells [.bool false].toArray 4 (0, 0)) :: (b8, .cells [.int .i64 0].toArray 3 (0, 0)) :: (b7, .cells [v].toArray 66 (0, 0)) :: (b6, .cells [.int .i64 pi, .int .i64 po, .int .i64 ps].toArray 28 (0, 0)) :: (gs8 ++ ([]))) (fun c k m' => (c = .ret ∧ ∃ (gs8 : List (Nat × Obj)), (¬ HOK a b pi po ps hs) ∧ m' = (bj, .cells [.int .i64 (q : Int)].toArray 3 (0, 0)) :: (bi, .cells [.int .i64 (p : Int)].toArray 3 (0, 0)) :: (bg, .cells [.pointer (some ⟨g, 0, none⟩)].toArray 89 (0, 0)) :: (bx, .cells [.int .i64 (rdI (rdR hs (p : Int)) (q : Int))].toArray 3 (0, 0)) :: (g, .cells [.string a, .string b, .int .i64 pi, .int .i64 po, .int .i64 ps, .slice (some ⟨bb, 0, none⟩) (a.size + 1) cap].toArray 99 (0, 0)) :: (b10, .cells [.int .i64 0].toArray 24 (0, 0)) :: (b9, .cells [.bool false].toArray 4 (0, 0)) :: (b8, .cells [.int .i64 0].toArray 3 (0, 0)) :: (b7, .cells [v].toArray 66 (0, 0)) :: (b6, .cells [.int .i64 pi, .int .i64 po, .int .i64 ps].toArray 28 (0, 0)) :: (gs8 ++ ([]))))
            (fun we hwe => into_iter g bg bi bj a b p q (by omega) (by omega) (by omega) (by omega) (by omega) (by omega))
            (by rintro we k _ W _ ⟨gs8, hno, rfl⟩ h; exact ⟨(h.at_ _ (List.mem_cons_of_mem _ (List.mem_cons_self ..))), (h.at_ _ (List.mem_cons_self ..)), (h.at_ _ (List.mem_cons_of_mem _ (List.mem_cons_of_mem _ (List.mem_cons_self ..)))), _, _, _, _, (h.at_ _ (List.mem_cons_of_mem _ (List.mem_cons_of_mem _ (List.mem_cons_of_mem _ (List.mem_cons_of_mem _ (List.mem_cons_self ..))))))⟩) ⟨[], (by intro x hx; simp at hx), rfl⟩ ?_ ?_ ?_
          · skip
            rintro we W1 hwe lp k x _ hx ⟨gs8, hno, rfl⟩ hq K hK
            have hx0 := hx
            have hxm := List.mem_of_getElem? hx
            obtain ⟨q1, q2, q3, q4, q5⟩ := edges_mem hxm (by omega) (by omega)
            obtain ⟨x1, x2, x3, x4⟩ := x
            simp only at q1 q2 q3 q4 q5
            obtain ⟨i', rfl⟩ : ∃ i' : Nat, x1 = i' := ⟨x1.toNat, by omega⟩
            obtain ⟨j', rfl⟩ : ∃ j' : Nat, x2 = j' := ⟨x2.toNat, by omega⟩
            have hr1 := hrow i' (by omega)
            have hb1 := hbnd i' j' (by omega) (by omega)
            have hb0 := hbnd p q (by omega) (by omega)
            have hpr := price_range (k := x3) hok.1 hok.2.1 hok.2.2
            unfold ht at hb1 hb0
            refine g_region ?_
            refine s_tr (t_alloc zero_97 rfl) rfl rfl rfl rfl (fun eb heb => ?_)
            refine s_tr0 (t_store 0 rfl rfl rfl rfl size_97 rfl rfl) rfl rfl rfl (fun _ _ => ?_)
            refine s_nil ?_
            refine g_then ?_
            refine hK _ _ (fun W2 hW2 => ?_)
            refine g_block ?_
            refine g_seq ?_
            refine g_draw 16 (by kernel_rfl) ?_
            refine j_l (i := 0) rfl (y_ld1 4 rfl rfl agg_3 rfl) (by kernel_rfl) (by kernel_rfl) (by kernel_rfl) (by kernel_rfl) rfl rfl rfl rfl rfl (.inr (fun _ h => h)) ?_
            refine j_l (i := 1) rfl (y_ld1 9 rfl rfl agg_66 rfl) (by kernel_rfl) (by kernel_rfl) (by kernel_rfl) (by kernel_rfl) rfl rfl rfl rfl rfl (.inr (fun _ h => h)) ?_
            refine j_p (i := 2) rfl (y_fld rfl (fun w => fld_97_1 _ _ w)) (by kernel_rfl) (by kernel_rfl) (by kernel_rfl) rfl rfl rfl rfl rfl (.inr (fun _ h => h)) ?_
            refine j_l (i := 3) rfl (y_ld1 0 rfl rfl agg_3 rfl) (by kernel_rfl) (by kernel_rfl) (by kernel_rfl) (by kernel_rfl) rfl rfl rfl rfl rfl (.inr (fun _ h => h)) ?_
            refine j_p (i := 4) rfl (y_idxR (i := (i' : Int)) rfl rfl hh Try.underlying66 size_46 (by omega) (by omega)) (by kernel_rfl) (by kernel_rfl) (by kernel_rfl) rfl rfl rfl rfl rfl (.inr (fun _ h => h)) ?_
            refine j_l (i := 5) rfl (y_ldV (enc := encV) (xs := vs) (fun w h => hh.rdl.below h.below) rfl agg_46 (rdVal_at (by omega) (by have := hh.len; omega))) (by kernel_rfl) (by kernel_rfl) (by kernel_rfl) (by kernel_rfl) rfl rfl rfl rfl rfl (.inr (fun _ h => h)) ?_
            refine j_p (i := 6) rfl (y_fld rfl (fun w => fld_97_2 _ _ w)) (by kernel_rfl) (by kernel_rfl) (by kernel_rfl) rfl rfl rfl rfl rfl (.inr (fun _ h => h)) ?_
            refine j_l (i := 7) rfl (y_ld1 0 rfl rfl agg_3 rfl) (by kernel_rfl) (by kernel_rfl) (by kernel_rfl) (by kernel_rfl) rfl rfl rfl rfl rfl (.inr (fun _ h => h)) ?_
            refine j_p (i := 8) rfl (y_idxV (enc := (Value.int .i64)) (i := (j' : Int)) rfl rfl (hh.at_ (i := (i' : Int)) (by omega) (by omega)) Try.underlying46 size_3 (by omega) (by omega)) (by kernel_rfl) (by kernel_rfl) (by kernel_rfl) rfl rfl rfl rfl rfl (.inr (fun _ h => h)) ?_
            refine j_l (i := 9) rfl (y_ldV (enc := (Value.int .i64)) (xs := (rdR hs (i' : Int))) (fun w h => (hh.at_ (i := (i' : Int)) (by omega) (by omega)).rdl.below h.below) rfl agg_3 (rdI_at (by omega) (by omega))) (by kernel_rfl) (by kernel_rfl) (by kernel_rfl) (by kernel_rfl) rfl rfl rfl rfl rfl (.inr (fun _ h => h)) ?_
            refine j_l (i := 10) rfl (y_ldn 10 rfl rfl agg_28 size_28 rfl rfl) (by kernel_rfl) (by kernel_rfl) (by kernel_rfl) (by kernel_rfl) rfl rfl rfl rfl rfl (.inr (fun _ h => h)) ?_
            refine j_p (i := 11) rfl (y_fld rfl (fun w => fld_97_3 _ _ w)) (by kernel_rfl) (by kernel_rfl) (by kernel_rfl) rfl rfl rfl rfl rfl (.inr (fun _ h => h)) ?_
            refine j_l (i := 12) rfl (y_ldn 0 rfl rfl agg_88 size_88 rfl rfl) (by kernel_rfl) (by kernel_rfl) (by kernel_rfl) (by kernel_rfl) rfl rfl rfl rfl rfl (.inr (fun _ h => h)) ?_
            refine j_tr (i := 13) rfl (t_call rfl rfl ent_72 (fun w h => of_any w pi po ps x3 x4 (by omega) (by omega))) (by kernel_rfl) rfl rfl rfl rfl (.inr (fun x w hb h => h)) (fun _ _ => ?_)
            refine j_p (i := 14) rfl (y_add rfl rfl (by omega) (by omega)) (by kernel_rfl) (by kernel_rfl) (by kernel_rfl) rfl rfl rfl rfl rfl (.inr (fun _ h => h)) ?_
            refine j_p (i := 15) rfl (y_gtr rfl rfl) (by kernel_rfl) (by kernel_rfl) (by kernel_rfl) rfl rfl rfl rfl rfl (.inr (fun _ h => h)) ?_
            refine j_nil (by kernel_rfl) ?_
            refine g_then ?_
            refine g_cond rfl (fun cq9 => ?_) (fun cq9 => ?_)
            · (try simp at cq9)
              refine g_seq ?_
              refine g_region ?_
              refine s_tr0 (t_store 8 rfl rfl rfl rfl size_3 rfl rfl) rfl rfl rfl (fun _ _ => ?_)
              refine s_tr0 (t_store 7 rfl rfl rfl rfl size_4 rfl rfl) rfl rfl rfl (fun _ _ => ?_)
              refine s_tr0 (t_store 6 rfl rfl rfl rfl size_24 rfl rfl) rfl rfl rfl (fun _ _ => ?_)
              refine s_nil ?_
              refine g_then ?_
              refine g_ret ?_
              refine g_inbr ?_
              exact fun act W _ hW => ⟨fun k o h ho => hW.marks k o h ho, _, ⟨rfl, (eb, .cells [.pointer (some ⟨g, 0, none⟩), .int .i64 (i' : Int), .int .i64 (j' : Int), .int .i64 x3, .int .i64 x4].toArray 97 (0, 0)) :: (gs8 ++ ([])), (by exact fun h_ => by have h1 := steps_edges.1 h_.2.1 p q (by omega) (by omega) _ hxm; unfold edgeH ht at h1; simp only at h1; omega), (by simp only [List.append_nil, List.nil_append, List.cons_append, List.append_assoc])⟩, (show Hq w we ((bj, .cells [.int .i64 (q : Int)].toArray 3 (0, 0)) :: (bi, .cells [.int .i64 (p : Int)].toArray 3 (0, 0)) :: (bg, .cells [.pointer (some ⟨g, 0, none⟩)].toArray 89 (0, 0)) :: (bx, .cells [.int .i64 (rdI (rdR hs (p : Int)) (q : Int))].toArray 3 (0, 0)) :: (g, .cells [.string a, .string b, .int .i64 pi, .int .i64 po, .int .i64 ps, .slice (some ⟨bb, 0, none⟩) (a.size + 1) cap].toArray 99 (0, 0)) :: (b10, .cells [.int .i64 0].toArray 24 (0, 0)) :: (b9, .cells [.bool false].toArray 4 (0, 0)) :: (b8, .cells [.int .i64 0].toArray 3 (0, 0)) :: (b7, .cells [v].toArray 66 (0, 0)) :: (b6, .cells [.int .i64 pi, .int .i64 po, .int .i64 ps].toArray 28 (0, 0)) :: (eb, .cells [.pointer (some ⟨g, 0, none⟩), .int .i64 (i' : Int), .int .i64 (j' : Int), .int .i64 x3, .int .i64 x4].toArray 97 (0, 0)) :: (gs8 ++ ([]))) W from (hq.round hW2 hW (show ∀ y ∈ ((bj, .cells [.int .i64 (q : Int)].toArray 3 (0, 0)) :: (bi, .cells [.int .i64 (p : Int)].toArray 3 (0, 0)) :: (bg, .cells [.pointer (some ⟨g, 0, none⟩)].toArray 89 (0, 0)) :: (bx, .cells [.int .i64 (rdI (rdR hs (p : Int)) (q : Int))].toArray 3 (0, 0)) :: (g, .cells [.string a, .string b, .int .i64 pi, .int .i64 po, .int .i64 ps, .slice (some ⟨bb, 0, none⟩) (a.size + 1) cap].toArray 99 (0, 0)) :: (b10, .cells [.int .i64 0].toArray 24 (0, 0)) :: (b9, .cells [.bool false].toArray 4 (0, 0)) :: (b8, .cells [.int .i64 0].toArray 3 (0, 0)) :: (b7, .cells [v].toArray 66 (0, 0)) :: (b6, .cells [.int .i64 pi, .int .i64 po, .int .i64 ps].toArray 28 (0, 0)) :: (gs8 ++ ([])) : List (Nat × Obj)).map (·.1), y ∈ ((eb, .cells [.pointer (some ⟨g, 0, none⟩), .int .i64 (i' : Int), .int .i64 (j' : Int), .int .i64 x3, .int .i64 x4].toArray 97 (0, 0)) :: (bj, .cells [.int .i64 (q : Int)].toArray 3 (0, 0)) :: (bi, .cells [.int .i64 (p : Int)].toArray 3 (0, 0)) :: (bg, .cells [.pointer (some ⟨g, 0, none⟩)].toArray 89 (0, 0)) :: (bx, .cells [.int .i64 (rdI (rdR hs (p : Int)) (q : Int))].toArray 3 (0, 0)) :: (g, .cells [.string a, .string b, .int .i64 pi, .int .i64 po, .int .i64 ps, .slice (some ⟨bb, 0, none⟩) (a.size + 1) cap].toArray 99 (0, 0)) :: (b10, .cells [.int .i64 0].toArray 24 (0, 0)) :: (b9, .cells [.bool false].toArray 4 (0, 0)) :: (b8, .cells [.int .i64 0].toArray 3 (0, 0)) :: (b7, .cells [v].toArray 66 (0, 0)) :: (b6, .cells [.int .i64 pi, .int .i64 po, .int .i64 ps].toArray 28 (0, 0)) :: (gs8 ++ ([])) : List (Nat × Obj)).map (·.1) from fun y hy => by simp only [List.map_append, List.map_cons, List.map_nil, List.mem_append, List.mem_cons] at hy ⊢; rcases hy with h | h | h | h | h | h | h | h | h | h | h | h; exact (.inr (.inl h)); exact (.inr (.inr (.inl h))); exact (.inr (.inr (.inr (.inl h)))); exact (.inr (.inr (.inr (.inr (.inl h))))); exact (.inr (.inr (.inr (.inr (.inr (.inl h)))))); exact (.inr (.inr (.inr (.inr (.inr (.inr (.inl h))))))); exact (.inr (.inr (.inr (.inr (.inr (.inr (.inr (.inl h)))))))); exact (.inr (.inr (.inr (.inr (.inr (.inr (.inr (.inr (.inl h))))))))); exact (.inr (.inr (.inr (.inr (.inr (.inr (.inr (.inr (.inr (.inl h)))))))))); exact (.inr (.inr (.inr (.inr (.inr (.inr (.inr (.inr (.inr (.inr (.inl h))))))))))); exact (.inr (.inr (.inr (.inr (.inr (.inr (.inr (.inr (.inr (.inr (.inr (.inl h)))))))))))); exact (.inr (.inr (.inr (.inr (.inr (.inr (.inr (.inr (.inr (.inr (.inr (.inr h))))))))))))) (show ∀ y ∈ ((eb, .cells [.pointer (some ⟨g, 0, none⟩), .int .i64 (i' : Int), .int .i64 (j' : Int), .int .i64 x3, .int .i64 x4].toArray 97 (0, 0)) :: (bj, .cells [.int .i64 (q : Int)].toArray 3 (0, 0)) :: (bi, .cells [.int .i64 (p : Int)].toArray 3 (0, 0)) :: (bg, .cells [.pointer (some ⟨g, 0, none⟩)].toArray 89 (0, 0)) :: (bx, .cells [.int .i64 (rdI (rdR hs (p : Int)) (q : Int))].toArray 3 (0, 0)) :: (g, .cells [.string a, .string b, .int .i64 pi, .int .i64 po, .int .i64 ps, .slice (some ⟨bb, 0, none⟩) (a.size + 1) cap].toArray 99 (0, 0)) :: (b10, .cells [.int .i64 0].toArray 24 (0, 0)) :: (b9, .cells [.bool false].toArray 4 (0, 0)) :: (b8, .cells [.int .i64 0].toArray 3 (0, 0)) :: (b7, .cells [v].toArray 66 (0, 0)) :: (b6, .cells [.int .i64 pi, .int .i64 po, .int .i64 ps].toArray 28 (0, 0)) :: (gs8 ++ ([])) : List (Nat × Obj)).map (·.1), y ∈ ((eb, .cells [.pointer (some ⟨g, 0, none⟩), .int .i64 (i' : Int), .int .i64 (j' : Int), .int .i64 x3, .int .i64 x4].toArray 97 (0, 0)) :: (bj, .cells [.int .i64 (q : Int)].toArray 3 (0, 0)) :: (bi, .cells [.int .i64 (p : Int)].toArray 3 (0, 0)) :: (bg, .cells [.pointer (some ⟨g, 0, none⟩)].toArray 89 (0, 0)) :: (bx, .cells [.int .i64 (rdI (rdR hs (p : Int)) (q : Int))].toArray 3 (0, 0)) :: (g, .cells [.string a, .string b, .int .i64 pi, .int .i64 po, .int .i64 ps, .slice (some ⟨bb, 0, none⟩) (a.size + 1) cap].toArray 99 (0, 0)) :: (b10, .cells [.int .i64 0].toArray 24 (0, 0)) :: (b9, .cells [.bool false].toArray 4 (0, 0)) :: (b8, .cells [.int .i64 0].toArray 3 (0, 0)) :: (b7, .cells [v].toArray 66 (0, 0)) :: (b6, .cells [.int .i64 pi, .int .i64 po, .int .i64 ps].toArray 28 (0, 0)) :: (gs8 ++ ([])) : List (Nat × Obj)).map (·.1) from fun y hy => by simp only [List.map_append, List.map_cons, List.map_nil, List.mem_append, List.mem_cons] at hy ⊢; rcases hy with h | h | h | h | h | h | h | h | h | h | h | h | h; exact (.inl h); exact (.inr (.inl h)); exact (.inr (.inr (.inl h))); exact (.inr (.inr (.inr (.inl h)))); exact (.inr (.inr (.inr (.inr (.inl h))))); exact (.inr (.inr (.inr (.inr (.inr (.inl h)))))); exact (.inr (.inr (.inr (.inr (.inr (.inr (.inl h))))))); exact (.inr (.inr (.inr (.inr (.inr (.inr (.inr (.inl h)))))))); exact (.inr (.inr (.inr (.inr (.inr (.inr (.inr (.inr (.inl h))))))))); exact (.inr (.inr (.inr (.inr (.inr (.inr (.inr (.inr (.inr (.inl h)))))))))); exact (.inr (.inr (.inr (.inr (.inr (.inr (.inr (.inr (.inr (.inr (.inl h))))))))))); exact (.inr (.inr (.inr (.inr (.inr (.inr (.inr (.inr (.inr (.inr (.inr (.inl h)))))))))))); exact (.inr (.inr (.inr (.inr (.inr (.inr (.inr (.inr (.inr (.inr (.inr (.inr h)))))))))))))).perm (show ((eb, .cells [.pointer (some ⟨g, 0, none⟩), .int .i64 (i' : Int), .int .i64 (j' : Int), .int .i64 x3, .int .i64 x4].toArray 97 (0, 0)) :: (bj, .cells [.int .i64 (q : Int)].toArray 3 (0, 0)) :: (bi, .cells [.int .i64 (p : Int)].toArray 3 (0, 0)) :: (bg, .cells [.pointer (some ⟨g, 0, none⟩)].toArray 89 (0, 0)) :: (bx, .cells [.int .i64 (rdI (rdR hs (p : Int)) (q : Int))].toArray 3 (0, 0)) :: (g, .cells [.string a, .string b, .int .i64 pi, .int .i64 po, .int .i64 ps, .slice (some ⟨bb, 0, none⟩) (a.size + 1) cap].toArray 99 (0, 0)) :: (b10, .cells [.int .i64 0].toArray 24 (0, 0)) :: (b9, .cells [.bool false].toArray 4 (0, 0)) :: (b8, .cells [.int .i64 0].toArray 3 (0, 0)) :: (b7, .cells [v].toArray 66 (0, 0)) :: (b6, .cells [.int .i64 pi, .int .i64 po, .int .i64 ps].toArray 28 (0, 0)) :: (gs8 ++ ([])) : List (Nat × Obj)).Perm ((bj, .cells [.int .i64 (q : Int)].toArray 3 (0, 0)) :: (bi, .cells [.int .i64 (p : Int)].toArray 3 (0, 0)) :: (bg, .cells [.pointer (some ⟨g, 0, none⟩)].toArray 89 (0, 0)) :: (bx, .cells [.int .i64 (rdI (rdR hs (p : Int)) (q : Int))].toArray 3 (0, 0)) :: (g, .cells [.string a, .string b, .int .i64 pi, .int .i64 po, .int .i64 ps, .slice (some ⟨bb, 0, none⟩) (a.size + 1) cap].toArray 99 (0, 0)) :: (b10, .cells [.int .i64 0].toArray 24 (0, 0)) :: (b9, .cells [.bool false].toArray 4 (0, 0)) :: (b8, .cells [.int .i64 0].toArray 3 (0, 0)) :: (b7, .cells [v].toArray 66 (0, 0)) :: (b6, .cells [.int .i64 pi, .int .i64 po, .int .i64 ps].toArray 28 (0, 0)) :: (eb, .cells [.pointer (some ⟨g, 0, none⟩), .int .i64 (i' : Int), .int .i64 (j' : Int), .int .i64 x3, .int .i64 x4].toArray 97 (0, 0)) :: (gs8 ++ ([])) : List (Nat × Obj)) from List.Perm.trans (List.Perm.of_eq (by simp only [List.append_assoc, List.cons_append, List.nil_append, List.append_nil])) (List.Perm.trans (List.perm_append_comm_assoc ((eb, .cells [.pointer (some ⟨g, 0, none⟩), .int .i64 (i' : Int), .int .i64 (j' : Int), .int .i64 x3, .int .i64 x4].toArray 97 (0, 0)) :: [] : List (Nat × Obj)) ((bj, .cells [.int .i64 (q : Int)].toArray 3 (0, 0)) :: (bi, .cells [.int .i64 (p : Int)].toArray 3 (0, 0)) :: (bg, .cells [.pointer (some ⟨g, 0, none⟩)].toArray 89 (0, 0)) :: (bx, .cells [.int .i64 (rdI (rdR hs (p : Int)) (q : Int))].toArray 3 (0, 0)) :: (g, .cells [.string a, .string b, .int .i64 pi, .int .i64 po, .int .i64 ps, .slice (some ⟨bb, 0, none⟩) (a.size + 1) cap].toArray 99 (0, 0)) :: (b10, .cells [.int .i64 0].toArray 24 (0, 0)) :: (b9, .cells [.bool false].toArray 4 (0, 0)) :: (b8, .cells [.int .i64 0].toArray 3 (0, 0)) :: (b7, .cells [v].toArray 66 (0, 0)) :: (b6, .cells [.int .i64 pi, .int .i64 po, .int .i64 ps].toArray 28 (0, 0)) :: [] : List (Nat × Obj)) ((gs8 ++ ([])) : List (Nat × Obj))) (List.Perm.of_eq (by simp only [List.append_assoc, List.cons_append, List.nil_append, List.append_nil])))))⟩
            · (try simp at cq9)
              refine g_skip ?_
              refine g_inb ?_
              exact fun act W _ hW => ⟨fun k o h ho => hW.marks k o h ho, _, ⟨(eb, .cells [.pointer (some ⟨g, 0, none⟩), .int .i64 (i' : Int), .int .i64 (j' : Int), .int .i64 x3, .int .i64 x4].toArray 97 (0, 0)) :: (gs8 ++ ([])), (by intro y hy; rw [List.take_add_one, hx0] at hy; rcases List.mem_append.1 hy with hy | hy; exact hno y hy; simp at hy; subst hy; unfold edgeH ht; simp only; omega), (by simp only [List.append_nil, List.nil_append, List.cons_append, List.append_assoc])⟩, (show Hq w we ((bj, .cells [.int .i64 (q : Int)].toArray 3 (0, 0)) :: (bi, .cells [.int .i64 (p : Int)].toArray 3 (0, 0)) :: (bg, .cells [.pointer (some ⟨g, 0, none⟩)].toArray 89 (0, 0)) :: (bx, .cells [.int .i64 (rdI (rdR hs (p : Int)) (q : Int))].toArray 3 (0, 0)) :: (g, .cells [.string a, .string b, .int .i64 pi, .int .i64 po, .int .i64 ps, .slice (some ⟨bb, 0, none⟩) (a.size + 1) cap].toArray 99 (0, 0)) :: (b10, .cells [.int .i64 0].toArray 24 (0, 0)) :: (b9, .cells [.bool false].toArray 4 (0, 0)) :: (b8, .cells [.int .i64 0].toArray 3 (0, 0)) :: (b7, .cells [v].toArray 66 (0, 0)) :: (b6, .cells [.int .i64 pi, .int .i64 po, .int .i64 ps].toArray 28 (0, 0)) :: (eb, .cells [.pointer (some ⟨g, 0, none⟩), .int .i64 (i' : Int), .int .i64 (j' : Int), .int .i64 x3, .int .i64 x4].toArray 97 (0, 0)) :: (gs8 ++ ([]))) W from (hq.round hW2 hW (show ∀ y ∈ ((bj, .cells [.int .i64 (q : Int)].toArray 3 (0, 0)) :: (bi, .cells [.int .i64 (p : Int)].toArray 3 (0, 0)) :: (bg, .cells [.pointer (some ⟨g, 0, none⟩)].toArray 89 (0, 0)) :: (bx, .cells [.int .i64 (rdI (rdR hs (p : Int)) (q : Int))].toArray 3 (0, 0)) :: (g, .cells [.string a, .string b, .int .i64 pi, .int .i64 po, .int .i64 ps, .slice (some ⟨bb, 0, none⟩) (a.size + 1) cap].toArray 99 (0, 0)) :: (b10, .cells [.int .i64 0].toArray 24 (0, 0)) :: (b9, .cells [.bool false].toArray 4 (0, 0)) :: (b8, .cells [.int .i64 0].toArray 3 (0, 0)) :: (b7, .cells [v].toArray 66 (0, 0)) :: (b6, .cells [.int .i64 pi, .int .i64 po, .int .i64 ps].toArray 28 (0, 0)) :: (gs8 ++ ([])) : List (Nat × Obj)).map (·.1), y ∈ ((eb, .cells [.pointer (some ⟨g, 0, none⟩), .int .i64 (i' : Int), .int .i64 (j' : Int), .int .i64 x3, .int .i64 x4].toArray 97 (0, 0)) :: (bj, .cells [.int .i64 (q : Int)].toArray 3 (0, 0)) :: (bi, .cells [.int .i64 (p : Int)].toArray 3 (0, 0)) :: (bg, .cells [.pointer (some ⟨g, 0, none⟩)].toArray 89 (0, 0)) :: (bx, .cells [.int .i64 (rdI (rdR hs (p : Int)) (q : Int))].toArray 3 (0, 0)) :: (g, .cells [.string a, .string b, .int .i64 pi, .int .i64 po, .int .i64 ps, .slice (some ⟨bb, 0, none⟩) (a.size + 1) cap].toArray 99 (0, 0)) :: (b10, .cells [.int .i64 0].toArray 24 (0, 0)) :: (b9, .cells [.bool false].toArray 4 (0, 0)) :: (b8, .cells [.int .i64 0].toArray 3 (0, 0)) :: (b7, .cells [v].toArray 66 (0, 0)) :: (b6, .cells [.int .i64 pi, .int .i64 po, .int .i64 ps].toArray 28 (0, 0)) :: (gs8 ++ ([])) : List (Nat × Obj)).map (·.1) from fun y hy => by simp only [List.map_append, List.map_cons, List.map_nil, List.mem_append, List.mem_cons] at hy ⊢; rcases hy with h | h | h | h | h | h | h | h | h | h | h | h; exact (.inr (.inl h)); exact (.inr (.inr (.inl h))); exact (.inr (.inr (.inr (.inl h)))); exact (.inr (.inr (.inr (.inr (.inl h))))); exact (.inr (.inr (.inr (.inr (.inr (.inl h)))))); exact (.inr (.inr (.inr (.inr (.inr (.inr (.inl h))))))); exact (.inr (.inr (.inr (.inr (.inr (.inr (.inr (.inl h)))))))); exact (.inr (.inr (.inr (.inr (.inr (.inr (.inr (.inr (.inl h))))))))); exact (.inr (.inr (.inr (.inr (.inr (.inr (.inr (.inr (.inr (.inl h)))))))))); exact (.inr (.inr (.inr (.inr (.inr (.inr (.inr (.inr (.inr (.inr (.inl h))))))))))); exact (.inr (.inr (.inr (.inr (.inr (.inr (.inr (.inr (.inr (.inr (.inr (.inl h)))))))))))); exact (.inr (.inr (.inr (.inr (.inr (.inr (.inr (.inr (.inr (.inr (.inr (.inr h))))))))))))) (show ∀ y ∈ ((eb, .cells [.pointer (some ⟨g, 0, none⟩), .int .i64 (i' : Int), .int .i64 (j' : Int), .int .i64 x3, .int .i64 x4].toArray 97 (0, 0)) :: (bj, .cells [.int .i64 (q : Int)].toArray 3 (0, 0)) :: (bi, .cells [.int .i64 (p : Int)].toArray 3 (0, 0)) :: (bg, .cells [.pointer (some ⟨g, 0, none⟩)].toArray 89 (0, 0)) :: (bx, .cells [.int .i64 (rdI (rdR hs (p : Int)) (q : Int))].toArray 3 (0, 0)) :: (g, .cells [.string a, .string b, .int .i64 pi, .int .i64 po, .int .i64 ps, .slice (some ⟨bb, 0, none⟩) (a.size + 1) cap].toArray 99 (0, 0)) :: (b10, .cells [.int .i64 0].toArray 24 (0, 0)) :: (b9, .cells [.bool false].toArray 4 (0, 0)) :: (b8, .cells [.int .i64 0].toArray 3 (0, 0)) :: (b7, .cells [v].toArray 66 (0, 0)) :: (b6, .cells [.int .i64 pi, .int .i64 po, .int .i64 ps].toArray 28 (0, 0)) :: (gs8 ++ ([])) : List (Nat × Obj)).map (·.1), y ∈ ((eb, .cells [.pointer (some ⟨g, 0, none⟩), .int .i64 (i' : Int), .int .i64 (j' : Int), .int .i64 x3, .int .i64 x4].toArray 97 (0, 0)) :: (bj, .cells [.int .i64 (q : Int)].toArray 3 (0, 0)) :: (bi, .cells [.int .i64 (p : Int)].toArray 3 (0, 0)) :: (bg, .cells [.pointer (some ⟨g, 0, none⟩)].toArray 89 (0, 0)) :: (bx, .cells [.int .i64 (rdI (rdR hs (p : Int)) (q : Int))].toArray 3 (0, 0)) :: (g, .cells [.string a, .string b, .int .i64 pi, .int .i64 po, .int .i64 ps, .slice (some ⟨bb, 0, none⟩) (a.size + 1) cap].toArray 99 (0, 0)) :: (b10, .cells [.int .i64 0].toArray 24 (0, 0)) :: (b9, .cells [.bool false].toArray 4 (0, 0)) :: (b8, .cells [.int .i64 0].toArray 3 (0, 0)) :: (b7, .cells [v].toArray 66 (0, 0)) :: (b6, .cells [.int .i64 pi, .int .i64 po, .int .i64 ps].toArray 28 (0, 0)) :: (gs8 ++ ([])) : List (Nat × Obj)).map (·.1) from fun y hy => by simp only [List.map_append, List.map_cons, List.map_nil, List.mem_append, List.mem_cons] at hy ⊢; rcases hy with h | h | h | h | h | h | h | h | h | h | h | h | h; exact (.inl h); exact (.inr (.inl h)); exact (.inr (.inr (.inl h))); exact (.inr (.inr (.inr (.inl h)))); exact (.inr (.inr (.inr (.inr (.inl h))))); exact (.inr (.inr (.inr (.inr (.inr (.inl h)))))); exact (.inr (.inr (.inr (.inr (.inr (.inr (.inl h))))))); exact (.inr (.inr (.inr (.inr (.inr (.inr (.inr (.inl h)))))))); exact (.inr (.inr (.inr (.inr (.inr (.inr (.inr (.inr (.inl h))))))))); exact (.inr (.inr (.inr (.inr (.inr (.inr (.inr (.inr (.inr (.inl h)))))))))); exact (.inr (.inr (.inr (.inr (.inr (.inr (.inr (.inr (.inr (.inr (.inl h))))))))))); exact (.inr (.inr (.inr (.inr (.inr (.inr (.inr (.inr (.inr (.inr (.inr (.inl h)))))))))))); exact (.inr (.inr (.inr (.inr (.inr (.inr (.inr (.inr (.inr (.inr (.inr (.inr h)))))))))))))).perm (show ((eb, .cells [.pointer (some ⟨g, 0, none⟩), .int .i64 (i' : Int), .int .i64 (j' : Int), .int .i64 x3, .int .i64 x4].toArray 97 (0, 0)) :: (bj, .cells [.int .i64 (q : Int)].toArray 3 (0, 0)) :: (bi, .cells [.int .i64 (p : Int)].toArray 3 (0, 0)) :: (bg, .cells [.pointer (some ⟨g, 0, none⟩)].toArray 89 (0, 0)) :: (bx, .cells [.int .i64 (rdI (rdR hs (p : Int)) (q : Int))].toArray 3 (0, 0)) :: (g, .cells [.string a, .string b, .int .i64 pi, .int .i64 po, .int .i64 ps, .slice (some ⟨bb, 0, none⟩) (a.size + 1) cap].toArray 99 (0, 0)) :: (b10, .cells [.int .i64 0].toArray 24 (0, 0)) :: (b9, .cells [.bool false].toArray 4 (0, 0)) :: (b8, .cells [.int .i64 0].toArray 3 (0, 0)) :: (b7, .cells [v].toArray 66 (0, 0)) :: (b6, .cells [.int .i64 pi, .int .i64 po, .int .i64 ps].toArray 28 (0, 0)) :: (gs8 ++ ([])) : List (Nat × Obj)).Perm ((bj, .cells [.int .i64 (q : Int)].toArray 3 (0, 0)) :: (bi, .cells [.int .i64 (p : Int)].toArray 3 (0, 0)) :: (bg, .cells [.pointer (some ⟨g, 0, none⟩)].toArray 89 (0, 0)) :: (bx, .cells [.int .i64 (rdI (rdR hs (p : Int)) (q : Int))].toArray 3 (0, 0)) :: (g, .cells [.string a, .string b, .int .i64 pi, .int .i64 po, .int .i64 ps, .slice (some ⟨bb, 0, none⟩) (a.size + 1) cap].toArray 99 (0, 0)) :: (b10, .cells [.int .i64 0].toArray 24 (0, 0)) :: (b9, .cells [.bool false].toArray 4 (0, 0)) :: (b8, .cells [.int .i64 0].toArray 3 (0, 0)) :: (b7, .cells [v].toArray 66 (0, 0)) :: (b6, .cells [.int .i64 pi, .int .i64 po, .int .i64 ps].toArray 28 (0, 0)) :: (eb, .cells [.pointer (some ⟨g, 0, none⟩), .int .i64 (i' : Int), .int .i64 (j' : Int), .int .i64 x3, .int .i64 x4].toArray 97 (0, 0)) :: (gs8 ++ ([])) : List (Nat × Obj)) from List.Perm.trans (List.Perm.of_eq (by simp only [List.append_assoc, List.cons_append, List.nil_append, List.append_nil])) (List.Perm.trans (List.perm_append_comm_assoc ((eb, .cells [.pointer (some ⟨g, 0, none⟩), .int .i64 (i' : Int), .int .i64 (j' : Int), .int .i64 x3, .int .i64 x4].toArray 97 (0, 0)) :: [] : List (Nat × Obj)) ((bj, .cells [.int .i64 (q : Int)].toArray 3 (0, 0)) :: (bi, .cells [.int .i64 (p : Int)].toArray 3 (0, 0)) :: (bg, .cells [.pointer (some ⟨g, 0, none⟩)].toArray 89 (0, 0)) :: (bx, .cells [.int .i64 (rdI (rdR hs (p : Int)) (q : Int))].toArray 3 (0, 0)) :: (g, .cells [.string a, .string b, .int .i64 pi, .int .i64 po, .int .i64 ps, .slice (some ⟨bb, 0, none⟩) (a.size + 1) cap].toArray 99 (0, 0)) :: (b10, .cells [.int .i64 0].toArray 24 (0, 0)) :: (b9, .cells [.bool false].toArray 4 (0, 0)) :: (b8, .cells [.int .i64 0].toArray 3 (0, 0)) :: (b7, .cells [v].toArray 66 (0, 0)) :: (b6, .cells [.int .i64 pi, .int .i64 po, .int .i64 ps].toArray 28 (0, 0)) :: [] : List (Nat × Obj)) ((gs8 ++ ([])) : List (Nat × Obj))) (List.Perm.of_eq (by simp only [List.append_assoc, List.cons_append, List.nil_append, List.append_nil])))))⟩
          · skip
            rintro we W Dm _ hwe ⟨gs8, hno, rfl⟩ hq hD hW hbk
            have hM := hM.next hwe hbk hD hW
            have hq_ : ∀ x ∈ (edges a b (p : Int) (q : Int)), edgeH a b pi po ps hs p q x := fun x hx => hno x (by rw [List.take_length]; exact hx)
            refine g_inb ?_
            refine g_inb ?_
            refine g_then ?_
            refine g_region ?_
            refine s_y (y_add rfl rfl (by omega) (by omega)) rfl rfl rfl rfl ?_
            refine s_y (y_move rfl) rfl rfl rfl rfl ?_
            refine s_nil ?_
            refine g_then ?_
            exact fun act W ha hw => ⟨q + 1, by omega, by omega, _, W, hM.look hw.marks, (by intro j' h1; rcases Nat.lt_or_ge j' q with c | c; exact hF j' c; rw [show j' = q by omega]; exact hq_), ha.weak (sub_get ⟨rfl, rfl, rfl, rfl, rfl, rfl, rfl, rfl, rfl, rfl, rfl, rfl, rfl, rfl, rfl, rfl, rfl, rfl, rfl, rfl, trivial⟩), hw.toHq.lookSub (List.Sublist.cons _ (List.Sublist.cons _ (List.Sublist.cons _ (List.Sublist.cons _ (List.Sublist.cons_cons _ (List.Sublist.cons_cons _ (List.Sublist.cons_cons _ (List.Sublist.cons_cons _ (List.Sublist.cons_cons _ (List.Sublist.cons_cons _ (List.nil_sublist _)))))))))))⟩
          · skip
            rintro we W Dm _ k _ hwe (⟨rfl, gs8, hbad, rfl⟩) hq hD hW hbk
            have hM := hM.next hwe hbk hD hW
            refine g_ret ?_
            refine g_inbr ?_
            refine g_inbr ?_
            refine g_thenr ?_
            refine g_thenr ?_
            refine g_inbr ?_
            refine g_inbr ?_
            refine g_thenr ?_
            refine g_thenr ?_
            refine g_inbr ?_
            refine g_thenr ?_
            rw [hgtR_f hbad]
            exact g_end hM (fun a w ha hq_ => res_c3 7 6 5 ha hq_ rfl rfl rfl rfl rfl rfl rfl agg_3 agg_4 agg_24) (fun w h => ⟨rfl, h.below⟩)
        · (try simp at cq7)
          refine g_exit ?_
          refine g_thenx ?_
          refine g_thenx ?_
          refine g_inbx ?_
          refine g_inb ?_
          refine g_then ?_
          refine g_region ?_
          refine s_y (y_add rfl rfl (by omega) (by omega)) rfl rfl rfl rfl ?_
          refine s_y (y_move rfl) rfl rfl rfl rfl ?_
          refine s_nil ?_
          refine g_then ?_
          exact fun act W ha hw => ⟨p + 1, by omega, by omega, _, W, hM.look hw.marks, (by intro i' j' h1 h2; rcases Nat.lt_or_ge i' p with c | c; exact hE i' j' c h2; rw [show i' = p by omega]; exact hF j' (by omega)), ha.weak (sub_get ⟨rfl, rfl, rfl, rfl, rfl, rfl, rfl, rfl, rfl, rfl, rfl, trivial⟩), hw.toHq.lookSub (List.Sublist.refl _)⟩
      · (try simp at cq6)
        refine g_exit ?_
        refine g_thenx ?_
        refine g_thenx ?_
        refine g_inbx ?_
        refine g_then ?_
        refine g_seq ?_
        refine g_seq ?_
        have h00 : (rdR hs 0).length = b.size + 1 := hrow 0 (by omega)
        refine g_region ?_
        refine s_y (y_ld1 4 rfl rfl agg_66 rfl) rfl rfl rfl rfl ?_
        refine s_y (y_idxR (i := 0) rfl rfl hh Try.underlying66 size_46 (by omega) (by omega)) rfl rfl rfl rfl ?_
        refine s_y (y_ldV (enc := encV) (xs := vs) (fun w h => hh.rdl.below h.below) rfl agg_46 (rdVal_at (by omega) (by have := hh.len; omega))) rfl rfl rfl rfl ?_
        refine s_y (y_idxV (enc := (Value.int .i64)) (i := 0) rfl rfl (hh.at_ (i := 0) (by omega) (by omega)) Try.underlying46 size_3 (by omega) (by omega)) rfl rfl rfl rfl ?_
        refine s_y (y_ldV (enc := (Value.int .i64)) (xs := (rdR hs 0)) (fun w h => (hh.at_ (i := 0) (by omega) (by omega)).rdl.below h.below) rfl agg_3 (rdI_at (by omega) (by omega))) rfl rfl rfl rfl ?_
        refine s_y (y_neq rfl rfl) rfl rfl rfl rfl ?_
        refine s_nil ?_
        refine g_then ?_
        refine g_cond rfl (fun cq10 => ?_) (fun cq10 => ?_)
        · (try simp at cq10)
          have hzero : ¬ rdI (rdR hs 0) 0 = 0 := cq10
          refine g_seq ?_
          refine g_region ?_
          refine s_tr0 (t_store 3 rfl rfl rfl rfl size_3 rfl rfl) rfl rfl rfl (fun _ _ => ?_)
          refine s_tr0 (t_store 2 rfl rfl rfl rfl size_4 rfl rfl) rfl rfl rfl (fun _ _ => ?_)
          refine s_tr0 (t_store 1 rfl rfl rfl rfl size_24 rfl rfl) rfl rfl rfl (fun _ _ => ?_)
          refine s_nil ?_
          refine g_then ?_
          refine g_ret ?_
          refine g_thenr ?_
          rw [hgtR_f (fun h_ => by have h1 := h_.2.2; simp only [ht] at h1; exact hzero h1)]
          exact g_end hM (fun a w ha hq_ => res_c3 3 2 1 ha hq_ rfl rfl rfl rfl rfl rfl rfl agg_3 agg_4 agg_24) (fun w h => ⟨rfl, h.below⟩)
        · (try simp at cq10)
          have hzero : rdI (rdR hs 0) 0 = 0 := by first | exact cq10 | exact Decidable.not_not.1 cq10
          refine g_skip ?_
          refine g_then ?_
          refine g_seq ?_
          have hee : (rdR hs (a.size : Int)).length = b.size + 1 := hrow a.size (by omega)
          refine g_region ?_
          refine s_y (y_ld1 4 rfl rfl agg_66 rfl) rfl rfl rfl rfl ?_
          refine s_y (y_move rfl) rfl rfl rfl rfl ?_
          refine s_y (y_lens rfl Try.underlying9) rfl rfl rfl rfl ?_
          refine s_y (y_idxR (i := a.size) rfl rfl hh Try.underlying66 size_46 (by omega) (by omega)) rfl rfl rfl rfl ?_
          refine s_y (y_ldV (enc := encV) (xs := vs) (fun w h => hh.rdl.below h.below) rfl agg_46 (rdVal_at (by omega) (by have := hh.len; omega))) rfl rfl rfl rfl ?_
          refine s_y (y_move rfl) rfl rfl rfl rfl ?_
          refine s_y (y_lens rfl Try.underlying9) rfl rfl rfl rfl ?_
          refine s_y (y_idxV (enc := (Value.int .i64)) (i := b.size) rfl rfl (hh.at_ (i := a.size) (by omega) (by omega)) Try.underlying46 size_3 (by omega) (by omega)) rfl rfl rfl rfl ?_
          refine s_y (y_ldV (enc := (Value.int .i64)) (xs := (rdR hs a.size)) (fun w h => (hh.at_ (i := a.size) (by omega) (by omega)).rdl.below h.below) rfl agg_3 (rdI_at (by omega) (by omega))) rfl rfl rfl rfl ?_
          refine s_tr0 (t_store 3 rfl rfl rfl rfl size_3 rfl rfl) rfl rfl rfl (fun _ _ => ?_)
          refine s_tr0 (t_store 2 rfl rfl rfl rfl size_4 rfl rfl) rfl rfl rfl (fun _ _ => ?_)
          refine s_tr0 (t_store 1 rfl rfl rfl rfl size_24 rfl rfl) rfl rfl rfl (fun _ _ => ?_)
          refine s_nil ?_
          refine g_then ?_
          refine g_ret ?_
          have hgood : HOK a b pi po ps hs := ⟨hall, steps_edges.2 (fun i' j' h1 h2 => hE i' j' (by omega) h2), by simpa [ht] using hzero⟩
          rw [hgtR_t hgood]
          exact g_end hM (fun a w ha hq_ => res_c3 3 2 1 ha hq_ rfl rfl rfl rfl rfl rfl rfl agg_3 agg_4 agg_24) (fun w h => ⟨rfl, h.below⟩)

theorem CheckH_bad (w : World) (a b : ByteArray) (pi po ps : Int) (v : Value) (vs : List Value) (hs : List (List Int)) (hh : RdVV w v vs hs) (hlh : hs.length ≤ 9223372036854775807) (h : ¬ (a.size ≤ 12 ∧ b.size ≤ 12 ∧ okP pi po ps)) :
    Calls Try.prog 47 [.string a, .string b, .agg #[.int .i64 pi, .int .i64 po, .int .i64 ps], v].toArray w fun e w' => e = .returned (.tuple #[.int .i64 0, .bool false, .int .i64 2]) ∧ Below w.heap.size w w' := by
  refine enter (N := 110) Try.func47 rfl rfl rfl ?_
  refine g_seq ?_
  refine g_region ?_
  refine s_tr (t_box rfl rfl) rfl rfl rfl rfl (fun b6 hb6 => ?_)
  refine s_tr (t_box rfl hh.cells1) rfl rfl rfl rfl (fun b7 hb7 => ?_)
  refine s_tr (t_alloc zero_3 rfl) rfl rfl rfl rfl (fun b8 hb8 => ?_)
  refine s_tr (t_alloc zero_4 rfl) rfl rfl rfl rfl (fun b9 hb9 => ?_)
  refine s_tr (t_alloc zero_24 rfl) rfl rfl rfl rfl (fun b10 hb10 => ?_)
  refine s_nil ?_
  refine g_then ?_
  refine g_seq ?_
  refine g_region ?_
  refine s_y (y_move rfl) rfl rfl rfl rfl ?_
  refine s_y (y_move rfl) rfl rfl rfl rfl ?_
  refine s_y (y_ldn 4 rfl rfl agg_28 size_28 rfl rfl) rfl rfl rfl rfl ?_
  refine s_tr (t_callm (A := fun _ => True) (vf := fun g : Nat => .tuple #[.pointer (some ⟨g, 0, none⟩), .bool false]) (mm := fun _ => []) rfl rfl ent_62 (fun w hw => (read_bad w a b pi po ps h).mono fun e w' ⟨g, h1, h2⟩ => ⟨g, trivial, h1, Hq.of_below h2⟩)) rfl rfl rfl rfl (fun g _ => ?_)
  refine s_y (y_move rfl) rfl rfl rfl rfl ?_
  refine s_y (y_extract rfl rfl) rfl rfl rfl rfl ?_
  refine s_y (y_extract rfl rfl) rfl rfl rfl rfl ?_
  refine s_y (y_assign rfl) rfl rfl rfl rfl ?_
  refine s_y (y_assign rfl) rfl rfl rfl rfl ?_
  refine s_nil ?_
  refine g_then ?_
  refine g_seq ?_
  refine g_seq ?_
  refine g_region ?_
  refine s_y (y_move rfl) rfl rfl rfl rfl ?_
  refine s_y (y_not_f rfl) rfl rfl rfl rfl ?_
  refine s_nil ?_
  refine g_then ?_
  refine g_cond_t rfl ?_
  refine g_seq ?_
  refine g_region ?_
  refine s_tr0 (t_store 2 rfl rfl rfl rfl size_3 rfl rfl) rfl rfl rfl (fun _ _ => ?_)
  refine s_tr0 (t_store 1 rfl rfl rfl rfl size_4 rfl rfl) rfl rfl rfl (fun _ _ => ?_)
  refine s_tr0 (t_store 0 rfl rfl rfl rfl size_24 rfl rfl) rfl rfl rfl (fun _ _ => ?_)
  refine s_nil ?_
  refine g_then ?_
  refine g_ret ?_
  refine g_thenr ?_
  exact g_end trivial (fun a w ha hq_ => res_c3 2 1 0 ha hq_ rfl rfl rfl rfl rfl rfl rfl agg_3 agg_4 agg_24) (fun w h => ⟨rfl, h.below⟩)

end Go.Proofs.Ytnnpdgegejklpaa
