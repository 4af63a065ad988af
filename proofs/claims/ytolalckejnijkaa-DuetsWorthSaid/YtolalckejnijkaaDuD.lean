/- duets: the iterator next. -/
import Derived.Test.YtolalckejnijkaaDuCnt
import Derived.Test.YtolalckejnijkaaSxRangeF
namespace Go.Proofs.Ytolalckejnijkaa
open Go.RowKit Go.Sx 
set_option linter.unusedVariables false
set_option linter.unusedSimpArgs false
set_option maxRecDepth 100000
set_option maxHeartbeats 4000000

private theorem fld_48_1 (b off : Nat) (w : World) : (Instr.fieldAt 48 (.pointer (some ⟨b, off, none⟩)) 1).run Try.prog w = .ok (.pointer (some ⟨b, off + 1, none⟩)) w := by kernel_rfl
private theorem agg_22 : isAggB Try.prog 22 = some false := by kernel_rfl
private theorem sle_22 : Try.prog.underlying 22 = some (.slice (Try.prog.elem 22)) := by kernel_rfl
private theorem fld_48_0 (b off : Nat) (w : World) : (Instr.fieldAt 48 (.pointer (some ⟨b, off, none⟩)) 0).run Try.prog w = .ok (.pointer (some ⟨b, off, none⟩)) w := by kernel_rfl
private theorem inf_3 : ∃ ie, Try.prog.info? 3 = some ie ∧ ie.zero = some (.int .i64 0) ∧ ie.size = 1 ∧ ie.bytes = 8 := info_of (by kernel_rfl) (by kernel_rfl)
private theorem bld_48_0_1 (x0a : Option Addr) (x0n x0c : Nat) (x1a : Option Addr) (x1n x1c : Nat) (w : World) : (Instr.build 48 #[(0, (.slice x0a x0n x0c)), (1, (.slice x1a x1n x1c))]).run Try.prog w = .ok (.agg #[(.slice x0a x0n x0c), (.slice x1a x1n x1c)]) w := by kernel_rfl
private theorem zero_48 : (Try.prog.info? 48).bind (·.zero) = some (.agg #[(.slice none 0 0), (.slice none 0 0)]) := by kernel_rfl
private theorem size_48 : (Try.prog.info? 48).map (·.size) = some 2 := by kernel_rfl
private theorem agg_48 : isAggB Try.prog 48 = some true := by kernel_rfl
private theorem ent_68 : Enters Try.prog 68 := enters_of Try.func68 (by kernel_rfl) rfl

theorem full_of {w : World} {A : Option Addr} {c : Nat} {xs : List Int} (hs : RdV (Value.int .i64) w (.slice A xs.length c) xs) : xs.length ≤ c ∧ RdV (Value.int .i64) w (.slice A xs.length xs.length) xs := by
  obtain ⟨A_, c_, e_, hc_, hr_⟩ := id hs
  simp only [Value.slice.injEq, true_and] at e_
  obtain ⟨rfl, rfl⟩ := e_
  exact ⟨hc_, A, xs.length, rfl, Nat.le_refl _, hr_⟩
theorem next_iter (ag as_ : Option Addr) (cg cs : Nat) (g s : List Int) (hle : s.length < g.length) (hgl : g.length ≤ 8) (hgn : ∀ x ∈ g, 0 ≤ x ∧ x ≤ 20) (hsn : ∀ x ∈ s, 0 ≤ x ∧ x ≤ 20) :
    IterF Try.prog 55 [.agg #[.slice ag g.length cg, .slice as_ s.length cs]] [] (fun x : Int => [.int .i64 x]) (nxL g s) (fun W => RdV (Value.int .i64) W (.slice ag g.length cg) g ∧ RdV (Value.int .i64) W (.slice as_ s.length cs) s) := by
  intro lp J Jx hS hO hJg hJxg hY O w hJ
  obtain ⟨hg, hs⟩ := hS _ _ _ hJ
  obtain ⟨hcp, hvf⟩ := full_of hs
  obtain ⟨ie3, hi3⟩ := inf_3
  refine enter (N := 35) Try.func55 rfl rfl rfl ?_
  refine g_seq ?_
  refine g_region ?_
  refine s_tr (t_box rfl rfl) rfl rfl rfl rfl (fun bd hbd => ?_)
  refine s_nil ?_
  refine g_then ?_
  refine g_seq ?_
  refine g_region ?_
  refine s_y (y_fld rfl (fun w => fld_48_1 _ _ w)) rfl rfl rfl rfl ?_
  refine s_y (y_ld1 0 rfl rfl agg_22 rfl) rfl rfl rfl rfl ?_
  refine s_y (y_lenV (n := s.length) rfl (by obtain ⟨A, c, h1, _⟩ := hs; exact ⟨A, c, h1⟩) sle_22) rfl rfl rfl rfl ?_
  refine s_y (y_assign rfl) rfl rfl rfl rfl ?_
  refine s_nil ?_
  refine g_then ?_
  refine g_seq ?_
  refine g_region ?_
  refine s_y (y_move rfl) rfl rfl rfl rfl ?_
  refine s_nil ?_
  refine g_then ?_
  refine g_block ?_
  refine g_loop (fun (i : Nat) act W => i ≤ 21 ∧ ∃ O', (J (nxP g s i).length O' W ∧ W.heap[bd]? = some (Obj.cells [.slice ag g.length cg, .slice as_ s.length cs].toArray 48 (0, 0)) ∧ ¬ O' bd) ∧ Has 35 [] [(1, (.func (.yield lp) #[] #[])), (2, .pointer (some ⟨bd, 0, none⟩)), (4, .int .i64 (s.length : Nat)), (10, .int .i64 (i : Int))] act) (fun i => 21 - i) 0 (fun act W ha hw => ⟨Nat.zero_le _, O, ⟨hJg _ _ _ _ hJ hw.below, hw.at_ _ (List.mem_cons_self ..), fun h_ => by have h1_ := hO _ _ _ hJ bd h_; have h2_ := hbd.1; omega⟩, ha.weak (sub_get ⟨rfl, rfl, rfl, rfl, trivial⟩)⟩) ?_
  intro i act W ⟨hi, O', ⟨hJi, hbdW, hOi⟩, ha⟩
  clear hg hs hvf
  obtain ⟨hg, hs⟩ := hS _ _ _ hJi
  obtain ⟨hcp, hvf⟩ := full_of hs
  refine g_go ha (Hp.refl W) ?_
  clear ha act
  refine g_seq ?_
  refine g_region ?_
  refine s_y (y_lss rfl rfl) rfl rfl rfl rfl ?_
  refine s_nil ?_
  refine g_then ?_
  refine g_seq ?_
  refine g_cond rfl (fun cq1 => ?_) (fun cq1 => ?_)
  · (try simp at cq1)
    refine g_skip ?_
    refine g_then ?_
    refine g_seq ?_
    refine g_block ?_
    refine g_seq ?_
    refine g_region ?_
    refine s_y (y_move rfl) rfl rfl rfl rfl ?_
    refine s_y (y_assign rfl) rfl rfl rfl rfl ?_
    refine s_nil ?_
    refine g_then ?_
    refine g_seq ?_
    refine g_draw 12 (by kernel_rfl) ?_
    refine j_p (i := 0) rfl (y_fld rfl (fun w => fld_48_0 _ _ w)) (by kernel_rfl) (by kernel_rfl) (by kernel_rfl) rfl rfl rfl rfl rfl (.inr (fun _ h => h)) ?_
    refine j_l (i := 1) rfl (y_ldO1 hbdW rfl agg_22 rfl) (by kernel_rfl) (by kernel_rfl) (by kernel_rfl) (by kernel_rfl) rfl rfl rfl rfl rfl (.inr (fun _ h => h)) ?_
    refine j_p (i := 2) rfl (y_fld rfl (fun w => fld_48_1 _ _ w)) (by kernel_rfl) (by kernel_rfl) (by kernel_rfl) rfl rfl rfl rfl rfl (.inr (fun _ h => h)) ?_
    refine j_l (i := 3) rfl (y_ldO1 hbdW rfl agg_22 rfl) (by kernel_rfl) (by kernel_rfl) (by kernel_rfl) (by kernel_rfl) rfl rfl rfl rfl rfl (.inr (fun _ h => h)) ?_
    refine j_p (i := 4) rfl (y_move rfl) (by kernel_rfl) (by kernel_rfl) (by kernel_rfl) rfl rfl rfl rfl rfl (.inr (fun _ h => h)) ?_
    refine j_p (i := 5) rfl (y_move rfl) (by kernel_rfl) (by kernel_rfl) (by kernel_rfl) rfl rfl rfl rfl rfl (.inr (fun _ h => h)) ?_
    refine j_p (i := 6) rfl (y_full rfl rfl rfl hcp Try.underlying22 hi3.1 hi3.2.2.1) (by kernel_rfl) (by kernel_rfl) (by kernel_rfl) rfl rfl rfl rfl rfl (.inr (fun _ h => h)) ?_
    refine j_p (i := 7) rfl (y_move rfl) (by kernel_rfl) (by kernel_rfl) (by kernel_rfl) rfl rfl rfl rfl rfl (.inr (fun _ h => h)) ?_
    refine j_two 8 11 (by kernel_rfl) ?_ ?_
    · skip
      refine i_tr (i := 8) rfl (t_build (vs := [(0, .int .i64 (i : Int))]) (cells := [.int .i64 (i : Int)]) rfl rfl Try.underlying22 hi3.1 hi3.2.1 (by rw [hi3.2.2.1]; rfl) (by rw [hi3.2.2.1]; rfl) (by rw [hi3.2.2.1]; kernel_rfl)) rfl rfl rfl rfl (.inr (fun x w hb h => (h.tail hb.2))) (fun b2 hb2 => ?_)
      refine j_two 9 11 (by kernel_rfl) ?_ ?_
      · skip
        refine i_tr (i := 9) rfl (t_appendN (enc := (Value.int .i64)) (xs := s) (v := (i : Int)) rfl rfl Try.underlying22 hi3.1 hi3.2.1 hi3.2.2.1 hi3.2.2.2 rfl (fun w h => hvf.below h.below) (fun w h => h.toHq.cell (i := 0) rfl rfl) rfl (by omega) (by unfold maxLen; omega)) rfl rfl rfl rfl (.inr (fun x w hb h => ((sv_tail hb.2 h).tail hb2.2))) (fun svn hokn' => ?_)
        obtain ⟨hokn, bN, capN, jN, rfl, hgeN⟩ := hokn'
        have hln : (s ++ [(i : Int)]).length = s.length + 1 := by simp
        refine j_p (i := 10) rfl (y_build (vs := [(0, _), (1, _)]) rfl rfl (fun w => bld_48_0_1 _ _ _ _ _ _ w)) (by kernel_rfl) (by kernel_rfl) (by kernel_rfl) rfl rfl rfl rfl rfl (.inr (fun _ h => ((h.tail hgeN).tail hb2.2))) ?_
        refine j_tr (i := 11) rfl (t_alloc zero_48 rfl) (by kernel_rfl) rfl rfl rfl rfl (.inr (fun x w hb h => (((h.tail hb.2).tail hgeN).tail hb2.2))) (fun b6 hb6 => ?_)
        refine j_tr0 (i := 12) rfl (t_store 0 rfl rfl rfl rfl size_48 rfl rfl) (by kernel_rfl) rfl rfl rfl (.inl rfl) (fun _ _ => ?_)
        refine j_nil (by kernel_rfl) ?_
        refine g_then ?_
        refine g_seq ?_
        refine g_region ?_
        refine s_y (y_ldn 0 rfl rfl agg_48 size_48 rfl rfl) rfl rfl rfl rfl ?_
        refine s_y (y_move rfl) rfl rfl rfl rfl ?_
        refine s_tr (t_call rfl rfl ent_68 (fun w h => by have h_ := broken_any w ag (some ⟨bN, 0, none⟩) cg capN g (s ++ [(i : Int)]) (hg.below h.below) (by rw [hln]; exact RdV.own (jk := jN) (at_of (i := 1) h rfl) hln.symm hokn.1) s.length (by omega) (by omega) (by omega) hgn (notes_snoc hsn (by omega) (by omega)); rw [hln] at h_; exact h_)) rfl rfl rfl rfl (fun _ _ => ?_)
        refine s_y (y_eql rfl rfl) rfl rfl rfl rfl ?_
        refine s_y (y_move rfl) rfl rfl rfl rfl ?_
        refine g_bool 28 rfl (fun cq3 => ?_) (fun cq3 => ?_)
        · (try simp at cq3)
          have hbr : brk g (s ++ [(i : Int)]) s.length = 0 := by simpa using cq3
          refine s_y (y_move rfl) rfl rfl rfl rfl ?_
          refine s_y (y_move rfl) rfl rfl rfl rfl ?_
          refine s_yield (A := fun W' => ∃ O2 : Nat → Prop, J ((nxP g s i).length + 1) O2 W' ∧ W'.heap[bd]? = some (Obj.cells [.slice ag g.length cg, .slice as_ s.length cs].toArray 48 (0, 0)) ∧ ¬ O2 bd) (B := fun W' => ∃ O2 : Nat → Prop, Jx ((nxP g s i).length + 1) O2 W') rfl rfl rfl rfl (fun w3 h => ?_) (fun w3 hA => ?_) (fun w3 hB => ?_)
          · skip
            obtain ⟨fn_, tm_, ag_, bo_, hy_, hR_⟩ := hY (nxP g s i).length (i : Int) O' w3 (hJg _ _ _ _ hJi h.below) (nxP_at (by omega) hbr)
            have hbd3 : w3.heap[bd]? = some (Obj.cells [.slice ag g.length cg, .slice as_ s.length cs].toArray 48 (0, 0)) := (h.below.block bd (lt_of_heap hbdW)).trans hbdW
            refine ⟨fn_, tm_, ag_, bo_, hy_, hR_.mono ?_⟩
            rintro e W' ⟨O2, ⟨h1, h2, h3⟩, (⟨rfl, h4⟩ | ⟨rfl, h4⟩)⟩
            · exact .inl ⟨rfl, O2, h4, (h2 bd (lt_of_heap hbd3) hOi (fun o ho => by rw [hbd3] at ho; cases ho; rfl)).trans hbd3, fun h_ => by rcases h1 bd h_ with h5 | h5; exact hOi h5; have h6 := lt_of_heap hbd3; omega⟩
            · exact .inr ⟨rfl, O2, h4⟩
          · skip
            obtain ⟨O2, hJ2, hbd2, hO2⟩ := hA
            refine s_y (y_not_t rfl) rfl rfl rfl rfl ?_
            refine s_y (y_pick_t rfl rfl) rfl rfl rfl rfl ?_
            refine s_nil ?_
            refine g_then ?_
            refine g_cond_f rfl ?_
            refine g_skip ?_
            refine g_inb ?_
            refine g_then ?_
            refine g_region ?_
            refine s_y (y_add rfl rfl (by omega) (by omega)) rfl rfl rfl rfl ?_
            refine s_y (y_move rfl) rfl rfl rfl rfl ?_
            refine s_nil ?_
            refine g_then ?_
            exact fun act W2 ha hw => ⟨i + 1, by omega, by omega, O2, ⟨by rw [nxP_yes hbr, List.length_append]; exact hJg _ _ _ _ hJ2 hw.below, (hw.below.block bd (lt_of_heap hbd2)).trans hbd2, hO2⟩, ha.weak (sub_get ⟨rfl, rfl, rfl, rfl, trivial⟩)⟩
          · skip
            obtain ⟨O2, hJ2⟩ := hB
            refine s_y (y_not_f rfl) rfl rfl rfl rfl ?_
            refine s_y (y_pick_t rfl rfl) rfl rfl rfl rfl ?_
            refine s_nil ?_
            refine g_then ?_
            refine g_cond_t rfl ?_
            refine g_ret ?_
            refine g_inbr ?_
            refine g_thenr ?_
            refine g_thenr ?_
            refine g_inbr ?_
            exact g_end trivial (fun a w ha hq_ => res0 rfl w) (fun w h => ⟨⟨_, rfl⟩, .inr ⟨_, O2, by have h1_ := List.getElem?_eq_some_iff.1 (nxP_at (i := i) (by omega) hbr); have h2_ := h1_.1; omega, hJxg _ _ _ _ hJ2 h.below⟩⟩)
        · (try simp at cq3)
          have hbr : ¬ brk g (s ++ [(i : Int)]) s.length = 0 := by simpa using cq3
          refine s_no rfl rfl rfl ?_
          refine s_no rfl rfl rfl ?_
          refine s_no rfl rfl rfl ?_
          refine s_no rfl rfl rfl ?_
          refine s_y (y_pick_f rfl rfl) rfl rfl rfl rfl ?_
          refine s_nil ?_
          refine g_then ?_
          refine g_cond_f rfl ?_
          refine g_skip ?_
          refine g_inb ?_
          refine g_then ?_
          refine g_region ?_
          refine s_y (y_add rfl rfl (by omega) (by omega)) rfl rfl rfl rfl ?_
          refine s_y (y_move rfl) rfl rfl rfl rfl ?_
          refine s_nil ?_
          refine g_then ?_
          exact fun act W2 ha hw => ⟨i + 1, by omega, by omega, O', ⟨by rw [nxP_no hbr]; exact hJg _ _ _ _ hJi hw.below, (hw.below.block bd (lt_of_heap hbdW)).trans hbdW, hOi⟩, ha.weak (sub_get ⟨rfl, rfl, rfl, rfl, trivial⟩)⟩
      · skip
        refine i_tr (i := 11) rfl (t_alloc zero_48 rfl) rfl rfl rfl rfl (.inr (fun x w hb h => ((h.tail hb.2).tail hb2.2))) (fun b6 hb6 => ?_)
        refine j_tr (i := 9) rfl (t_appendN (enc := (Value.int .i64)) (xs := s) (v := (i : Int)) rfl rfl Try.underlying22 hi3.1 hi3.2.1 hi3.2.2.1 hi3.2.2.2 rfl (fun w h => hvf.below h.below) (fun w h => h.toHq.cell (i := 1) rfl rfl) rfl (by omega) (by unfold maxLen; omega)) (by kernel_rfl) rfl rfl rfl rfl (.inr (fun x w hb h => (((sv_tail hb.2 h).tail hb6.2).tail hb2.2))) (fun svn hokn' => ?_)
        obtain ⟨hokn, bN, capN, jN, rfl, hgeN⟩ := hokn'
        have hln : (s ++ [(i : Int)]).length = s.length + 1 := by simp
        refine j_p (i := 10) rfl (y_build (vs := [(0, _), (1, _)]) rfl rfl (fun w => bld_48_0_1 _ _ _ _ _ _ w)) (by kernel_rfl) (by kernel_rfl) (by kernel_rfl) rfl rfl rfl rfl rfl (.inr (fun _ h => (((h.tail hgeN).tail hb6.2).tail hb2.2))) ?_
        refine j_tr0 (i := 12) rfl (t_store 1 rfl rfl rfl rfl size_48 rfl rfl) (by kernel_rfl) rfl rfl rfl (.inl rfl) (fun _ _ => ?_)
        refine j_nil (by kernel_rfl) ?_
        refine g_then ?_
        refine g_seq ?_
        refine g_region ?_
        refine s_y (y_ldn 1 rfl rfl agg_48 size_48 rfl rfl) rfl rfl rfl rfl ?_
        refine s_y (y_move rfl) rfl rfl rfl rfl ?_
        refine s_tr (t_call rfl rfl ent_68 (fun w h => by have h_ := broken_any w ag (some ⟨bN, 0, none⟩) cg capN g (s ++ [(i : Int)]) (hg.below h.below) (by rw [hln]; exact RdV.own (jk := jN) (at_of (i := 0) h rfl) hln.symm hokn.1) s.length (by omega) (by omega) (by omega) hgn (notes_snoc hsn (by omega) (by omega)); rw [hln] at h_; exact h_)) rfl rfl rfl rfl (fun _ _ => ?_)
        refine s_y (y_eql rfl rfl) rfl rfl rfl rfl ?_
        refine s_y (y_move rfl) rfl rfl rfl rfl ?_
        refine g_bool 28 rfl (fun cq4 => ?_) (fun cq4 => ?_)
        · (try simp at cq4)
          have hbr : brk g (s ++ [(i : Int)]) s.length = 0 := by simpa using cq4
          refine s_y (y_move rfl) rfl rfl rfl rfl ?_
          refine s_y (y_move rfl) rfl rfl rfl rfl ?_
          refine s_yield (A := fun W' => ∃ O2 : Nat → Prop, J ((nxP g s i).length + 1) O2 W' ∧ W'.heap[bd]? = some (Obj.cells [.slice ag g.length cg, .slice as_ s.length cs].toArray 48 (0, 0)) ∧ ¬ O2 bd) (B := fun W' => ∃ O2 : Nat → Prop, Jx ((nxP g s i).length + 1) O2 W') rfl rfl rfl rfl (fun w3 h => ?_) (fun w3 hA => ?_) (fun w3 hB => ?_)
          · skip
            obtain ⟨fn_, tm_, ag_, bo_, hy_, hR_⟩ := hY (nxP g s i).length (i : Int) O' w3 (hJg _ _ _ _ hJi h.below) (nxP_at (by omega) hbr)
            have hbd3 : w3.heap[bd]? = some (Obj.cells [.slice ag g.length cg, .slice as_ s.length cs].toArray 48 (0, 0)) := (h.below.block bd (lt_of_heap hbdW)).trans hbdW
            refine ⟨fn_, tm_, ag_, bo_, hy_, hR_.mono ?_⟩
            rintro e W' ⟨O2, ⟨h1, h2, h3⟩, (⟨rfl, h4⟩ | ⟨rfl, h4⟩)⟩
            · exact .inl ⟨rfl, O2, h4, (h2 bd (lt_of_heap hbd3) hOi (fun o ho => by rw [hbd3] at ho; cases ho; rfl)).trans hbd3, fun h_ => by rcases h1 bd h_ with h5 | h5; exact hOi h5; have h6 := lt_of_heap hbd3; omega⟩
            · exact .inr ⟨rfl, O2, h4⟩
          · skip
            obtain ⟨O2, hJ2, hbd2, hO2⟩ := hA
            refine s_y (y_not_t rfl) rfl rfl rfl rfl ?_
            refine s_y (y_pick_t rfl rfl) rfl rfl rfl rfl ?_
            refine s_nil ?_
            refine g_then ?_
            refine g_cond_f rfl ?_
            refine g_skip ?_
            refine g_inb ?_
            refine g_then ?_
            refine g_region ?_
            refine s_y (y_add rfl rfl (by omega) (by omega)) rfl rfl rfl rfl ?_
            refine s_y (y_move rfl) rfl rfl rfl rfl ?_
            refine s_nil ?_
            refine g_then ?_
            exact fun act W2 ha hw => ⟨i + 1, by omega, by omega, O2, ⟨by rw [nxP_yes hbr, List.length_append]; exact hJg _ _ _ _ hJ2 hw.below, (hw.below.block bd (lt_of_heap hbd2)).trans hbd2, hO2⟩, ha.weak (sub_get ⟨rfl, rfl, rfl, rfl, trivial⟩)⟩
          · skip
            obtain ⟨O2, hJ2⟩ := hB
            refine s_y (y_not_f rfl) rfl rfl rfl rfl ?_
            refine s_y (y_pick_t rfl rfl) rfl rfl rfl rfl ?_
            refine s_nil ?_
            refine g_then ?_
            refine g_cond_t rfl ?_
            refine g_ret ?_
            refine g_inbr ?_
            refine g_thenr ?_
            refine g_thenr ?_
            refine g_inbr ?_
            exact g_end trivial (fun a w ha hq_ => res0 rfl w) (fun w h => ⟨⟨_, rfl⟩, .inr ⟨_, O2, by have h1_ := List.getElem?_eq_some_iff.1 (nxP_at (i := i) (by omega) hbr); have h2_ := h1_.1; omega, hJxg _ _ _ _ hJ2 h.below⟩⟩)
        · (try simp at cq4)
          have hbr : ¬ brk g (s ++ [(i : Int)]) s.length = 0 := by simpa using cq4
          refine s_no rfl rfl rfl ?_
          refine s_no rfl rfl rfl ?_
          refine s_no rfl rfl rfl ?_
          refine s_no rfl rfl rfl ?_
          refine s_y (y_pick_f rfl rfl) rfl rfl rfl rfl ?_
          refine s_nil ?_
          refine g_then ?_
          refine g_cond_f rfl ?_
          refine g_skip ?_
          refine g_inb ?_
          refine g_then ?_
          refine g_region ?_
          refine s_y (y_add rfl rfl (by omega) (by omega)) rfl rfl rfl rfl ?_
          refine s_y (y_move rfl) rfl rfl rfl rfl ?_
          refine s_nil ?_
          refine g_then ?_
          exact fun act W2 ha hw => ⟨i + 1, by omega, by omega, O', ⟨by rw [nxP_no hbr]; exact hJg _ _ _ _ hJi hw.below, (hw.below.block bd (lt_of_heap hbdW)).trans hbdW, hOi⟩, ha.weak (sub_get ⟨rfl, rfl, rfl, rfl, trivial⟩)⟩
    · skip
      refine i_tr (i := 11) rfl (t_alloc zero_48 rfl) rfl rfl rfl rfl (.inr (fun x w hb h => (h.tail hb.2))) (fun b6 hb6 => ?_)
      refine j_tr (i := 8) rfl (t_build (vs := [(0, .int .i64 (i : Int))]) (cells := [.int .i64 (i : Int)]) rfl rfl Try.underlying22 hi3.1 hi3.2.1 (by rw [hi3.2.2.1]; rfl) (by rw [hi3.2.2.1]; rfl) (by rw [hi3.2.2.1]; kernel_rfl)) (by kernel_rfl) rfl rfl rfl rfl (.inr (fun x w hb h => ((h.tail hb.2).tail hb6.2))) (fun b5 hb5 => ?_)
      refine j_tr (i := 9) rfl (t_appendN (enc := (Value.int .i64)) (xs := s) (v := (i : Int)) rfl rfl Try.underlying22 hi3.1 hi3.2.1 hi3.2.2.1 hi3.2.2.2 rfl (fun w h => hvf.below h.below) (fun w h => h.toHq.cell (i := 0) rfl rfl) rfl (by omega) (by unfold maxLen; omega)) (by kernel_rfl) rfl rfl rfl rfl (.inr (fun x w hb h => (((sv_tail hb.2 h).tail hb5.2).tail hb6.2))) (fun svn hokn' => ?_)
      obtain ⟨hokn, bN, capN, jN, rfl, hgeN⟩ := hokn'
      have hln : (s ++ [(i : Int)]).length = s.length + 1 := by simp
      refine j_p (i := 10) rfl (y_build (vs := [(0, _), (1, _)]) rfl rfl (fun w => bld_48_0_1 _ _ _ _ _ _ w)) (by kernel_rfl) (by kernel_rfl) (by kernel_rfl) rfl rfl rfl rfl rfl (.inr (fun _ h => (((h.tail hgeN).tail hb5.2).tail hb6.2))) ?_
      refine j_tr0 (i := 12) rfl (t_store 2 rfl rfl rfl rfl size_48 rfl rfl) (by kernel_rfl) rfl rfl rfl (.inl rfl) (fun _ _ => ?_)
      refine j_nil (by kernel_rfl) ?_
      refine g_then ?_
      refine g_seq ?_
      refine g_region ?_
      refine s_y (y_ldn 2 rfl rfl agg_48 size_48 rfl rfl) rfl rfl rfl rfl ?_
      refine s_y (y_move rfl) rfl rfl rfl rfl ?_
      refine s_tr (t_call rfl rfl ent_68 (fun w h => by have h_ := broken_any w ag (some ⟨bN, 0, none⟩) cg capN g (s ++ [(i : Int)]) (hg.below h.below) (by rw [hln]; exact RdV.own (jk := jN) (at_of (i := 0) h rfl) hln.symm hokn.1) s.length (by omega) (by omega) (by omega) hgn (notes_snoc hsn (by omega) (by omega)); rw [hln] at h_; exact h_)) rfl rfl rfl rfl (fun _ _ => ?_)
      refine s_y (y_eql rfl rfl) rfl rfl rfl rfl ?_
      refine s_y (y_move rfl) rfl rfl rfl rfl ?_
      refine g_bool 28 rfl (fun cq6 => ?_) (fun cq6 => ?_)
      · (try simp at cq6)
        have hbr : brk g (s ++ [(i : Int)]) s.length = 0 := by simpa using cq6
        refine s_y (y_move rfl) rfl rfl rfl rfl ?_
        refine s_y (y_move rfl) rfl rfl rfl rfl ?_
        refine s_yield (A := fun W' => ∃ O2 : Nat → Prop, J ((nxP g s i).length + 1) O2 W' ∧ W'.heap[bd]? = some (Obj.cells [.slice ag g.length cg, .slice as_ s.length cs].toArray 48 (0, 0)) ∧ ¬ O2 bd) (B := fun W' => ∃ O2 : Nat → Prop, Jx ((nxP g s i).length + 1) O2 W') rfl rfl rfl rfl (fun w3 h => ?_) (fun w3 hA => ?_) (fun w3 hB => ?_)
        · skip
          obtain ⟨fn_, tm_, ag_, bo_, hy_, hR_⟩ := hY (nxP g s i).length (i : Int) O' w3 (hJg _ _ _ _ hJi h.below) (nxP_at (by omega) hbr)
          have hbd3 : w3.heap[bd]? = some (Obj.cells [.slice ag g.length cg, .slice as_ s.length cs].toArray 48 (0, 0)) := (h.below.block bd (lt_of_heap hbdW)).trans hbdW
          refine ⟨fn_, tm_, ag_, bo_, hy_, hR_.mono ?_⟩
          rintro e W' ⟨O2, ⟨h1, h2, h3⟩, (⟨rfl, h4⟩ | ⟨rfl, h4⟩)⟩
          · exact .inl ⟨rfl, O2, h4, (h2 bd (lt_of_heap hbd3) hOi (fun o ho => by rw [hbd3] at ho; cases ho; rfl)).trans hbd3, fun h_ => by rcases h1 bd h_ with h5 | h5; exact hOi h5; have h6 := lt_of_heap hbd3; omega⟩
          · exact .inr ⟨rfl, O2, h4⟩
        · skip
          obtain ⟨O2, hJ2, hbd2, hO2⟩ := hA
          refine s_y (y_not_t rfl) rfl rfl rfl rfl ?_
          refine s_y (y_pick_t rfl rfl) rfl rfl rfl rfl ?_
          refine s_nil ?_
          refine g_then ?_
          refine g_cond_f rfl ?_
          refine g_skip ?_
          refine g_inb ?_
          refine g_then ?_
          refine g_region ?_
          refine s_y (y_add rfl rfl (by omega) (by omega)) rfl rfl rfl rfl ?_
          refine s_y (y_move rfl) rfl rfl rfl rfl ?_
          refine s_nil ?_
          refine g_then ?_
          exact fun act W2 ha hw => ⟨i + 1, by omega, by omega, O2, ⟨by rw [nxP_yes hbr, List.length_append]; exact hJg _ _ _ _ hJ2 hw.below, (hw.below.block bd (lt_of_heap hbd2)).trans hbd2, hO2⟩, ha.weak (sub_get ⟨rfl, rfl, rfl, rfl, trivial⟩)⟩
        · skip
          obtain ⟨O2, hJ2⟩ := hB
          refine s_y (y_not_f rfl) rfl rfl rfl rfl ?_
          refine s_y (y_pick_t rfl rfl) rfl rfl rfl rfl ?_
          refine s_nil ?_
          refine g_then ?_
          refine g_cond_t rfl ?_
          refine g_ret ?_
          refine g_inbr ?_
          refine g_thenr ?_
          refine g_thenr ?_
          refine g_inbr ?_
          exact g_end trivial (fun a w ha hq_ => res0 rfl w) (fun w h => ⟨⟨_, rfl⟩, .inr ⟨_, O2, by have h1_ := List.getElem?_eq_some_iff.1 (nxP_at (i := i) (by omega) hbr); have h2_ := h1_.1; omega, hJxg _ _ _ _ hJ2 h.below⟩⟩)
      · (try simp at cq6)
        have hbr : ¬ brk g (s ++ [(i : Int)]) s.length = 0 := by simpa using cq6
        refine s_no rfl rfl rfl ?_
        refine s_no rfl rfl rfl ?_
        refine s_no rfl rfl rfl ?_
        refine s_no rfl rfl rfl ?_
        refine s_y (y_pick_f rfl rfl) rfl rfl rfl rfl ?_
        refine s_nil ?_
        refine g_then ?_
        refine g_cond_f rfl ?_
        refine g_skip ?_
        refine g_inb ?_
        refine g_then ?_
        refine g_region ?_
        refine s_y (y_add rfl rfl (by omega) (by omega)) rfl rfl rfl rfl ?_
        refine s_y (y_move rfl) rfl rfl rfl rfl ?_
        refine s_nil ?_
        refine g_then ?_
        exact fun act W2 ha hw => ⟨i + 1, by omega, by omega, O', ⟨by rw [nxP_no hbr]; exact hJg _ _ _ _ hJi hw.below, (hw.below.block bd (lt_of_heap hbdW)).trans hbdW, hOi⟩, ha.weak (sub_get ⟨rfl, rfl, rfl, rfl, trivial⟩)⟩
  · (try simp at cq1)
    refine g_exit ?_
    refine g_thenx ?_
    refine g_thenx ?_
    refine g_inbx ?_
    obtain rfl : i = 21 := by omega
    exact g_endn trivial (fun a w ha hq_ => res0 rfl w) (fun w h => ⟨⟨_, rfl⟩, .inl ⟨O', hJg _ _ _ _ hJi h.below⟩⟩)

end Go.Proofs.Ytolalckejnijkaa
