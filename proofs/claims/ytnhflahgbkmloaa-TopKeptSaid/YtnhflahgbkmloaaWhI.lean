/- wheels: chords, Chord, Silent, Alike; the references' Valid, Chord, Silent, Flat, Alike. -/
import Derived.Test.YtnhflahgbkmloaaWhG
import Derived.Test.YtnhflahgbkmloaaWhDft
namespace Go.Proofs.Ytnhflahgbkmloaa
open Go.RowKit Go.Sx Go.Wh Go.Dft
set_option linter.unusedVariables false
set_option linter.unusedSimpArgs false
set_option maxRecDepth 100000
set_option maxHeartbeats 4000000

private theorem agg_3 : isAggB Try.prog 3 = some false := by kernel_rfl
private theorem zero_74 : (Try.prog.info? 74).bind (·.zero) = some (.agg #[(.int .i64 0), (.int .i64 0), (.int .i64 0)]) := by kernel_rfl
private theorem ent_54 : Enters Try.prog 54 := enters_of Try.func54 (by kernel_rfl) rfl
private theorem size_74 : (Try.prog.info? 74).map (·.size) = some 3 := by kernel_rfl
private theorem agg_74 : isAggB Try.prog 74 = some true := by kernel_rfl
private theorem bld_74_  (w : World) : (Instr.build 74 #[]).run Try.prog w = .ok (.agg #[(.int .i64 0), (.int .i64 0), (.int .i64 0)]) w := by kernel_rfl
private theorem sle_27 : Try.prog.underlying 27 = some (.slice (Try.prog.elem 27)) := by kernel_rfl
private theorem size_3 : (Try.prog.info? 3).map (·.size) = some 1 := by kernel_rfl
private theorem zero_3 : (Try.prog.info? 3).bind (·.zero) = some (.int .i64 0) := by kernel_rfl
private theorem ent_73 : Enters Try.prog 73 := enters_of Try.func73 (by kernel_rfl) rfl
private theorem ent_55 : Enters Try.prog 55 := enters_of Try.func55 (by kernel_rfl) rfl
private theorem inf_27 : ∃ ie, Try.prog.info? 27 = some ie ∧ ie.zero = some (.slice none 0 0) ∧ ie.size = 1 ∧ ie.bytes = 24 := info_of (by kernel_rfl) (by kernel_rfl)

theorem chords1_any (w : World) (k : Nat) (bs : Nat) (c : Int) (hk : k ≤ 60) (hc0 : 0 ≤ c) (hc2 : c < 9223372036854775808) (hbs : w.heap[bs]? = some (.cells [.int .i64 c].toArray 3 (0, 0))) :
    Calls Try.prog 73 [.int .i64 (k : Int), .pointer (some ⟨bs, 0, none⟩)].toArray w fun e w' => e = .returned (.int .i64 (bitI c k)) ∧ Below w.heap.size w w' := by
  refine enter (N := 8) Try.func73 rfl rfl rfl ?_
  refine g_seq ?_
  refine g_region ?_
  refine s_y (y_assign rfl) rfl rfl rfl rfl ?_
  refine s_nil ?_
  refine g_then ?_
  refine g_seq ?_
  refine g_region ?_
  refine s_y (y_ldO1 hbs rfl agg_3 rfl) rfl rfl rfl rfl ?_
  refine s_y (y_move rfl) rfl rfl rfl rfl ?_
  refine s_y (y_shr rfl rfl (by omega) (by omega) (by omega)) rfl rfl rfl rfl ?_
  have hd := Int.ediv_nonneg hc0 (show (0 : Int) ≤ 2 ^ (k : Int).toNat from Int.pow_nonneg (by decide))
  have hd2 := Int.ediv_le_self (2 ^ (k : Int).toNat) hc0
  refine s_y (y_and rfl rfl (by omega) (by omega)) rfl rfl rfl rfl ?_
  refine s_y (y_assign rfl) rfl rfl rfl rfl ?_
  refine s_nil ?_
  refine g_then ?_
  refine g_ret ?_
  exact g_end trivial (fun a w ha hq_ => res1 ha rfl rfl  w) (fun w h => ⟨rfl, h.below⟩)

theorem eq56_s (w : World) (m : Nat) (q wr : Int) : (binOp .eql 74 (.agg #[.int .i64 ((m + 1 : Nat) : Int), .int .i64 q, .int .i64 wr]) (.agg #[.int .i64 0, .int .i64 0, .int .i64 0])).run Try.prog w = .ok (.bool false) w := by kernel_rfl
theorem eq56_f (w : World) (n : Nat) (q wr : Int) (hn : (n : Int) ≠ 0) : (binOp .eql 74 (.agg #[.int .i64 (n : Int), .int .i64 q, .int .i64 wr]) (.agg #[.int .i64 0, .int .i64 0, .int .i64 0])).run Try.prog w = .ok (.bool false) w := by
  obtain ⟨m, rfl⟩ : ∃ m, n = m + 1 := ⟨n - 1, by omega⟩
  exact eq56_s w m q wr
theorem eq56_t (w : World) : (binOp .eql 74 (.agg #[.int .i64 0, .int .i64 0, .int .i64 0]) (.agg #[.int .i64 0, .int .i64 0, .int .i64 0])).run Try.prog w = .ok (.bool true) w := by kernel_rfl

theorem chords_ok (w : World) (n : Nat) (v : Value) (ss : List Int) (hv : RdV (Value.int .i64) w v ss) (hl : ss.length ≤ 1000) (hn : 2 ≤ n) (hn2 : n ≤ 16) (hss : ∀ s ∈ ss, 0 ≤ s ∧ s < 2 ^ n) :
    Calls Try.prog 53 [.int .i64 (n : Int), v].toArray w fun e w' => ∃ x : Value × List Value × List (Nat × Obj), (OwnV encV x.1 x.2.1 x.2.2 ∧ x.2.1.length = ss.length ∧ (∀ k : Nat, k < ss.length → OwnV (Value.int .i64) (rdVal x.2.1 (k : Int)) (chL n (rdI ss (k : Int))) x.2.2) ∧ ∃ W : World, ∀ p ∈ x.2.2, W.heap[p.1]? = some p.2) ∧ e = .returned (.tuple #[.agg #[.int .i64 (n : Int), .int .i64 (qOf n), .int .i64 (wOf n)], x.1, .bool true]) ∧ Hq w w x.2.2 w' := by
  obtain ⟨hf1, hf2, hf3, hf4, hf5, hf6, hf7⟩ := q_facts hn hn2
  have hn0 : (n : Int) ≠ 0 := by omega
  obtain ⟨ie27, hi27⟩ := inf_27
  refine enter (N := 50) Try.func53 rfl rfl rfl ?_
  refine g_seq ?_
  refine g_region ?_
  refine s_tr (t_alloc zero_74 rfl) rfl rfl rfl rfl (fun br hbr => ?_)
  refine s_y (y_assign rfl) rfl rfl rfl rfl ?_
  refine s_y (y_assign rfl) rfl rfl rfl rfl ?_
  refine s_nil ?_
  refine g_then ?_
  refine g_seq ?_
  refine g_region ?_
  refine s_y (y_move rfl) rfl rfl rfl rfl ?_
  refine s_tr (t_call rfl rfl ent_54 (fun w h => read_yes w n _ [] hn hn2 RdV.nil (by simp) (by simp only [List.not_mem_nil, false_imp_iff, implies_true]; skip))) rfl rfl rfl rfl (fun _ _ => ?_)
  refine s_y (y_move rfl) rfl rfl rfl rfl ?_
  refine s_y (y_extract rfl rfl) rfl rfl rfl rfl ?_
  refine s_y (y_extract rfl rfl) rfl rfl rfl rfl ?_
  refine s_tr (t_alloc zero_74 rfl) rfl rfl rfl rfl (fun bf hbf => ?_)
  refine s_tr0 (t_store 0 rfl rfl rfl rfl size_74 rfl rfl) rfl rfl rfl (fun _ _ => ?_)
  refine s_y (y_assign rfl) rfl rfl rfl rfl ?_
  refine s_nil ?_
  refine g_then ?_
  refine g_seq ?_
  refine g_region ?_
  refine s_y (y_ldn 0 rfl rfl agg_74 size_74 rfl rfl) rfl rfl rfl rfl ?_
  refine s_y (y_build (vs := []) rfl rfl (fun w => bld_74_  w)) rfl rfl rfl rfl ?_
  refine s_y (y_bin rfl rfl (fun w => by kernel_rfl) (fun w => eq56_f w _ _ _ hn0)) rfl rfl rfl rfl ?_
  refine s_y (y_assign rfl) rfl rfl rfl rfl ?_
  refine s_nil ?_
  refine g_then ?_
  refine g_seq ?_
  refine g_region ?_
  refine s_y (y_assign rfl) rfl rfl rfl rfl ?_
  refine s_nil ?_
  refine g_then ?_
  refine g_seq ?_
  refine g_seq ?_
  refine g_region ?_
  refine s_y (y_move rfl) rfl rfl rfl rfl ?_
  refine s_y (y_lenV (n := ss.length) rfl (by obtain ⟨A, c, h1, _⟩ := hv; exact ⟨A, c, h1⟩) sle_27) rfl rfl rfl rfl ?_
  refine s_y (y_move rfl) rfl rfl rfl rfl ?_
  refine s_nil ?_
  refine g_then ?_
  refine g_block ?_
  refine g_loop (fun (i : Nat) act W => i ≤ ss.length ∧ ∃ (sv : SV) (vs : List Value) (Ms : List (Nat × Obj)) (w1 : World), (sv.ok 1 i (vs.map encV)) ∧ (vs.length = i) ∧ (∀ k : Nat, k < i → OwnV (Value.int .i64) (rdVal vs (k : Int)) (chL n (rdI ss (k : Int))) Ms) ∧ Has 50 [] [(0, .int .i64 (n : Int)), (4, .pointer (some ⟨br, 0, none⟩)), (7, .pointer (some ⟨bf, 0, none⟩)), (9, .bool false), (10, sv.val i), (21, v), (22, .int .i64 (ss.length : Nat)), (23, .int .i64 (i : Int))] act ∧ Hp w w1 ((bf, .cells [.int .i64 (n : Int), .int .i64 (qOf n), .int .i64 (wOf n)].toArray 74 (0, 0)) :: (br, .cells [.int .i64 0, .int .i64 0, .int .i64 0].toArray 74 (0, 0)) :: (Ms ++ ((sv.mem 27 (vs.map encV) ++ ([]))))) W) (fun i => ss.length - i) 0 (fun act W ha hw => ⟨by omega, SV.nil, [], [], W, (by exact ⟨rfl, rfl⟩), (by rfl), (by intro k hk; omega), ha.weak (sub_get ⟨rfl, rfl, rfl, rfl, rfl, rfl, rfl, rfl, trivial⟩), hw.toHq.lookSub (List.Sublist.refl _)⟩) ?_
  intro i act W ⟨hb_i, sv, vs, Ms, w1, hok3, hvl, hrows, ha, hw⟩
  refine g_go ha hw ?_
  clear ha hw act W
  refine g_seq ?_
  refine g_region ?_
  refine s_y (y_lss rfl rfl) rfl rfl rfl rfl ?_
  refine s_nil ?_
  refine g_then ?_
  refine g_seq ?_
  refine g_cond rfl (fun cq1 => ?_) (fun cq1 => ?_)
  · (try simp at cq1)
    refine g_skip ?_
    refine g_then ?_
    refine g_seq ?_
    refine g_block ?_
    refine g_seq ?_
    have hss1 := (hss _ (rdI_mem (xs := ss) (i := (i : Int)) (by omega) (by omega))).1
    have hss3 := (hss _ (rdI_mem (xs := ss) (i := (i : Int)) (by omega) (by omega))).2
    have hp16 := pow_le hn2
    have hss2 : rdI ss (i : Int) < 9223372036854775808 := by omega
    refine g_region ?_
    refine s_y (y_idxV (enc := (Value.int .i64)) rfl rfl hv Try.underlying27 size_3 (by omega) (by omega)) rfl rfl rfl rfl ?_
    refine s_y (y_ldV (enc := (Value.int .i64)) (xs := ss) (fun w h => hv.rdl.below h.below) rfl agg_3 (rdI_at (by omega) (by omega))) rfl rfl rfl rfl ?_
    refine s_tr (t_alloc zero_3 rfl) rfl rfl rfl rfl (fun bs hbs => ?_)
    refine s_tr0 (t_store 0 rfl rfl rfl rfl size_3 rfl rfl) rfl rfl rfl (fun _ _ => ?_)
    refine s_nil ?_
    refine g_then ?_
    refine g_seq ?_
    refine g_seq ?_
    refine g_draw 11 (by kernel_rfl) ?_
    refine j_p (i := 0) rfl (y_move rfl) (by kernel_rfl) (by kernel_rfl) (by kernel_rfl) rfl rfl rfl rfl rfl (.inr (fun _ h => h)) ?_
    refine j_p (i := 1) rfl (y_move rfl) (by kernel_rfl) (by kernel_rfl) (by kernel_rfl) rfl rfl rfl rfl rfl (.inr (fun _ h => h)) ?_
    refine j_l (i := 2) rfl (y_ld1 0 rfl rfl agg_3 rfl) (by kernel_rfl) (by kernel_rfl) (by kernel_rfl) (by kernel_rfl) rfl rfl rfl rfl rfl (.inr (fun _ h => h)) ?_
    refine j_p (i := 3) rfl (y_lss rfl rfl) (by kernel_rfl) (by kernel_rfl) (by kernel_rfl) rfl rfl rfl rfl rfl (.inr (fun _ h => h)) ?_
    refine j_p (i := 4) rfl (y_pick_f rfl rfl) (by kernel_rfl) (by kernel_rfl) (by kernel_rfl) rfl rfl rfl rfl rfl (.inr (fun _ h => h)) ?_
    refine j_p (i := 5) rfl (y_move rfl) (by kernel_rfl) (by kernel_rfl) (by kernel_rfl) rfl rfl rfl rfl rfl (.inr (fun _ h => h)) ?_
    refine g_bool 32 rfl (fun cq2 => ?_) (fun cq2 => ?_)
    · (try simp at cq2)
      omega
    · (try simp at cq2)
      refine j_l (i := 6) rfl (y_ld1 0 rfl rfl agg_3 rfl) (by kernel_rfl) (by kernel_rfl) (by kernel_rfl) (by kernel_rfl) rfl rfl rfl rfl rfl (.inr (fun _ h => h)) ?_
      refine j_p (i := 7) rfl (y_move rfl) (by kernel_rfl) (by kernel_rfl) (by kernel_rfl) rfl rfl rfl rfl rfl (.inr (fun _ h => h)) ?_
      refine j_p (i := 8) rfl (y_shl1 rfl rfl (by omega) (by omega)) (by kernel_rfl) (by kernel_rfl) (by kernel_rfl) rfl rfl rfl rfl rfl (.inr (fun _ h => h)) ?_
      refine j_p (i := 9) rfl (y_geq rfl rfl) (by kernel_rfl) (by kernel_rfl) (by kernel_rfl) rfl rfl rfl rfl rfl (.inr (fun _ h => h)) ?_
      refine j_p (i := 10) rfl (y_pick_f rfl rfl) (by kernel_rfl) (by kernel_rfl) (by kernel_rfl) rfl rfl rfl rfl rfl (.inr (fun _ h => h)) ?_
      refine j_nil (by kernel_rfl) ?_
      refine g_then ?_
      refine g_cond rfl (fun cq3 => ?_) (fun cq3 => ?_)
      · (try simp at cq3)
        omega
      · (try simp at cq3)
        refine g_skip ?_
        refine g_then ?_
        refine g_region ?_
        refine s_y (y_move rfl) rfl rfl rfl rfl ?_
        refine s_y (y_ldn 1 rfl rfl agg_74 size_74 rfl rfl) rfl rfl rfl rfl ?_
        refine s_y (y_func rfl rfl) rfl rfl rfl rfl ?_
        refine s_tr (t_callm (A := New _ _) rfl rfl ent_55 (fun w h => ((chL_q hn hn2 (s := rdI ss (i : Int))) ▸ wheel_any w n (qOf n) (wOf n) 73 [.pointer (some ⟨bs, 0, none⟩)] (fun x => bitI (rdI ss (i : Int)) x) (by omega) (by omega) (by omega) (fun x hk => by have := bitI_range (rdI ss (i : Int)) x; omega) ent_73 (fun k W hk hb => chords1_any W k bs (rdI ss (i : Int)) (by omega) hss1 hss2 (below_at hb (at_of (i := 0) h rfl)))).mono fun e w' ⟨b, h1, h2⟩ => ⟨b, ⟨Nat.le_trans h.below.size (h2.ge _ (List.mem_cons_self ..)), Nat.le_trans h.size (h2.ge _ (List.mem_cons_self ..))⟩, h1, h2⟩)) rfl rfl rfl rfl (fun bw hbw => ?_)
        refine s_tr (t_build (vs := [(0, .slice (some ⟨bw, 0, none⟩) n n)]) (cells := [.slice (some ⟨bw, 0, none⟩) n n]) rfl rfl Try.underlying75 hi27.1 hi27.2.1 (by rw [hi27.2.2.1]; rfl) (by rw [hi27.2.2.1]; rfl) (by rw [hi27.2.2.1]; kernel_rfl)) rfl rfl rfl rfl (fun bb hbb => ?_)
        refine s_tr (t_appendL (enc := encV) (sv := sv) (xs := vs) (n := i) (v := (Value.slice (some ⟨bw, 0, none⟩) n n)) ((bb, .cells [.slice (some ⟨bw, 0, none⟩) n n].toArray 27 (0, 0)) :: (bw, .cells ((chL n (rdI ss (i : Int))).map (Value.int .i64) ++ []).toArray 3 (0, 0)) :: (bs, .cells [.int .i64 (rdI ss (i : Int))].toArray 3 (0, 0)) :: (bf, .cells [.int .i64 (n : Int), .int .i64 (qOf n), .int .i64 (wOf n)].toArray 74 (0, 0)) :: (br, .cells [.int .i64 0, .int .i64 0, .int .i64 0].toArray 74 (0, 0)) :: Ms) _ rfl rfl rfl hok3 Try.underlying75 hi27.1 hi27.2.1 hi27.2.2.1 hi27.2.2.2 rfl (fun w h => h.toHq.cell (i := 0) rfl rfl) rfl (by omega) (by unfold maxLen; omega)) rfl rfl rfl rfl (fun y7 hy8 => ?_)
        obtain ⟨sv4, gs5⟩ := y7
        obtain ⟨hok6, hok6b, hok6c, hok6j, hok6e⟩ := hy8
        refine s_y (y_assign rfl) rfl rfl rfl rfl ?_
        refine s_nil ?_
        refine g_inb ?_
        refine g_then ?_
        refine g_region ?_
        refine s_y (y_add rfl rfl (by omega) (by omega)) rfl rfl rfl rfl ?_
        refine s_y (y_move rfl) rfl rfl rfl rfl ?_
        refine s_nil ?_
        refine g_then ?_
        have hall : ∀ k : Nat, k < i + 1 → OwnV (Value.int .i64) (rdVal (vs ++ [.slice (some ⟨bw, 0, none⟩) n n]) (k : Int)) (chL n (rdI ss (k : Int))) ((bw, (Obj.cells ((chL n (rdI ss (i : Int))).map (Value.int .i64) ++ []).toArray 3 (0, 0))) :: Ms) := by
          intro k hk
          rcases Nat.lt_or_ge k i with h | h
          · rw [rdVal_snoc, if_neg (by omega)]; exact (hrows k h).mono fun p hp => List.mem_cons_of_mem _ hp
          · have : k = i := by omega
            subst this; rw [rdVal_snoc, if_pos hvl.symm]; refine (OwnV.blk (b := bw) (n := n) (c := n) (t := 3) (fr := (0, 0)) (jk := []) (by rw [chL_len]) (Nat.le_refl _)).mono fun p hp => ?_
            rw [List.mem_singleton.1 hp]; exact List.mem_cons_self ..
        exact fun act W ha hw => ⟨i + 1, by omega, by omega, sv4, (vs ++ [(Value.slice (some ⟨bw, 0, none⟩) n n)]), ((bw, Obj.cells (List.toArray (List.append (List.map (Value.int .i64) (chL n (rdI ss (i : Int)))) [])) 3 (0, 0)) :: Ms : List (Nat × Obj)), W, (by exact hok6), (by simp; omega), (by exact hall), ha.weak (sub_get ⟨rfl, rfl, rfl, rfl, rfl, rfl, rfl, rfl, trivial⟩), hw.toHq.pick (List.Perm.cons _ (List.perm_middle (l₁ := [_, _, _]))) (List.Sublist.cons _ (List.Sublist.cons _ (List.Sublist.cons_cons _ (List.Sublist.cons_cons _ (List.Sublist.cons_cons _ (sub_app Ms (sub_app (sv4.mem 27 ((vs ++ [(Value.slice (some ⟨bw, 0, none⟩) n n)]).map encV)) (List.nil_sublist _))))))))⟩
  · (try simp at cq1)
    refine g_exit ?_
    refine g_thenx ?_
    refine g_thenx ?_
    refine g_inbx ?_
    refine g_then ?_
    refine g_seq ?_
    refine g_region ?_
    refine s_y (y_ldn 0 rfl rfl agg_74 size_74 rfl rfl) rfl rfl rfl rfl ?_
    refine s_y (y_move rfl) rfl rfl rfl rfl ?_
    refine s_y (y_move rfl) rfl rfl rfl rfl ?_
    refine s_y (y_not_f rfl) rfl rfl rfl rfl ?_
    refine s_tr0 (t_store 1 rfl rfl rfl rfl size_74 rfl rfl) rfl rfl rfl (fun _ _ => ?_)
    refine s_y (y_assign rfl) rfl rfl rfl rfl ?_
    refine s_y (y_assign rfl) rfl rfl rfl rfl ?_
    refine s_nil ?_
    refine g_then ?_
    refine g_ret ?_
    obtain rfl : i = ss.length := by omega
    exact g_end trivial (fun a w ha hq_ => res_ctt (c := [.int .i64 (n : Int), .int .i64 (qOf n), .int .i64 (wOf n)]) 1 ha hq_ rfl rfl rfl rfl rfl  agg_74 size_74 rfl) (fun w h => ⟨(_, vs, Ms ++ (sv.mem 27 (vs.map encV) ++ [])), ⟨(OwnV.sv hok3).mono fun p hp => List.mem_append_right _ (List.mem_append_left _ hp), hvl, fun k hk => (hrows k hk).mono fun p hp => List.mem_append_left _ hp, w, (h.hand (List.Sublist.cons _ (List.Sublist.cons _ (List.Sublist.refl _)))).at_⟩, rfl, h.hand (List.Sublist.cons _ (List.Sublist.cons _ (List.Sublist.refl _)))⟩)

end Go.Proofs.Ytnhflahgbkmloaa
