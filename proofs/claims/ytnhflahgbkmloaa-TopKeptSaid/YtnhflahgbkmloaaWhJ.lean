/- wheels: chords that aren't, Chord, Silent, Alike; the references' Chord, Silent, Alike; the law WheelsAlike. -/
import Derived.Test.YtnhflahgbkmloaaWhI
namespace Go.Proofs.Ytnhflahgbkmloaa
open Go.RowKit Go.Sx Go.Wh Go.Dft
set_option linter.unusedVariables false
set_option linter.unusedSimpArgs false
set_option maxRecDepth 100000
set_option maxHeartbeats 4000000

private theorem zero_74 : (Try.prog.info? 74).bind (·.zero) = some (.agg #[(.int .i64 0), (.int .i64 0), (.int .i64 0)]) := by kernel_rfl
private theorem ent_54 : Enters Try.prog 54 := enters_of Try.func54 (by kernel_rfl) rfl
private theorem size_74 : (Try.prog.info? 74).map (·.size) = some 3 := by kernel_rfl
private theorem agg_74 : isAggB Try.prog 74 = some true := by kernel_rfl
private theorem bld_74_  (w : World) : (Instr.build 74 #[]).run Try.prog w = .ok (.agg #[(.int .i64 0), (.int .i64 0), (.int .i64 0)]) w := by kernel_rfl
private theorem sle_27 : Try.prog.underlying 27 = some (.slice (Try.prog.elem 27)) := by kernel_rfl
private theorem size_3 : (Try.prog.info? 3).map (·.size) = some 1 := by kernel_rfl
private theorem agg_3 : isAggB Try.prog 3 = some false := by kernel_rfl
private theorem zero_3 : (Try.prog.info? 3).bind (·.zero) = some (.int .i64 0) := by kernel_rfl
private theorem ent_73 : Enters Try.prog 73 := enters_of Try.func73 (by kernel_rfl) rfl
private theorem ent_55 : Enters Try.prog 55 := enters_of Try.func55 (by kernel_rfl) rfl
private theorem inf_27 : ∃ ie, Try.prog.info? 27 = some ie ∧ ie.zero = some (.slice none 0 0) ∧ ie.size = 1 ∧ ie.bytes = 24 := info_of (by kernel_rfl) (by kernel_rfl)
private theorem inf_3 : ∃ ie, Try.prog.info? 3 = some ie ∧ ie.zero = some (.int .i64 0) ∧ ie.size = 1 ∧ ie.bytes = 8 := info_of (by kernel_rfl) (by kernel_rfl)
private theorem ent_53 : Enters Try.prog 53 := enters_of Try.func53 (by kernel_rfl) rfl
private theorem size_27 : (Try.prog.info? 27).map (·.size) = some 1 := by kernel_rfl
private theorem agg_27 : isAggB Try.prog 27 = some false := by kernel_rfl

theorem chL_snoc {i : Nat} {c : Int} : chL (i + 1) c = chL i c ++ [bitI c i] := by simp [chL, List.range_succ]
theorem chL_facts {n : Nat} (hn : 2 ≤ n) (hn2 : n ≤ 16) (c : Int) : (chL n c).length = n ∧ (∀ x ∈ chL n c, 0 ≤ x ∧ x < qOf n) := okW_true.1 (chL_ok hn hn2)
theorem powL_len {q wr : Int} {n : Nat} {xs : List Int} : (powL q wr n xs).length = n := by simp [powL]
theorem two_i {i : Nat} (h : i ≤ 16) : (0 : Int) ≤ 2 ^ (i : Int).toNat ∧ (2 : Int) ^ (i : Int).toNat ≤ 65536 := by
  rw [Int.toNat_natCast]; exact ⟨Int.pow_nonneg (by decide), pow_le h⟩
theorem sil_le (xs : List Int) {i : Nat} (h : i ≤ 16) : 0 ≤ silI xs i ∧ silI xs i ≤ 65536 := by
  have h1 := silI_range xs i
  have h2 := pow_le h
  omega

theorem chords_bad (w : World) (n : Nat) (v : Value) (ss : List Int) (hv : RdV (Value.int .i64) w v ss) (hl : ss.length ≤ 1000) (hn : 2 ≤ n) (hn2 : n ≤ 16) (hss : ¬ ∀ s ∈ ss, 0 ≤ s ∧ s < 2 ^ n) :
    Calls Try.prog 53 [.int .i64 (n : Int), v].toArray w fun e w' => ∃ x : Int × Int × Int, True ∧ e = .returned (.tuple #[.agg #[.int .i64 x.1, .int .i64 x.2.1, .int .i64 x.2.2], .slice none 0 0, .bool false]) ∧ Hq w w [] w' := by
  obtain ⟨hf1, hf2, hf3, hf4, hf5, hf6, hf7⟩ := q_facts hn hn2
  have hn0 : (n : Int) ≠ 0 := by omega
  obtain ⟨ie27, hi27⟩ := inf_27
  refine enter (N := 50) Try.func53 rfl rfl rfl ?_
  refine g_seq ?_
  refine g_region ?_
  refine s_tr (t_alloc zero_74 rfl) rfl rfl rfl rfl (fun br hbr => ?_)
  refine s_y (y_assign rfl) rfl rfl rfl rfl ?_
  refine s_y (y_assign rfl) rfl rfl rfl rfl ?_
  refine s_nil ?_
  refine g_then ?_
  refine g_seq ?_
  refine g_region ?_
  refine s_y (y_move rfl) rfl rfl rfl rfl ?_
  refine s_tr (t_call rfl rfl ent_54 (fun w h => read_yes w n _ [] hn hn2 RdV.nil (by simp) (by simp only [List.not_mem_nil, false_imp_iff, implies_true]; skip))) rfl rfl rfl rfl (fun _ _ => ?_)
  refine s_y (y_move rfl) rfl rfl rfl rfl ?_
  refine s_y (y_extract rfl rfl) rfl rfl rfl rfl ?_
  refine s_y (y_extract rfl rfl) rfl rfl rfl rfl ?_
  refine s_tr (t_alloc zero_74 rfl) rfl rfl rfl rfl (fun bf hbf => ?_)
  refine s_tr0 (t_store 0 rfl rfl rfl rfl size_74 rfl rfl) rfl rfl rfl (fun _ _ => ?_)
  refine s_y (y_assign rfl) rfl rfl rfl rfl ?_
  refine s_nil ?_
  refine g_then ?_
  refine g_seq ?_
  refine g_region ?_
  refine s_y (y_ldn 0 rfl rfl agg_74 size_74 rfl rfl) rfl rfl rfl rfl ?_
  refine s_y (y_build (vs := []) rfl rfl (fun w => bld_74_  w)) rfl rfl rfl rfl ?_
  refine s_y (y_bin rfl rfl (fun w => by kernel_rfl) (fun w => eq56_f w _ _ _ hn0)) rfl rfl rfl rfl ?_
  refine s_y (y_assign rfl) rfl rfl rfl rfl ?_
  refine s_nil ?_
  refine g_then ?_
  refine g_seq ?_
  refine g_region ?_
  refine s_y (y_assign rfl) rfl rfl rfl rfl ?_
  refine s_nil ?_
  refine g_then ?_
  refine g_seq ?_
  refine g_seq ?_
  refine g_region ?_
  refine s_y (y_move rfl) rfl rfl rfl rfl ?_
  refine s_y (y_lenV (n := ss.length) rfl (by obtain ⟨A, c, h1, _⟩ := hv; exact ⟨A, c, h1⟩) sle_27) rfl rfl rfl rfl ?_
  refine s_y (y_move rfl) rfl rfl rfl rfl ?_
  refine s_nil ?_
  refine g_then ?_
  refine g_block ?_
  refine g_loop (fun (i : Nat) act W => i ≤ ss.length ∧ ∃ (sv : SV) (vs : List Value) (w1 : World), (sv.ok 1 i (vs.map encV)) ∧ (vs.length = i) ∧ (∀ k : Nat, k < i → (0 ≤ rdI ss (k : Int) ∧ rdI ss (k : Int) < 2 ^ n)) ∧ Has 50 [] [(0, .int .i64 (n : Int)), (4, .pointer (some ⟨br, 0, none⟩)), (7, .pointer (some ⟨bf, 0, none⟩)), (9, .bool false), (10, sv.val i), (21, v), (22, .int .i64 (ss.length : Nat)), (23, .int .i64 (i : Int))] act ∧ Hp w w1 ((bf, .cells [.int .i64 (n : Int), .int .i64 (qOf n), .int .i64 (wOf n)].toArray 74 (0, 0)) :: (br, .cells [.int .i64 0, .int .i64 0, .int .i64 0].toArray 74 (0, 0)) :: (sv.mem 27 (vs.map encV) ++ ([]))) W) (fun i => ss.length - i) 0 (fun act W ha hw => ⟨by omega, SV.nil, [], W, (by exact ⟨rfl, rfl⟩), (by rfl), (by intro k hk; omega), ha.weak (sub_get ⟨rfl, rfl, rfl, rfl, rfl, rfl, rfl, rfl, trivial⟩), hw.toHq.lookSub (List.Sublist.refl _)⟩) ?_
  intro i act W ⟨hb_i, sv, vs, w1, hok3, hvl, hdone, ha, hw⟩
  refine g_go ha hw ?_
  clear ha hw act W
  refine g_seq ?_
  refine g_region ?_
  refine s_y (y_lss rfl rfl) rfl rfl rfl rfl ?_
  refine s_nil ?_
  refine g_then ?_
  refine g_seq ?_
  refine g_cond rfl (fun cq1 => ?_) (fun cq1 => ?_)
  · (try simp at cq1)
    refine g_skip ?_
    refine g_then ?_
    refine g_seq ?_
    refine g_block ?_
    refine g_seq ?_
    have hp16 := pow_le hn2
    refine g_region ?_
    refine s_y (y_idxV (enc := (Value.int .i64)) rfl rfl hv Try.underlying27 size_3 (by omega) (by omega)) rfl rfl rfl rfl ?_
    refine s_y (y_ldV (enc := (Value.int .i64)) (xs := ss) (fun w h => hv.rdl.below h.below) rfl agg_3 (rdI_at (by omega) (by omega))) rfl rfl rfl rfl ?_
    refine s_tr (t_alloc zero_3 rfl) rfl rfl rfl rfl (fun bs hbs => ?_)
    refine s_tr0 (t_store 0 rfl rfl rfl rfl size_3 rfl rfl) rfl rfl rfl (fun _ _ => ?_)
    refine s_nil ?_
    refine g_then ?_
    refine g_seq ?_
    refine g_seq ?_
    refine g_draw 11 (by kernel_rfl) ?_
    refine j_p (i := 0) rfl (y_move rfl) (by kernel_rfl) (by kernel_rfl) (by kernel_rfl) rfl rfl rfl rfl rfl (.inr (fun _ h => h)) ?_
    refine j_p (i := 1) rfl (y_move rfl) (by kernel_rfl) (by kernel_rfl) (by kernel_rfl) rfl rfl rfl rfl rfl (.inr (fun _ h => h)) ?_
    refine j_l (i := 2) rfl (y_ld1 0 rfl rfl agg_3 rfl) (by kernel_rfl) (by kernel_rfl) (by kernel_rfl) (by kernel_rfl) rfl rfl rfl rfl rfl (.inr (fun _ h => h)) ?_
    refine j_p (i := 3) rfl (y_lss rfl rfl) (by kernel_rfl) (by kernel_rfl) (by kernel_rfl) rfl rfl rfl rfl rfl (.inr (fun _ h => h)) ?_
    refine j_p (i := 4) rfl (y_pick_f rfl rfl) (by kernel_rfl) (by kernel_rfl) (by kernel_rfl) rfl rfl rfl rfl rfl (.inr (fun _ h => h)) ?_
    refine j_p (i := 5) rfl (y_move rfl) (by kernel_rfl) (by kernel_rfl) (by kernel_rfl) rfl rfl rfl rfl rfl (.inr (fun _ h => h)) ?_
    refine g_bool 32 rfl (fun cq2 => ?_) (fun cq2 => ?_)
    · (try simp at cq2)
      refine j_no (i := 6) rfl (by kernel_rfl) (by kernel_rfl) (by kernel_rfl) rfl rfl rfl rfl rfl (.inr (fun _ h => h)) ?_
      refine j_no (i := 7) rfl (by kernel_rfl) (by kernel_rfl) (by kernel_rfl) rfl rfl rfl rfl rfl (.inr (fun _ h => h)) ?_
      refine j_no (i := 8) rfl (by kernel_rfl) (by kernel_rfl) (by kernel_rfl) rfl rfl rfl rfl rfl (.inr (fun _ h => h)) ?_
      refine j_no (i := 9) rfl (by kernel_rfl) (by kernel_rfl) (by kernel_rfl) rfl rfl rfl rfl rfl (.inr (fun _ h => h)) ?_
      refine j_p (i := 10) rfl (y_pick_t rfl rfl) (by kernel_rfl) (by kernel_rfl) (by kernel_rfl) rfl rfl rfl rfl rfl (.inr (fun _ h => h)) ?_
      refine j_nil (by kernel_rfl) ?_
      refine g_then ?_
      refine g_cond_t rfl ?_
      refine g_seq ?_
      refine g_region ?_
      refine s_y (y_ldn 1 rfl rfl agg_74 size_74 rfl rfl) rfl rfl rfl rfl ?_
      refine s_tr0 (t_store 2 rfl rfl rfl rfl size_74 rfl rfl) rfl rfl rfl (fun _ _ => ?_)
      refine s_y (y_assign rfl) rfl rfl rfl rfl ?_
      refine s_y (y_assign rfl) rfl rfl rfl rfl ?_
      refine s_nil ?_
      refine g_then ?_
      refine g_ret ?_
      refine g_thenr ?_
      refine g_inbr ?_
      refine g_thenr ?_
      refine g_thenr ?_
      refine g_inbr ?_
      refine g_thenr ?_
      exact g_end trivial (fun a w ha hq_ => res_ctt (c := [.int .i64 (n : Int), .int .i64 (qOf n), .int .i64 (wOf n)]) 2 ha hq_ rfl rfl rfl rfl rfl  agg_74 size_74 rfl) (fun w h => ⟨((n : Int), qOf n, wOf n), trivial, rfl, h.hand (List.nil_sublist _)⟩)
    · (try simp at cq2)
      refine j_l (i := 6) rfl (y_ld1 0 rfl rfl agg_3 rfl) (by kernel_rfl) (by kernel_rfl) (by kernel_rfl) (by kernel_rfl) rfl rfl rfl rfl rfl (.inr (fun _ h => h)) ?_
      refine j_p (i := 7) rfl (y_move rfl) (by kernel_rfl) (by kernel_rfl) (by kernel_rfl) rfl rfl rfl rfl rfl (.inr (fun _ h => h)) ?_
      refine j_p (i := 8) rfl (y_shl1 rfl rfl (by omega) (by omega)) (by kernel_rfl) (by kernel_rfl) (by kernel_rfl) rfl rfl rfl rfl rfl (.inr (fun _ h => h)) ?_
      refine j_p (i := 9) rfl (y_geq rfl rfl) (by kernel_rfl) (by kernel_rfl) (by kernel_rfl) rfl rfl rfl rfl rfl (.inr (fun _ h => h)) ?_
      refine j_p (i := 10) rfl (y_pick_f rfl rfl) (by kernel_rfl) (by kernel_rfl) (by kernel_rfl) rfl rfl rfl rfl rfl (.inr (fun _ h => h)) ?_
      refine j_nil (by kernel_rfl) ?_
      refine g_then ?_
      refine g_cond rfl (fun cq3 => ?_) (fun cq3 => ?_)
      · (try simp at cq3)
        refine g_seq ?_
        refine g_region ?_
        refine s_y (y_ldn 1 rfl rfl agg_74 size_74 rfl rfl) rfl rfl rfl rfl ?_
        refine s_tr0 (t_store 2 rfl rfl rfl rfl size_74 rfl rfl) rfl rfl rfl (fun _ _ => ?_)
        refine s_y (y_assign rfl) rfl rfl rfl rfl ?_
        refine s_y (y_assign rfl) rfl rfl rfl rfl ?_
        refine s_nil ?_
        refine g_then ?_
        refine g_ret ?_
        refine g_thenr ?_
        refine g_inbr ?_
        refine g_thenr ?_
        refine g_thenr ?_
        refine g_inbr ?_
        refine g_thenr ?_
        exact g_end trivial (fun a w ha hq_ => res_ctt (c := [.int .i64 (n : Int), .int .i64 (qOf n), .int .i64 (wOf n)]) 2 ha hq_ rfl rfl rfl rfl rfl  agg_74 size_74 rfl) (fun w h => ⟨((n : Int), qOf n, wOf n), trivial, rfl, h.hand (List.nil_sublist _)⟩)
      · (try simp at cq3)
        refine g_skip ?_
        refine g_then ?_
        have hss1 : 0 ≤ rdI ss (i : Int) := by omega
        have hss3 : rdI ss (i : Int) < 2 ^ n := by first | omega | (rename_i hq; simp at hq; omega)
        have hss2 : rdI ss (i : Int) < 9223372036854775808 := by omega
        refine g_region ?_
        refine s_y (y_move rfl) rfl rfl rfl rfl ?_
        refine s_y (y_ldn 1 rfl rfl agg_74 size_74 rfl rfl) rfl rfl rfl rfl ?_
        refine s_y (y_func rfl rfl) rfl rfl rfl rfl ?_
        refine s_tr (t_callm (A := New _ _) rfl rfl ent_55 (fun w h => ((chL_q hn hn2 (s := rdI ss (i : Int))) ▸ wheel_any w n (qOf n) (wOf n) 73 [.pointer (some ⟨bs, 0, none⟩)] (fun x => bitI (rdI ss (i : Int)) x) (by omega) (by omega) (by omega) (fun x hk => by have := bitI_range (rdI ss (i : Int)) x; omega) ent_73 (fun k W hk hb => chords1_any W k bs (rdI ss (i : Int)) (by omega) hss1 hss2 (below_at hb (at_of (i := 0) h rfl)))).mono fun e w' ⟨b, h1, h2⟩ => ⟨b, ⟨Nat.le_trans h.below.size (h2.ge _ (List.mem_cons_self ..)), Nat.le_trans h.size (h2.ge _ (List.mem_cons_self ..))⟩, h1, h2⟩)) rfl rfl rfl rfl (fun bw hbw => ?_)
        refine s_tr (t_build (vs := [(0, .slice (some ⟨bw, 0, none⟩) n n)]) (cells := [.slice (some ⟨bw, 0, none⟩) n n]) rfl rfl Try.underlying75 hi27.1 hi27.2.1 (by rw [hi27.2.2.1]; rfl) (by rw [hi27.2.2.1]; rfl) (by rw [hi27.2.2.1]; kernel_rfl)) rfl rfl rfl rfl (fun bb hbb => ?_)
        refine s_tr (t_appendL (enc := encV) (sv := sv) (xs := vs) (n := i) (v := (Value.slice (some ⟨bw, 0, none⟩) n n)) [_, _, _, _, _] _ rfl rfl rfl hok3 Try.underlying75 hi27.1 hi27.2.1 hi27.2.2.1 hi27.2.2.2 rfl (fun w h => h.toHq.cell (i := 0) rfl rfl) rfl (by omega) (by unfold maxLen; omega)) rfl rfl rfl rfl (fun y7 hy8 => ?_)
        obtain ⟨sv4, gs5⟩ := y7
        obtain ⟨hok6, hok6b, hok6c, hok6j, hok6e⟩ := hy8
        refine s_y (y_assign rfl) rfl rfl rfl rfl ?_
        refine s_nil ?_
        refine g_inb ?_
        refine g_then ?_
        refine g_region ?_
        refine s_y (y_add rfl rfl (by omega) (by omega)) rfl rfl rfl rfl ?_
        refine s_y (y_move rfl) rfl rfl rfl rfl ?_
        refine s_nil ?_
        refine g_then ?_
        exact fun act W ha hw => ⟨i + 1, by omega, by omega, sv4, (vs ++ [(Value.slice (some ⟨bw, 0, none⟩) n n)]), W, (by exact hok6), (by simp; omega), (by intro k hk; rcases Nat.lt_or_ge k i with h | h; exact hdone k h; rw [show k = i by omega]; exact ⟨hss1, hss3⟩), ha.weak (sub_get ⟨rfl, rfl, rfl, rfl, rfl, rfl, rfl, rfl, trivial⟩), hw.toHq.lookSub (List.Sublist.cons _ (List.Sublist.cons _ (List.Sublist.cons _ (List.Sublist.cons_cons _ (List.Sublist.cons_cons _ (sub_app (sv4.mem 27 ((vs ++ [(Value.slice (some ⟨bw, 0, none⟩) n n)]).map encV)) (List.nil_sublist _)))))))⟩
  · (try simp at cq1)
    refine g_exit ?_
    refine g_thenx ?_
    refine g_thenx ?_
    refine g_inbx ?_
    refine g_then ?_
    refine g_seq ?_
    refine g_region ?_
    refine s_y (y_ldn 0 rfl rfl agg_74 size_74 rfl rfl) rfl rfl rfl rfl ?_
    refine s_y (y_move rfl) rfl rfl rfl rfl ?_
    refine s_y (y_move rfl) rfl rfl rfl rfl ?_
    refine s_y (y_not_f rfl) rfl rfl rfl rfl ?_
    refine s_tr0 (t_store 1 rfl rfl rfl rfl size_74 rfl rfl) rfl rfl rfl (fun _ _ => ?_)
    refine s_y (y_assign rfl) rfl rfl rfl rfl ?_
    refine s_y (y_assign rfl) rfl rfl rfl rfl ?_
    refine s_nil ?_
    refine g_then ?_
    refine g_ret ?_
    exact absurd (fun s hs => by obtain ⟨k, hk, rfl⟩ := List.mem_iff_getElem.1 hs; have h_ := hdone k (by omega); rwa [rdI_nat, List.getD_eq_getElem?_getD, List.getElem?_eq_getElem hk] at h_) hss

theorem chords_zero (w : World) (n : Int) (v : Value) (ss : List Int) (hv : RdV (Value.int .i64) w v ss) (hl : ss.length ≤ 1000) (hn : ¬ RIn n) (hne : 0 < ss.length) :
    Calls Try.prog 53 [.int .i64 n, v].toArray w fun e w' => ∃ x : Int × Int × Int, True ∧ e = .returned (.tuple #[.agg #[.int .i64 x.1, .int .i64 x.2.1, .int .i64 x.2.2], .slice none 0 0, .bool false]) ∧ Hq w w [] w' := by
  refine enter (N := 50) Try.func53 rfl rfl rfl ?_
  refine g_seq ?_
  refine g_region ?_
  refine s_tr (t_alloc zero_74 rfl) rfl rfl rfl rfl (fun br hbr => ?_)
  refine s_y (y_assign rfl) rfl rfl rfl rfl ?_
  refine s_y (y_assign rfl) rfl rfl rfl rfl ?_
  refine s_nil ?_
  refine g_then ?_
  refine g_seq ?_
  refine g_region ?_
  refine s_y (y_move rfl) rfl rfl rfl rfl ?_
  refine s_tr (t_call rfl rfl ent_54 (fun w h => read_bad w n _ hn)) rfl rfl rfl rfl (fun _ _ => ?_)
  refine s_y (y_move rfl) rfl rfl rfl rfl ?_
  refine s_y (y_extract rfl rfl) rfl rfl rfl rfl ?_
  refine s_y (y_extract rfl rfl) rfl rfl rfl rfl ?_
  refine s_tr (t_alloc zero_74 rfl) rfl rfl rfl rfl (fun bf hbf => ?_)
  refine s_tr0 (t_store 0 rfl rfl rfl rfl size_74 rfl rfl) rfl rfl rfl (fun _ _ => ?_)
  refine s_y (y_assign rfl) rfl rfl rfl rfl ?_
  refine s_nil ?_
  refine g_then ?_
  refine g_seq ?_
  refine g_region ?_
  refine s_y (y_ldn 0 rfl rfl agg_74 size_74 rfl rfl) rfl rfl rfl rfl ?_
  refine s_y (y_build (vs := []) rfl rfl (fun w => bld_74_  w)) rfl rfl rfl rfl ?_
  refine s_y (y_bin rfl rfl (fun w => by kernel_rfl) (fun w => eq56_t w )) rfl rfl rfl rfl ?_
  refine s_y (y_assign rfl) rfl rfl rfl rfl ?_
  refine s_nil ?_
  refine g_then ?_
  refine g_seq ?_
  refine g_region ?_
  refine s_y (y_assign rfl) rfl rfl rfl rfl ?_
  refine s_nil ?_
  refine g_then ?_
  refine g_seq ?_
  refine g_seq ?_
  refine g_region ?_
  refine s_y (y_move rfl) rfl rfl rfl rfl ?_
  refine s_y (y_lenV (n := ss.length) rfl (by obtain ⟨A, c, h1, _⟩ := hv; exact ⟨A, c, h1⟩) sle_27) rfl rfl rfl rfl ?_
  refine s_y (y_move rfl) rfl rfl rfl rfl ?_
  refine s_nil ?_
  refine g_then ?_
  refine g_block ?_
  refine g_loop (fun (i : Nat) act W => i = 0 ∧ ∃ (w1 : World), Has 50 [] [(0, .int .i64 n), (4, .pointer (some ⟨br, 0, none⟩)), (7, .pointer (some ⟨bf, 0, none⟩)), (9, .bool true), (21, v), (22, .int .i64 (ss.length : Nat)), (23, .int .i64 (i : Int))] act ∧ Hp w w1 ((bf, .cells [.int .i64 0, .int .i64 0, .int .i64 0].toArray 74 (0, 0)) :: (br, .cells [.int .i64 0, .int .i64 0, .int .i64 0].toArray 74 (0, 0)) :: []) W) (fun i => 0) 0 (fun act W ha hw => ⟨rfl, W, ha.weak (sub_get ⟨rfl, rfl, rfl, rfl, rfl, rfl, rfl, trivial⟩), hw.toHq.lookSub (List.Sublist.refl _)⟩) ?_
  intro i act W ⟨hb_i, w1, ha, hw⟩
  refine g_go ha hw ?_
  clear ha hw act W
  refine g_seq ?_
  refine g_region ?_
  refine s_y (y_lss rfl rfl) rfl rfl rfl rfl ?_
  refine s_nil ?_
  refine g_then ?_
  refine g_seq ?_
  refine g_cond rfl (fun cq1 => ?_) (fun cq1 => ?_)
  · (try simp at cq1)
    refine g_skip ?_
    refine g_then ?_
    refine g_seq ?_
    refine g_block ?_
    refine g_seq ?_
    refine g_region ?_
    refine s_y (y_idxV (enc := (Value.int .i64)) rfl rfl hv Try.underlying27 size_3 (by omega) (by omega)) rfl rfl rfl rfl ?_
    refine s_y (y_ldV (enc := (Value.int .i64)) (xs := ss) (fun w h => hv.rdl.below h.below) rfl agg_3 (rdI_at (by omega) (by omega))) rfl rfl rfl rfl ?_
    refine s_tr (t_alloc zero_3 rfl) rfl rfl rfl rfl (fun bs hbs => ?_)
    refine s_tr0 (t_store 0 rfl rfl rfl rfl size_3 rfl rfl) rfl rfl rfl (fun _ _ => ?_)
    refine s_nil ?_
    refine g_then ?_
    refine g_seq ?_
    refine g_seq ?_
    refine g_draw 11 (by kernel_rfl) ?_
    refine j_p (i := 0) rfl (y_move rfl) (by kernel_rfl) (by kernel_rfl) (by kernel_rfl) rfl rfl rfl rfl rfl (.inr (fun _ h => h)) ?_
    refine j_p (i := 1) rfl (y_move rfl) (by kernel_rfl) (by kernel_rfl) (by kernel_rfl) rfl rfl rfl rfl rfl (.inr (fun _ h => h)) ?_
    refine j_no (i := 2) rfl (by kernel_rfl) (by kernel_rfl) (by kernel_rfl) rfl rfl rfl rfl rfl (.inr (fun _ h => h)) ?_
    refine j_no (i := 3) rfl (by kernel_rfl) (by kernel_rfl) (by kernel_rfl) rfl rfl rfl rfl rfl (.inr (fun _ h => h)) ?_
    refine j_p (i := 4) rfl (y_pick_t rfl rfl) (by kernel_rfl) (by kernel_rfl) (by kernel_rfl) rfl rfl rfl rfl rfl (.inr (fun _ h => h)) ?_
    refine j_p (i := 5) rfl (y_move rfl) (by kernel_rfl) (by kernel_rfl) (by kernel_rfl) rfl rfl rfl rfl rfl (.inr (fun _ h => h)) ?_
    refine j_no (i := 6) rfl (by kernel_rfl) (by kernel_rfl) (by kernel_rfl) rfl rfl rfl rfl rfl (.inr (fun _ h => h)) ?_
    refine j_no (i := 7) rfl (by kernel_rfl) (by kernel_rfl) (by kernel_rfl) rfl rfl rfl rfl rfl (.inr (fun _ h => h)) ?_
    refine j_no (i := 8) rfl (by kernel_rfl) (by kernel_rfl) (by kernel_rfl) rfl rfl rfl rfl rfl (.inr (fun _ h => h)) ?_
    refine j_no (i := 9) rfl (by kernel_rfl) (by kernel_rfl) (by kernel_rfl) rfl rfl rfl rfl rfl (.inr (fun _ h => h)) ?_
    refine j_p (i := 10) rfl (y_pick_t rfl rfl) (by kernel_rfl) (by kernel_rfl) (by kernel_rfl) rfl rfl rfl rfl rfl (.inr (fun _ h => h)) ?_
    refine j_nil (by kernel_rfl) ?_
    refine g_then ?_
    refine g_cond_t rfl ?_
    refine g_seq ?_
    refine g_region ?_
    refine s_y (y_ldn 1 rfl rfl agg_74 size_74 rfl rfl) rfl rfl rfl rfl ?_
    refine s_tr0 (t_store 2 rfl rfl rfl rfl size_74 rfl rfl) rfl rfl rfl (fun _ _ => ?_)
    refine s_y (y_assign rfl) rfl rfl rfl rfl ?_
    refine s_y (y_assign rfl) rfl rfl rfl rfl ?_
    refine s_nil ?_
    refine g_then ?_
    refine g_ret ?_
    refine g_thenr ?_
    refine g_inbr ?_
    refine g_thenr ?_
    refine g_thenr ?_
    refine g_inbr ?_
    refine g_thenr ?_
    exact g_end trivial (fun a w ha hq_ => res_ctt (c := [.int .i64 0, .int .i64 0, .int .i64 0]) 2 ha hq_ rfl rfl rfl rfl rfl  agg_74 size_74 rfl) (fun w h => ⟨(0, 0, 0), trivial, rfl, h.hand (List.nil_sublist _)⟩)
  · (try simp at cq1)
    omega

theorem Chord_ok (w : World) (n : Nat) (c : Int) (hn : 2 ≤ n) (hn2 : n ≤ 16) (hc0 : 0 ≤ c) (hc1 : c < 2 ^ n) :
    Calls Try.prog 31 [.int .i64 (n : Int), .int .i64 c].toArray w fun e w' => ∃ x : Value × List (Nat × Obj), (OwnV (Value.int .i64) x.1 (chL n c) x.2 ∧ ∃ W : World, ∀ p ∈ x.2, W.heap[p.1]? = some p.2) ∧ e = .returned (.tuple #[x.1, .int .i64 0]) ∧ Hq w w x.2 w' := by
  obtain ⟨hf1, hf2, hf3, hf4, hf5, hf6, hf7⟩ := q_facts hn hn2
  obtain ⟨ie3, hi3⟩ := inf_3
  refine enter (N := 22) Try.func31 rfl rfl rfl ?_
  refine g_seq ?_
  refine g_region ?_
  refine s_y (y_assign rfl) rfl rfl rfl rfl ?_
  refine s_y (y_assign rfl) rfl rfl rfl rfl ?_
  refine s_nil ?_
  refine g_then ?_
  refine g_seq ?_
  refine g_region ?_
  refine s_y (y_move rfl) rfl rfl rfl rfl ?_
  refine s_y (y_move rfl) rfl rfl rfl rfl ?_
  refine s_tr (t_build (vs := [(0, .int .i64 c)]) (cells := [.int .i64 c]) rfl rfl Try.underlying27 hi3.1 hi3.2.1 (by rw [hi3.2.2.1]; rfl) (by rw [hi3.2.2.1]; rfl) (by rw [hi3.2.2.1]; kernel_rfl)) rfl rfl rfl rfl (fun bl hbl => ?_)
  refine s_tr (t_callm rfl rfl ent_53 (fun w h => chords_ok w n _ [c] (RdV.own (enc := (Value.int .i64)) (xs := [c]) (jk := []) (at_of (i := 0) h rfl) rfl (Nat.le_refl _)) (by simp) hn hn2 (by intro s hs; simp only [List.mem_cons, List.not_mem_nil, or_false] at hs; subst hs; exact ⟨hc0, hc1⟩))) rfl rfl rfl rfl (fun xx hxx => ?_)
  obtain ⟨vc, xc, mc⟩ := xx
  obtain ⟨hOc', hvl, hrows, hEc'⟩ := hxx
  have hOc : OwnV encV vc xc mc := hOc'
  have hEc : ∃ W : World, ∀ p ∈ mc, W.heap[p.1]? = some p.2 := hEc'
  have hvl' : xc.length = 1 := hvl
  have hr0 : OwnV (Value.int .i64) (rdVal xc 0) (chL n (c)) mc := hrows 0 (by simp)
  refine s_y (y_move rfl) rfl rfl rfl rfl ?_
  refine s_y (y_extract rfl rfl) rfl rfl rfl rfl ?_
  refine s_y (y_extract rfl rfl) rfl rfl rfl rfl ?_
  refine s_y (y_extract rfl rfl) rfl rfl rfl rfl ?_
  refine s_tr (t_alloc zero_74 rfl) rfl rfl rfl rfl (fun b1 hb1 => ?_)
  refine s_tr0 (t_store 0 rfl rfl rfl rfl size_74 rfl rfl) rfl rfl rfl (fun _ _ => ?_)
  refine s_y (y_assign rfl) rfl rfl rfl rfl ?_
  refine s_y (y_assign rfl) rfl rfl rfl rfl ?_
  refine s_nil ?_
  refine g_then ?_
  refine g_seq ?_
  refine g_seq ?_
  refine g_region ?_
  refine s_y (y_move rfl) rfl rfl rfl rfl ?_
  refine s_y (y_not_t rfl) rfl rfl rfl rfl ?_
  refine s_nil ?_
  refine g_then ?_
  refine g_cond_f rfl ?_
  refine g_skip ?_
  refine g_then ?_
  refine g_seq ?_
  refine g_region ?_
  refine s_y (y_move rfl) rfl rfl rfl rfl ?_
  refine s_y (y_idxO (enc := encV) rfl rfl hOc hEc Try.underlying75 size_27 (by omega) (by omega)) rfl rfl rfl rfl ?_
  refine s_y (y_ldV (enc := encV) (xs := xc) (fun w h => (hOc.rd fun p hp => h.at_ p (List.mem_cons_of_mem _ (mem_al mc hp))).rdl) rfl agg_27 (rdVal_at (by omega) (by omega))) rfl rfl rfl rfl ?_
  refine s_y (y_assign rfl) rfl rfl rfl rfl ?_
  refine s_y (y_assign rfl) rfl rfl rfl rfl ?_
  refine s_nil ?_
  refine g_then ?_
  refine g_ret ?_
  exact g_end trivial (fun a w ha hq_ => res2 ha rfl rfl rfl  w) (fun w h => ⟨(_, mc), ⟨hr0, w, (h.hand (List.Sublist.cons _ (sub_here mc _))).at_⟩, rfl, h.hand (List.Sublist.cons _ (sub_here mc _))⟩)

end Go.Proofs.Ytnhflahgbkmloaa
