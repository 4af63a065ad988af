/- wheels: chords that aren't, Chord, Silent, Alike; the references' Chord, Silent, Alike; the law WheelsAlike. -/
import Derived.Test.YtncenmgkdodioaaWhI
namespace Go.Proofs.Ytncenmgkdodioaa
open Go.RowKit Go.Sx Go.Wh Go.Dft
set_option linter.unusedVariables false
set_option linter.unusedSimpArgs false
set_option maxRecDepth 100000
set_option maxHeartbeats 4000000

private theorem zero_56 : (Try.prog.info? 56).bind (·.zero) = some (.agg #[(.int .i64 0), (.int .i64 0), (.int .i64 0)]) := by kernel_rfl
private theorem ent_57 : Enters Try.prog 57 := enters_of Try.func57 (by kernel_rfl) rfl
private theorem size_56 : (Try.prog.info? 56).map (·.size) = some 3 := by kernel_rfl
private theorem agg_56 : isAggB Try.prog 56 = some true := by kernel_rfl
private theorem bld_56_  (w : World) : (Instr.build 56 #[]).run Try.prog w = .ok (.agg #[(.int .i64 0), (.int .i64 0), (.int .i64 0)]) w := by kernel_rfl
private theorem sle_32 : Try.prog.underlying 32 = some (.slice (Try.prog.elem 32)) := by kernel_rfl
private theorem size_3 : (Try.prog.info? 3).map (·.size) = some 1 := by kernel_rfl
private theorem agg_3 : isAggB Try.prog 3 = some false := by kernel_rfl
private theorem zero_3 : (Try.prog.info? 3).bind (·.zero) = some (.int .i64 0) := by kernel_rfl
private theorem ent_81 : Enters Try.prog 81 := enters_of Try.func81 (by kernel_rfl) rfl
private theorem ent_61 : Enters Try.prog 61 := enters_of Try.func61 (by kernel_rfl) rfl
private theorem inf_32 : ∃ ie, Try.prog.info? 32 = some ie ∧ ie.zero = some (.slice none 0 0) ∧ ie.size = 1 ∧ ie.bytes = 24 := info_of (by kernel_rfl) (by kernel_rfl)
private theorem inf_3 : ∃ ie, Try.prog.info? 3 = some ie ∧ ie.zero = some (.int .i64 0) ∧ ie.size = 1 ∧ ie.bytes = 8 := info_of (by kernel_rfl) (by kernel_rfl)
private theorem ent_59 : Enters Try.prog 59 := enters_of Try.func59 (by kernel_rfl) rfl
private theorem size_32 : (Try.prog.info? 32).map (·.size) = some 1 := by kernel_rfl
private theorem agg_32 : isAggB Try.prog 32 = some false := by kernel_rfl
private theorem ent_64 : Enters Try.prog 64 := enters_of Try.func64 (by kernel_rfl) rfl
private theorem ent_60 : Enters Try.prog 60 := enters_of Try.func60 (by kernel_rfl) rfl
private theorem ent_30 : Enters Try.prog 30 := enters_of Try.func30 (by kernel_rfl) rfl
private theorem ent_53 : Enters Try.prog 53 := enters_of Try.func53 (by kernel_rfl) rfl
private theorem ent_36 : Enters Try.prog 36 := enters_of Try.func36 (by kernel_rfl) rfl
private theorem ent_38 : Enters Try.prog 38 := enters_of Try.func38 (by kernel_rfl) rfl
private theorem ent_23 : Enters Try.prog 23 := enters_of Try.func23 (by kernel_rfl) rfl
private theorem ent_24 : Enters Try.prog 24 := enters_of Try.func24 (by kernel_rfl) rfl
private theorem ent_25 : Enters Try.prog 25 := enters_of Try.func25 (by kernel_rfl) rfl
private theorem ent_20 : Enters Try.prog 20 := enters_of Try.func20 (by kernel_rfl) rfl

theorem chL_snoc {i : Nat} {c : Int} : chL (i + 1) c = chL i c ++ [bitI c i] := by simp [chL, List.range_succ]
theorem chL_facts {n : Nat} (hn : 2 ≤ n) (hn2 : n ≤ 16) (c : Int) : (chL n c).length = n ∧ (∀ x ∈ chL n c, 0 ≤ x ∧ x < qOf n) := okW_true.1 (chL_ok hn hn2)
theorem powL_len {q wr : Int} {n : Nat} {xs : List Int} : (powL q wr n xs).length = n := by simp [powL]
theorem two_i {i : Nat} (h : i ≤ 16) : (0 : Int) ≤ 2 ^ (i : Int).toNat ∧ (2 : Int) ^ (i : Int).toNat ≤ 65536 := by
  rw [Int.toNat_natCast]; exact ⟨Int.pow_nonneg (by decide), pow_le h⟩
theorem sil_le (xs : List Int) {i : Nat} (h : i ≤ 16) : 0 ≤ silI xs i ∧ silI xs i ≤ 65536 := by
  have h1 := silI_range xs i
  have h2 := pow_le h
  omega

theorem chords_bad (w : World) (n : Nat) (v : Value) (ss : List Int) (hv : RdV (Value.int .i64) w v ss) (hl : ss.length ≤ 1000) (hn : 2 ≤ n) (hn2 : n ≤ 16) (hss : ¬ ∀ s ∈ ss, 0 ≤ s ∧ s < 2 ^ n) :
    Calls Try.prog 59 [.int .i64 (n : Int), v].toArray w fun e w' => ∃ x : Int × Int × Int, True ∧ e = .returned (.tuple #[.agg #[.int .i64 x.1, .int .i64 x.2.1, .int .i64 x.2.2], .slice none 0 0, .bool false]) ∧ Hq w w [] w' := by
  obtain ⟨hf1, hf2, hf3, hf4, hf5, hf6, hf7⟩ := q_facts hn hn2
  have hn0 : (n : Int) ≠ 0 := by omega
  obtain ⟨ie32, hi32⟩ := inf_32
  refine enter (N := 50) Try.func59 rfl rfl rfl ?_
  refine g_seq ?_
  refine g_region ?_
  refine s_tr (t_alloc zero_56 rfl) rfl rfl rfl rfl (fun br hbr => ?_)
  refine s_y (y_assign rfl) rfl rfl rfl rfl ?_
  refine s_y (y_assign rfl) rfl rfl rfl rfl ?_
  refine s_nil ?_
  refine g_then ?_
  refine g_seq ?_
  refine g_region ?_
  refine s_y (y_move rfl) rfl rfl rfl rfl ?_
  refine s_tr (t_call rfl rfl ent_57 (fun w h => read_yes w n _ [] hn hn2 RdV.nil (by simp) (by simp only [List.not_mem_nil, false_imp_iff, implies_true]; skip))) rfl rfl rfl rfl (fun _ _ => ?_)
  refine s_y (y_move rfl) rfl rfl rfl rfl ?_
  refine s_y (y_extract rfl rfl) rfl rfl rfl rfl ?_
  refine s_y (y_extract rfl rfl) rfl rfl rfl rfl ?_
  refine s_tr (t_alloc zero_56 rfl) rfl rfl rfl rfl (fun bf hbf => ?_)
  refine s_tr0 (t_store 0 rfl rfl rfl rfl size_56 rfl rfl) rfl rfl rfl (fun _ _ => ?_)
  refine s_y (y_assign rfl) rfl rfl rfl rfl ?_
  refine s_nil ?_
  refine g_then ?_
  refine g_seq ?_
  refine g_region ?_
  refine s_y (y_ldn 0 rfl rfl agg_56 size_56 rfl rfl) rfl rfl rfl rfl ?_
  refine s_y (y_build (vs := []) rfl rfl (fun w => bld_56_  w)) rfl rfl rfl rfl ?_
  refine s_y (y_bin rfl rfl (fun w => by kernel_rfl) (fun w => eq56_f w _ _ _ hn0)) rfl rfl rfl rfl ?_
  refine s_y (y_assign rfl) rfl rfl rfl rfl ?_
  refine s_nil ?_
  refine g_then ?_
  refine g_seq ?_
  refine g_region ?_
  refine s_y (y_assign rfl) rfl rfl rfl rfl ?_
  refine s_nil ?_
  refine g_then ?_
  refine g_seq ?_
  refine g_seq ?_
  refine g_region ?_
  refine s_y (y_move rfl) rfl rfl rfl rfl ?_
  refine s_y (y_lenV (n := ss.length) rfl (by obtain ⟨A, c, h1, _⟩ := hv; exact ⟨A, c, h1⟩) sle_32) rfl rfl rfl rfl ?_
  refine s_y (y_move rfl) rfl rfl rfl rfl ?_
  refine s_nil ?_
  refine g_then ?_
  refine g_block ?_
  refine g_loop (fun (i : Nat) act W => i ≤ ss.length ∧ ∃ (sv : SV) (vs : List Value) (w1 : World), (sv.ok 1 i (vs.map encV)) ∧ (vs.length = i) ∧ (∀ k : Nat, k < i → (0 ≤ rdI ss (k : Int) ∧ rdI ss (k : Int) < 2 ^ n)) ∧ Has 50 [] [(0, .int .i64 (n : Int)), (4, .pointer (some ⟨br, 0, none⟩)), (7, .pointer (some ⟨bf, 0, none⟩)), (9, .bool false), (10, sv.val i), (21, v), (22, .int .i64 (ss.length : Nat)), (23, .int .i64 (i : Int))] act ∧ Hp w w1 ((bf, .cells [.int .i64 (n : Int), .int .i64 (qOf n), .int .i64 (wOf n)].toArray 56 (0, 0)) :: (br, .cells [.int .i64 0, .int .i64 0, .int .i64 0].toArray 56 (0, 0)) :: (sv.mem 32 (vs.map encV) ++ ([]))) W) (fun i => ss.length - i) 0 (fun act W ha hw => ⟨by omega, SV.nil, [], W, (by exact ⟨rfl, rfl⟩), (by rfl), (by intro k hk; omega), ha.weak (sub_get ⟨rfl, rfl, rfl, rfl, rfl, rfl, rfl, rfl, trivial⟩), hw.toHq.lookSub (List.Sublist.refl _)⟩) ?_
  intro i act W ⟨hb_i, sv, vs, w1, hok3, hvl, hdone, ha, hw⟩
  refine g_go ha hw ?_
  clear ha hw act W
  refine g_seq ?_
  refine g_region ?_
  refine s_y (y_lss rfl rfl) rfl rfl rfl rfl ?_
  refine s_nil ?_
  refine g_then ?_
  refine g_seq ?_
  refine g_cond rfl (fun cq1 => ?_) (fun cq1 => ?_)
  · (try simp at cq1)
    refine g_skip ?_
    refine g_then ?_
    refine g_seq ?_
    refine g_block ?_
    refine g_seq ?_
    have hp16 := pow_le hn2
    refine g_region ?_
    refine s_y (y_idxV (enc := (Value.int .i64)) rfl rfl hv Try.underlying32 size_3 (by omega) (by omega)) rfl rfl rfl rfl ?_
    refine s_y (y_ldV (enc := (Value.int .i64)) (xs := ss) (fun w h => hv.rdl.below h.below) rfl agg_3 (rdI_at (by omega) (by omega))) rfl rfl rfl rfl ?_
    refine s_tr (t_alloc zero_3 rfl) rfl rfl rfl rfl (fun bs hbs => ?_)
    refine s_tr0 (t_store 0 rfl rfl rfl rfl size_3 rfl rfl) rfl rfl rfl (fun _ _ => ?_)
    refine s_nil ?_
    refine g_then ?_
    refine g_seq ?_
    refine g_seq ?_
    refine g_draw 11 (by kernel_rfl) ?_
    refine j_p (i := 0) rfl (y_move rfl) (by kernel_rfl) (by kernel_rfl) (by kernel_rfl) rfl rfl rfl rfl rfl (.inr (fun _ h => h)) ?_
    refine j_p (i := 1) rfl (y_move rfl) (by kernel_rfl) (by kernel_rfl) (by kernel_rfl) rfl rfl rfl rfl rfl (.inr (fun _ h => h)) ?_
    refine j_l (i := 2) rfl (y_ld1 0 rfl rfl agg_3 rfl) (by kernel_rfl) (by kernel_rfl) (by kernel_rfl) (by kernel_rfl) rfl rfl rfl rfl rfl (.inr (fun _ h => h)) ?_
    refine j_p (i := 3) rfl (y_lss rfl rfl) (by kernel_rfl) (by kernel_rfl) (by kernel_rfl) rfl rfl rfl rfl rfl (.inr (fun _ h => h)) ?_
    refine j_p (i := 4) rfl (y_pick_f rfl rfl) (by kernel_rfl) (by kernel_rfl) (by kernel_rfl) rfl rfl rfl rfl rfl (.inr (fun _ h => h)) ?_
    refine j_p (i := 5) rfl (y_move rfl) (by kernel_rfl) (by kernel_rfl) (by kernel_rfl) rfl rfl rfl rfl rfl (.inr (fun _ h => h)) ?_
    refine g_bool 32 rfl (fun cq2 => ?_) (fun cq2 => ?_)
    · (try simp at cq2)
      refine j_no (i := 6) rfl (by kernel_rfl) (by kernel_rfl) (by kernel_rfl) rfl rfl rfl rfl rfl (.inr (fun _ h => h)) ?_
      refine j_no (i := 7) rfl (by kernel_rfl) (by kernel_rfl) (by kernel_rfl) rfl rfl rfl rfl rfl (.inr (fun _ h => h)) ?_
      refine j_no (i := 8) rfl (by kernel_rfl) (by kernel_rfl) (by kernel_rfl) rfl rfl rfl rfl rfl (.inr (fun _ h => h)) ?_
      refine j_no (i := 9) rfl (by kernel_rfl) (by kernel_rfl) (by kernel_rfl) rfl rfl rfl rfl rfl (.inr (fun _ h => h)) ?_
      refine j_p (i := 10) rfl (y_pick_t rfl rfl) (by kernel_rfl) (by kernel_rfl) (by kernel_rfl) rfl rfl rfl rfl rfl (.inr (fun _ h => h)) ?_
      refine j_nil (by kernel_rfl) ?_
      refine g_then ?_
      refine g_cond_t rfl ?_
      refine g_seq ?_
      refine g_region ?_
      refine s_y (y_ldn 1 rfl rfl agg_56 size_56 rfl rfl) rfl rfl rfl rfl ?_
      refine s_tr0 (t_store 2 rfl rfl rfl rfl size_56 rfl rfl) rfl rfl rfl (fun _ _ => ?_)
      refine s_y (y_assign rfl) rfl rfl rfl rfl ?_
      refine s_y (y_assign rfl) rfl rfl rfl rfl ?_
      refine s_nil ?_
      refine g_then ?_
      refine g_ret ?_
      refine g_thenr ?_
      refine g_inbr ?_
      refine g_thenr ?_
      refine g_thenr ?_
      refine g_inbr ?_
      refine g_thenr ?_
      exact g_end trivial (fun a w ha hq_ => res_ctt (c := [.int .i64 (n : Int), .int .i64 (qOf n), .int .i64 (wOf n)]) 2 ha hq_ rfl rfl rfl rfl rfl  agg_56 size_56 rfl) (fun w h => ⟨((n : Int), qOf n, wOf n), trivial, rfl, h.hand (List.nil_sublist _)⟩)
    · (try simp at cq2)
      refine j_l (i := 6) rfl (y_ld1 0 rfl rfl agg_3 rfl) (by kernel_rfl) (by kernel_rfl) (by kernel_rfl) (by kernel_rfl) rfl rfl rfl rfl rfl (.inr (fun _ h => h)) ?_
      refine j_p (i := 7) rfl (y_move rfl) (by kernel_rfl) (by kernel_rfl) (by kernel_rfl) rfl rfl rfl rfl rfl (.inr (fun _ h => h)) ?_
      refine j_p (i := 8) rfl (y_shl1 rfl rfl (by omega) (by omega)) (by kernel_rfl) (by kernel_rfl) (by kernel_rfl) rfl rfl rfl rfl rfl (.inr (fun _ h => h)) ?_
      refine j_p (i := 9) rfl (y_geq rfl rfl) (by kernel_rfl) (by kernel_rfl) (by kernel_rfl) rfl rfl rfl rfl rfl (.inr (fun _ h => h)) ?_
      refine j_p (i := 10) rfl (y_pick_f rfl rfl) (by kernel_rfl) (by kernel_rfl) (by kernel_rfl) rfl rfl rfl rfl rfl (.inr (fun _ h => h)) ?_
      refine j_nil (by kernel_rfl) ?_
      refine g_then ?_
      refine g_cond rfl (fun cq3 => ?_) (fun cq3 => ?_)
      · (try simp at cq3)
        refine g_seq ?_
        refine g_region ?_
        refine s_y (y_ldn 1 rfl rfl agg_56 size_56 rfl rfl) rfl rfl rfl rfl ?_
        refine s_tr0 (t_store 2 rfl rfl rfl rfl size_56 rfl rfl) rfl rfl rfl (fun _ _ => ?_)
        refine s_y (y_assign rfl) rfl rfl rfl rfl ?_
        refine s_y (y_assign rfl) rfl rfl rfl rfl ?_
        refine s_nil ?_
        refine g_then ?_
        refine g_ret ?_
        refine g_thenr ?_
        refine g_inbr ?_
        refine g_thenr ?_
        refine g_thenr ?_
        refine g_inbr ?_
        refine g_thenr ?_
        exact g_end trivial (fun a w ha hq_ => res_ctt (c := [.int .i64 (n : Int), .int .i64 (qOf n), .int .i64 (wOf n)]) 2 ha hq_ rfl rfl rfl rfl rfl  agg_56 size_56 rfl) (fun w h => ⟨((n : Int), qOf n, wOf n), trivial, rfl, h.hand (List.nil_sublist _)⟩)
      · (try simp at cq3)
        refine g_skip ?_
        refine g_then ?_
        have hss1 : 0 ≤ rdI ss (i : Int) := by omega
        have hss3 : rdI ss (i : Int) < 2 ^ n := by first | omega | (rename_i hq; simp at hq; omega)
        have hss2 : rdI ss (i : Int) < 9223372036854775808 := by omega
        refine g_region ?_
        refine s_y (y_move rfl) rfl rfl rfl rfl ?_
        refine s_y (y_ldn 1 rfl rfl agg_56 size_56 rfl rfl) rfl rfl rfl rfl ?_
        refine s_y (y_func rfl rfl) rfl rfl rfl rfl ?_
        refine s_tr (t_callm (A := New _ _) rfl rfl ent_61 (fun w h => ((chL_q hn hn2 (s := rdI ss (i : Int))) ▸ wheel_any w n (qOf n) (wOf n) 81 [.pointer (some ⟨bs, 0, none⟩)] (fun x => bitI (rdI ss (i : Int)) x) (by omega) (by omega) (by omega) (fun x hk => by have := bitI_range (rdI ss (i : Int)) x; omega) ent_81 (fun k W hk hb => chords1_any W k bs (rdI ss (i : Int)) (by omega) hss1 hss2 (below_at hb (at_of (i := 0) h rfl)))).mono fun e w' ⟨b, h1, h2⟩ => ⟨b, ⟨Nat.le_trans h.below.size (h2.ge _ (List.mem_cons_self ..)), Nat.le_trans h.size (h2.ge _ (List.mem_cons_self ..))⟩, h1, h2⟩)) rfl rfl rfl rfl (fun bw hbw => ?_)
        refine s_tr (t_build (vs := [(0, .slice (some ⟨bw, 0, none⟩) n n)]) (cells := [.slice (some ⟨bw, 0, none⟩) n n]) rfl rfl Try.underlying60 hi32.1 hi32.2.1 (by rw [hi32.2.2.1]; rfl) (by rw [hi32.2.2.1]; rfl) (by rw [hi32.2.2.1]; kernel_rfl)) rfl rfl rfl rfl (fun bb hbb => ?_)
        refine s_tr (t_appendL (enc := encV) (sv := sv) (xs := vs) (n := i) (v := (Value.slice (some ⟨bw, 0, none⟩) n n)) [_, _, _, _, _] _ rfl rfl rfl hok3 Try.underlying60 hi32.1 hi32.2.1 hi32.2.2.1 hi32.2.2.2 rfl (fun w h => h.toHq.cell (i := 0) rfl rfl) rfl (by omega) (by unfold maxLen; omega)) rfl rfl rfl rfl (fun y7 hy8 => ?_)
        obtain ⟨sv4, gs5⟩ := y7
        obtain ⟨hok6, hok6b, hok6c, hok6j, hok6e⟩ := hy8
        refine s_y (y_assign rfl) rfl rfl rfl rfl ?_
        refine s_nil ?_
        refine g_inb ?_
        refine g_then ?_
        refine g_region ?_
        refine s_y (y_add rfl rfl (by omega) (by omega)) rfl rfl rfl rfl ?_
        refine s_y (y_move rfl) rfl rfl rfl rfl ?_
        refine s_nil ?_
        refine g_then ?_
        exact fun act W ha hw => ⟨i + 1, by omega, by omega, sv4, (vs ++ [(Value.slice (some ⟨bw, 0, none⟩) n n)]), W, (by exact hok6), (by simp; omega), (by intro k hk; rcases Nat.lt_or_ge k i with h | h; exact hdone k h; rw [show k = i by omega]; exact ⟨hss1, hss3⟩), ha.weak (sub_get ⟨rfl, rfl, rfl, rfl, rfl, rfl, rfl, rfl, trivial⟩), hw.toHq.lookSub (List.Sublist.cons _ (List.Sublist.cons _ (List.Sublist.cons _ (List.Sublist.cons_cons _ (List.Sublist.cons_cons _ (sub_app (sv4.mem 32 ((vs ++ [(Value.slice (some ⟨bw, 0, none⟩) n n)]).map encV)) (List.nil_sublist _)))))))⟩
  · (try simp at cq1)
    refine g_exit ?_
    refine g_thenx ?_
    refine g_thenx ?_
    refine g_inbx ?_
    refine g_then ?_
    refine g_seq ?_
    refine g_region ?_
    refine s_y (y_ldn 0 rfl rfl agg_56 size_56 rfl rfl) rfl rfl rfl rfl ?_
    refine s_y (y_move rfl) rfl rfl rfl rfl ?_
    refine s_y (y_move rfl) rfl rfl rfl rfl ?_
    refine s_y (y_not_f rfl) rfl rfl rfl rfl ?_
    refine s_tr0 (t_store 1 rfl rfl rfl rfl size_56 rfl rfl) rfl rfl rfl (fun _ _ => ?_)
    refine s_y (y_assign rfl) rfl rfl rfl rfl ?_
    refine s_y (y_assign rfl) rfl rfl rfl rfl ?_
    refine s_nil ?_
    refine g_then ?_
    refine g_ret ?_
    exact absurd (fun s hs => by obtain ⟨k, hk, rfl⟩ := List.mem_iff_getElem.1 hs; have h_ := hdone k (by omega); rwa [rdI_nat, List.getD_eq_getElem?_getD, List.getElem?_eq_getElem hk] at h_) hss

theorem chords_zero (w : World) (n : Int) (v : Value) (ss : List Int) (hv : RdV (Value.int .i64) w v ss) (hl : ss.length ≤ 1000) (hn : ¬ RIn n) (hne : 0 < ss.length) :
    Calls Try.prog 59 [.int .i64 n, v].toArray w fun e w' => ∃ x : Int × Int × Int, True ∧ e = .returned (.tuple #[.agg #[.int .i64 x.1, .int .i64 x.2.1, .int .i64 x.2.2], .slice none 0 0, .bool false]) ∧ Hq w w [] w' := by
  refine enter (N := 50) Try.func59 rfl rfl rfl ?_
  refine g_seq ?_
  refine g_region ?_
  refine s_tr (t_alloc zero_56 rfl) rfl rfl rfl rfl (fun br hbr => ?_)
  refine s_y (y_assign rfl) rfl rfl rfl rfl ?_
  refine s_y (y_assign rfl) rfl rfl rfl rfl ?_
  refine s_nil ?_
  refine g_then ?_
  refine g_seq ?_
  refine g_region ?_
  refine s_y (y_move rfl) rfl rfl rfl rfl ?_
  refine s_tr (t_call rfl rfl ent_57 (fun w h => read_bad w n _ hn)) rfl rfl rfl rfl (fun _ _ => ?_)
  refine s_y (y_move rfl) rfl rfl rfl rfl ?_
  refine s_y (y_extract rfl rfl) rfl rfl rfl rfl ?_
  refine s_y (y_extract rfl rfl) rfl rfl rfl rfl ?_
  refine s_tr (t_alloc zero_56 rfl) rfl rfl rfl rfl (fun bf hbf => ?_)
  refine s_tr0 (t_store 0 rfl rfl rfl rfl size_56 rfl rfl) rfl rfl rfl (fun _ _ => ?_)
  refine s_y (y_assign rfl) rfl rfl rfl rfl ?_
  refine s_nil ?_
  refine g_then ?_
  refine g_seq ?_
  refine g_region ?_
  refine s_y (y_ldn 0 rfl rfl agg_56 size_56 rfl rfl) rfl rfl rfl rfl ?_
  refine s_y (y_build (vs := []) rfl rfl (fun w => bld_56_  w)) rfl rfl rfl rfl ?_
  refine s_y (y_bin rfl rfl (fun w => by kernel_rfl) (fun w => eq56_t w )) rfl rfl rfl rfl ?_
  refine s_y (y_assign rfl) rfl rfl rfl rfl ?_
  refine s_nil ?_
  refine g_then ?_
  refine g_seq ?_
  refine g_region ?_
  refine s_y (y_assign rfl) rfl rfl rfl rfl ?_
  refine s_nil ?_
  refine g_then ?_
  refine g_seq ?_
  refine g_seq ?_
  refine g_region ?_
  refine s_y (y_move rfl) rfl rfl rfl rfl ?_
  refine s_y (y_lenV (n := ss.length) rfl (by obtain ⟨A, c, h1, _⟩ := hv; exact ⟨A, c, h1⟩) sle_32) rfl rfl rfl rfl ?_
  refine s_y (y_move rfl) rfl rfl rfl rfl ?_
  refine s_nil ?_
  refine g_then ?_
  refine g_block ?_
  refine g_loop (fun (i : Nat) act W => i = 0 ∧ ∃ (w1 : World), Has 50 [] [(0, .int .i64 n), (4, .pointer (some ⟨br, 0, none⟩)), (7, .pointer (some ⟨bf, 0, none⟩)), (9, .bool true), (21, v), (22, .int .i64 (ss.length : Nat)), (23, .int .i64 (i : Int))] act ∧ Hp w w1 ((bf, .cells [.int .i64 0, .int .i64 0, .int .i64 0].toArray 56 (0, 0)) :: (br, .cells [.int .i64 0, .int .i64 0, .int .i64 0].toArray 56 (0, 0)) :: []) W) (fun i => 0) 0 (fun act W ha hw => ⟨rfl, W, ha.weak (sub_get ⟨rfl, rfl, rfl, rfl, rfl, rfl, rfl, trivial⟩), hw.toHq.lookSub (List.Sublist.refl _)⟩) ?_
  intro i act W ⟨hb_i, w1, ha, hw⟩
  refine g_go ha hw ?_
  clear ha hw act W
  refine g_seq ?_
  refine g_region ?_
  refine s_y (y_lss rfl rfl) rfl rfl rfl rfl ?_
  refine s_nil ?_
  refine g_then ?_
  refine g_seq ?_
  refine g_cond rfl (fun cq1 => ?_) (fun cq1 => ?_)
  · (try simp at cq1)
    refine g_skip ?_
    refine g_then ?_
    refine g_seq ?_
    refine g_block ?_
    refine g_seq ?_
    refine g_region ?_
    refine s_y (y_idxV (enc := (Value.int .i64)) rfl rfl hv Try.underlying32 size_3 (by omega) (by omega)) rfl rfl rfl rfl ?_
    refine s_y (y_ldV (enc := (Value.int .i64)) (xs := ss) (fun w h => hv.rdl.below h.below) rfl agg_3 (rdI_at (by omega) (by omega))) rfl rfl rfl rfl ?_
    refine s_tr (t_alloc zero_3 rfl) rfl rfl rfl rfl (fun bs hbs => ?_)
    refine s_tr0 (t_store 0 rfl rfl rfl rfl size_3 rfl rfl) rfl rfl rfl (fun _ _ => ?_)
    refine s_nil ?_
    refine g_then ?_
    refine g_seq ?_
    refine g_seq ?_
    refine g_draw 11 (by kernel_rfl) ?_
    refine j_p (i := 0) rfl (y_move rfl) (by kernel_rfl) (by kernel_rfl) (by kernel_rfl) rfl rfl rfl rfl rfl (.inr (fun _ h => h)) ?_
    refine j_p (i := 1) rfl (y_move rfl) (by kernel_rfl) (by kernel_rfl) (by kernel_rfl) rfl rfl rfl rfl rfl (.inr (fun _ h => h)) ?_
    refine j_no (i := 2) rfl (by kernel_rfl) (by kernel_rfl) (by kernel_rfl) rfl rfl rfl rfl rfl (.inr (fun _ h => h)) ?_
    refine j_no (i := 3) rfl (by kernel_rfl) (by kernel_rfl) (by kernel_rfl) rfl rfl rfl rfl rfl (.inr (fun _ h => h)) ?_
    refine j_p (i := 4) rfl (y_pick_t rfl rfl) (by kernel_rfl) (by kernel_rfl) (by kernel_rfl) rfl rfl rfl rfl rfl (.inr (fun _ h => h)) ?_
    refine j_p (i := 5) rfl (y_move rfl) (by kernel_rfl) (by kernel_rfl) (by kernel_rfl) rfl rfl rfl rfl rfl (.inr (fun _ h => h)) ?_
    refine j_no (i := 6) rfl (by kernel_rfl) (by kernel_rfl) (by kernel_rfl) rfl rfl rfl rfl rfl (.inr (fun _ h => h)) ?_
    refine j_no (i := 7) rfl (by kernel_rfl) (by kernel_rfl) (by kernel_rfl) rfl rfl rfl rfl rfl (.inr (fun _ h => h)) ?_
    refine j_no (i := 8) rfl (by kernel_rfl) (by kernel_rfl) (by kernel_rfl) rfl rfl rfl rfl rfl (.inr (fun _ h => h)) ?_
    refine j_no (i := 9) rfl (by kernel_rfl) (by kernel_rfl) (by kernel_rfl) rfl rfl rfl rfl rfl (.inr (fun _ h => h)) ?_
    refine j_p (i := 10) rfl (y_pick_t rfl rfl) (by kernel_rfl) (by kernel_rfl) (by kernel_rfl) rfl rfl rfl rfl rfl (.inr (fun _ h => h)) ?_
    refine j_nil (by kernel_rfl) ?_
    refine g_then ?_
    refine g_cond_t rfl ?_
    refine g_seq ?_
    refine g_region ?_
    refine s_y (y_ldn 1 rfl rfl agg_56 size_56 rfl rfl) rfl rfl rfl rfl ?_
    refine s_tr0 (t_store 2 rfl rfl rfl rfl size_56 rfl rfl) rfl rfl rfl (fun _ _ => ?_)
    refine s_y (y_assign rfl) rfl rfl rfl rfl ?_
    refine s_y (y_assign rfl) rfl rfl rfl rfl ?_
    refine s_nil ?_
    refine g_then ?_
    refine g_ret ?_
    refine g_thenr ?_
    refine g_inbr ?_
    refine g_thenr ?_
    refine g_thenr ?_
    refine g_inbr ?_
    refine g_thenr ?_
    exact g_end trivial (fun a w ha hq_ => res_ctt (c := [.int .i64 0, .int .i64 0, .int .i64 0]) 2 ha hq_ rfl rfl rfl rfl rfl  agg_56 size_56 rfl) (fun w h => ⟨(0, 0, 0), trivial, rfl, h.hand (List.nil_sublist _)⟩)
  · (try simp at cq1)
    omega

theorem chords_no (w : World) (n : Int) (v : Value) (ss : List Int) (hv : RdV (Value.int .i64) w v ss) (hl : ss.length ≤ 1000) (hne : 0 < ss.length) (h : ¬ ∀ s ∈ ss, okC n s) : Calls Try.prog 59 [.int .i64 n, v].toArray w fun e w' => ∃ x : Int × Int × Int, True ∧ e = .returned (.tuple #[.agg #[.int .i64 x.1, .int .i64 x.2.1, .int .i64 x.2.2], .slice none 0 0, .bool false]) ∧ Hq w w [] w' := by
  by_cases hn : RIn n
  · obtain ⟨m, rfl⟩ := Int.eq_ofNat_of_zero_le (show 0 ≤ n by have := hn.1; omega)
    have h1 := hn.1
    have h2 := hn.2
    exact chords_bad w m v ss hv hl (by omega) (by omega) fun h3 => h fun s hs => ⟨hn, h3 s hs⟩
  · exact chords_zero w n v ss hv hl hn hne
theorem Valid_tI (w : World) (n c : Int) (h : okC n c) : Calls Try.prog 24 [.int .i64 n, .int .i64 c].toArray w fun e w' => e = .returned (.bool true) ∧ Below w.heap.size w w' := by
  have h1 := h.1.1
  have h2 := h.1.2
  obtain ⟨m, rfl⟩ := Int.eq_ofNat_of_zero_le (show 0 ≤ n by omega)
  exact Valid_t w m c (by omega) (by omega) h.2.1 h.2.2

theorem Chord_ok (w : World) (n : Nat) (c : Int) (hn : 2 ≤ n) (hn2 : n ≤ 16) (hc0 : 0 ≤ c) (hc1 : c < 2 ^ n) :
    Calls Try.prog 39 [.int .i64 (n : Int), .int .i64 c].toArray w fun e w' => ∃ x : Value × List (Nat × Obj), (OwnV (Value.int .i64) x.1 (chL n c) x.2 ∧ ∃ W : World, ∀ p ∈ x.2, W.heap[p.1]? = some p.2) ∧ e = .returned (.tuple #[x.1, .int .i64 0]) ∧ Hq w w x.2 w' := by
  obtain ⟨hf1, hf2, hf3, hf4, hf5, hf6, hf7⟩ := q_facts hn hn2
  obtain ⟨ie3, hi3⟩ := inf_3
  refine enter (N := 22) Try.func39 rfl rfl rfl ?_
  refine g_seq ?_
  refine g_region ?_
  refine s_y (y_assign rfl) rfl rfl rfl rfl ?_
  refine s_y (y_assign rfl) rfl rfl rfl rfl ?_
  refine s_nil ?_
  refine g_then ?_
  refine g_seq ?_
  refine g_region ?_
  refine s_y (y_move rfl) rfl rfl rfl rfl ?_
  refine s_y (y_move rfl) rfl rfl rfl rfl ?_
  refine s_tr (t_build (vs := [(0, .int .i64 c)]) (cells := [.int .i64 c]) rfl rfl Try.underlying32 hi3.1 hi3.2.1 (by rw [hi3.2.2.1]; rfl) (by rw [hi3.2.2.1]; rfl) (by rw [hi3.2.2.1]; kernel_rfl)) rfl rfl rfl rfl (fun bl hbl => ?_)
  refine s_tr (t_callm rfl rfl ent_59 (fun w h => chords_ok w n _ [c] (RdV.own (enc := (Value.int .i64)) (xs := [c]) (jk := []) (at_of (i := 0) h rfl) rfl (Nat.le_refl _)) (by simp) hn hn2 (by intro s hs; simp only [List.mem_cons, List.not_mem_nil, or_false] at hs; subst hs; exact ⟨hc0, hc1⟩))) rfl rfl rfl rfl (fun xx hxx => ?_)
  obtain ⟨vc, xc, mc⟩ := xx
  obtain ⟨hOc', hvl, hrows, hEc'⟩ := hxx
  have hOc : OwnV encV vc xc mc := hOc'
  have hEc : ∃ W : World, ∀ p ∈ mc, W.heap[p.1]? = some p.2 := hEc'
  have hvl' : xc.length = 1 := hvl
  have hr0 : OwnV (Value.int .i64) (rdVal xc 0) (chL n (c)) mc := hrows 0 (by simp)
  refine s_y (y_move rfl) rfl rfl rfl rfl ?_
  refine s_y (y_extract rfl rfl) rfl rfl rfl rfl ?_
  refine s_y (y_extract rfl rfl) rfl rfl rfl rfl ?_
  refine s_y (y_extract rfl rfl) rfl rfl rfl rfl ?_
  refine s_tr (t_alloc zero_56 rfl) rfl rfl rfl rfl (fun b1 hb1 => ?_)
  refine s_tr0 (t_store 0 rfl rfl rfl rfl size_56 rfl rfl) rfl rfl rfl (fun _ _ => ?_)
  refine s_y (y_assign rfl) rfl rfl rfl rfl ?_
  refine s_y (y_assign rfl) rfl rfl rfl rfl ?_
  refine s_nil ?_
  refine g_then ?_
  refine g_seq ?_
  refine g_seq ?_
  refine g_region ?_
  refine s_y (y_move rfl) rfl rfl rfl rfl ?_
  refine s_y (y_not_t rfl) rfl rfl rfl rfl ?_
  refine s_nil ?_
  refine g_then ?_
  refine g_cond_f rfl ?_
  refine g_skip ?_
  refine g_then ?_
  refine g_seq ?_
  refine g_region ?_
  refine s_y (y_move rfl) rfl rfl rfl rfl ?_
  refine s_y (y_idxO (enc := encV) rfl rfl hOc hEc Try.underlying60 size_32 (by omega) (by omega)) rfl rfl rfl rfl ?_
  refine s_y (y_ldV (enc := encV) (xs := xc) (fun w h => (hOc.rd fun p hp => h.at_ p (List.mem_cons_of_mem _ (mem_al mc hp))).rdl) rfl agg_32 (rdVal_at (by omega) (by omega))) rfl rfl rfl rfl ?_
  refine s_y (y_assign rfl) rfl rfl rfl rfl ?_
  refine s_y (y_assign rfl) rfl rfl rfl rfl ?_
  refine s_nil ?_
  refine g_then ?_
  refine g_ret ?_
  exact g_end trivial (fun a w ha hq_ => res2 ha rfl rfl rfl  w) (fun w h => ⟨(_, mc), ⟨hr0, w, (h.hand (List.Sublist.cons _ (sub_here mc _))).at_⟩, rfl, h.hand (List.Sublist.cons _ (sub_here mc _))⟩)

theorem Chord_no (w : World) (n c : Int) (hno : ¬ okC n c) :
    Calls Try.prog 39 [.int .i64 n, .int .i64 c].toArray w fun e w' => e = .returned (.tuple #[.slice none 0 0, .int .i64 2]) ∧ Below w.heap.size w w' := by
  have hnot : ¬ ∀ s ∈ [c], okC n s := fun h_ => hno (h_ c (by simp))
  obtain ⟨ie3, hi3⟩ := inf_3
  refine enter (N := 22) Try.func39 rfl rfl rfl ?_
  refine g_seq ?_
  refine g_region ?_
  refine s_y (y_assign rfl) rfl rfl rfl rfl ?_
  refine s_y (y_assign rfl) rfl rfl rfl rfl ?_
  refine s_nil ?_
  refine g_then ?_
  refine g_seq ?_
  refine g_region ?_
  refine s_y (y_move rfl) rfl rfl rfl rfl ?_
  refine s_y (y_move rfl) rfl rfl rfl rfl ?_
  refine s_tr (t_build (vs := [(0, .int .i64 c)]) (cells := [.int .i64 c]) rfl rfl Try.underlying32 hi3.1 hi3.2.1 (by rw [hi3.2.2.1]; rfl) (by rw [hi3.2.2.1]; rfl) (by rw [hi3.2.2.1]; kernel_rfl)) rfl rfl rfl rfl (fun bl hbl => ?_)
  refine s_tr (t_callm rfl rfl ent_59 (fun w h => chords_no w n _ [c] (RdV.own (enc := (Value.int .i64)) (xs := [c]) (jk := []) (at_of (i := 0) h rfl) rfl (Nat.le_refl _)) (by simp) (by simp) hnot)) rfl rfl rfl rfl (fun xz _ => ?_)
  refine s_y (y_move rfl) rfl rfl rfl rfl ?_
  refine s_y (y_extract rfl rfl) rfl rfl rfl rfl ?_
  refine s_y (y_extract rfl rfl) rfl rfl rfl rfl ?_
  refine s_y (y_extract rfl rfl) rfl rfl rfl rfl ?_
  refine s_tr (t_alloc zero_56 rfl) rfl rfl rfl rfl (fun b1 hb1 => ?_)
  refine s_tr0 (t_store 0 rfl rfl rfl rfl size_56 rfl rfl) rfl rfl rfl (fun _ _ => ?_)
  refine s_y (y_assign rfl) rfl rfl rfl rfl ?_
  refine s_y (y_assign rfl) rfl rfl rfl rfl ?_
  refine s_nil ?_
  refine g_then ?_
  refine g_seq ?_
  refine g_seq ?_
  refine g_region ?_
  refine s_y (y_move rfl) rfl rfl rfl rfl ?_
  refine s_y (y_not_f rfl) rfl rfl rfl rfl ?_
  refine s_nil ?_
  refine g_then ?_
  refine g_cond_t rfl ?_
  refine g_seq ?_
  refine g_region ?_
  refine s_y (y_assign rfl) rfl rfl rfl rfl ?_
  refine s_y (y_assign rfl) rfl rfl rfl rfl ?_
  refine s_nil ?_
  refine g_then ?_
  refine g_ret ?_
  refine g_thenr ?_
  exact g_end trivial (fun a w ha hq_ => res2 ha rfl rfl rfl  w) (fun w h => ⟨rfl, h.below⟩)

theorem Silent_ok (w : World) (n : Nat) (c : Int) (hn : 2 ≤ n) (hn2 : n ≤ 16) (hc0 : 0 ≤ c) (hc1 : c < 2 ^ n) :
    Calls Try.prog 40 [.int .i64 (n : Int), .int .i64 c].toArray w fun e w' => e = .returned (.tuple #[.int .i64 (silI (turnL (qOf n) (wOf n) n (chL n c)) n), .int .i64 0]) ∧ Below w.heap.size w w' := by
  obtain ⟨hf1, hf2, hf3, hf4, hf5, hf6, hf7⟩ := q_facts hn hn2
  obtain ⟨ie3, hi3⟩ := inf_3
  refine enter (N := 41) Try.func40 rfl rfl rfl ?_
  refine g_seq ?_
  refine g_region ?_
  refine s_y (y_assign rfl) rfl rfl rfl rfl ?_
  refine s_y (y_assign rfl) rfl rfl rfl rfl ?_
  refine s_nil ?_
  refine g_then ?_
  refine g_seq ?_
  refine g_region ?_
  refine s_y (y_move rfl) rfl rfl rfl rfl ?_
  refine s_y (y_move rfl) rfl rfl rfl rfl ?_
  refine s_tr (t_build (vs := [(0, .int .i64 c)]) (cells := [.int .i64 c]) rfl rfl Try.underlying32 hi3.1 hi3.2.1 (by rw [hi3.2.2.1]; rfl) (by rw [hi3.2.2.1]; rfl) (by rw [hi3.2.2.1]; kernel_rfl)) rfl rfl rfl rfl (fun bl hbl => ?_)
  refine s_tr (t_callm rfl rfl ent_59 (fun w h => chords_ok w n _ [c] (RdV.own (enc := (Value.int .i64)) (xs := [c]) (jk := []) (at_of (i := 0) h rfl) rfl (Nat.le_refl _)) (by simp) hn hn2 (by intro s hs; simp only [List.mem_cons, List.not_mem_nil, or_false] at hs; subst hs; exact ⟨hc0, hc1⟩))) rfl rfl rfl rfl (fun xx hxx => ?_)
  obtain ⟨vc, xc, mc⟩ := xx
  obtain ⟨hOc', hvl, hrows, hEc'⟩ := hxx
  have hOc : OwnV encV vc xc mc := hOc'
  have hEc : ∃ W : World, ∀ p ∈ mc, W.heap[p.1]? = some p.2 := hEc'
  have hvl' : xc.length = 1 := hvl
  have hr0 : OwnV (Value.int .i64) (rdVal xc 0) (chL n (c)) mc := hrows 0 (by simp)
  refine s_y (y_move rfl) rfl rfl rfl rfl ?_
  refine s_y (y_extract rfl rfl) rfl rfl rfl rfl ?_
  refine s_y (y_extract rfl rfl) rfl rfl rfl rfl ?_
  refine s_y (y_extract rfl rfl) rfl rfl rfl rfl ?_
  refine s_tr (t_alloc zero_56 rfl) rfl rfl rfl rfl (fun b1 hb1 => ?_)
  refine s_tr0 (t_store 0 rfl rfl rfl rfl size_56 rfl rfl) rfl rfl rfl (fun _ _ => ?_)
  refine s_y (y_assign rfl) rfl rfl rfl rfl ?_
  refine s_y (y_assign rfl) rfl rfl rfl rfl ?_
  refine s_nil ?_
  refine g_then ?_
  refine g_seq ?_
  refine g_seq ?_
  refine g_region ?_
  refine s_y (y_move rfl) rfl rfl rfl rfl ?_
  refine s_y (y_not_t rfl) rfl rfl rfl rfl ?_
  refine s_nil ?_
  refine g_then ?_
  refine g_cond_f rfl ?_
  refine g_skip ?_
  refine g_then ?_
  refine g_seq ?_
  refine g_region ?_
  refine s_y (y_assign rfl) rfl rfl rfl rfl ?_
  refine s_nil ?_
  refine g_then ?_
  refine g_seq ?_
  refine g_seq ?_
  refine g_draw 7 (by kernel_rfl) ?_
  refine j_l (i := 0) rfl (y_ldn 0 rfl rfl agg_56 size_56 rfl rfl) (by kernel_rfl) (by kernel_rfl) (by kernel_rfl) (by kernel_rfl) rfl rfl rfl rfl rfl (.inr (fun _ h => h)) ?_
  refine j_p (i := 1) rfl (y_move rfl) (by kernel_rfl) (by kernel_rfl) (by kernel_rfl) rfl rfl rfl rfl rfl (.inr (fun _ h => h)) ?_
  refine j_p (i := 2) rfl (y_idxO (enc := encV) rfl rfl hOc hEc Try.underlying60 size_32 (by omega) (by omega)) (by kernel_rfl) (by kernel_rfl) (by kernel_rfl) rfl rfl rfl rfl rfl (.inr (fun _ h => h)) ?_
  refine j_l (i := 3) rfl (y_ldV (enc := encV) (xs := xc) (fun w h => (hOc.rd fun p hp => h.at_ p (List.mem_cons_of_mem _ (mem_al mc hp))).rdl) rfl agg_32 (rdVal_at (by omega) (by omega))) (by kernel_rfl) (by kernel_rfl) (by kernel_rfl) (by kernel_rfl) rfl rfl rfl rfl rfl (.inr (fun _ h => h)) ?_
  refine j_p (i := 6) rfl (y_move rfl) (by kernel_rfl) (by kernel_rfl) (by kernel_rfl) rfl rfl rfl rfl rfl (.inr (fun _ h => h)) ?_
  refine j_tr (i := 4) rfl (t_callm (A := New _ _) rfl rfl ent_64 (fun w h => (spectrum_any w n (qOf n) (wOf n) _ (chL n c) hn hn2 (by omega) (by omega) (by omega) (by omega) (hr0.rd fun p hp => h.at_ p (List.mem_cons_of_mem _ (mem_al mc hp))) (chL_facts hn hn2 c).1 (chL_facts hn hn2 c).2).mono fun e w' ⟨b, h1, h2⟩ => ⟨b, ⟨Nat.le_trans h.below.size (h2.ge _ (List.mem_cons_self ..)), Nat.le_trans h.size (h2.ge _ (List.mem_cons_self ..))⟩, h1, h2⟩)) (by kernel_rfl) rfl rfl rfl rfl (.inr (fun x w hb h => (h.tail hb.2))) (fun bt hbt => ?_)
  refine j_p (i := 5) rfl (y_lensl rfl sle_32) (by kernel_rfl) (by kernel_rfl) (by kernel_rfl) rfl rfl rfl rfl rfl (.inr (fun _ h => (h.tail hbt.2))) ?_
  refine j_nil (by kernel_rfl) ?_
  refine g_then ?_
  refine g_block ?_
  refine g_loop (fun (i : Nat) act W => i ≤ n ∧ ∃ (z : Int) (w1 : World), (z = silI (turnL (qOf n) (wOf n) n (chL n c)) i) ∧ Has 41 [] [(4, .int .i64 0), (5, .int .i64 0), (9, .int .i64 z), (26, .slice (some ⟨bt, 0, none⟩) n n), (27, .int .i64 (n : Nat)), (28, .int .i64 (i : Int))] act ∧ Hp w w1 ((bt, .cells ((turnL (qOf n) (wOf n) n (chL n c)).map (Value.int .i64) ++ []).toArray 3 (0, 0)) :: (b1, .cells [.int .i64 (n : Int), .int .i64 (qOf n), .int .i64 (wOf n)].toArray 56 (0, 0)) :: (mc ++ ((bl, .cells [.int .i64 c].toArray 3 (0, 0)) :: []))) W) (fun i => n - i) 0 (fun act W ha hw => ⟨by omega, 0, W, (by rfl), ha.weak (sub_get ⟨rfl, rfl, rfl, rfl, rfl, rfl, trivial⟩), hw.toHq.lookSub (List.Sublist.refl _)⟩) ?_
  intro i act W ⟨hb_i, z, w1, hz, ha, hw⟩
  refine g_go ha hw ?_
  clear ha hw act W
  have hzr := sil_le (turnL (qOf n) (wOf n) n (chL n c)) (show i ≤ 16 by omega)
  rw [← hz] at hzr
  have h2i := two_i (i := i) (by omega)
  refine g_seq ?_
  refine g_region ?_
  refine s_y (y_lss rfl rfl) rfl rfl rfl rfl ?_
  refine s_nil ?_
  refine g_then ?_
  refine g_seq ?_
  refine g_cond rfl (fun cq2 => ?_) (fun cq2 => ?_)
  · (try simp at cq2)
    refine g_skip ?_
    refine g_then ?_
    refine g_seq ?_
    refine g_block ?_
    refine g_seq ?_
    have hlT : (turnL (qOf n) (wOf n) n (chL n c)).length = n := turnL_len
    refine g_region ?_
    refine s_y (y_move rfl) rfl rfl rfl rfl ?_
    refine s_y (y_idxb1 rfl rfl Try.underlying32 size_3 (by omega) (by omega)) rfl rfl rfl rfl ?_
    refine s_y (y_ldL (enc := (Value.int .i64)) (xs := turnL (qOf n) (wOf n) n (chL n c)) (jk := []) 0 rfl rfl agg_3 (rdI_at (by omega) (by omega))) rfl rfl rfl rfl ?_
    refine s_y (y_assign rfl) rfl rfl rfl rfl ?_
    refine s_y (y_assign rfl) rfl rfl rfl rfl ?_
    refine s_nil ?_
    refine g_then ?_
    refine g_seq ?_
    refine g_region ?_
    refine s_y (y_move rfl) rfl rfl rfl rfl ?_
    refine s_y (y_eql rfl rfl) rfl rfl rfl rfl ?_
    refine s_nil ?_
    refine g_then ?_
    refine g_cond rfl (fun cq3 => ?_) (fun cq3 => ?_)
    · (try simp at cq3)
      refine g_region ?_
      refine s_y (y_move rfl) rfl rfl rfl rfl ?_
      refine s_y (y_move rfl) rfl rfl rfl rfl ?_
      refine s_y (y_shl1 rfl rfl (by omega) (by omega)) rfl rfl rfl rfl ?_
      refine s_y (y_or rfl rfl (by omega) (by omega)) rfl rfl rfl rfl ?_
      refine s_y (y_assign rfl) rfl rfl rfl rfl ?_
      refine s_nil ?_
      refine g_inb ?_
      refine g_then ?_
      refine g_region ?_
      refine s_y (y_add rfl rfl (by omega) (by omega)) rfl rfl rfl rfl ?_
      refine s_y (y_move rfl) rfl rfl rfl rfl ?_
      refine s_nil ?_
      refine g_then ?_
      exact fun act W ha hw => ⟨i + 1, by omega, by omega, ((z : Int).toNat ||| (2 ^ ((i : Int) : Int).toNat : Int).toNat : Nat), W, (by simp only [silI]; rw [← hz]; first | rw [if_pos (by omega)] | rw [if_neg (by omega)]), ha.weak (sub_get ⟨rfl, rfl, rfl, rfl, rfl, rfl, trivial⟩), hw.toHq.lookSub (List.Sublist.refl _)⟩
    · (try simp at cq3)
      refine g_skip ?_
      refine g_inb ?_
      refine g_then ?_
      refine g_region ?_
      refine s_y (y_add rfl rfl (by omega) (by omega)) rfl rfl rfl rfl ?_
      refine s_y (y_move rfl) rfl rfl rfl rfl ?_
      refine s_nil ?_
      refine g_then ?_
      exact fun act W ha hw => ⟨i + 1, by omega, by omega, z, W, (by simp only [silI]; rw [← hz]; first | rw [if_pos (by omega)] | rw [if_neg (by omega)]), ha.weak (sub_get ⟨rfl, rfl, rfl, rfl, rfl, rfl, trivial⟩), hw.toHq.lookSub (List.Sublist.refl _)⟩
  · (try simp at cq2)
    refine g_exit ?_
    refine g_thenx ?_
    refine g_thenx ?_
    refine g_inbx ?_
    refine g_then ?_
    refine g_seq ?_
    refine g_region ?_
    refine s_y (y_move rfl) rfl rfl rfl rfl ?_
    refine s_y (y_assign rfl) rfl rfl rfl rfl ?_
    refine s_y (y_assign rfl) rfl rfl rfl rfl ?_
    refine s_nil ?_
    refine g_then ?_
    refine g_ret ?_
    obtain rfl : i = n := by omega
    subst hz
    exact g_end trivial (fun a w ha hq_ => res2 ha rfl rfl rfl  w) (fun w h => ⟨rfl, h.below⟩)

theorem Silent_no (w : World) (n c : Int) (hno : ¬ okC n c) :
    Calls Try.prog 40 [.int .i64 n, .int .i64 c].toArray w fun e w' => e = .returned (.tuple #[.int .i64 0, .int .i64 2]) ∧ Below w.heap.size w w' := by
  have hnot : ¬ ∀ s ∈ [c], okC n s := fun h_ => hno (h_ c (by simp))
  obtain ⟨ie3, hi3⟩ := inf_3
  refine enter (N := 41) Try.func40 rfl rfl rfl ?_
  refine g_seq ?_
  refine g_region ?_
  refine s_y (y_assign rfl) rfl rfl rfl rfl ?_
  refine s_y (y_assign rfl) rfl rfl rfl rfl ?_
  refine s_nil ?_
  refine g_then ?_
  refine g_seq ?_
  refine g_region ?_
  refine s_y (y_move rfl) rfl rfl rfl rfl ?_
  refine s_y (y_move rfl) rfl rfl rfl rfl ?_
  refine s_tr (t_build (vs := [(0, .int .i64 c)]) (cells := [.int .i64 c]) rfl rfl Try.underlying32 hi3.1 hi3.2.1 (by rw [hi3.2.2.1]; rfl) (by rw [hi3.2.2.1]; rfl) (by rw [hi3.2.2.1]; kernel_rfl)) rfl rfl rfl rfl (fun bl hbl => ?_)
  refine s_tr (t_callm rfl rfl ent_59 (fun w h => chords_no w n _ [c] (RdV.own (enc := (Value.int .i64)) (xs := [c]) (jk := []) (at_of (i := 0) h rfl) rfl (Nat.le_refl _)) (by simp) (by simp) hnot)) rfl rfl rfl rfl (fun xz _ => ?_)
  refine s_y (y_move rfl) rfl rfl rfl rfl ?_
  refine s_y (y_extract rfl rfl) rfl rfl rfl rfl ?_
  refine s_y (y_extract rfl rfl) rfl rfl rfl rfl ?_
  refine s_y (y_extract rfl rfl) rfl rfl rfl rfl ?_
  refine s_tr (t_alloc zero_56 rfl) rfl rfl rfl rfl (fun b1 hb1 => ?_)
  refine s_tr0 (t_store 0 rfl rfl rfl rfl size_56 rfl rfl) rfl rfl rfl (fun _ _ => ?_)
  refine s_y (y_assign rfl) rfl rfl rfl rfl ?_
  refine s_y (y_assign rfl) rfl rfl rfl rfl ?_
  refine s_nil ?_
  refine g_then ?_
  refine g_seq ?_
  refine g_seq ?_
  refine g_region ?_
  refine s_y (y_move rfl) rfl rfl rfl rfl ?_
  refine s_y (y_not_f rfl) rfl rfl rfl rfl ?_
  refine s_nil ?_
  refine g_then ?_
  refine g_cond_t rfl ?_
  refine g_seq ?_
  refine g_region ?_
  refine s_y (y_assign rfl) rfl rfl rfl rfl ?_
  refine s_y (y_assign rfl) rfl rfl rfl rfl ?_
  refine s_nil ?_
  refine g_then ?_
  refine g_ret ?_
  refine g_thenr ?_
  exact g_end trivial (fun a w ha hq_ => res2 ha rfl rfl rfl  w) (fun w h => ⟨rfl, h.below⟩)

theorem Alike_ok (w : World) (n : Nat) (a b : Int) (hn : 2 ≤ n) (hn2 : n ≤ 16) (ha_0 : 0 ≤ a) (ha_1 : a < 2 ^ n) (hb_0 : 0 ≤ b) (hb_1 : b < 2 ^ n) :
    Calls Try.prog 23 [.int .i64 (n : Int), .int .i64 a, .int .i64 b].toArray w fun e w' => e = .returned (.tuple #[(.bool (decide (powL (qOf n) (wOf n) n (chL n a) = powL (qOf n) (wOf n) n (chL n b)))), .int .i64 0]) ∧ Below w.heap.size w w' := by
  obtain ⟨hf1, hf2, hf3, hf4, hf5, hf6, hf7⟩ := q_facts hn hn2
  obtain ⟨ie3, hi3⟩ := inf_3
  refine enter (N := 33) Try.func23 rfl rfl rfl ?_
  refine g_seq ?_
  refine g_region ?_
  refine s_y (y_assign rfl) rfl rfl rfl rfl ?_
  refine s_y (y_assign rfl) rfl rfl rfl rfl ?_
  refine s_nil ?_
  refine g_then ?_
  refine g_seq ?_
  refine g_region ?_
  refine s_y (y_move rfl) rfl rfl rfl rfl ?_
  refine s_y (y_move rfl) rfl rfl rfl rfl ?_
  refine s_y (y_move rfl) rfl rfl rfl rfl ?_
  refine s_tr (t_build (vs := [(0, .int .i64 a), (1, .int .i64 b)]) (cells := [.int .i64 a, .int .i64 b]) rfl rfl Try.underlying32 hi3.1 hi3.2.1 (by rw [hi3.2.2.1]; rfl) (by rw [hi3.2.2.1]; rfl) (by rw [hi3.2.2.1]; kernel_rfl)) rfl rfl rfl rfl (fun bl hbl => ?_)
  refine s_tr (t_callm rfl rfl ent_59 (fun w h => chords_ok w n _ [a, b] (RdV.own (enc := (Value.int .i64)) (xs := [a, b]) (jk := []) (at_of (i := 0) h rfl) rfl (Nat.le_refl _)) (by simp) hn hn2 (by intro s hs; simp only [List.mem_cons, List.not_mem_nil, or_false] at hs; rcases hs with rfl | rfl; exact ⟨ha_0, ha_1⟩; exact ⟨hb_0, hb_1⟩))) rfl rfl rfl rfl (fun xx hxx => ?_)
  obtain ⟨vc, xc, mc⟩ := xx
  obtain ⟨hOc', hvl, hrows, hEc'⟩ := hxx
  have hOc : OwnV encV vc xc mc := hOc'
  have hEc : ∃ W : World, ∀ p ∈ mc, W.heap[p.1]? = some p.2 := hEc'
  have hvl' : xc.length = 2 := hvl
  have hr0 : OwnV (Value.int .i64) (rdVal xc 0) (chL n (a)) mc := hrows 0 (by simp)
  have hr1 : OwnV (Value.int .i64) (rdVal xc 1) (chL n (b)) mc := hrows 1 (by simp)
  refine s_y (y_move rfl) rfl rfl rfl rfl ?_
  refine s_y (y_extract rfl rfl) rfl rfl rfl rfl ?_
  refine s_y (y_extract rfl rfl) rfl rfl rfl rfl ?_
  refine s_y (y_extract rfl rfl) rfl rfl rfl rfl ?_
  refine s_tr (t_alloc zero_56 rfl) rfl rfl rfl rfl (fun b1 hb1 => ?_)
  refine s_tr0 (t_store 0 rfl rfl rfl rfl size_56 rfl rfl) rfl rfl rfl (fun _ _ => ?_)
  refine s_y (y_assign rfl) rfl rfl rfl rfl ?_
  refine s_y (y_assign rfl) rfl rfl rfl rfl ?_
  refine s_nil ?_
  refine g_then ?_
  refine g_seq ?_
  refine g_seq ?_
  refine g_region ?_
  refine s_y (y_move rfl) rfl rfl rfl rfl ?_
  refine s_y (y_not_t rfl) rfl rfl rfl rfl ?_
  refine s_nil ?_
  refine g_then ?_
  refine g_cond_f rfl ?_
  refine g_skip ?_
  refine g_then ?_
  refine g_seq ?_
  refine g_draw 13 (by kernel_rfl) ?_
  refine j_l (i := 0) rfl (y_ldn 0 rfl rfl agg_56 size_56 rfl rfl) (by kernel_rfl) (by kernel_rfl) (by kernel_rfl) (by kernel_rfl) rfl rfl rfl rfl rfl (.inr (fun _ h => h)) ?_
  refine j_p (i := 1) rfl (y_move rfl) (by kernel_rfl) (by kernel_rfl) (by kernel_rfl) rfl rfl rfl rfl rfl (.inr (fun _ h => h)) ?_
  refine j_p (i := 2) rfl (y_idxO (enc := encV) rfl rfl hOc hEc Try.underlying60 size_32 (by omega) (by omega)) (by kernel_rfl) (by kernel_rfl) (by kernel_rfl) rfl rfl rfl rfl rfl (.inr (fun _ h => h)) ?_
  refine j_l (i := 3) rfl (y_ldV (enc := encV) (xs := xc) (fun w h => (hOc.rd fun p hp => h.at_ p (List.mem_cons_of_mem _ (mem_al mc hp))).rdl) rfl agg_32 (rdVal_at (by omega) (by omega))) (by kernel_rfl) (by kernel_rfl) (by kernel_rfl) (by kernel_rfl) rfl rfl rfl rfl rfl (.inr (fun _ h => h)) ?_
  refine j_l (i := 5) rfl (y_ldn 0 rfl rfl agg_56 size_56 rfl rfl) (by kernel_rfl) (by kernel_rfl) (by kernel_rfl) (by kernel_rfl) rfl rfl rfl rfl rfl (.inr (fun _ h => h)) ?_
  refine j_p (i := 6) rfl (y_move rfl) (by kernel_rfl) (by kernel_rfl) (by kernel_rfl) rfl rfl rfl rfl rfl (.inr (fun _ h => h)) ?_
  refine j_p (i := 7) rfl (y_idxO (enc := encV) rfl rfl hOc hEc Try.underlying60 size_32 (by omega) (by omega)) (by kernel_rfl) (by kernel_rfl) (by kernel_rfl) rfl rfl rfl rfl rfl (.inr (fun _ h => h)) ?_
  refine j_l (i := 8) rfl (y_ldV (enc := encV) (xs := xc) (fun w h => (hOc.rd fun p hp => h.at_ p (List.mem_cons_of_mem _ (mem_al mc hp))).rdl) rfl agg_32 (rdVal_at (by omega) (by omega))) (by kernel_rfl) (by kernel_rfl) (by kernel_rfl) (by kernel_rfl) rfl rfl rfl rfl rfl (.inr (fun _ h => h)) ?_
  refine j_tr (i := 4) rfl (t_callm (A := New _ _) rfl rfl ent_60 (fun w h => (powers_any w n (qOf n) (wOf n) _ (chL n a) hn hn2 (by omega) (by omega) (by omega) (by omega) (hr0.rd fun p hp => h.at_ p (List.mem_cons_of_mem _ (mem_al mc hp))) (chL_facts hn hn2 a).1 (chL_facts hn hn2 a).2).mono fun e w' ⟨b, h1, h2⟩ => ⟨b, ⟨Nat.le_trans h.below.size (h2.ge _ (List.mem_cons_self ..)), Nat.le_trans h.size (h2.ge _ (List.mem_cons_self ..))⟩, h1, h2⟩)) (by kernel_rfl) rfl rfl rfl rfl (.inr (fun x w hb h => (h.tail hb.2))) (fun bp hbp => ?_)
  refine j_tr (i := 9) rfl (t_callm (A := New _ _) rfl rfl ent_60 (fun w h => (powers_any w n (qOf n) (wOf n) _ (chL n b) hn hn2 (by omega) (by omega) (by omega) (by omega) (hr1.rd fun p hp => h.at_ p (List.mem_cons_of_mem _ (List.mem_cons_of_mem _ (mem_al mc hp)))) (chL_facts hn hn2 b).1 (chL_facts hn hn2 b).2).mono fun e w' ⟨b, h1, h2⟩ => ⟨b, ⟨Nat.le_trans h.below.size (h2.ge _ (List.mem_cons_self ..)), Nat.le_trans h.size (h2.ge _ (List.mem_cons_self ..))⟩, h1, h2⟩)) (by kernel_rfl) rfl rfl rfl rfl (.inr (fun x w hb h => ((h.tail hb.2).tail hbp.2))) (fun bq hbq => ?_)
  refine j_tr (i := 10) rfl (t_call rfl rfl ent_30 (fun w h => Equal_any w _ _ (powL (qOf n) (wOf n) n (chL n a)) (powL (qOf n) (wOf n) n (chL n b)) (RdV.own (jk := []) (at_of (i := 1) h rfl) (powL_len ..).symm (Nat.le_refl _)) (RdV.own (jk := []) (at_of (i := 0) h rfl) (powL_len ..).symm (Nat.le_refl _)) (by rw [powL_len]; omega))) (by kernel_rfl) rfl rfl rfl rfl (.inr (fun x w hb h => ((h.tail hbq.2).tail hbp.2))) (fun _ _ => ?_)
  refine j_p (i := 11) rfl (y_assign rfl) (by kernel_rfl) (by kernel_rfl) (by kernel_rfl) rfl rfl rfl rfl rfl (.inr (fun _ h => ((h.tail hbq.2).tail hbp.2))) ?_
  refine j_p (i := 12) rfl (y_assign rfl) (by kernel_rfl) (by kernel_rfl) (by kernel_rfl) rfl rfl rfl rfl rfl (.inr (fun _ h => ((h.tail hbq.2).tail hbp.2))) ?_
  refine j_nil (by kernel_rfl) ?_
  refine g_then ?_
  refine g_ret ?_
  exact g_end trivial (fun a w ha hq_ => res2 ha rfl rfl rfl  w) (fun w h => ⟨rfl, h.below⟩)

theorem Alike_no (w : World) (n a b : Int) (hno : ¬ (okC n a ∧ okC n b)) :
    Calls Try.prog 23 [.int .i64 n, .int .i64 a, .int .i64 b].toArray w fun e w' => e = .returned (.tuple #[.bool false, .int .i64 2]) ∧ Below w.heap.size w w' := by
  have hnot : ¬ ∀ s ∈ [a, b], okC n s := fun h_ => hno ⟨h_ a (by simp), h_ b (by simp)⟩
  obtain ⟨ie3, hi3⟩ := inf_3
  refine enter (N := 33) Try.func23 rfl rfl rfl ?_
  refine g_seq ?_
  refine g_region ?_
  refine s_y (y_assign rfl) rfl rfl rfl rfl ?_
  refine s_y (y_assign rfl) rfl rfl rfl rfl ?_
  refine s_nil ?_
  refine g_then ?_
  refine g_seq ?_
  refine g_region ?_
  refine s_y (y_move rfl) rfl rfl rfl rfl ?_
  refine s_y (y_move rfl) rfl rfl rfl rfl ?_
  refine s_y (y_move rfl) rfl rfl rfl rfl ?_
  refine s_tr (t_build (vs := [(0, .int .i64 a), (1, .int .i64 b)]) (cells := [.int .i64 a, .int .i64 b]) rfl rfl Try.underlying32 hi3.1 hi3.2.1 (by rw [hi3.2.2.1]; rfl) (by rw [hi3.2.2.1]; rfl) (by rw [hi3.2.2.1]; kernel_rfl)) rfl rfl rfl rfl (fun bl hbl => ?_)
  refine s_tr (t_callm rfl rfl ent_59 (fun w h => chords_no w n _ [a, b] (RdV.own (enc := (Value.int .i64)) (xs := [a, b]) (jk := []) (at_of (i := 0) h rfl) rfl (Nat.le_refl _)) (by simp) (by simp) hnot)) rfl rfl rfl rfl (fun xz _ => ?_)
  refine s_y (y_move rfl) rfl rfl rfl rfl ?_
  refine s_y (y_extract rfl rfl) rfl rfl rfl rfl ?_
  refine s_y (y_extract rfl rfl) rfl rfl rfl rfl ?_
  refine s_y (y_extract rfl rfl) rfl rfl rfl rfl ?_
  refine s_tr (t_alloc zero_56 rfl) rfl rfl rfl rfl (fun b1 hb1 => ?_)
  refine s_tr0 (t_store 0 rfl rfl rfl rfl size_56 rfl rfl) rfl rfl rfl (fun _ _ => ?_)
  refine s_y (y_assign rfl) rfl rfl rfl rfl ?_
  refine s_y (y_assign rfl) rfl rfl rfl rfl ?_
  refine s_nil ?_
  refine g_then ?_
  refine g_seq ?_
  refine g_seq ?_
  refine g_region ?_
  refine s_y (y_move rfl) rfl rfl rfl rfl ?_
  refine s_y (y_not_f rfl) rfl rfl rfl rfl ?_
  refine s_nil ?_
  refine g_then ?_
  refine g_cond_t rfl ?_
  refine g_seq ?_
  refine g_region ?_
  refine s_y (y_assign rfl) rfl rfl rfl rfl ?_
  refine s_y (y_assign rfl) rfl rfl rfl rfl ?_
  refine s_nil ?_
  refine g_then ?_
  refine g_ret ?_
  refine g_thenr ?_
  exact g_end trivial (fun a w ha hq_ => res2 ha rfl rfl rfl  w) (fun w h => ⟨rfl, h.below⟩)

theorem RChord_ok (w : World) (n : Nat) (c : Int) (hn : 2 ≤ n) (hn2 : n ≤ 16) (hc0 : 0 ≤ c) (hc1 : c < 2 ^ n) :
    Calls Try.prog 53 [.int .i64 (n : Int), .int .i64 c].toArray w fun e w' => ∃ x : Value × List (Nat × Obj), (OwnV (Value.int .i64) x.1 (chL n c) x.2 ∧ ∃ W : World, ∀ p ∈ x.2, W.heap[p.1]? = some p.2) ∧ e = .returned (x.1) ∧ Hq w w x.2 w' := by
  obtain ⟨hf1, hf2, hf3, hf4, hf5, hf6, hf7⟩ := q_facts hn hn2
  obtain ⟨ie3, hi3⟩ := inf_3
  refine enter (N := 20) Try.func53 rfl rfl rfl ?_
  refine g_seq ?_
  refine g_region ?_
  refine s_y (y_assign rfl) rfl rfl rfl rfl ?_
  refine s_nil ?_
  refine g_then ?_
  refine g_seq ?_
  refine g_region ?_
  refine s_y (y_assign rfl) rfl rfl rfl rfl ?_
  refine s_nil ?_
  refine g_then ?_
  refine g_seq ?_
  refine g_seq ?_
  refine g_region ?_
  refine s_y (y_move rfl) rfl rfl rfl rfl ?_
  refine s_y (y_move rfl) rfl rfl rfl rfl ?_
  refine s_nil ?_
  refine g_then ?_
  refine g_block ?_
  refine g_loop (fun (i : Nat) act W => i ≤ n ∧ ∃ (sv : SV) (zs : List Int) (w1 : World), (sv.ok 1 i (zs.map (Value.int .i64))) ∧ (zs = chL i c) ∧ Has 20 [] [(1, .int .i64 c), (4, .slice none 0 0), (5, sv.val i), (7, .int .i64 (n : Int)), (8, .int .i64 (i : Int))] act ∧ Hp w w1 ((sv.mem 3 (zs.map (Value.int .i64)) ++ ([]))) W) (fun i => n - i) 0 (fun act W ha hw => ⟨by omega, SV.nil, [], W, (by exact ⟨rfl, rfl⟩), (by rfl), ha.weak (sub_get ⟨rfl, rfl, rfl, rfl, rfl, trivial⟩), hw.toHq.lookSub (List.Sublist.refl _)⟩) ?_
  intro i act W ⟨hb_i, sv, zs, w1, hok5, hzs, ha, hw⟩
  refine g_go ha hw ?_
  clear ha hw act W
  have hp16 := pow_le hn2
  have hd := Int.ediv_nonneg hc0 (show (0 : Int) ≤ 2 ^ (i : Int).toNat from Int.pow_nonneg (by decide))
  have hd2 := Int.ediv_le_self (2 ^ (i : Int).toNat) hc0
  refine g_seq ?_
  refine g_region ?_
  refine s_y (y_lss rfl rfl) rfl rfl rfl rfl ?_
  refine s_nil ?_
  refine g_then ?_
  refine g_seq ?_
  refine g_cond rfl (fun cq1 => ?_) (fun cq1 => ?_)
  · (try simp at cq1)
    refine g_skip ?_
    refine g_then ?_
    refine g_seq ?_
    refine g_block ?_
    refine g_seq ?_
    refine g_region ?_
    refine s_y (y_move rfl) rfl rfl rfl rfl ?_
    refine s_y (y_assign rfl) rfl rfl rfl rfl ?_
    refine s_nil ?_
    refine g_then ?_
    refine g_region ?_
    refine s_y (y_move rfl) rfl rfl rfl rfl ?_
    refine s_y (y_move rfl) rfl rfl rfl rfl ?_
    refine s_y (y_move rfl) rfl rfl rfl rfl ?_
    refine s_y (y_shr rfl rfl (by omega) (by omega) (by omega)) rfl rfl rfl rfl ?_
    refine s_y (y_and rfl rfl (by omega) (by omega)) rfl rfl rfl rfl ?_
    refine s_tr (t_build (vs := [(0, .int .i64 (bitI c i))]) (cells := [.int .i64 (bitI c i)]) rfl rfl Try.underlying32 hi3.1 hi3.2.1 (by rw [hi3.2.2.1]; rfl) (by rw [hi3.2.2.1]; rfl) (by rw [hi3.2.2.1]; kernel_rfl)) rfl rfl rfl rfl (fun b2 hb2 => ?_)
    refine s_tr (t_appendL (enc := (Value.int .i64)) (sv := sv) (xs := zs) (n := i) (v := bitI c i) [_] _ rfl rfl rfl hok5 Try.underlying32 hi3.1 hi3.2.1 hi3.2.2.1 hi3.2.2.2 rfl (fun w h => h.toHq.cell (i := 0) rfl rfl) rfl (by omega) (by unfold maxLen; omega)) rfl rfl rfl rfl (fun y6 hy7 => ?_)
    obtain ⟨sv3, gs4⟩ := y6
    obtain ⟨hok5, hok5b, hok5c, hok5j, hok5e⟩ := hy7
    refine s_y (y_assign rfl) rfl rfl rfl rfl ?_
    refine s_nil ?_
    refine g_inb ?_
    refine g_then ?_
    refine g_region ?_
    refine s_y (y_add rfl rfl (by omega) (by omega)) rfl rfl rfl rfl ?_
    refine s_y (y_move rfl) rfl rfl rfl rfl ?_
    refine s_nil ?_
    refine g_then ?_
    exact fun act W ha hw => ⟨i + 1, by omega, by omega, sv3, (zs ++ [bitI c i]), W, (by exact hok5), (by rw [hzs]; exact chL_snoc.symm), ha.weak (sub_get ⟨rfl, rfl, rfl, rfl, rfl, trivial⟩), hw.toHq.lookSub (List.Sublist.cons _ (sub_app (sv3.mem 3 ((zs ++ [bitI c i]).map (Value.int .i64))) (List.nil_sublist _)))⟩
  · (try simp at cq1)
    refine g_exit ?_
    refine g_thenx ?_
    refine g_thenx ?_
    refine g_inbx ?_
    refine g_then ?_
    refine g_seq ?_
    refine g_region ?_
    refine s_y (y_move rfl) rfl rfl rfl rfl ?_
    refine s_y (y_assign rfl) rfl rfl rfl rfl ?_
    refine s_nil ?_
    refine g_then ?_
    refine g_ret ?_
    obtain rfl : i = n := by omega
    rw [show chL i c = zs from hzs.symm]
    exact g_end trivial (fun a w ha hq_ => res1 ha rfl rfl  w) (fun w h => ⟨(_, sv.mem 3 (zs.map (Value.int .i64))), ⟨(OwnV.sv hok5), w, (h.hand (sub_here (sv.mem 3 (zs.map (Value.int .i64))) _)).at_⟩, rfl, h.hand (sub_here (sv.mem 3 (zs.map (Value.int .i64))) _)⟩)

theorem RSilent_ok (w : World) (n : Nat) (c : Int) (hn : 2 ≤ n) (hn2 : n ≤ 16) (hc0 : 0 ≤ c) (hc1 : c < 2 ^ n) :
    Calls Try.prog 54 [.int .i64 (n : Int), .int .i64 c].toArray w fun e w' => e = .returned (.int .i64 (silI (turnL (qOf n) (wOf n) n (chL n c)) n)) ∧ Below w.heap.size w w' := by
  obtain ⟨hf1, hf2, hf3, hf4, hf5, hf6, hf7⟩ := q_facts hn hn2
  refine enter (N := 27) Try.func54 rfl rfl rfl ?_
  refine g_seq ?_
  refine g_region ?_
  refine s_y (y_assign rfl) rfl rfl rfl rfl ?_
  refine s_nil ?_
  refine g_then ?_
  refine g_seq ?_
  refine g_region ?_
  refine s_y (y_assign rfl) rfl rfl rfl rfl ?_
  refine s_nil ?_
  refine g_then ?_
  refine g_seq ?_
  refine g_seq ?_
  refine g_region ?_
  refine s_y (y_move rfl) rfl rfl rfl rfl ?_
  refine s_y (y_move rfl) rfl rfl rfl rfl ?_
  refine s_y (y_move rfl) rfl rfl rfl rfl ?_
  refine s_tr (t_callm rfl rfl ent_53 (fun w h => RChord_ok w n c hn hn2 hc0 hc1)) rfl rfl rfl rfl (fun x2 hx3 => ?_)
  obtain ⟨vo1, mo1⟩ := x2
  obtain ⟨hOo1, hEo1⟩ := hx3
  refine s_tr (t_callm (A := New _ _) rfl rfl ent_36 (fun w h => (RSpectrum_ok w n _ (chL n c) (hOo1.rd fun p hp => h.at_ p (mem_al mo1 hp)) hn hn2 (chL_ok hn hn2)).mono fun e w' ⟨b, h1, h2⟩ => ⟨b, ⟨Nat.le_trans h.below.size (h2.ge _ (List.mem_cons_self ..)), Nat.le_trans h.size (h2.ge _ (List.mem_cons_self ..))⟩, h1, h2⟩)) rfl rfl rfl rfl (fun bt hbt => ?_)
  refine s_y (y_lensl rfl sle_32) rfl rfl rfl rfl ?_
  refine s_y (y_move rfl) rfl rfl rfl rfl ?_
  refine s_nil ?_
  refine g_then ?_
  refine g_block ?_
  refine g_loop (fun (i : Nat) act W => i ≤ n ∧ ∃ (z : Int) (w1 : World), (z = silI (turnL (qOf n) (wOf n) n (chL n c)) i) ∧ Has 27 [] [(4, .int .i64 0), (5, .int .i64 z), (12, .slice (some ⟨bt, 0, none⟩) n n), (13, .int .i64 (n : Nat)), (14, .int .i64 (i : Int))] act ∧ Hp w w1 ((bt, .cells ((turnL (qOf n) (wOf n) n (chL n c)).map (Value.int .i64) ++ []).toArray 3 (0, 0)) :: (mo1 ++ ([]))) W) (fun i => n - i) 0 (fun act W ha hw => ⟨by omega, 0, W, (by rfl), ha.weak (sub_get ⟨rfl, rfl, rfl, rfl, rfl, trivial⟩), hw.toHq.lookSub (List.Sublist.refl _)⟩) ?_
  intro i act W ⟨hb_i, z, w1, hz, ha, hw⟩
  refine g_go ha hw ?_
  clear ha hw act W
  have hzr := sil_le (turnL (qOf n) (wOf n) n (chL n c)) (show i ≤ 16 by omega)
  rw [← hz] at hzr
  have h2i := two_i (i := i) (by omega)
  refine g_seq ?_
  refine g_region ?_
  refine s_y (y_lss rfl rfl) rfl rfl rfl rfl ?_
  refine s_nil ?_
  refine g_then ?_
  refine g_seq ?_
  refine g_cond rfl (fun cq4 => ?_) (fun cq4 => ?_)
  · (try simp at cq4)
    refine g_skip ?_
    refine g_then ?_
    refine g_seq ?_
    refine g_block ?_
    refine g_seq ?_
    have hlT : (turnL (qOf n) (wOf n) n (chL n c)).length = n := turnL_len
    refine g_region ?_
    refine s_y (y_move rfl) rfl rfl rfl rfl ?_
    refine s_y (y_idxb1 rfl rfl Try.underlying32 size_3 (by omega) (by omega)) rfl rfl rfl rfl ?_
    refine s_y (y_ldL (enc := (Value.int .i64)) (xs := turnL (qOf n) (wOf n) n (chL n c)) (jk := []) 0 rfl rfl agg_3 (rdI_at (by omega) (by omega))) rfl rfl rfl rfl ?_
    refine s_y (y_assign rfl) rfl rfl rfl rfl ?_
    refine s_y (y_assign rfl) rfl rfl rfl rfl ?_
    refine s_nil ?_
    refine g_then ?_
    refine g_seq ?_
    refine g_region ?_
    refine s_y (y_move rfl) rfl rfl rfl rfl ?_
    refine s_y (y_eql rfl rfl) rfl rfl rfl rfl ?_
    refine s_nil ?_
    refine g_then ?_
    refine g_cond rfl (fun cq5 => ?_) (fun cq5 => ?_)
    · (try simp at cq5)
      refine g_region ?_
      refine s_y (y_move rfl) rfl rfl rfl rfl ?_
      refine s_y (y_move rfl) rfl rfl rfl rfl ?_
      refine s_y (y_shl1 rfl rfl (by omega) (by omega)) rfl rfl rfl rfl ?_
      refine s_y (y_or rfl rfl (by omega) (by omega)) rfl rfl rfl rfl ?_
      refine s_y (y_assign rfl) rfl rfl rfl rfl ?_
      refine s_nil ?_
      refine g_inb ?_
      refine g_then ?_
      refine g_region ?_
      refine s_y (y_add rfl rfl (by omega) (by omega)) rfl rfl rfl rfl ?_
      refine s_y (y_move rfl) rfl rfl rfl rfl ?_
      refine s_nil ?_
      refine g_then ?_
      exact fun act W ha hw => ⟨i + 1, by omega, by omega, ((z : Int).toNat ||| (2 ^ ((i : Int) : Int).toNat : Int).toNat : Nat), W, (by simp only [silI]; rw [← hz]; first | rw [if_pos (by omega)] | rw [if_neg (by omega)]), ha.weak (sub_get ⟨rfl, rfl, rfl, rfl, rfl, trivial⟩), hw.toHq.lookSub (List.Sublist.refl _)⟩
    · (try simp at cq5)
      refine g_skip ?_
      refine g_inb ?_
      refine g_then ?_
      refine g_region ?_
      refine s_y (y_add rfl rfl (by omega) (by omega)) rfl rfl rfl rfl ?_
      refine s_y (y_move rfl) rfl rfl rfl rfl ?_
      refine s_nil ?_
      refine g_then ?_
      exact fun act W ha hw => ⟨i + 1, by omega, by omega, z, W, (by simp only [silI]; rw [← hz]; first | rw [if_pos (by omega)] | rw [if_neg (by omega)]), ha.weak (sub_get ⟨rfl, rfl, rfl, rfl, rfl, trivial⟩), hw.toHq.lookSub (List.Sublist.refl _)⟩
  · (try simp at cq4)
    refine g_exit ?_
    refine g_thenx ?_
    refine g_thenx ?_
    refine g_inbx ?_
    refine g_then ?_
    refine g_seq ?_
    refine g_region ?_
    refine s_y (y_move rfl) rfl rfl rfl rfl ?_
    refine s_y (y_assign rfl) rfl rfl rfl rfl ?_
    refine s_nil ?_
    refine g_then ?_
    refine g_ret ?_
    obtain rfl : i = n := by omega
    subst hz
    exact g_end trivial (fun a w ha hq_ => res1 ha rfl rfl  w) (fun w h => ⟨rfl, h.below⟩)

theorem RAlike_ok (w : World) (n : Nat) (a b : Int) (hn : 2 ≤ n) (hn2 : n ≤ 16) (ha_0 : 0 ≤ a) (ha_1 : a < 2 ^ n) (hb_0 : 0 ≤ b) (hb_1 : b < 2 ^ n) :
    Calls Try.prog 25 [.int .i64 (n : Int), .int .i64 a, .int .i64 b].toArray w fun e w' => e = .returned (.bool (decide (powL (qOf n) (wOf n) n (chL n a) = powL (qOf n) (wOf n) n (chL n b)))) ∧ Below w.heap.size w w' := by
  obtain ⟨hf1, hf2, hf3, hf4, hf5, hf6, hf7⟩ := q_facts hn hn2
  refine enter (N := 33) Try.func25 rfl rfl rfl ?_
  refine g_seq ?_
  refine g_region ?_
  refine s_y (y_assign rfl) rfl rfl rfl rfl ?_
  refine s_nil ?_
  refine g_then ?_
  refine g_seq ?_
  refine g_region ?_
  refine s_y (y_move rfl) rfl rfl rfl rfl ?_
  refine s_y (y_move rfl) rfl rfl rfl rfl ?_
  refine s_y (y_move rfl) rfl rfl rfl rfl ?_
  refine s_tr (t_callm rfl rfl ent_53 (fun w h => RChord_ok w n b hn hn2 hb_0 hb_1)) rfl rfl rfl rfl (fun x2 hx3 => ?_)
  obtain ⟨vo1, mo1⟩ := x2
  obtain ⟨hOo1, hEo1⟩ := hx3
  refine s_tr (t_callm (A := New _ _) rfl rfl ent_38 (fun w h => (RPower_ok w n _ (chL n b) (hOo1.rd fun p hp => h.at_ p (mem_al mo1 hp)) hn hn2 (chL_ok hn hn2)).mono fun e w' ⟨b, h1, h2⟩ => ⟨b, ⟨Nat.le_trans h.below.size (h2.ge _ (List.mem_cons_self ..)), Nat.le_trans h.size (h2.ge _ (List.mem_cons_self ..))⟩, h1, h2⟩)) rfl rfl rfl rfl (fun bq hbq => ?_)
  refine s_y (y_assign rfl) rfl rfl rfl rfl ?_
  refine s_nil ?_
  refine g_then ?_
  refine g_seq ?_
  refine g_seq ?_
  refine g_region ?_
  refine s_y (y_move rfl) rfl rfl rfl rfl ?_
  refine s_y (y_move rfl) rfl rfl rfl rfl ?_
  refine s_y (y_move rfl) rfl rfl rfl rfl ?_
  refine s_tr (t_callm rfl rfl ent_53 (fun w h => RChord_ok w n a hn hn2 ha_0 ha_1)) rfl rfl rfl rfl (fun x5 hx6 => ?_)
  obtain ⟨vo4, mo4⟩ := x5
  obtain ⟨hOo4, hEo4⟩ := hx6
  refine s_tr (t_callm (A := New _ _) rfl rfl ent_38 (fun w h => (RPower_ok w n _ (chL n a) (hOo4.rd fun p hp => h.at_ p (mem_al mo4 hp)) hn hn2 (chL_ok hn hn2)).mono fun e w' ⟨b, h1, h2⟩ => ⟨b, ⟨Nat.le_trans h.below.size (h2.ge _ (List.mem_cons_self ..)), Nat.le_trans h.size (h2.ge _ (List.mem_cons_self ..))⟩, h1, h2⟩)) rfl rfl rfl rfl (fun bp hbp => ?_)
  refine s_y (y_lensl rfl sle_32) rfl rfl rfl rfl ?_
  refine s_y (y_move rfl) rfl rfl rfl rfl ?_
  refine s_nil ?_
  refine g_then ?_
  refine g_block ?_
  refine g_loop (fun (i : Nat) act W => i ≤ n ∧ ∃ (w1 : World), (∀ k : Nat, k < i → rdI (powL (qOf n) (wOf n) n (chL n a)) (k : Int) = rdI (powL (qOf n) (wOf n) n (chL n b)) (k : Int)) ∧ Has 33 [] [(7, .slice (some ⟨bq, 0, none⟩) n n), (19, .slice (some ⟨bp, 0, none⟩) n n), (20, .int .i64 (n : Nat)), (21, .int .i64 (i : Int))] act ∧ Hp w w1 ((bp, .cells ((powL (qOf n) (wOf n) n (chL n a)).map (Value.int .i64) ++ []).toArray 3 (0, 0)) :: (mo4 ++ ((bq, .cells ((powL (qOf n) (wOf n) n (chL n b)).map (Value.int .i64) ++ []).toArray 3 (0, 0)) :: (mo1 ++ ([]))))) W) (fun i => n - i) 0 (fun act W ha hw => ⟨by omega, W, (by intro k hk; omega), ha.weak (sub_get ⟨rfl, rfl, rfl, rfl, trivial⟩), hw.toHq.lookSub (List.Sublist.refl _)⟩) ?_
  intro i act W ⟨hb_i, w1, hall, ha, hw⟩
  refine g_go ha hw ?_
  clear ha hw act W
  refine g_seq ?_
  refine g_region ?_
  refine s_y (y_lss rfl rfl) rfl rfl rfl rfl ?_
  refine s_nil ?_
  refine g_then ?_
  refine g_seq ?_
  refine g_cond rfl (fun cq7 => ?_) (fun cq7 => ?_)
  · (try simp at cq7)
    refine g_skip ?_
    refine g_then ?_
    refine g_seq ?_
    refine g_block ?_
    refine g_seq ?_
    have hlP : (powL (qOf n) (wOf n) n (chL n a)).length = n := powL_len
    have hlQ : (powL (qOf n) (wOf n) n (chL n b)).length = n := powL_len
    refine g_region ?_
    refine s_y (y_move rfl) rfl rfl rfl rfl ?_
    refine s_y (y_idxb1 rfl rfl Try.underlying32 size_3 (by omega) (by omega)) rfl rfl rfl rfl ?_
    refine s_y (y_ldL (enc := (Value.int .i64)) (xs := powL (qOf n) (wOf n) n (chL n a)) (jk := []) 0 rfl rfl agg_3 (rdI_at (by omega) (by omega))) rfl rfl rfl rfl ?_
    refine s_y (y_assign rfl) rfl rfl rfl rfl ?_
    refine s_y (y_assign rfl) rfl rfl rfl rfl ?_
    refine s_nil ?_
    refine g_then ?_
    refine g_seq ?_
    refine g_region ?_
    refine s_y (y_move rfl) rfl rfl rfl rfl ?_
    refine s_y (y_move rfl) rfl rfl rfl rfl ?_
    refine s_y (y_move rfl) rfl rfl rfl rfl ?_
    refine s_y (y_idxb1 rfl rfl Try.underlying32 size_3 (by omega) (by omega)) rfl rfl rfl rfl ?_
    refine s_y (y_ldML (enc := (Value.int .i64)) (xs := powL (qOf n) (wOf n) n (chL n b)) (jk := []) (List.mem_cons_of_mem _ (mem_ar mo4 (List.mem_cons_self ..))) rfl agg_3 (rdI_at (by omega) (by omega))) rfl rfl rfl rfl ?_
    refine s_y (y_neq rfl rfl) rfl rfl rfl rfl ?_
    refine s_nil ?_
    refine g_then ?_
    refine g_cond rfl (fun cq8 => ?_) (fun cq8 => ?_)
    · (try simp at cq8)
      have hne : powL (qOf n) (wOf n) n (chL n a) ≠ powL (qOf n) (wOf n) n (chL n b) := fun h => cq8 (by rw [h])
      refine g_seq ?_
      refine g_region ?_
      refine s_y (y_assign rfl) rfl rfl rfl rfl ?_
      refine s_nil ?_
      refine g_then ?_
      refine g_ret ?_
      refine g_inbr ?_
      refine g_thenr ?_
      refine g_thenr ?_
      refine g_inbr ?_
      refine g_thenr ?_
      rw [decide_eq_false hne]
      exact g_end trivial (fun a w ha hq_ => res1 ha rfl rfl  w) (fun w h => ⟨rfl, h.below⟩)
    · (try simp at cq8)
      have heq_ : rdI (powL (qOf n) (wOf n) n (chL n a)) (i : Int) = rdI (powL (qOf n) (wOf n) n (chL n b)) (i : Int) := by first | exact cq8 | omega
      refine g_skip ?_
      refine g_inb ?_
      refine g_then ?_
      refine g_region ?_
      refine s_y (y_add rfl rfl (by omega) (by omega)) rfl rfl rfl rfl ?_
      refine s_y (y_move rfl) rfl rfl rfl rfl ?_
      refine s_nil ?_
      refine g_then ?_
      exact fun act W ha hw => ⟨i + 1, by omega, by omega, W, (by intro k hk; rcases Nat.lt_or_ge k i with h | h; exact hall k h; rw [show k = i by omega]; exact heq_), ha.weak (sub_get ⟨rfl, rfl, rfl, rfl, trivial⟩), hw.toHq.lookSub (List.Sublist.refl _)⟩
  · (try simp at cq7)
    refine g_exit ?_
    refine g_thenx ?_
    refine g_thenx ?_
    refine g_inbx ?_
    refine g_then ?_
    refine g_seq ?_
    refine g_region ?_
    refine s_y (y_assign rfl) rfl rfl rfl rfl ?_
    refine s_nil ?_
    refine g_then ?_
    refine g_ret ?_
    obtain rfl : i = n := by omega
    rw [decide_eq_true (rdI_ext (xs := powL (qOf i) (wOf i) i (chL i a)) (ys := powL (qOf i) (wOf i) i (chL i b)) (by rw [powL_len, powL_len]) fun j hj => hall j (by rw [powL_len] at hj; exact hj))]
    exact g_end trivial (fun a w ha hq_ => res1 ha rfl rfl  w) (fun w h => ⟨rfl, h.below⟩)

theorem WheelsAlike_ok (w : World) (n : Nat) (a b : Int) (hn : 2 ≤ n) (hn2 : n ≤ 16) (ha_0 : 0 ≤ a) (ha_1 : a < 2 ^ n) (hb_0 : 0 ≤ b) (hb_1 : b < 2 ^ n) :
    Calls Try.prog 4 [.int .i64 (n : Int), .int .i64 a, .int .i64 b].toArray w fun e w' => e = .returned (.bool true) ∧ Below w.heap.size w w' := by
  refine enter (N := 48) Try.func4 rfl rfl rfl ?_
  refine g_seq ?_
  refine g_region ?_
  refine s_y (y_assign rfl) rfl rfl rfl rfl ?_
  refine s_nil ?_
  refine g_then ?_
  refine g_seq ?_
  refine g_region ?_
  refine s_y (y_move rfl) rfl rfl rfl rfl ?_
  refine s_y (y_move rfl) rfl rfl rfl rfl ?_
  refine s_y (y_move rfl) rfl rfl rfl rfl ?_
  refine s_tr (t_call rfl rfl ent_23 (fun w h => Alike_ok w n a b hn hn2 ha_0 ha_1 hb_0 hb_1)) rfl rfl rfl rfl (fun _ _ => ?_)
  refine s_y (y_move rfl) rfl rfl rfl rfl ?_
  refine s_y (y_extract rfl rfl) rfl rfl rfl rfl ?_
  refine s_y (y_extract rfl rfl) rfl rfl rfl rfl ?_
  refine s_y (y_assign rfl) rfl rfl rfl rfl ?_
  refine s_y (y_assign rfl) rfl rfl rfl rfl ?_
  refine s_nil ?_
  refine g_then ?_
  refine g_seq ?_
  refine g_seq ?_
  refine g_region ?_
  refine s_y (y_move rfl) rfl rfl rfl rfl ?_
  refine s_y (y_move rfl) rfl rfl rfl rfl ?_
  refine s_tr (t_call rfl rfl ent_24 (fun w h => Valid_t w n a hn hn2 ha_0 ha_1)) rfl rfl rfl rfl (fun _ _ => ?_)
  refine s_y (y_not_t rfl) rfl rfl rfl rfl ?_
  refine s_y (y_move rfl) rfl rfl rfl rfl ?_
  refine s_y (y_move rfl) rfl rfl rfl rfl ?_
  refine s_y (y_move rfl) rfl rfl rfl rfl ?_
  refine s_tr (t_call rfl rfl ent_24 (fun w h => Valid_t w n b hn hn2 hb_0 hb_1)) rfl rfl rfl rfl (fun _ _ => ?_)
  refine s_y (y_not_t rfl) rfl rfl rfl rfl ?_
  refine s_y (y_pick_f rfl rfl) rfl rfl rfl rfl ?_
  refine s_nil ?_
  refine g_then ?_
  refine g_cond_f rfl ?_
  refine g_skip ?_
  refine g_then ?_
  refine g_seq ?_
  refine g_region ?_
  refine s_y (y_move rfl) rfl rfl rfl rfl ?_
  refine s_y (y_move rfl) rfl rfl rfl rfl ?_
  refine s_y (y_move rfl) rfl rfl rfl rfl ?_
  refine s_y (y_move rfl) rfl rfl rfl rfl ?_
  refine s_tr (t_call rfl rfl ent_25 (fun w h => RAlike_ok w n a b hn hn2 ha_0 ha_1 hb_0 hb_1)) rfl rfl rfl rfl (fun _ _ => ?_)
  refine s_y (y_beql_t rfl rfl Try.underlying4 rfl) rfl rfl rfl rfl ?_
  refine s_y (y_move rfl) rfl rfl rfl rfl ?_
  refine s_y (y_move rfl) rfl rfl rfl rfl ?_
  refine s_y (y_eql_t rfl rfl (by decide)) rfl rfl rfl rfl ?_
  refine s_y (y_pick_t rfl rfl) rfl rfl rfl rfl ?_
  refine s_y (y_move rfl) rfl rfl rfl rfl ?_
  refine s_tr (t_call rfl rfl ent_20 (fun w h => awake_t w)) rfl rfl rfl rfl (fun _ _ => ?_)
  refine s_y (y_pick_t rfl rfl) rfl rfl rfl rfl ?_
  refine s_y (y_assign rfl) rfl rfl rfl rfl ?_
  refine s_nil ?_
  refine g_then ?_
  refine g_ret ?_
  exact g_end trivial (fun a w ha hq_ => res1 ha rfl rfl  w) (fun w h => ⟨rfl, h.below⟩)

theorem WheelsAlike_no1 (w : World) (n a b : Int) (hno1 : ¬ okC n a) :
    Calls Try.prog 4 [.int .i64 n, .int .i64 a, .int .i64 b].toArray w fun e w' => e = .returned (.bool true) ∧ Below w.heap.size w w' := by
  have hnot : ¬ (okC n a ∧ okC n b) := fun h => hno1 h.1
  refine enter (N := 48) Try.func4 rfl rfl rfl ?_
  refine g_seq ?_
  refine g_region ?_
  refine s_y (y_assign rfl) rfl rfl rfl rfl ?_
  refine s_nil ?_
  refine g_then ?_
  refine g_seq ?_
  refine g_region ?_
  refine s_y (y_move rfl) rfl rfl rfl rfl ?_
  refine s_y (y_move rfl) rfl rfl rfl rfl ?_
  refine s_y (y_move rfl) rfl rfl rfl rfl ?_
  refine s_tr (t_call rfl rfl ent_23 (fun w h => Alike_no w n a b hnot)) rfl rfl rfl rfl (fun _ _ => ?_)
  refine s_y (y_move rfl) rfl rfl rfl rfl ?_
  refine s_y (y_extract rfl rfl) rfl rfl rfl rfl ?_
  refine s_y (y_extract rfl rfl) rfl rfl rfl rfl ?_
  refine s_y (y_assign rfl) rfl rfl rfl rfl ?_
  refine s_y (y_assign rfl) rfl rfl rfl rfl ?_
  refine s_nil ?_
  refine g_then ?_
  refine g_seq ?_
  refine g_seq ?_
  refine g_region ?_
  refine s_y (y_move rfl) rfl rfl rfl rfl ?_
  refine s_y (y_move rfl) rfl rfl rfl rfl ?_
  refine s_tr (t_call rfl rfl ent_24 (fun w h => Valid_f w n a hno1)) rfl rfl rfl rfl (fun _ _ => ?_)
  refine s_y (y_not_f rfl) rfl rfl rfl rfl ?_
  refine s_y (y_move rfl) rfl rfl rfl rfl ?_
  refine s_no rfl rfl rfl ?_
  refine s_no rfl rfl rfl ?_
  refine s_no rfl rfl rfl ?_
  refine s_no rfl rfl rfl ?_
  refine s_y (y_pick_t rfl rfl) rfl rfl rfl rfl ?_
  refine s_nil ?_
  refine g_then ?_
  refine g_cond_t rfl ?_
  refine g_seq ?_
  refine g_region ?_
  refine s_y (y_move rfl) rfl rfl rfl rfl ?_
  refine s_y (y_not_f rfl) rfl rfl rfl rfl ?_
  refine s_y (y_move rfl) rfl rfl rfl rfl ?_
  refine s_y (y_move rfl) rfl rfl rfl rfl ?_
  refine s_y (y_eql_t rfl rfl (by decide)) rfl rfl rfl rfl ?_
  refine s_y (y_pick_t rfl rfl) rfl rfl rfl rfl ?_
  refine s_y (y_move rfl) rfl rfl rfl rfl ?_
  refine s_tr (t_call rfl rfl ent_20 (fun w h => awake_t w)) rfl rfl rfl rfl (fun _ _ => ?_)
  refine s_y (y_pick_t rfl rfl) rfl rfl rfl rfl ?_
  refine s_y (y_assign rfl) rfl rfl rfl rfl ?_
  refine s_nil ?_
  refine g_then ?_
  refine g_ret ?_
  refine g_thenr ?_
  exact g_end trivial (fun a w ha hq_ => res1 ha rfl rfl  w) (fun w h => ⟨rfl, h.below⟩)

theorem WheelsAlike_no2 (w : World) (n a b : Int) (hyes : okC n a) (hno2 : ¬ okC n b) :
    Calls Try.prog 4 [.int .i64 n, .int .i64 a, .int .i64 b].toArray w fun e w' => e = .returned (.bool true) ∧ Below w.heap.size w w' := by
  have hnot : ¬ (okC n a ∧ okC n b) := fun h => hno2 h.2
  refine enter (N := 48) Try.func4 rfl rfl rfl ?_
  refine g_seq ?_
  refine g_region ?_
  refine s_y (y_assign rfl) rfl rfl rfl rfl ?_
  refine s_nil ?_
  refine g_then ?_
  refine g_seq ?_
  refine g_region ?_
  refine s_y (y_move rfl) rfl rfl rfl rfl ?_
  refine s_y (y_move rfl) rfl rfl rfl rfl ?_
  refine s_y (y_move rfl) rfl rfl rfl rfl ?_
  refine s_tr (t_call rfl rfl ent_23 (fun w h => Alike_no w n a b hnot)) rfl rfl rfl rfl (fun _ _ => ?_)
  refine s_y (y_move rfl) rfl rfl rfl rfl ?_
  refine s_y (y_extract rfl rfl) rfl rfl rfl rfl ?_
  refine s_y (y_extract rfl rfl) rfl rfl rfl rfl ?_
  refine s_y (y_assign rfl) rfl rfl rfl rfl ?_
  refine s_y (y_assign rfl) rfl rfl rfl rfl ?_
  refine s_nil ?_
  refine g_then ?_
  refine g_seq ?_
  refine g_seq ?_
  refine g_region ?_
  refine s_y (y_move rfl) rfl rfl rfl rfl ?_
  refine s_y (y_move rfl) rfl rfl rfl rfl ?_
  refine s_tr (t_call rfl rfl ent_24 (fun w h => Valid_tI w n a hyes)) rfl rfl rfl rfl (fun _ _ => ?_)
  refine s_y (y_not_t rfl) rfl rfl rfl rfl ?_
  refine s_y (y_move rfl) rfl rfl rfl rfl ?_
  refine s_y (y_move rfl) rfl rfl rfl rfl ?_
  refine s_y (y_move rfl) rfl rfl rfl rfl ?_
  refine s_tr (t_call rfl rfl ent_24 (fun w h => Valid_f w n b hno2)) rfl rfl rfl rfl (fun _ _ => ?_)
  refine s_y (y_not_f rfl) rfl rfl rfl rfl ?_
  refine s_y (y_pick_f rfl rfl) rfl rfl rfl rfl ?_
  refine s_nil ?_
  refine g_then ?_
  refine g_cond_t rfl ?_
  refine g_seq ?_
  refine g_region ?_
  refine s_y (y_move rfl) rfl rfl rfl rfl ?_
  refine s_y (y_not_f rfl) rfl rfl rfl rfl ?_
  refine s_y (y_move rfl) rfl rfl rfl rfl ?_
  refine s_y (y_move rfl) rfl rfl rfl rfl ?_
  refine s_y (y_eql_t rfl rfl (by decide)) rfl rfl rfl rfl ?_
  refine s_y (y_pick_t rfl rfl) rfl rfl rfl rfl ?_
  refine s_y (y_move rfl) rfl rfl rfl rfl ?_
  refine s_tr (t_call rfl rfl ent_20 (fun w h => awake_t w)) rfl rfl rfl rfl (fun _ _ => ?_)
  refine s_y (y_pick_t rfl rfl) rfl rfl rfl rfl ?_
  refine s_y (y_assign rfl) rfl rfl rfl rfl ?_
  refine s_nil ?_
  refine g_then ?_
  refine g_ret ?_
  refine g_thenr ?_
  exact g_end trivial (fun a w ha hq_ => res1 ha rfl rfl  w) (fun w h => ⟨rfl, h.below⟩)

theorem WheelsAlike_law (w : World) (n a b : Int) (_ : (Lit.int .i64 n).wf = true) (_ : (Lit.int .i64 a).wf = true) (_ : (Lit.int .i64 b).wf = true) : Calls Try.prog 4 [.int .i64 n, .int .i64 a, .int .i64 b].toArray w fun e w' => e = .returned (.bool true) ∧ Below w.heap.size w w' := by
  by_cases h : okC n a
  · by_cases h' : okC n b
    · have h1 := h.1.1
      have h2 := h.1.2
      obtain ⟨m, rfl⟩ := Int.eq_ofNat_of_zero_le (show 0 ≤ n by omega)
      exact WheelsAlike_ok w m a b (by omega) (by omega) h.2.1 h.2.2 h'.2.1 h'.2.2
    · exact WheelsAlike_no2 w n a b h h'
  · exact WheelsAlike_no1 w n a b h

end Go.Proofs.Ytncenmgkdodioaa
