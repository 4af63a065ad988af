/- wheels: Solve. -/
import Derived.Test.YtncenmgkdodioaaWhT
namespace Go.Proofs.Ytncenmgkdodioaa
open Go.RowKit Go.Sx Go.Wh Go.Dft
set_option linter.unusedVariables false
set_option linter.unusedSimpArgs false
set_option maxRecDepth 100000
set_option maxHeartbeats 4000000

private theorem inf_3 : ∃ ie, Try.prog.info? 3 = some ie ∧ ie.zero = some (.int .i64 0) ∧ ie.size = 1 ∧ ie.bytes = 8 := info_of (by kernel_rfl) (by kernel_rfl)
private theorem agg_32 : isAggB Try.prog 32 = some false := by kernel_rfl
private theorem ent_59 : Enters Try.prog 59 := enters_of Try.func59 (by kernel_rfl) rfl
private theorem zero_56 : (Try.prog.info? 56).bind (·.zero) = some (.agg #[(.int .i64 0), (.int .i64 0), (.int .i64 0)]) := by kernel_rfl
private theorem size_56 : (Try.prog.info? 56).map (·.size) = some 3 := by kernel_rfl
private theorem sle_32 : Try.prog.underlying 32 = some (.slice (Try.prog.elem 32)) := by kernel_rfl
private theorem zero_64 : (Try.prog.info? 64).bind (·.zero) = some .nilFunc := by kernel_rfl
private theorem size_64 : (Try.prog.info? 64).map (·.size) = some 1 := by kernel_rfl
private theorem agg_64 : isAggB Try.prog 64 = some false := by kernel_rfl
private theorem ent_69 : Enters Try.prog 69 := enters_of Try.func69 (by kernel_rfl) rfl

theorem sch_len (ls : List Int) : ∀ (k i left : Nat) (r : List Int), sch ls k i left = some r → r.length ≤ k
  | 0, i, left, r, h => by
    simp only [sch] at h
    split at h
    · cases h; exact Nat.le_refl _
    · cases h
  | k + 1, i, left, r, h => by
    by_cases h0 : left = 0
    · subst h0; rw [sch_left] at h; cases h; exact Nat.zero_le _
    · by_cases hf : wo (rdI ls (i : Int)).toNat left = 0
      · rcases sch_way h0 hf h with ⟨_, rfl⟩ | ⟨r', _, h2, rfl⟩ | ⟨_, h2⟩
        · simp
        · have := sch_len ls k (i + 1) _ r' h2; simp; omega
        · have := sch_len ls k (i + 1) _ r h2; omega
      · rw [sch_skip h0 hf] at h
        have := sch_len ls k (i + 1) _ r h; omega

theorem Solve_zero (w : World) (n : Nat) (hn : 2 ≤ n) (hn2 : n ≤ 16) (tg : Nat) (lv : Value) (ls : List Int) (hl : RdV (Value.int .i64) w lv ls) (hcs : ∀ s ∈ [(tg : Int)] ++ ls, 0 ≤ s ∧ s < 2 ^ n) (hll : ls.length ≤ 10) (h0 : tg = 0) :
    Calls Try.prog 44 [.int .i64 (n : Int), .int .i64 (tg : Int), lv].toArray w fun e w' => e = .returned (.tuple #[.slice none 0 0, .int .i64 0]) ∧ Below w.heap.size w w' := by
  have hp16 := pow_le hn2
  have hls : ∀ s ∈ ls, 0 ≤ s ∧ s < 65536 := fun s hs => by have h1 := hcs s (by simp [hs]); omega
  have htg : tg < 65536 := by have h1 := hcs (tg : Int) (by simp); omega
  obtain ⟨ie3, hi3⟩ := inf_3
  refine enter (N := 41) Try.func44 rfl rfl rfl ?_
  refine g_seq ?_
  refine g_region ?_
  refine s_tr (t_box rfl hl.cells1) rfl rfl rfl rfl (fun bl hbl => ?_)
  refine s_y (y_assign rfl) rfl rfl rfl rfl ?_
  refine s_y (y_assign rfl) rfl rfl rfl rfl ?_
  refine s_nil ?_
  refine g_then ?_
  refine g_seq ?_
  refine g_seq ?_
  refine g_region ?_
  refine s_y (y_move rfl) rfl rfl rfl rfl ?_
  refine s_y (y_move rfl) rfl rfl rfl rfl ?_
  refine s_tr (t_build (vs := [(0, .int .i64 (tg : Int))]) (cells := [.int .i64 (tg : Int)]) rfl rfl Try.underlying32 hi3.1 hi3.2.1 (by rw [hi3.2.2.1]; rfl) (by rw [hi3.2.2.1]; rfl) (by rw [hi3.2.2.1]; kernel_rfl)) rfl rfl rfl rfl (fun bs hbs => ?_)
  have hok17 : (SV.own bs 1 []).ok 1 1 ([(tg : Int)].map (Value.int .i64)) := ⟨Nat.le_refl _, by unfold maxLen; omega, rfl, rfl⟩
  refine s_y (y_ldM (mem_ar ((SV.own bs 1 []).mem 3 (([(tg : Int)]).map (Value.int .i64))) (List.mem_cons_self ..)) rfl agg_32 rfl) rfl rfl rfl rfl ?_
  refine s_tr (t_appendR0 (enc := (Value.int .i64)) (sv := (SV.own bs 1 [])) (xs := [(tg : Int)]) (ys := ls) (n := 1)  _ rfl rfl rfl hok17 Try.underlying32 hi3.1 hi3.2.1 hi3.2.2.1 hi3.2.2.2 rfl (fun w h => (hl.below h.below)) (fun _ => rfl) (by omega) (by unfold maxLen; omega)) rfl rfl rfl rfl (fun y3 hok2 => ?_)
  obtain ⟨svt, gs1⟩ := y3
  refine s_tr (t_callm rfl rfl ent_59 (fun w h => chords_ok w n _ (([(tg : Int)]) ++ ls) (RdV.sv (e := 3) hok2 fun p hp => h.at_ p (mem_al (svt.mem 3 ((([(tg : Int)]) ++ ls).map (Value.int .i64))) hp)) (by simp; omega) hn hn2 hcs)) rfl rfl rfl rfl (fun xx hxx => ?_)
  obtain ⟨vc, xc, mc⟩ := xx
  refine s_y (y_move rfl) rfl rfl rfl rfl ?_
  refine s_y (y_extract rfl rfl) rfl rfl rfl rfl ?_
  refine s_y (y_extract rfl rfl) rfl rfl rfl rfl ?_
  refine s_y (y_extract rfl rfl) rfl rfl rfl rfl ?_
  refine s_tr (t_alloc zero_56 rfl) rfl rfl rfl rfl (fun b4 hb4 => ?_)
  refine s_tr0 (t_store 0 rfl rfl rfl rfl size_56 rfl rfl) rfl rfl rfl (fun _ _ => ?_)
  refine s_y (y_assign rfl) rfl rfl rfl rfl ?_
  refine s_y (y_assign rfl) rfl rfl rfl rfl ?_
  refine s_nil ?_
  refine g_then ?_
  refine g_seq ?_
  refine g_region ?_
  refine s_y (y_move rfl) rfl rfl rfl rfl ?_
  refine s_y (y_not_t rfl) rfl rfl rfl rfl ?_
  refine s_y (y_move rfl) rfl rfl rfl rfl ?_
  refine s_y (y_ldM (List.mem_cons_of_mem _ (mem_ar mc (mem_ar (svt.mem 3 ((([(tg : Int)]) ++ ls).map (Value.int .i64))) (mem_ar gs1 (List.mem_cons_self ..))))) rfl agg_32 rfl) rfl rfl rfl rfl ?_
  refine s_y (y_lenV (n := ls.length) rfl (by obtain ⟨A, c, h1, _⟩ := hl; exact ⟨A, c, h1⟩) sle_32) rfl rfl rfl rfl ?_
  refine s_y (y_gtr_f rfl rfl (by omega)) rfl rfl rfl rfl ?_
  refine s_y (y_pick_f rfl rfl) rfl rfl rfl rfl ?_
  refine s_nil ?_
  refine g_then ?_
  refine g_cond_f rfl ?_
  refine g_skip ?_
  refine g_then ?_
  refine g_seq ?_
  refine g_region ?_
  refine s_tr (t_alloc zero_64 rfl) rfl rfl rfl rfl (fun bg hbg => ?_)
  refine s_nil ?_
  refine g_then ?_
  refine g_seq ?_
  refine g_region ?_
  refine s_y (y_func rfl rfl) rfl rfl rfl rfl ?_
  refine s_tr0 (t_store 0 rfl rfl rfl rfl size_64 rfl rfl) rfl rfl rfl (fun _ _ => ?_)
  refine s_nil ?_
  refine g_then ?_
  refine g_seq ?_
  refine g_region ?_
  refine s_y (y_ld1 0 rfl rfl agg_64 rfl) rfl rfl rfl rfl ?_
  refine s_y (y_move rfl) rfl rfl rfl rfl ?_
  refine s_tr (t_callc (cap := [.pointer (some ⟨bl, 0, none⟩), .pointer (some ⟨bg, 0, none⟩)]) rfl rfl ent_69 (fun w h => Gsolve_0 w tg 0 bl bg lv ls none 0 [] (hl.below h.below) RdV.nil hls (by omega) htg (h.at_ _ (List.mem_cons_of_mem _ (List.mem_cons_of_mem _ (mem_ar mc (mem_ar (svt.mem 3 ((([(tg : Int)]) ++ ls).map (Value.int .i64))) (mem_ar gs1 (List.mem_cons_self ..))))))) (h.at_ _ (List.mem_cons_self ..)) (by omega) (by simp; omega) h0)) rfl rfl rfl rfl (fun _ _ => ?_)
  refine s_y (y_move rfl) rfl rfl rfl rfl ?_
  refine s_y (y_extract rfl rfl) rfl rfl rfl rfl ?_
  refine s_y (y_extract rfl rfl) rfl rfl rfl rfl ?_
  refine s_y (y_assign rfl) rfl rfl rfl rfl ?_
  refine s_y (y_assign rfl) rfl rfl rfl rfl ?_
  refine s_nil ?_
  refine g_then ?_
  refine g_seq ?_
  refine g_seq ?_
  refine g_region ?_
  refine s_y (y_move rfl) rfl rfl rfl rfl ?_
  refine s_y (y_not_t rfl) rfl rfl rfl rfl ?_
  refine s_nil ?_
  refine g_then ?_
  refine g_cond_f rfl ?_
  refine g_skip ?_
  refine g_then ?_
  refine g_seq ?_
  refine g_region ?_
  refine s_y (y_move rfl) rfl rfl rfl rfl ?_
  refine s_y (y_assign rfl) rfl rfl rfl rfl ?_
  refine s_y (y_assign rfl) rfl rfl rfl rfl ?_
  refine s_nil ?_
  refine g_then ?_
  refine g_ret ?_
  exact g_end trivial (fun a w ha hq_ => res2 ha rfl rfl rfl  w) (fun w h => ⟨rfl, h.below⟩)

theorem Solve_none (w : World) (n : Nat) (hn : 2 ≤ n) (hn2 : n ≤ 16) (tg : Nat) (lv : Value) (ls : List Int) (hl : RdV (Value.int .i64) w lv ls) (hcs : ∀ s ∈ [(tg : Int)] ++ ls, 0 ≤ s ∧ s < 2 ^ n) (hll : ls.length ≤ 10) (hs : sch ls ls.length 0 tg = none) :
    Calls Try.prog 44 [.int .i64 (n : Int), .int .i64 (tg : Int), lv].toArray w fun e w' => e = .returned (.tuple #[.slice none 0 0, .int .i64 4]) ∧ Below w.heap.size w w' := by
  have hp16 := pow_le hn2
  have hls : ∀ s ∈ ls, 0 ≤ s ∧ s < 65536 := fun s hs => by have h1 := hcs s (by simp [hs]); omega
  have htg : tg < 65536 := by have h1 := hcs (tg : Int) (by simp); omega
  obtain ⟨ie3, hi3⟩ := inf_3
  refine enter (N := 41) Try.func44 rfl rfl rfl ?_
  refine g_seq ?_
  refine g_region ?_
  refine s_tr (t_box rfl hl.cells1) rfl rfl rfl rfl (fun bl hbl => ?_)
  refine s_y (y_assign rfl) rfl rfl rfl rfl ?_
  refine s_y (y_assign rfl) rfl rfl rfl rfl ?_
  refine s_nil ?_
  refine g_then ?_
  refine g_seq ?_
  refine g_seq ?_
  refine g_region ?_
  refine s_y (y_move rfl) rfl rfl rfl rfl ?_
  refine s_y (y_move rfl) rfl rfl rfl rfl ?_
  refine s_tr (t_build (vs := [(0, .int .i64 (tg : Int))]) (cells := [.int .i64 (tg : Int)]) rfl rfl Try.underlying32 hi3.1 hi3.2.1 (by rw [hi3.2.2.1]; rfl) (by rw [hi3.2.2.1]; rfl) (by rw [hi3.2.2.1]; kernel_rfl)) rfl rfl rfl rfl (fun bs hbs => ?_)
  have hok17 : (SV.own bs 1 []).ok 1 1 ([(tg : Int)].map (Value.int .i64)) := ⟨Nat.le_refl _, by unfold maxLen; omega, rfl, rfl⟩
  refine s_y (y_ldM (mem_ar ((SV.own bs 1 []).mem 3 (([(tg : Int)]).map (Value.int .i64))) (List.mem_cons_self ..)) rfl agg_32 rfl) rfl rfl rfl rfl ?_
  refine s_tr (t_appendR0 (enc := (Value.int .i64)) (sv := (SV.own bs 1 [])) (xs := [(tg : Int)]) (ys := ls) (n := 1)  _ rfl rfl rfl hok17 Try.underlying32 hi3.1 hi3.2.1 hi3.2.2.1 hi3.2.2.2 rfl (fun w h => (hl.below h.below)) (fun _ => rfl) (by omega) (by unfold maxLen; omega)) rfl rfl rfl rfl (fun y3 hok2 => ?_)
  obtain ⟨svt, gs1⟩ := y3
  refine s_tr (t_callm rfl rfl ent_59 (fun w h => chords_ok w n _ (([(tg : Int)]) ++ ls) (RdV.sv (e := 3) hok2 fun p hp => h.at_ p (mem_al (svt.mem 3 ((([(tg : Int)]) ++ ls).map (Value.int .i64))) hp)) (by simp; omega) hn hn2 hcs)) rfl rfl rfl rfl (fun xx hxx => ?_)
  obtain ⟨vc, xc, mc⟩ := xx
  refine s_y (y_move rfl) rfl rfl rfl rfl ?_
  refine s_y (y_extract rfl rfl) rfl rfl rfl rfl ?_
  refine s_y (y_extract rfl rfl) rfl rfl rfl rfl ?_
  refine s_y (y_extract rfl rfl) rfl rfl rfl rfl ?_
  refine s_tr (t_alloc zero_56 rfl) rfl rfl rfl rfl (fun b4 hb4 => ?_)
  refine s_tr0 (t_store 0 rfl rfl rfl rfl size_56 rfl rfl) rfl rfl rfl (fun _ _ => ?_)
  refine s_y (y_assign rfl) rfl rfl rfl rfl ?_
  refine s_y (y_assign rfl) rfl rfl rfl rfl ?_
  refine s_nil ?_
  refine g_then ?_
  refine g_seq ?_
  refine g_region ?_
  refine s_y (y_move rfl) rfl rfl rfl rfl ?_
  refine s_y (y_not_t rfl) rfl rfl rfl rfl ?_
  refine s_y (y_move rfl) rfl rfl rfl rfl ?_
  refine s_y (y_ldM (List.mem_cons_of_mem _ (mem_ar mc (mem_ar (svt.mem 3 ((([(tg : Int)]) ++ ls).map (Value.int .i64))) (mem_ar gs1 (List.mem_cons_self ..))))) rfl agg_32 rfl) rfl rfl rfl rfl ?_
  refine s_y (y_lenV (n := ls.length) rfl (by obtain ⟨A, c, h1, _⟩ := hl; exact ⟨A, c, h1⟩) sle_32) rfl rfl rfl rfl ?_
  refine s_y (y_gtr_f rfl rfl (by omega)) rfl rfl rfl rfl ?_
  refine s_y (y_pick_f rfl rfl) rfl rfl rfl rfl ?_
  refine s_nil ?_
  refine g_then ?_
  refine g_cond_f rfl ?_
  refine g_skip ?_
  refine g_then ?_
  refine g_seq ?_
  refine g_region ?_
  refine s_tr (t_alloc zero_64 rfl) rfl rfl rfl rfl (fun bg hbg => ?_)
  refine s_nil ?_
  refine g_then ?_
  refine g_seq ?_
  refine g_region ?_
  refine s_y (y_func rfl rfl) rfl rfl rfl rfl ?_
  refine s_tr0 (t_store 0 rfl rfl rfl rfl size_64 rfl rfl) rfl rfl rfl (fun _ _ => ?_)
  refine s_nil ?_
  refine g_then ?_
  refine g_seq ?_
  refine g_region ?_
  refine s_y (y_ld1 0 rfl rfl agg_64 rfl) rfl rfl rfl rfl ?_
  refine s_y (y_move rfl) rfl rfl rfl rfl ?_
  refine s_tr (t_callc (cap := [.pointer (some ⟨bl, 0, none⟩), .pointer (some ⟨bg, 0, none⟩)]) rfl rfl ent_69 (fun w h => (Gsolve_rec hls (by omega) ls.length w tg 0 none 0 [] (by omega) (hl.below h.below) RdV.nil (h.at_ _ (List.mem_cons_of_mem _ (List.mem_cons_of_mem _ (mem_ar mc (mem_ar (svt.mem 3 ((([(tg : Int)]) ++ ls).map (Value.int .i64))) (mem_ar gs1 (List.mem_cons_self ..))))))) (h.at_ _ (List.mem_cons_self ..)) htg (by omega) (by simp; omega)).1 hs)) rfl rfl rfl rfl (fun _ _ => ?_)
  refine s_y (y_move rfl) rfl rfl rfl rfl ?_
  refine s_y (y_extract rfl rfl) rfl rfl rfl rfl ?_
  refine s_y (y_extract rfl rfl) rfl rfl rfl rfl ?_
  refine s_y (y_assign rfl) rfl rfl rfl rfl ?_
  refine s_y (y_assign rfl) rfl rfl rfl rfl ?_
  refine s_nil ?_
  refine g_then ?_
  refine g_seq ?_
  refine g_seq ?_
  refine g_region ?_
  refine s_y (y_move rfl) rfl rfl rfl rfl ?_
  refine s_y (y_not_f rfl) rfl rfl rfl rfl ?_
  refine s_nil ?_
  refine g_then ?_
  refine g_cond_t rfl ?_
  refine g_seq ?_
  refine g_region ?_
  refine s_y (y_assign rfl) rfl rfl rfl rfl ?_
  refine s_y (y_assign rfl) rfl rfl rfl rfl ?_
  refine s_nil ?_
  refine g_then ?_
  refine g_ret ?_
  refine g_thenr ?_
  exact g_end trivial (fun a w ha hq_ => res2 ha rfl rfl rfl  w) (fun w h => ⟨rfl, h.below⟩)

theorem Solve_some (w : World) (n : Nat) (hn : 2 ≤ n) (hn2 : n ≤ 16) (tg : Nat) (lv : Value) (ls : List Int) (hl : RdV (Value.int .i64) w lv ls) (hcs : ∀ s ∈ [(tg : Int)] ++ ls, 0 ≤ s ∧ s < 2 ^ n) (hll : ls.length ≤ 10) (r : List Int) (h0 : tg ≠ 0) (hs : sch ls ls.length 0 tg = some r) :
    Calls Try.prog 44 [.int .i64 (n : Int), .int .i64 (tg : Int), lv].toArray w fun e w' => ∃ x : Value × List (Nat × Obj), (OwnV (Value.int .i64) x.1 r x.2 ∧ ∃ W : World, ∀ p ∈ x.2, W.heap[p.1]? = some p.2) ∧ e = .returned (.tuple #[x.1, .int .i64 0]) ∧ Hq w w x.2 w' := by
  have hp16 := pow_le hn2
  have hls : ∀ s ∈ ls, 0 ≤ s ∧ s < 65536 := fun s hs => by have h1 := hcs s (by simp [hs]); omega
  have htg : tg < 65536 := by have h1 := hcs (tg : Int) (by simp); omega
  obtain ⟨ie3, hi3⟩ := inf_3
  refine enter (N := 41) Try.func44 rfl rfl rfl ?_
  refine g_seq ?_
  refine g_region ?_
  refine s_tr (t_box rfl hl.cells1) rfl rfl rfl rfl (fun bl hbl => ?_)
  refine s_y (y_assign rfl) rfl rfl rfl rfl ?_
  refine s_y (y_assign rfl) rfl rfl rfl rfl ?_
  refine s_nil ?_
  refine g_then ?_
  refine g_seq ?_
  refine g_seq ?_
  refine g_region ?_
  refine s_y (y_move rfl) rfl rfl rfl rfl ?_
  refine s_y (y_move rfl) rfl rfl rfl rfl ?_
  refine s_tr (t_build (vs := [(0, .int .i64 (tg : Int))]) (cells := [.int .i64 (tg : Int)]) rfl rfl Try.underlying32 hi3.1 hi3.2.1 (by rw [hi3.2.2.1]; rfl) (by rw [hi3.2.2.1]; rfl) (by rw [hi3.2.2.1]; kernel_rfl)) rfl rfl rfl rfl (fun bs hbs => ?_)
  have hok17 : (SV.own bs 1 []).ok 1 1 ([(tg : Int)].map (Value.int .i64)) := ⟨Nat.le_refl _, by unfold maxLen; omega, rfl, rfl⟩
  refine s_y (y_ldM (mem_ar ((SV.own bs 1 []).mem 3 (([(tg : Int)]).map (Value.int .i64))) (List.mem_cons_self ..)) rfl agg_32 rfl) rfl rfl rfl rfl ?_
  refine s_tr (t_appendR0 (enc := (Value.int .i64)) (sv := (SV.own bs 1 [])) (xs := [(tg : Int)]) (ys := ls) (n := 1)  _ rfl rfl rfl hok17 Try.underlying32 hi3.1 hi3.2.1 hi3.2.2.1 hi3.2.2.2 rfl (fun w h => (hl.below h.below)) (fun _ => rfl) (by omega) (by unfold maxLen; omega)) rfl rfl rfl rfl (fun y3 hok2 => ?_)
  obtain ⟨svt, gs1⟩ := y3
  refine s_tr (t_callm rfl rfl ent_59 (fun w h => chords_ok w n _ (([(tg : Int)]) ++ ls) (RdV.sv (e := 3) hok2 fun p hp => h.at_ p (mem_al (svt.mem 3 ((([(tg : Int)]) ++ ls).map (Value.int .i64))) hp)) (by simp; omega) hn hn2 hcs)) rfl rfl rfl rfl (fun xx hxx => ?_)
  obtain ⟨vc, xc, mc⟩ := xx
  refine s_y (y_move rfl) rfl rfl rfl rfl ?_
  refine s_y (y_extract rfl rfl) rfl rfl rfl rfl ?_
  refine s_y (y_extract rfl rfl) rfl rfl rfl rfl ?_
  refine s_y (y_extract rfl rfl) rfl rfl rfl rfl ?_
  refine s_tr (t_alloc zero_56 rfl) rfl rfl rfl rfl (fun b4 hb4 => ?_)
  refine s_tr0 (t_store 0 rfl rfl rfl rfl size_56 rfl rfl) rfl rfl rfl (fun _ _ => ?_)
  refine s_y (y_assign rfl) rfl rfl rfl rfl ?_
  refine s_y (y_assign rfl) rfl rfl rfl rfl ?_
  refine s_nil ?_
  refine g_then ?_
  refine g_seq ?_
  refine g_region ?_
  refine s_y (y_move rfl) rfl rfl rfl rfl ?_
  refine s_y (y_not_t rfl) rfl rfl rfl rfl ?_
  refine s_y (y_move rfl) rfl rfl rfl rfl ?_
  refine s_y (y_ldM (List.mem_cons_of_mem _ (mem_ar mc (mem_ar (svt.mem 3 ((([(tg : Int)]) ++ ls).map (Value.int .i64))) (mem_ar gs1 (List.mem_cons_self ..))))) rfl agg_32 rfl) rfl rfl rfl rfl ?_
  refine s_y (y_lenV (n := ls.length) rfl (by obtain ⟨A, c, h1, _⟩ := hl; exact ⟨A, c, h1⟩) sle_32) rfl rfl rfl rfl ?_
  refine s_y (y_gtr_f rfl rfl (by omega)) rfl rfl rfl rfl ?_
  refine s_y (y_pick_f rfl rfl) rfl rfl rfl rfl ?_
  refine s_nil ?_
  refine g_then ?_
  refine g_cond_f rfl ?_
  refine g_skip ?_
  refine g_then ?_
  refine g_seq ?_
  refine g_region ?_
  refine s_tr (t_alloc zero_64 rfl) rfl rfl rfl rfl (fun bg hbg => ?_)
  refine s_nil ?_
  refine g_then ?_
  refine g_seq ?_
  refine g_region ?_
  refine s_y (y_func rfl rfl) rfl rfl rfl rfl ?_
  refine s_tr0 (t_store 0 rfl rfl rfl rfl size_64 rfl rfl) rfl rfl rfl (fun _ _ => ?_)
  refine s_nil ?_
  refine g_then ?_
  refine g_seq ?_
  refine g_region ?_
  refine s_y (y_ld1 0 rfl rfl agg_64 rfl) rfl rfl rfl rfl ?_
  refine s_y (y_move rfl) rfl rfl rfl rfl ?_
  refine s_tr (t_callcm (cap := [.pointer (some ⟨bl, 0, none⟩), .pointer (some ⟨bg, 0, none⟩)]) rfl rfl ent_69 (fun w h => (Gsolve_rec hls (by omega) ls.length w tg 0 none 0 [] (by omega) (hl.below h.below) RdV.nil (h.at_ _ (List.mem_cons_of_mem _ (List.mem_cons_of_mem _ (mem_ar mc (mem_ar (svt.mem 3 ((([(tg : Int)]) ++ ls).map (Value.int .i64))) (mem_ar gs1 (List.mem_cons_self ..))))))) (h.at_ _ (List.mem_cons_self ..)) htg (by omega) (by simp; omega)).2 r h0 hs)) rfl rfl rfl rfl (fun x6 hx7 => ?_)
  obtain ⟨vo5, mo5⟩ := x6
  obtain ⟨hOo5, hEo5⟩ := hx7
  refine s_y (y_move rfl) rfl rfl rfl rfl ?_
  refine s_y (y_extract rfl rfl) rfl rfl rfl rfl ?_
  refine s_y (y_extract rfl rfl) rfl rfl rfl rfl ?_
  refine s_y (y_assign rfl) rfl rfl rfl rfl ?_
  refine s_y (y_assign rfl) rfl rfl rfl rfl ?_
  refine s_nil ?_
  refine g_then ?_
  refine g_seq ?_
  refine g_seq ?_
  refine g_region ?_
  refine s_y (y_move rfl) rfl rfl rfl rfl ?_
  refine s_y (y_not_t rfl) rfl rfl rfl rfl ?_
  refine s_nil ?_
  refine g_then ?_
  refine g_cond_f rfl ?_
  refine g_skip ?_
  refine g_then ?_
  refine g_seq ?_
  refine g_region ?_
  refine s_y (y_move rfl) rfl rfl rfl rfl ?_
  refine s_y (y_assign rfl) rfl rfl rfl rfl ?_
  refine s_y (y_assign rfl) rfl rfl rfl rfl ?_
  refine s_nil ?_
  refine g_then ?_
  refine g_ret ?_
  exact g_end trivial (fun a w ha hq_ => res2 ha rfl rfl rfl  w) (fun w h => ⟨(_, mo5), ⟨hOo5, w, (h.hand (sub_here mo5 _)).at_⟩, rfl, h.hand (sub_here mo5 _)⟩)

theorem Solve_long (w : World) (n : Nat) (hn : 2 ≤ n) (hn2 : n ≤ 16) (tg : Nat) (lv : Value) (ls : List Int) (hl : RdV (Value.int .i64) w lv ls) (hcs : ∀ s ∈ [(tg : Int)] ++ ls, 0 ≤ s ∧ s < 2 ^ n) (hll : ls.length ≤ 900) (hlong : 10 < ls.length) :
    Calls Try.prog 44 [.int .i64 (n : Int), .int .i64 (tg : Int), lv].toArray w fun e w' => e = .returned (.tuple #[.slice none 0 0, .int .i64 2]) ∧ Below w.heap.size w w' := by
  have hp16 := pow_le hn2
  have hls : ∀ s ∈ ls, 0 ≤ s ∧ s < 65536 := fun s hs => by have h1 := hcs s (by simp [hs]); omega
  have htg : tg < 65536 := by have h1 := hcs (tg : Int) (by simp); omega
  obtain ⟨ie3, hi3⟩ := inf_3
  refine enter (N := 41) Try.func44 rfl rfl rfl ?_
  refine g_seq ?_
  refine g_region ?_
  refine s_tr (t_box rfl hl.cells1) rfl rfl rfl rfl (fun bl hbl => ?_)
  refine s_y (y_assign rfl) rfl rfl rfl rfl ?_
  refine s_y (y_assign rfl) rfl rfl rfl rfl ?_
  refine s_nil ?_
  refine g_then ?_
  refine g_seq ?_
  refine g_seq ?_
  refine g_region ?_
  refine s_y (y_move rfl) rfl rfl rfl rfl ?_
  refine s_y (y_move rfl) rfl rfl rfl rfl ?_
  refine s_tr (t_build (vs := [(0, .int .i64 (tg : Int))]) (cells := [.int .i64 (tg : Int)]) rfl rfl Try.underlying32 hi3.1 hi3.2.1 (by rw [hi3.2.2.1]; rfl) (by rw [hi3.2.2.1]; rfl) (by rw [hi3.2.2.1]; kernel_rfl)) rfl rfl rfl rfl (fun bs hbs => ?_)
  have hok17 : (SV.own bs 1 []).ok 1 1 ([(tg : Int)].map (Value.int .i64)) := ⟨Nat.le_refl _, by unfold maxLen; omega, rfl, rfl⟩
  refine s_y (y_ldM (mem_ar ((SV.own bs 1 []).mem 3 (([(tg : Int)]).map (Value.int .i64))) (List.mem_cons_self ..)) rfl agg_32 rfl) rfl rfl rfl rfl ?_
  refine s_tr (t_appendR0 (enc := (Value.int .i64)) (sv := (SV.own bs 1 [])) (xs := [(tg : Int)]) (ys := ls) (n := 1)  _ rfl rfl rfl hok17 Try.underlying32 hi3.1 hi3.2.1 hi3.2.2.1 hi3.2.2.2 rfl (fun w h => (hl.below h.below)) (fun _ => rfl) (by omega) (by unfold maxLen; omega)) rfl rfl rfl rfl (fun y3 hok2 => ?_)
  obtain ⟨svt, gs1⟩ := y3
  refine s_tr (t_callm rfl rfl ent_59 (fun w h => chords_ok w n _ (([(tg : Int)]) ++ ls) (RdV.sv (e := 3) hok2 fun p hp => h.at_ p (mem_al (svt.mem 3 ((([(tg : Int)]) ++ ls).map (Value.int .i64))) hp)) (by simp; omega) hn hn2 hcs)) rfl rfl rfl rfl (fun xx hxx => ?_)
  obtain ⟨vc, xc, mc⟩ := xx
  refine s_y (y_move rfl) rfl rfl rfl rfl ?_
  refine s_y (y_extract rfl rfl) rfl rfl rfl rfl ?_
  refine s_y (y_extract rfl rfl) rfl rfl rfl rfl ?_
  refine s_y (y_extract rfl rfl) rfl rfl rfl rfl ?_
  refine s_tr (t_alloc zero_56 rfl) rfl rfl rfl rfl (fun b4 hb4 => ?_)
  refine s_tr0 (t_store 0 rfl rfl rfl rfl size_56 rfl rfl) rfl rfl rfl (fun _ _ => ?_)
  refine s_y (y_assign rfl) rfl rfl rfl rfl ?_
  refine s_y (y_assign rfl) rfl rfl rfl rfl ?_
  refine s_nil ?_
  refine g_then ?_
  refine g_seq ?_
  refine g_region ?_
  refine s_y (y_move rfl) rfl rfl rfl rfl ?_
  refine s_y (y_not_t rfl) rfl rfl rfl rfl ?_
  refine s_y (y_move rfl) rfl rfl rfl rfl ?_
  refine s_y (y_ldM (List.mem_cons_of_mem _ (mem_ar mc (mem_ar (svt.mem 3 ((([(tg : Int)]) ++ ls).map (Value.int .i64))) (mem_ar gs1 (List.mem_cons_self ..))))) rfl agg_32 rfl) rfl rfl rfl rfl ?_
  refine s_y (y_lenV (n := ls.length) rfl (by obtain ⟨A, c, h1, _⟩ := hl; exact ⟨A, c, h1⟩) sle_32) rfl rfl rfl rfl ?_
  refine s_y (y_gtr_t rfl rfl (by omega)) rfl rfl rfl rfl ?_
  refine s_y (y_pick_f rfl rfl) rfl rfl rfl rfl ?_
  refine s_nil ?_
  refine g_then ?_
  refine g_cond_t rfl ?_
  refine g_seq ?_
  refine g_region ?_
  refine s_y (y_assign rfl) rfl rfl rfl rfl ?_
  refine s_y (y_assign rfl) rfl rfl rfl rfl ?_
  refine s_nil ?_
  refine g_then ?_
  refine g_ret ?_
  refine g_thenr ?_
  exact g_end trivial (fun a w ha hq_ => res2 ha rfl rfl rfl  w) (fun w h => ⟨rfl, h.below⟩)

theorem Solve_bad (w : World) (n c : Int) (lv : Value) (ls : List Int) (hl : RdV (Value.int .i64) w lv ls) (hll : ls.length ≤ 900) (hnc : ¬ ∀ s ∈ [c] ++ ls, okC n s) :
    Calls Try.prog 44 [.int .i64 n, .int .i64 c, lv].toArray w fun e w' => e = .returned (.tuple #[.slice none 0 0, .int .i64 2]) ∧ Below w.heap.size w w' := by
  obtain ⟨ie3, hi3⟩ := inf_3
  refine enter (N := 41) Try.func44 rfl rfl rfl ?_
  refine g_seq ?_
  refine g_region ?_
  refine s_tr (t_box rfl hl.cells1) rfl rfl rfl rfl (fun bl hbl => ?_)
  refine s_y (y_assign rfl) rfl rfl rfl rfl ?_
  refine s_y (y_assign rfl) rfl rfl rfl rfl ?_
  refine s_nil ?_
  refine g_then ?_
  refine g_seq ?_
  refine g_seq ?_
  refine g_region ?_
  refine s_y (y_move rfl) rfl rfl rfl rfl ?_
  refine s_y (y_move rfl) rfl rfl rfl rfl ?_
  refine s_tr (t_build (vs := [(0, .int .i64 c)]) (cells := [.int .i64 c]) rfl rfl Try.underlying32 hi3.1 hi3.2.1 (by rw [hi3.2.2.1]; rfl) (by rw [hi3.2.2.1]; rfl) (by rw [hi3.2.2.1]; kernel_rfl)) rfl rfl rfl rfl (fun bs hbs => ?_)
  have hok17 : (SV.own bs 1 []).ok 1 1 ([c].map (Value.int .i64)) := ⟨Nat.le_refl _, by unfold maxLen; omega, rfl, rfl⟩
  refine s_y (y_ldM (mem_ar ((SV.own bs 1 []).mem 3 (([c]).map (Value.int .i64))) (List.mem_cons_self ..)) rfl agg_32 rfl) rfl rfl rfl rfl ?_
  refine s_tr (t_appendR0 (enc := (Value.int .i64)) (sv := (SV.own bs 1 [])) (xs := [c]) (ys := ls) (n := 1)  _ rfl rfl rfl hok17 Try.underlying32 hi3.1 hi3.2.1 hi3.2.2.1 hi3.2.2.2 rfl (fun w h => (hl.below h.below)) (fun _ => rfl) (by omega) (by unfold maxLen; omega)) rfl rfl rfl rfl (fun y3 hok2 => ?_)
  obtain ⟨svt, gs1⟩ := y3
  refine s_tr (t_callm rfl rfl ent_59 (fun w h => chords_no w n _ (([c]) ++ ls) (RdV.sv (e := 3) hok2 fun p hp => h.at_ p (mem_al (svt.mem 3 ((([c]) ++ ls).map (Value.int .i64))) hp)) (by simp; omega) (by simp) hnc)) rfl rfl rfl rfl (fun xz _ => ?_)
  refine s_y (y_move rfl) rfl rfl rfl rfl ?_
  refine s_y (y_extract rfl rfl) rfl rfl rfl rfl ?_
  refine s_y (y_extract rfl rfl) rfl rfl rfl rfl ?_
  refine s_y (y_extract rfl rfl) rfl rfl rfl rfl ?_
  refine s_tr (t_alloc zero_56 rfl) rfl rfl rfl rfl (fun b4 hb4 => ?_)
  refine s_tr0 (t_store 0 rfl rfl rfl rfl size_56 rfl rfl) rfl rfl rfl (fun _ _ => ?_)
  refine s_y (y_assign rfl) rfl rfl rfl rfl ?_
  refine s_y (y_assign rfl) rfl rfl rfl rfl ?_
  refine s_nil ?_
  refine g_then ?_
  refine g_seq ?_
  refine g_region ?_
  refine s_y (y_move rfl) rfl rfl rfl rfl ?_
  refine s_y (y_not_f rfl) rfl rfl rfl rfl ?_
  refine s_y (y_move rfl) rfl rfl rfl rfl ?_
  refine s_no rfl rfl rfl ?_
  refine s_no rfl rfl rfl ?_
  refine s_no rfl rfl rfl ?_
  refine s_y (y_pick_t rfl rfl) rfl rfl rfl rfl ?_
  refine s_nil ?_
  refine g_then ?_
  refine g_cond_t rfl ?_
  refine g_seq ?_
  refine g_region ?_
  refine s_y (y_assign rfl) rfl rfl rfl rfl ?_
  refine s_y (y_assign rfl) rfl rfl rfl rfl ?_
  refine s_nil ?_
  refine g_then ?_
  refine g_ret ?_
  refine g_thenr ?_
  exact g_end trivial (fun a w ha hq_ => res2 ha rfl rfl rfl  w) (fun w h => ⟨rfl, h.below⟩)

end Go.Proofs.Ytncenmgkdodioaa
