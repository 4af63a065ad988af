/- duets: the law DuetsOne. -/
import Derived.Test.YtolalckejnijkaaDuI
namespace Go.Proofs.Ytolalckejnijkaa
open Go.RowKit Go.Sx 
set_option linter.unusedVariables false
set_option linter.unusedSimpArgs false
set_option maxRecDepth 100000
set_option maxHeartbeats 4000000

private theorem inf_3 : ∃ ie, Try.prog.info? 3 = some ie ∧ ie.zero = some (.int .i64 0) ∧ ie.size = 1 ∧ ie.bytes = 8 := info_of (by kernel_rfl) (by kernel_rfl)
private theorem ent_16 : Enters Try.prog 16 := enters_of Try.func16 (by kernel_rfl) rfl
private theorem ent_27 : Enters Try.prog 27 := enters_of Try.func27 (by kernel_rfl) rfl
private theorem ent_30 : Enters Try.prog 30 := enters_of Try.func30 (by kernel_rfl) rfl
private theorem sle_22 : Try.prog.underlying 22 = some (.slice (Try.prog.elem 22)) := by kernel_rfl
private theorem ent_26 : Enters Try.prog 26 := enters_of Try.func26 (by kernel_rfl) rfl
private theorem ent_19 : Enters Try.prog 19 := enters_of Try.func19 (by kernel_rfl) rfl

def oneL (n : Int) : List Int := [n, n + 7, n + 14].filter fun x => decide (x ≤ 20)
theorem one_all : ∀ n : Fin 21, (nxL [((n.1 : Nat) : Int)] [] = oneL ((n.1 : Nat) : Int)) ∧ fstR [((n.1 : Nat) : Int)] 1 [] = some [((n.1 : Nat) : Int)] := by decide
theorem one_nx {n : Nat} (h : n < 21) : nxL [(n : Int)] [] = oneL (n : Int) := (one_all ⟨n, h⟩).1
theorem one_fst {n : Nat} (h : n < 21) : fstR [(n : Int)] 1 [] = some [(n : Int)] := (one_all ⟨n, h⟩).2
theorem one_cnt {n : Nat} (h : n < 21) : cntR [(n : Int)] 1 [] = ((oneL (n : Int)).length : Int) := by
  unfold cntR
  rw [one_nx h]
  unfold cntR
  generalize oneL (n : Int) = xs
  induction xs with
  | nil => rfl
  | cons x xs ih => rw [List.map_cons, List.sum_cons, ih, List.length_cons]; omega
theorem one_nex {n : Nat} (h : n < 21) : nexD [(n : Int)] [] = oneL (n : Int) := by
  unfold nexD; rw [if_pos (frs_nil _), one_nx h]
theorem one_part {n : Nat} (h : n < 21) : partB [(n : Int)] = true := partB_true.2 ⟨⟨by simp, by simp⟩, fun x hx => by rw [List.mem_singleton] at hx; subst hx; omega⟩
theorem one_done {n i : Nat} (h : n < 21) (hi : i ≤ 3) (h1 : ∀ k : Nat, k < i → (n : Int) + 7 * k ≤ 20) (h2 : i < 3 → ¬ (n : Int) + 7 * i ≤ 20) : ((List.range i).map fun k : Nat => (n : Int) + 7 * (k : Int)) = oneL (n : Int) := by
  unfold oneL
  rcases (show i = 0 ∨ i = 1 ∨ i = 2 ∨ i = 3 by omega) with rfl | rfl | rfl | rfl
  · exact absurd (h2 (by decide)) (by simp; omega)
  · have a := h1 0 (by decide)
    have b := h2 (by decide)
    simp only [List.filter_cons, List.filter_nil]
    rw [if_pos (by simp; omega), if_neg (by simp; omega), if_neg (by simp; omega)]
    simp [List.range_succ]
  · have a := h1 0 (by decide)
    have a1 := h1 1 (by decide)
    have b := h2 (by decide)
    simp only [List.filter_cons, List.filter_nil]
    rw [if_pos (by simp; omega), if_pos (by simp; omega), if_neg (by simp; omega)]
    simp [List.range_succ]
  · have a := h1 0 (by decide)
    have a1 := h1 1 (by decide)
    have a2 := h1 2 (by decide)
    simp only [List.filter_cons, List.filter_nil]
    rw [if_pos (by simp; omega), if_pos (by simp; omega), if_pos (by simp; omega)]
    simp [List.range_succ]
theorem note_nat (x : Int) : ∃ n : Nat, IntKind.u64.wrap x % 21 = (n : Int) ∧ n < 21 := by
  have h1 := Int.emod_nonneg (IntKind.u64.wrap x) (show (21 : Int) ≠ 0 by decide)
  have h2 := Int.emod_lt_of_pos (IntKind.u64.wrap x) (show (0 : Int) < 21 by decide)
  exact ⟨(IntKind.u64.wrap x % 21).toNat, by omega, by omega⟩

theorem DuetsOne_law (w : World) (note : Int) (_ : (Lit.int .i64 note).wf = true) :
    Calls Try.prog 10 [.int .i64 note].toArray w fun e w' => e = .returned (.bool true) ∧ Below w.heap.size w w' := by
  obtain ⟨ie3, hi3⟩ := inf_3
  refine enter (N := 75) Try.func10 rfl rfl rfl ?_
  refine g_seq ?_
  refine g_region ?_
  refine s_y (y_assign rfl) rfl rfl rfl rfl ?_
  refine s_nil ?_
  refine g_then ?_
  refine g_seq ?_
  refine g_region ?_
  refine s_y (y_move rfl) rfl rfl rfl rfl ?_
  refine s_y (y_conv rfl (by kernel_rfl) Try.underlying42 rfl) rfl rfl rfl rfl ?_
  refine s_y (y_remu rfl rfl (u64_range note).1 (by decide)) rfl rfl rfl rfl ?_
  obtain ⟨n, hnn, hn⟩ := note_nat note
  rw [hnn]
  refine s_y (y_conv rfl (by kernel_rfl) Try.underlying3 (conv_eq trivial (by omega) (by omega))) rfl rfl rfl rfl ?_
  refine s_y (y_assign rfl) rfl rfl rfl rfl ?_
  refine s_nil ?_
  refine g_then ?_
  refine g_seq ?_
  refine g_region ?_
  refine s_y (y_move rfl) rfl rfl rfl rfl ?_
  refine s_tr (t_build (vs := [(0, .int .i64 (n : Int))]) (cells := [.int .i64 (n : Int)]) rfl rfl Try.underlying22 hi3.1 hi3.2.1 (by rw [hi3.2.2.1]; rfl) (by rw [hi3.2.2.1]; rfl) (by rw [hi3.2.2.1]; kernel_rfl)) rfl rfl rfl rfl (fun b1 hb1 => ?_)
  refine s_tr (t_call rfl rfl ent_16 (fun w h => by have h_ := Count_ok w (some ⟨b1, 0, none⟩) 1 [(n : Int)] (RdV.own (jk := []) (h.at_ _ (List.mem_cons_self ..)) rfl (by simp)) (one_part hn); rw [show ([(n : Int)] : List Int).length = 1 from rfl, one_cnt hn] at h_; exact h_)) rfl rfl rfl rfl (fun _ _ => ?_)
  refine s_y (y_move rfl) rfl rfl rfl rfl ?_
  refine s_y (y_extract rfl rfl) rfl rfl rfl rfl ?_
  refine s_y (y_extract rfl rfl) rfl rfl rfl rfl ?_
  refine s_y (y_assign rfl) rfl rfl rfl rfl ?_
  refine s_y (y_assign rfl) rfl rfl rfl rfl ?_
  refine s_nil ?_
  refine g_then ?_
  refine g_seq ?_
  refine g_region ?_
  refine s_y (y_move rfl) rfl rfl rfl rfl ?_
  refine s_tr (t_build (vs := [(0, .int .i64 (n : Int))]) (cells := [.int .i64 (n : Int)]) rfl rfl Try.underlying22 hi3.1 hi3.2.1 (by rw [hi3.2.2.1]; rfl) (by rw [hi3.2.2.1]; rfl) (by rw [hi3.2.2.1]; kernel_rfl)) rfl rfl rfl rfl (fun b2 hb2 => ?_)
  refine s_tr (t_callm rfl rfl ent_27 (fun w h => First_some w (some ⟨b2, 0, none⟩) 1 [(n : Int)] (RdV.own (jk := []) (h.at_ _ (List.mem_cons_self ..)) rfl (by simp)) (one_part hn) [(n : Int)] (one_fst hn))) rfl rfl rfl rfl (fun x4 hx5 => ?_)
  obtain ⟨vo3, mo3⟩ := x4
  obtain ⟨hOo3, hEo3⟩ := hx5
  refine s_y (y_move rfl) rfl rfl rfl rfl ?_
  refine s_y (y_extract rfl rfl) rfl rfl rfl rfl ?_
  refine s_y (y_extract rfl rfl) rfl rfl rfl rfl ?_
  refine s_y (y_assign rfl) rfl rfl rfl rfl ?_
  refine s_y (y_assign rfl) rfl rfl rfl rfl ?_
  refine s_nil ?_
  refine g_then ?_
  refine g_seq ?_
  refine g_region ?_
  refine s_y (y_move rfl) rfl rfl rfl rfl ?_
  refine s_tr (t_build (vs := [(0, .int .i64 (n : Int))]) (cells := [.int .i64 (n : Int)]) rfl rfl Try.underlying22 hi3.1 hi3.2.1 (by rw [hi3.2.2.1]; rfl) (by rw [hi3.2.2.1]; rfl) (by rw [hi3.2.2.1]; kernel_rfl)) rfl rfl rfl rfl (fun b6 hb6 => ?_)
  refine s_tr (t_callm rfl rfl ent_30 (fun w h => by have h_ := Next_ok w (.slice (some ⟨b6, 0, none⟩) 1 1) (.slice none 0 0) [(n : Int)] [] (RdV.own (jk := []) (h.at_ _ (List.mem_cons_self ..)) rfl (by simp)) RdV.nil (one_part hn) (by intro x hx; cases hx) (by simp); rw [one_nex hn] at h_; exact h_)) rfl rfl rfl rfl (fun x8 hx9 => ?_)
  obtain ⟨vo7, mo7⟩ := x8
  obtain ⟨hOo7, hEo7⟩ := hx9
  refine s_y (y_move rfl) rfl rfl rfl rfl ?_
  refine s_y (y_extract rfl rfl) rfl rfl rfl rfl ?_
  refine s_y (y_extract rfl rfl) rfl rfl rfl rfl ?_
  refine s_y (y_assign rfl) rfl rfl rfl rfl ?_
  refine s_y (y_assign rfl) rfl rfl rfl rfl ?_
  refine s_nil ?_
  refine g_then ?_
  refine g_seq ?_
  refine g_region ?_
  refine s_y (y_assign rfl) rfl rfl rfl rfl ?_
  refine s_nil ?_
  refine g_then ?_
  refine g_seq ?_
  refine g_seq ?_
  refine g_region ?_
  refine s_y (y_move rfl) rfl rfl rfl rfl ?_
  refine s_y (y_assign rfl) rfl rfl rfl rfl ?_
  refine s_nil ?_
  refine g_then ?_
  refine g_block ?_
  refine g_loop (fun (i : Nat) act W => (i ≤ 3 ∧ ∀ k : Nat, k < i → (n : Int) + 7 * k ≤ 20) ∧ ∃ (sv : SV) (m : Nat) (zs : List Int) (z : Int) (w1 : World), (sv.ok 1 m (zs.map (Value.int .i64))) ∧ (m = i) ∧ (zs = (List.range i).map fun k : Nat => (n : Int) + 7 * (k : Int)) ∧ (z = (n : Int) + 7 * i) ∧ Has 75 [] [(0, .int .i64 (n : Int)), (2, .bool false), (3, .int .i64 ((oneL (n : Int)).length : Int)), (4, .int .i64 0), (5, vo3), (6, .int .i64 0), (7, vo7), (8, .int .i64 0), (9, sv.val m), (10, .int .i64 z)] act ∧ Hp w w1 ((sv.mem 3 (zs.map (Value.int .i64)) ++ ((mo7 ++ ((b6, .cells [.int .i64 (n : Int)].toArray 3 (0, 0)) :: (mo3 ++ ((b2, .cells [.int .i64 (n : Int)].toArray 3 (0, 0)) :: (b1, .cells [.int .i64 (n : Int)].toArray 3 (0, 0)) :: []))))))) W) (fun i => 3 - i) 0 (fun act W ha hw => ⟨⟨by omega, fun k hk => by omega⟩, SV.nil, 0, [], (n : Int), W, (by exact ⟨rfl, rfl⟩), (by rfl), (by rfl), (by simp), ha.weak (sub_get ⟨rfl, rfl, rfl, rfl, rfl, rfl, rfl, rfl, rfl, rfl, trivial⟩), hw.toHq.lookSub (List.Sublist.refl _)⟩) ?_
  intro i act W ⟨hb_i, sv, m, zs, z, w1, hokz, hmi, hzs, hzi, ha, hw⟩
  refine g_go ha hw ?_
  clear ha hw act W
  have hle3_ := hb_i.1
  refine g_seq ?_
  refine g_seq ?_
  refine g_region ?_
  refine s_y (y_move rfl) rfl rfl rfl rfl ?_
  refine s_y (y_move rfl) rfl rfl rfl rfl ?_
  refine s_y (y_add rfl rfl (by omega) (by omega)) rfl rfl rfl rfl ?_
  refine s_y (y_min rfl rfl) rfl rfl rfl rfl ?_
  refine s_y (y_leq rfl rfl) rfl rfl rfl rfl ?_
  refine s_nil ?_
  refine g_then ?_
  refine g_cond rfl (fun cq10 => ?_) (fun cq10 => ?_)
  · (try simp at cq10)
    have hw14 : z ≤ 20 ∧ z ≤ (n : Int) + 14 := by first | (split at cq10 <;> omega) | omega
    refine g_skip ?_
    refine g_then ?_
    refine g_seq ?_
    refine g_block ?_
    refine g_region ?_
    refine s_y (y_move rfl) rfl rfl rfl rfl ?_
    refine s_y (y_move rfl) rfl rfl rfl rfl ?_
    refine s_tr (t_build (vs := [(0, .int .i64 z)]) (cells := [.int .i64 z]) rfl rfl Try.underlying22 hi3.1 hi3.2.1 (by rw [hi3.2.2.1]; rfl) (by rw [hi3.2.2.1]; rfl) (by rw [hi3.2.2.1]; kernel_rfl)) rfl rfl rfl rfl (fun b11 hb11 => ?_)
    refine s_tr (t_appendL (enc := (Value.int .i64)) (sv := sv) (xs := zs) (n := m) (v := z) [_] _ rfl rfl rfl hokz Try.underlying22 hi3.1 hi3.2.1 hi3.2.2.1 hi3.2.2.2 rfl (fun w h => h.toHq.cell (i := 0) rfl rfl) rfl (by omega) (by unfold maxLen; omega)) rfl rfl rfl rfl (fun y15 hy16 => ?_)
    obtain ⟨sv12, gs13⟩ := y15
    obtain ⟨hok14, hok14b, hok14c, hok14j, hok14e⟩ := hy16
    refine s_y (y_assign rfl) rfl rfl rfl rfl ?_
    refine s_nil ?_
    refine g_inb ?_
    refine g_then ?_
    refine g_region ?_
    refine s_y (y_move rfl) rfl rfl rfl rfl ?_
    refine s_y (y_add rfl rfl (by omega) (by omega)) rfl rfl rfl rfl ?_
    refine s_y (y_assign rfl) rfl rfl rfl rfl ?_
    refine s_nil ?_
    refine g_then ?_
    have hz14 : (i : Int) < 3 ∧ z ≤ 20 := by constructor <;> (have h_ := hw14; omega)
    exact fun act W ha hw => ⟨i + 1, by omega, ⟨by omega, fun k hk => by rcases Nat.lt_or_ge k i with c_ | c_; exact hb_i.2 k c_; (have e_ : k = i := (by omega)); subst e_; omega⟩, sv12, (m + 1), (zs ++ [z]), (z + 7), W, (by exact hok14), (by omega), (by rw [List.range_succ, List.map_append, ← hzs, hzi]; rfl), (by omega), ha.weak (sub_get ⟨rfl, rfl, rfl, rfl, rfl, rfl, rfl, rfl, rfl, rfl, trivial⟩), hw.toHq.lookSub (List.Sublist.cons _ (sub_app (sv12.mem 3 ((zs ++ [z]).map (Value.int .i64))) (sub_skip gs13 (List.Sublist.refl _))))⟩
  · (try simp at cq10)
    have hw14 : ¬ (z ≤ 20 ∧ z ≤ (n : Int) + 14) := by first | (split at cq10 <;> omega) | omega
    have hfin : zs = oneL (n : Int) := hzs.trans (one_done hn hb_i.1 hb_i.2 (fun h_ => by omega))
    have hfl : zs.length = i := by rw [hzs]; simp
    refine g_exit ?_
    refine g_thenx ?_
    refine g_thenx ?_
    refine g_inbx ?_
    refine g_then ?_
    refine g_seq ?_
    refine g_region ?_
    refine s_y (y_move rfl) rfl rfl rfl rfl ?_
    refine s_y (y_eql_t rfl rfl (by decide)) rfl rfl rfl rfl ?_
    refine s_y (y_move rfl) rfl rfl rfl rfl ?_
    refine s_y (y_move rfl) rfl rfl rfl rfl ?_
    refine s_y (y_eql_t rfl rfl (by decide)) rfl rfl rfl rfl ?_
    refine s_y (y_pick_t rfl rfl) rfl rfl rfl rfl ?_
    refine s_y (y_move rfl) rfl rfl rfl rfl ?_
    refine s_y (y_move rfl) rfl rfl rfl rfl ?_
    refine s_y (y_eql_t rfl rfl (by decide)) rfl rfl rfl rfl ?_
    refine s_y (y_pick_t rfl rfl) rfl rfl rfl rfl ?_
    refine s_y (y_move rfl) rfl rfl rfl rfl ?_
    refine s_y (y_move rfl) rfl rfl rfl rfl ?_
    refine s_y (y_move rfl) rfl rfl rfl rfl ?_
    refine s_y (y_lenV (n := m) rfl (by obtain ⟨c, hc⟩ := sv_slice hokz; exact ⟨_, c, hc⟩) sle_22) rfl rfl rfl rfl ?_
    refine s_y (y_eql_t rfl rfl (by rw [← hfin]; omega)) rfl rfl rfl rfl ?_
    refine s_y (y_pick_t rfl rfl) rfl rfl rfl rfl ?_
    refine s_y (y_move rfl) rfl rfl rfl rfl ?_
    refine s_y (y_move rfl) rfl rfl rfl rfl ?_
    refine s_y (y_move rfl) rfl rfl rfl rfl ?_
    refine s_tr (t_build (vs := [(0, .int .i64 (n : Int))]) (cells := [.int .i64 (n : Int)]) rfl rfl Try.underlying22 hi3.1 hi3.2.1 (by rw [hi3.2.2.1]; rfl) (by rw [hi3.2.2.1]; rfl) (by rw [hi3.2.2.1]; kernel_rfl)) rfl rfl rfl rfl (fun b17 hb17 => ?_)
    refine s_tr (t_call rfl rfl ent_26 (fun w h => by have h_ := Equal_any w _ (.slice (some ⟨b17, 0, none⟩) 1 1) [(n : Int)] [(n : Int)] (hOo3.rd fun p hp => h.at_ p (List.mem_cons_of_mem _ (mem_ar (sv.mem 3 (zs.map (Value.int .i64))) (mem_ar mo7 (List.mem_cons_of_mem _ (mem_al mo3 hp)))))) (RdV.own (jk := []) (h.at_ _ (List.mem_cons_self ..)) rfl (by simp)) (by simp); rw [decide_eq_true rfl] at h_; exact h_)) rfl rfl rfl rfl (fun _ _ => ?_)
    refine s_y (y_pick_t rfl rfl) rfl rfl rfl rfl ?_
    refine s_y (y_move rfl) rfl rfl rfl rfl ?_
    refine s_y (y_move rfl) rfl rfl rfl rfl ?_
    refine s_y (y_move rfl) rfl rfl rfl rfl ?_
    refine s_tr (t_call rfl rfl ent_26 (fun w h => by have h_ := Equal_any w _ _ (oneL (n : Int)) zs (hOo7.rd fun p hp => h.at_ p (List.mem_cons_of_mem _ (mem_ar (sv.mem 3 (zs.map (Value.int .i64))) (mem_al mo7 hp)))) (RdV.sv (e := 3) hokz fun p hp => h.at_ p (List.mem_cons_of_mem _ (mem_al (sv.mem 3 (zs.map (Value.int .i64))) hp))) (by have h2_ : (oneL (n : Int)).length ≤ 3 := List.length_filter_le _ _; omega); rw [decide_eq_true hfin.symm] at h_; exact h_)) rfl rfl rfl rfl (fun _ _ => ?_)
    refine s_y (y_pick_t rfl rfl) rfl rfl rfl rfl ?_
    refine s_y (y_move rfl) rfl rfl rfl rfl ?_
    refine s_tr (t_call rfl rfl ent_19 (fun w h => awake_t w)) rfl rfl rfl rfl (fun _ _ => ?_)
    refine s_y (y_pick_t rfl rfl) rfl rfl rfl rfl ?_
    refine s_y (y_assign rfl) rfl rfl rfl rfl ?_
    refine s_nil ?_
    refine g_then ?_
    refine g_ret ?_
    exact g_end trivial (fun a w ha hq_ => res1 ha rfl rfl  w) (fun w h => ⟨rfl, h.below⟩)

end Go.Proofs.Ytolalckejnijkaa
