/- duets: the laws DuetsAlong, DuetsBuilt. -/
import Derived.Test.YtolalckejnijkaaDuH
namespace Go.Proofs.Ytolalckejnijkaa
open Go.RowKit Go.Sx 
set_option linter.unusedVariables false
set_option linter.unusedSimpArgs false
set_option maxRecDepth 100000
set_option maxHeartbeats 4000000

private theorem inf_3 : ∃ ie, Try.prog.info? 3 = some ie ∧ ie.zero = some (.int .i64 0) ∧ ie.size = 1 ∧ ie.bytes = 8 := info_of (by kernel_rfl) (by kernel_rfl)
private theorem ent_17 : Enters Try.prog 17 := enters_of Try.func17 (by kernel_rfl) rfl
private theorem ent_21 : Enters Try.prog 21 := enters_of Try.func21 (by kernel_rfl) rfl
private theorem ent_22 : Enters Try.prog 22 := enters_of Try.func22 (by kernel_rfl) rfl
private theorem sle_22 : Try.prog.underlying 22 = some (.slice (Try.prog.elem 22)) := by kernel_rfl
private theorem size_3 : (Try.prog.info? 3).map (·.size) = some 1 := by kernel_rfl
private theorem agg_3 : isAggB Try.prog 3 = some false := by kernel_rfl
private theorem ent_30 : Enters Try.prog 30 := enters_of Try.func30 (by kernel_rfl) rfl
private theorem ent_31 : Enters Try.prog 31 := enters_of Try.func31 (by kernel_rfl) rfl
private theorem ent_32 : Enters Try.prog 32 := enters_of Try.func32 (by kernel_rfl) rfl
private theorem ent_19 : Enters Try.prog 19 := enters_of Try.func19 (by kernel_rfl) rfl
private theorem ent_20 : Enters Try.prog 20 := enters_of Try.func20 (by kernel_rfl) rfl
private theorem ent_16 : Enters Try.prog 16 := enters_of Try.func16 (by kernel_rfl) rfl
private theorem ent_18 : Enters Try.prog 18 := enters_of Try.func18 (by kernel_rfl) rfl

theorem y_bneq_f {N : Nat} {ds : List Deferred} {l : List (Nat × Value)} {P : Program} {C : World → Prop} {dst : Option Tmp} {ty : TypeId} {pos : String} {aft : Array Edge} {gd : Option (Nat × Bool)} {x y t t'} {b b' : Bool} (hx : ev l x = some (.bool b)) (hy : ev l y = some (.bool b')) (hu : P.underlying t = some .bool) (h : b = b') : Yv P N ds l C ⟨dst, .binOp .neq t x y t', ty, pos, aft, gd⟩ (.bool false) := by
  have h2 := y_bneq (P := P) (N := N) (ds := ds) (l := l) (C := C) (dst := dst) (ty := ty) (pos := pos) (aft := aft) (gd := gd) (t' := t') hx hy hu
  rw [h, beq_self_eq_true] at h2; exact h2
theorem kpt_gt {g s : List Int} {i : Nat} (h : i < s.length) : (i : Int) < kptI g s ↔ ∀ j, j ≤ i → brk g s j = 0 := by
  unfold kptI
  rcases frs_all g s with ⟨h1, h2⟩ | ⟨j, h1, h2, h3, h4⟩
  · rw [h2, if_pos rfl]; exact ⟨fun _ j hj => h1 j (by omega), fun _ => by omega⟩
  · rw [h4, if_neg (by simp only; omega)]
    constructor
    · intro h5 l hl; simp only at h5; exact h3 l (by omega)
    · intro h5; simp only
      rcases Nat.lt_or_ge i j with h6 | h6
      · omega
      · have := h5 j h6; omega
theorem brk_take {g s : List Int} {k i : Nat} (hk : k ≤ s.length) (h : i < k) : brk g (s.take k) i = brk g s i := by
  have h1 := brk_pre (g := g) (s := s.take k) (s.drop k) (i := i) (by rw [List.length_take]; omega)
  rw [List.take_append_drop] at h1; exact h1.symm
theorem take_zero {g s : List Int} {k : Nat} (hk : k ≤ s.length) : (frs g (s.take k)).2 = 0 ↔ ∀ j, j < k → brk g s j = 0 := by
  rw [frs_zero, List.length_take, Nat.min_eq_left hk]
  exact ⟨fun h j hj => by rw [← brk_take hk hj]; exact h j hj, fun h j hj => by rw [brk_take hk hj]; exact h j hj⟩
theorem mem_nexD {g s : List Int} {i : Nat} (h : i < s.length) (hsn : ∀ x ∈ s, 0 ≤ x ∧ x ≤ 20) : rdI s (i : Int) ∈ nexD g (s.take i) ↔ (i : Int) < kptI g s := by
  have hx := notes_at hsn (i := (i : Int)) (by omega) (by omega)
  have hb : brk g (s.take i ++ [rdI s (i : Int)]) (s.take i).length = brk g s i := by
    rw [← rdI_take h, List.length_take, Nat.min_eq_left (by omega)]; exact brk_take (by omega) (by omega)
  rw [kpt_gt h]
  unfold nexD
  by_cases hz : (frs g (s.take i)).2 = 0
  · rw [if_pos hz]
    have hz2 := (take_zero (by omega)).1 hz
    constructor
    · intro hm j hj
      rcases Nat.lt_or_ge j i with h1 | h1
      · exact hz2 j h1
      · rw [show j = i by omega, ← hb]; exact (nxL_mem hm).2.2
    · intro ha; exact nxL_mem' hx.1 hx.2 (by rw [hb]; exact ha i (Nat.le_refl _))
  · rw [if_neg hz]
    constructor
    · intro hm; cases hm
    · intro ha; exact absurd ((take_zero (by omega)).2 fun j hj => ha j (by omega)) hz
theorem nexD_nil {g s : List Int} {i : Nat} (h : i < s.length) (hk : (i : Int) > kptI g s) : nexD g (s.take i) = [] := by
  unfold nexD
  rw [if_neg]
  intro hz
  have hz2 := (take_zero (by omega)).1 hz
  have h0 := kpt_le (g := g) (s := s)
  obtain ⟨k, hkk⟩ := Int.eq_ofNat_of_zero_le h0.1
  have h1 : (k : Int) < kptI g s := (kpt_gt (by omega)).2 fun j hj => hz2 j (by omega)
  omega
theorem nexD_sorted (g s : List Int) : (nexD g s).Pairwise (· < ·) := by
  unfold nexD
  split
  · unfold nxL nxP
    refine List.Pairwise.filter _ ?_
    rw [List.pairwise_map]
    exact List.pairwise_lt_range.imp fun {a b} h => by omega
  · exact List.Pairwise.nil
theorem nexD_len (g s : List Int) : (nexD g s).length ≤ 21 := by
  unfold nexD; split
  · exact nxL_len g s
  · simp
theorem kpt_none {g s : List Int} (hz : (frs g s).2 = 0) : kptI g s = s.length := if_pos hz
theorem kpt_some {g s : List Int} (hz : ¬ (frs g s).2 = 0) : kptI g s = (frs g s).1 := if_neg hz

theorem DuetsAlong_t (w : World) (v : Value) (g : List Int) (v' : Value) (s : List Int) (hg : RdV (Value.int .i64) w v g) (hs : RdV (Value.int .i64) w v' s) (hp : pairB g s = true) (hz : (frs g s).2 = 0) :
    Calls Try.prog 7 [v, v'].toArray w fun e w' => e = .returned (.bool true) ∧ Below w.heap.size w w' := by
  obtain ⟨⟨hgl, hgn⟩, hsn, hln⟩ := pair_facts hp
  have hkp : kptI g s = (g.length : Int) := (kpt_none hz).trans (by omega)
  have hk0 := kpt_le (g := g) (s := s)
  have hpg : partB g = true := partB_true.2 ⟨hgl, hgn⟩
  obtain ⟨ie3_, hi3_⟩ := inf_3
  refine enter (N := 95) Try.func7 rfl rfl rfl ?_
  refine g_seq ?_
  refine g_region ?_
  refine s_y (y_assign rfl) rfl rfl rfl rfl ?_
  refine s_nil ?_
  refine g_then ?_
  refine g_seq ?_
  refine g_region ?_
  refine s_y (y_move rfl) rfl rfl rfl rfl ?_
  refine s_tr (t_callm rfl rfl ent_17 (fun w h => by have h_ := list_any w _ g (hg.below h.below); rw [List.take_of_length_le (by omega)] at h_; exact h_)) rfl rfl rfl rfl (fun x2 hx3 => ?_)
  obtain ⟨vo1, mo1⟩ := x2
  obtain ⟨hOo1, hEo1⟩ := hx3
  refine s_y (y_move rfl) rfl rfl rfl rfl ?_
  refine s_tr (t_callm rfl rfl ent_17 (fun w h => by have h_ := list_any w _ s (hs.below h.below); rw [List.take_of_length_le (by omega)] at h_; exact h_)) rfl rfl rfl rfl (fun x5 hx6 => ?_)
  obtain ⟨vo4, mo4⟩ := x5
  obtain ⟨hOo4, hEo4⟩ := hx6
  refine s_tr (t_call rfl rfl ent_21 (fun w h => Check_none w _ _ g s (hOo1.rd fun p hp => h.at_ p (mem_ar mo4 (mem_al mo1 hp))) (hOo4.rd fun p hp => h.at_ p (mem_al mo4 hp)) hp hz)) rfl rfl rfl rfl (fun _ _ => ?_)
  refine s_y (y_move rfl) rfl rfl rfl rfl ?_
  refine s_y (y_extract rfl rfl) rfl rfl rfl rfl ?_
  refine s_y (y_extract rfl rfl) rfl rfl rfl rfl ?_
  refine s_y (y_extract rfl rfl) rfl rfl rfl rfl ?_
  refine s_y (y_assign rfl) rfl rfl rfl rfl ?_
  refine s_y (y_assign rfl) rfl rfl rfl rfl ?_
  refine s_y (y_assign rfl) rfl rfl rfl rfl ?_
  refine s_nil ?_
  refine g_then ?_
  refine g_seq ?_
  refine g_seq ?_
  refine g_region ?_
  refine s_y (y_move rfl) rfl rfl rfl rfl ?_
  refine s_y (y_move rfl) rfl rfl rfl rfl ?_
  refine s_tr (t_call rfl rfl ent_22 (fun w h => by have h_ := pair_any w _ _ g s (hg.below h.below) (hs.below h.below) (by omega) (by omega); rwa [hp] at h_)) rfl rfl rfl rfl (fun _ _ => ?_)
  refine s_y (y_not_t rfl) rfl rfl rfl rfl ?_
  refine s_nil ?_
  refine g_then ?_
  refine g_cond_f rfl ?_
  refine g_skip ?_
  refine g_then ?_
  refine g_seq ?_
  refine g_seq ?_
  refine g_region ?_
  refine s_y (y_move rfl) rfl rfl rfl rfl ?_
  refine s_y (y_neq_t rfl rfl (by decide)) rfl rfl rfl rfl ?_
  refine s_nil ?_
  refine g_then ?_
  refine g_cond_t rfl ?_
  refine g_region ?_
  refine s_y (y_move rfl) rfl rfl rfl rfl ?_
  refine s_y (y_lenV (n := g.length) rfl (by obtain ⟨A, c, h1, _⟩ := hg; exact ⟨A, c, h1⟩) sle_22) rfl rfl rfl rfl ?_
  refine s_y (y_assign rfl) rfl rfl rfl rfl ?_
  refine s_nil ?_
  refine g_then ?_
  refine g_seq ?_
  refine g_seq ?_
  refine g_region ?_
  refine s_y (y_move rfl) rfl rfl rfl rfl ?_
  refine s_y (y_neq_t rfl rfl (by decide)) rfl rfl rfl rfl ?_
  refine s_y (y_move rfl) rfl rfl rfl rfl ?_
  refine s_y (y_move rfl) rfl rfl rfl rfl ?_
  refine s_y (y_neq_f rfl rfl (by decide)) rfl rfl rfl rfl ?_
  refine s_y (y_pick_t rfl rfl) rfl rfl rfl rfl ?_
  refine s_y (y_move rfl) rfl rfl rfl rfl ?_
  refine s_y (y_move rfl) rfl rfl rfl rfl ?_
  refine s_y (y_lss_f rfl rfl (by omega)) rfl rfl rfl rfl ?_
  refine s_y (y_pick_f rfl rfl) rfl rfl rfl rfl ?_
  refine s_y (y_move rfl) rfl rfl rfl rfl ?_
  refine s_y (y_move rfl) rfl rfl rfl rfl ?_
  refine s_y (y_move rfl) rfl rfl rfl rfl ?_
  refine s_y (y_lenV (n := g.length) rfl (by obtain ⟨A, c, h1, _⟩ := hg; exact ⟨A, c, h1⟩) sle_22) rfl rfl rfl rfl ?_
  refine s_y (y_gtr_f rfl rfl (by omega)) rfl rfl rfl rfl ?_
  refine s_y (y_pick_f rfl rfl) rfl rfl rfl rfl ?_
  refine s_nil ?_
  refine g_then ?_
  refine g_cond_f rfl ?_
  refine g_skip ?_
  refine g_then ?_
  refine g_seq ?_
  refine g_seq ?_
  refine g_region ?_
  refine s_y (y_move rfl) rfl rfl rfl rfl ?_
  refine s_y (y_lenV (n := s.length) rfl (by obtain ⟨A, c, h1, _⟩ := hs; exact ⟨A, c, h1⟩) sle_22) rfl rfl rfl rfl ?_
  refine s_y (y_move rfl) rfl rfl rfl rfl ?_
  refine s_nil ?_
  refine g_then ?_
  refine g_block ?_
  refine g_loop (fun (i : Nat) act W => i ≤ s.length ∧ ∃ (w1 : World), Has 95 [] [(0, v), (1, v'), (5, .int .i64 (g.length : Nat)), (50, v'), (51, .int .i64 (s.length : Nat)), (52, .int .i64 (i : Int))] act ∧ Hp w w1 ((mo4 ++ ((mo1 ++ ([]))))) W) (fun i => s.length - i) 0 (fun act W ha hw => ⟨by omega, W, ha.weak (sub_get ⟨rfl, rfl, rfl, rfl, rfl, rfl, trivial⟩), hw.toHq.lookSub (List.Sublist.refl _)⟩) ?_
  intro i act W ⟨hb_i, w1, ha, hw⟩
  refine g_go ha hw ?_
  clear ha hw act W
  refine g_seq ?_
  refine g_region ?_
  refine s_y (y_lss rfl rfl) rfl rfl rfl rfl ?_
  refine s_nil ?_
  refine g_then ?_
  refine g_seq ?_
  refine g_cond rfl (fun cq7 => ?_) (fun cq7 => ?_)
  · (try simp at cq7)
    refine g_skip ?_
    refine g_then ?_
    refine g_seq ?_
    refine g_block ?_
    refine g_seq ?_
    refine g_region ?_
    refine s_y (y_move rfl) rfl rfl rfl rfl ?_
    refine s_y (y_idxV (enc := (Value.int .i64)) rfl rfl hs Try.underlying22 size_3 (by omega) (by omega)) rfl rfl rfl rfl ?_
    refine s_y (y_ldV (enc := (Value.int .i64)) (xs := s) (fun w h => hs.rdl.below h.below) rfl agg_3 (rdI_at (by omega) (by omega))) rfl rfl rfl rfl ?_
    refine s_y (y_assign rfl) rfl rfl rfl rfl ?_
    refine s_y (y_assign rfl) rfl rfl rfl rfl ?_
    refine s_nil ?_
    refine g_then ?_
    refine g_seq ?_
    obtain ⟨v7, hc7, hr7⟩ := run_cut_hi (P := Try.prog) hs Try.underlying22 hi3_.1 hi3_.2.2.1 i (by omega)
    refine g_draw 1 (by kernel_rfl) ?_
    refine j_p (i := 0) rfl (y_move rfl) (by kernel_rfl) (by kernel_rfl) (by kernel_rfl) rfl rfl rfl rfl rfl (.inr (fun _ h => h)) ?_
    refine j_p (i := 2) rfl (y_move rfl) (by kernel_rfl) (by kernel_rfl) (by kernel_rfl) rfl rfl rfl rfl rfl (.inr (fun _ h => h)) ?_
    refine j_p (i := 3) rfl (y_move rfl) (by kernel_rfl) (by kernel_rfl) (by kernel_rfl) rfl rfl rfl rfl rfl (.inr (fun _ h => h)) ?_
    refine j_p (i := 4) rfl (y_slice rfl none_ev (some_ev rfl) hc7 sle_22) (by kernel_rfl) (by kernel_rfl) (by kernel_rfl) rfl rfl rfl rfl rfl (.inr (fun _ h => h)) ?_
    refine j_tr (i := 1) rfl (t_callm rfl rfl ent_17 (fun w h => by have h_ := list_any w _ g (hg.below h.below); rw [List.take_of_length_le (by omega)] at h_; exact h_)) (by kernel_rfl) rfl rfl rfl rfl (.inl rfl) (fun x9 hx10 => ?_)
    obtain ⟨vo8, mo8⟩ := x9
    obtain ⟨hOo8, hEo8⟩ := hx10
    refine j_tr (i := 5) rfl (t_callm rfl rfl ent_17 (fun w h => by have h_ := list_any w _ (s.take i) ((hr7 _ hs).below h.below); rw [List.take_of_length_le (by rw [List.length_take]; omega)] at h_; exact h_)) (by kernel_rfl) rfl rfl rfl rfl (.inl rfl) (fun x12 hx13 => ?_)
    obtain ⟨vo11, mo11⟩ := x12
    obtain ⟨hOo11, hEo11⟩ := hx13
    refine j_tr (i := 6) rfl (t_callm rfl rfl ent_30 (fun w h => Next_ok w _ _ g (s.take i) (hOo8.rd fun p hp => h.at_ p (mem_ar mo11 (mem_al mo8 hp))) (hOo11.rd fun p hp => h.at_ p (mem_al mo11 hp)) hpg (fun x hx => hsn x (List.mem_of_mem_take hx)) (by rw [List.length_take]; omega))) (by kernel_rfl) rfl rfl rfl rfl (.inl rfl) (fun x15 hx16 => ?_)
    obtain ⟨vo14, mo14⟩ := x15
    obtain ⟨hOo14, hEo14⟩ := hx16
    refine j_p (i := 7) rfl (y_move rfl) (by kernel_rfl) (by kernel_rfl) (by kernel_rfl) rfl rfl rfl rfl rfl (.inl rfl) ?_
    refine j_p (i := 8) rfl (y_extract rfl rfl) (by kernel_rfl) (by kernel_rfl) (by kernel_rfl) rfl rfl rfl rfl rfl (.inl rfl) ?_
    refine j_p (i := 9) rfl (y_extract rfl rfl) (by kernel_rfl) (by kernel_rfl) (by kernel_rfl) rfl rfl rfl rfl rfl (.inl rfl) ?_
    refine j_p (i := 10) rfl (y_assign rfl) (by kernel_rfl) (by kernel_rfl) (by kernel_rfl) rfl rfl rfl rfl rfl (.inl rfl) ?_
    refine j_p (i := 11) rfl (y_assign rfl) (by kernel_rfl) (by kernel_rfl) (by kernel_rfl) rfl rfl rfl rfl rfl (.inl rfl) ?_
    refine j_nil (by kernel_rfl) ?_
    refine g_then ?_
    refine g_seq ?_
    refine g_region ?_
    refine s_y (y_move rfl) rfl rfl rfl rfl ?_
    refine s_y (y_neq_f rfl rfl (by decide)) rfl rfl rfl rfl ?_
    refine s_y (y_move rfl) rfl rfl rfl rfl ?_
    refine s_y (y_move rfl) rfl rfl rfl rfl ?_
    refine s_tr (t_call rfl rfl ent_31 (fun w h => IsSorted_t w _ (nexD g (s.take i)) (hOo14.rd fun p hp => h.at_ p (mem_al mo14 hp)) (by have h_ := nexD_len g (s.take i); omega) (sorted_rd (nexD_sorted ..)))) rfl rfl rfl rfl (fun _ _ => ?_)
    refine s_y (y_not_t rfl) rfl rfl rfl rfl ?_
    refine s_y (y_pick_f rfl rfl) rfl rfl rfl rfl ?_
    refine s_y (y_move rfl) rfl rfl rfl rfl ?_
    refine s_y (y_move rfl) rfl rfl rfl rfl ?_
    refine s_y (y_move rfl) rfl rfl rfl rfl ?_
    refine s_tr (t_call rfl rfl ent_32 (fun w h => by have h_ := Contains_any w _ (nexD g (s.take i)) (rdI s (i : Int)) (hOo14.rd fun p hp => h.at_ p (mem_al mo14 hp)) (by have h_ := nexD_len g (s.take i); omega); rw [show decide (rdI s (i : Int) ∈ nexD g (s.take i)) = decide ((i : Int) < (g.length : Nat)) from decide_eq_decide.2 ((mem_nexD (by omega) hsn).trans (by rw [hkp]))] at h_; exact h_)) rfl rfl rfl rfl (fun _ _ => ?_)
    refine s_y (y_move rfl) rfl rfl rfl rfl ?_
    refine s_y (y_move rfl) rfl rfl rfl rfl ?_
    refine s_y (y_lss rfl rfl) rfl rfl rfl rfl ?_
    refine s_y (y_bneq_f rfl rfl Try.underlying4 rfl) rfl rfl rfl rfl ?_
    refine s_y (y_pick_f rfl rfl) rfl rfl rfl rfl ?_
    refine s_y (y_move rfl) rfl rfl rfl rfl ?_
    refine s_y (y_move rfl) rfl rfl rfl rfl ?_
    refine s_y (y_move rfl) rfl rfl rfl rfl ?_
    refine s_y (y_gtr rfl rfl) rfl rfl rfl rfl ?_
    refine s_y (y_move rfl) rfl rfl rfl rfl ?_
    refine g_bool 87 rfl (fun cq17 => ?_) (fun cq17 => ?_)
    · (try simp at cq17)
      refine s_y (y_move rfl) rfl rfl rfl rfl ?_
      refine s_y (y_lenV (n := ((nexD g (s.take i)).length)) rfl hOo14.1 sle_22) rfl rfl rfl rfl ?_
      refine s_y (y_neq_f rfl rfl (by rw [nexD_nil (by omega) (by omega)]; rfl)) rfl rfl rfl rfl ?_
      refine s_y (y_pick_t rfl rfl) rfl rfl rfl rfl ?_
      refine s_y (y_pick_f rfl rfl) rfl rfl rfl rfl ?_
      refine s_nil ?_
      refine g_then ?_
      refine g_cond_f rfl ?_
      refine g_skip ?_
      refine g_inb ?_
      refine g_then ?_
      refine g_region ?_
      refine s_y (y_add rfl rfl (by omega) (by omega)) rfl rfl rfl rfl ?_
      refine s_y (y_move rfl) rfl rfl rfl rfl ?_
      refine s_nil ?_
      refine g_then ?_
      exact fun act W ha hw => ⟨i + 1, by omega, by omega, W, ha.weak (sub_get ⟨rfl, rfl, rfl, rfl, rfl, rfl, trivial⟩), hw.toHq.lookSub (sub_skip mo14 (sub_skip mo11 (sub_skip mo8 (List.Sublist.refl _))))⟩
    · (try simp at cq17)
      refine s_no rfl rfl rfl ?_
      refine s_no rfl rfl rfl ?_
      refine s_no rfl rfl rfl ?_
      refine s_y (y_pick_f rfl rfl) rfl rfl rfl rfl ?_
      refine s_y (y_pick_f rfl rfl) rfl rfl rfl rfl ?_
      refine s_nil ?_
      refine g_then ?_
      refine g_cond_f rfl ?_
      refine g_skip ?_
      refine g_inb ?_
      refine g_then ?_
      refine g_region ?_
      refine s_y (y_add rfl rfl (by omega) (by omega)) rfl rfl rfl rfl ?_
      refine s_y (y_move rfl) rfl rfl rfl rfl ?_
      refine s_nil ?_
      refine g_then ?_
      exact fun act W ha hw => ⟨i + 1, by omega, by omega, W, ha.weak (sub_get ⟨rfl, rfl, rfl, rfl, rfl, rfl, trivial⟩), hw.toHq.lookSub (sub_skip mo14 (sub_skip mo11 (sub_skip mo8 (List.Sublist.refl _))))⟩
  · (try simp at cq7)
    refine g_exit ?_
    refine g_thenx ?_
    refine g_thenx ?_
    refine g_inbx ?_
    refine g_then ?_
    refine g_seq ?_
    refine g_region ?_
    refine s_tr (t_call rfl rfl ent_19 (fun w h => awake_t w)) rfl rfl rfl rfl (fun _ _ => ?_)
    refine s_y (y_assign rfl) rfl rfl rfl rfl ?_
    refine s_nil ?_
    refine g_then ?_
    refine g_ret ?_
    exact g_end trivial (fun a w ha hq_ => res1 ha rfl rfl  w) (fun w h => ⟨rfl, h.below⟩)

theorem DuetsAlong_f (w : World) (v : Value) (g : List Int) (v' : Value) (s : List Int) (hg : RdV (Value.int .i64) w v g) (hs : RdV (Value.int .i64) w v' s) (hp : pairB g s = true) (hz : ¬ (frs g s).2 = 0) :
    Calls Try.prog 7 [v, v'].toArray w fun e w' => e = .returned (.bool true) ∧ Below w.heap.size w w' := by
  obtain ⟨⟨hgl, hgn⟩, hsn, hln⟩ := pair_facts hp
  have hkp : kptI g s = (frs g s).1 := kpt_some hz
  have hk0 := kpt_le (g := g) (s := s)
  have hpg : partB g = true := partB_true.2 ⟨hgl, hgn⟩
  obtain ⟨ie3_, hi3_⟩ := inf_3
  refine enter (N := 95) Try.func7 rfl rfl rfl ?_
  refine g_seq ?_
  refine g_region ?_
  refine s_y (y_assign rfl) rfl rfl rfl rfl ?_
  refine s_nil ?_
  refine g_then ?_
  refine g_seq ?_
  refine g_region ?_
  refine s_y (y_move rfl) rfl rfl rfl rfl ?_
  refine s_tr (t_callm rfl rfl ent_17 (fun w h => by have h_ := list_any w _ g (hg.below h.below); rw [List.take_of_length_le (by omega)] at h_; exact h_)) rfl rfl rfl rfl (fun x2 hx3 => ?_)
  obtain ⟨vo1, mo1⟩ := x2
  obtain ⟨hOo1, hEo1⟩ := hx3
  refine s_y (y_move rfl) rfl rfl rfl rfl ?_
  refine s_tr (t_callm rfl rfl ent_17 (fun w h => by have h_ := list_any w _ s (hs.below h.below); rw [List.take_of_length_le (by omega)] at h_; exact h_)) rfl rfl rfl rfl (fun x5 hx6 => ?_)
  obtain ⟨vo4, mo4⟩ := x5
  obtain ⟨hOo4, hEo4⟩ := hx6
  refine s_tr (t_call rfl rfl ent_21 (fun w h => Check_some w _ _ g s (hOo1.rd fun p hp => h.at_ p (mem_ar mo4 (mem_al mo1 hp))) (hOo4.rd fun p hp => h.at_ p (mem_al mo4 hp)) hp hz)) rfl rfl rfl rfl (fun _ _ => ?_)
  refine s_y (y_move rfl) rfl rfl rfl rfl ?_
  refine s_y (y_extract rfl rfl) rfl rfl rfl rfl ?_
  refine s_y (y_extract rfl rfl) rfl rfl rfl rfl ?_
  refine s_y (y_extract rfl rfl) rfl rfl rfl rfl ?_
  refine s_y (y_assign rfl) rfl rfl rfl rfl ?_
  refine s_y (y_assign rfl) rfl rfl rfl rfl ?_
  refine s_y (y_assign rfl) rfl rfl rfl rfl ?_
  refine s_nil ?_
  refine g_then ?_
  refine g_seq ?_
  refine g_seq ?_
  refine g_region ?_
  refine s_y (y_move rfl) rfl rfl rfl rfl ?_
  refine s_y (y_move rfl) rfl rfl rfl rfl ?_
  refine s_tr (t_call rfl rfl ent_22 (fun w h => by have h_ := pair_any w _ _ g s (hg.below h.below) (hs.below h.below) (by omega) (by omega); rwa [hp] at h_)) rfl rfl rfl rfl (fun _ _ => ?_)
  refine s_y (y_not_t rfl) rfl rfl rfl rfl ?_
  refine s_nil ?_
  refine g_then ?_
  refine g_cond_f rfl ?_
  refine g_skip ?_
  refine g_then ?_
  refine g_seq ?_
  refine g_seq ?_
  refine g_region ?_
  refine s_y (y_move rfl) rfl rfl rfl rfl ?_
  refine s_y (y_neq_f rfl rfl (by decide)) rfl rfl rfl rfl ?_
  refine s_nil ?_
  refine g_then ?_
  refine g_cond_f rfl ?_
  refine g_skip ?_
  refine g_then ?_
  refine g_seq ?_
  refine g_seq ?_
  refine g_region ?_
  refine s_y (y_move rfl) rfl rfl rfl rfl ?_
  refine s_y (y_neq_f rfl rfl (by decide)) rfl rfl rfl rfl ?_
  refine s_y (y_move rfl) rfl rfl rfl rfl ?_
  refine s_no rfl rfl rfl ?_
  refine s_no rfl rfl rfl ?_
  refine s_y (y_pick_f rfl rfl) rfl rfl rfl rfl ?_
  refine s_y (y_move rfl) rfl rfl rfl rfl ?_
  refine s_y (y_move rfl) rfl rfl rfl rfl ?_
  refine s_y (y_lss_f rfl rfl (by omega)) rfl rfl rfl rfl ?_
  refine s_y (y_pick_f rfl rfl) rfl rfl rfl rfl ?_
  refine s_y (y_move rfl) rfl rfl rfl rfl ?_
  refine s_y (y_move rfl) rfl rfl rfl rfl ?_
  refine s_y (y_move rfl) rfl rfl rfl rfl ?_
  refine s_y (y_lenV (n := g.length) rfl (by obtain ⟨A, c, h1, _⟩ := hg; exact ⟨A, c, h1⟩) sle_22) rfl rfl rfl rfl ?_
  refine s_y (y_gtr_f rfl rfl (by omega)) rfl rfl rfl rfl ?_
  refine s_y (y_pick_f rfl rfl) rfl rfl rfl rfl ?_
  refine s_nil ?_
  refine g_then ?_
  refine g_cond_f rfl ?_
  refine g_skip ?_
  refine g_then ?_
  refine g_seq ?_
  refine g_seq ?_
  refine g_region ?_
  refine s_y (y_move rfl) rfl rfl rfl rfl ?_
  refine s_y (y_lenV (n := s.length) rfl (by obtain ⟨A, c, h1, _⟩ := hs; exact ⟨A, c, h1⟩) sle_22) rfl rfl rfl rfl ?_
  refine s_y (y_move rfl) rfl rfl rfl rfl ?_
  refine s_nil ?_
  refine g_then ?_
  refine g_block ?_
  refine g_loop (fun (i : Nat) act W => i ≤ s.length ∧ ∃ (w1 : World), Has 95 [] [(0, v), (1, v'), (5, .int .i64 ((frs g s).1)), (50, v'), (51, .int .i64 (s.length : Nat)), (52, .int .i64 (i : Int))] act ∧ Hp w w1 ((mo4 ++ ((mo1 ++ ([]))))) W) (fun i => s.length - i) 0 (fun act W ha hw => ⟨by omega, W, ha.weak (sub_get ⟨rfl, rfl, rfl, rfl, rfl, rfl, trivial⟩), hw.toHq.lookSub (List.Sublist.refl _)⟩) ?_
  intro i act W ⟨hb_i, w1, ha, hw⟩
  refine g_go ha hw ?_
  clear ha hw act W
  refine g_seq ?_
  refine g_region ?_
  refine s_y (y_lss rfl rfl) rfl rfl rfl rfl ?_
  refine s_nil ?_
  refine g_then ?_
  refine g_seq ?_
  refine g_cond rfl (fun cq7 => ?_) (fun cq7 => ?_)
  · (try simp at cq7)
    refine g_skip ?_
    refine g_then ?_
    refine g_seq ?_
    refine g_block ?_
    refine g_seq ?_
    refine g_region ?_
    refine s_y (y_move rfl) rfl rfl rfl rfl ?_
    refine s_y (y_idxV (enc := (Value.int .i64)) rfl rfl hs Try.underlying22 size_3 (by omega) (by omega)) rfl rfl rfl rfl ?_
    refine s_y (y_ldV (enc := (Value.int .i64)) (xs := s) (fun w h => hs.rdl.below h.below) rfl agg_3 (rdI_at (by omega) (by omega))) rfl rfl rfl rfl ?_
    refine s_y (y_assign rfl) rfl rfl rfl rfl ?_
    refine s_y (y_assign rfl) rfl rfl rfl rfl ?_
    refine s_nil ?_
    refine g_then ?_
    refine g_seq ?_
    obtain ⟨v7, hc7, hr7⟩ := run_cut_hi (P := Try.prog) hs Try.underlying22 hi3_.1 hi3_.2.2.1 i (by omega)
    refine g_draw 1 (by kernel_rfl) ?_
    refine j_p (i := 0) rfl (y_move rfl) (by kernel_rfl) (by kernel_rfl) (by kernel_rfl) rfl rfl rfl rfl rfl (.inr (fun _ h => h)) ?_
    refine j_p (i := 2) rfl (y_move rfl) (by kernel_rfl) (by kernel_rfl) (by kernel_rfl) rfl rfl rfl rfl rfl (.inr (fun _ h => h)) ?_
    refine j_p (i := 3) rfl (y_move rfl) (by kernel_rfl) (by kernel_rfl) (by kernel_rfl) rfl rfl rfl rfl rfl (.inr (fun _ h => h)) ?_
    refine j_p (i := 4) rfl (y_slice rfl none_ev (some_ev rfl) hc7 sle_22) (by kernel_rfl) (by kernel_rfl) (by kernel_rfl) rfl rfl rfl rfl rfl (.inr (fun _ h => h)) ?_
    refine j_tr (i := 1) rfl (t_callm rfl rfl ent_17 (fun w h => by have h_ := list_any w _ g (hg.below h.below); rw [List.take_of_length_le (by omega)] at h_; exact h_)) (by kernel_rfl) rfl rfl rfl rfl (.inl rfl) (fun x9 hx10 => ?_)
    obtain ⟨vo8, mo8⟩ := x9
    obtain ⟨hOo8, hEo8⟩ := hx10
    refine j_tr (i := 5) rfl (t_callm rfl rfl ent_17 (fun w h => by have h_ := list_any w _ (s.take i) ((hr7 _ hs).below h.below); rw [List.take_of_length_le (by rw [List.length_take]; omega)] at h_; exact h_)) (by kernel_rfl) rfl rfl rfl rfl (.inl rfl) (fun x12 hx13 => ?_)
    obtain ⟨vo11, mo11⟩ := x12
    obtain ⟨hOo11, hEo11⟩ := hx13
    refine j_tr (i := 6) rfl (t_callm rfl rfl ent_30 (fun w h => Next_ok w _ _ g (s.take i) (hOo8.rd fun p hp => h.at_ p (mem_ar mo11 (mem_al mo8 hp))) (hOo11.rd fun p hp => h.at_ p (mem_al mo11 hp)) hpg (fun x hx => hsn x (List.mem_of_mem_take hx)) (by rw [List.length_take]; omega))) (by kernel_rfl) rfl rfl rfl rfl (.inl rfl) (fun x15 hx16 => ?_)
    obtain ⟨vo14, mo14⟩ := x15
    obtain ⟨hOo14, hEo14⟩ := hx16
    refine j_p (i := 7) rfl (y_move rfl) (by kernel_rfl) (by kernel_rfl) (by kernel_rfl) rfl rfl rfl rfl rfl (.inl rfl) ?_
    refine j_p (i := 8) rfl (y_extract rfl rfl) (by kernel_rfl) (by kernel_rfl) (by kernel_rfl) rfl rfl rfl rfl rfl (.inl rfl) ?_
    refine j_p (i := 9) rfl (y_extract rfl rfl) (by kernel_rfl) (by kernel_rfl) (by kernel_rfl) rfl rfl rfl rfl rfl (.inl rfl) ?_
    refine j_p (i := 10) rfl (y_assign rfl) (by kernel_rfl) (by kernel_rfl) (by kernel_rfl) rfl rfl rfl rfl rfl (.inl rfl) ?_
    refine j_p (i := 11) rfl (y_assign rfl) (by kernel_rfl) (by kernel_rfl) (by kernel_rfl) rfl rfl rfl rfl rfl (.inl rfl) ?_
    refine j_nil (by kernel_rfl) ?_
    refine g_then ?_
    refine g_seq ?_
    refine g_region ?_
    refine s_y (y_move rfl) rfl rfl rfl rfl ?_
    refine s_y (y_neq_f rfl rfl (by decide)) rfl rfl rfl rfl ?_
    refine s_y (y_move rfl) rfl rfl rfl rfl ?_
    refine s_y (y_move rfl) rfl rfl rfl rfl ?_
    refine s_tr (t_call rfl rfl ent_31 (fun w h => IsSorted_t w _ (nexD g (s.take i)) (hOo14.rd fun p hp => h.at_ p (mem_al mo14 hp)) (by have h_ := nexD_len g (s.take i); omega) (sorted_rd (nexD_sorted ..)))) rfl rfl rfl rfl (fun _ _ => ?_)
    refine s_y (y_not_t rfl) rfl rfl rfl rfl ?_
    refine s_y (y_pick_f rfl rfl) rfl rfl rfl rfl ?_
    refine s_y (y_move rfl) rfl rfl rfl rfl ?_
    refine s_y (y_move rfl) rfl rfl rfl rfl ?_
    refine s_y (y_move rfl) rfl rfl rfl rfl ?_
    refine s_tr (t_call rfl rfl ent_32 (fun w h => by have h_ := Contains_any w _ (nexD g (s.take i)) (rdI s (i : Int)) (hOo14.rd fun p hp => h.at_ p (mem_al mo14 hp)) (by have h_ := nexD_len g (s.take i); omega); rw [show decide (rdI s (i : Int) ∈ nexD g (s.take i)) = decide ((i : Int) < ((frs g s).1)) from decide_eq_decide.2 ((mem_nexD (by omega) hsn).trans (by rw [hkp]))] at h_; exact h_)) rfl rfl rfl rfl (fun _ _ => ?_)
    refine s_y (y_move rfl) rfl rfl rfl rfl ?_
    refine s_y (y_move rfl) rfl rfl rfl rfl ?_
    refine s_y (y_lss rfl rfl) rfl rfl rfl rfl ?_
    refine s_y (y_bneq_f rfl rfl Try.underlying4 rfl) rfl rfl rfl rfl ?_
    refine s_y (y_pick_f rfl rfl) rfl rfl rfl rfl ?_
    refine s_y (y_move rfl) rfl rfl rfl rfl ?_
    refine s_y (y_move rfl) rfl rfl rfl rfl ?_
    refine s_y (y_move rfl) rfl rfl rfl rfl ?_
    refine s_y (y_gtr rfl rfl) rfl rfl rfl rfl ?_
    refine s_y (y_move rfl) rfl rfl rfl rfl ?_
    refine g_bool 87 rfl (fun cq17 => ?_) (fun cq17 => ?_)
    · (try simp at cq17)
      refine s_y (y_move rfl) rfl rfl rfl rfl ?_
      refine s_y (y_lenV (n := ((nexD g (s.take i)).length)) rfl hOo14.1 sle_22) rfl rfl rfl rfl ?_
      refine s_y (y_neq_f rfl rfl (by rw [nexD_nil (by omega) (by omega)]; rfl)) rfl rfl rfl rfl ?_
      refine s_y (y_pick_t rfl rfl) rfl rfl rfl rfl ?_
      refine s_y (y_pick_f rfl rfl) rfl rfl rfl rfl ?_
      refine s_nil ?_
      refine g_then ?_
      refine g_cond_f rfl ?_
      refine g_skip ?_
      refine g_inb ?_
      refine g_then ?_
      refine g_region ?_
      refine s_y (y_add rfl rfl (by omega) (by omega)) rfl rfl rfl rfl ?_
      refine s_y (y_move rfl) rfl rfl rfl rfl ?_
      refine s_nil ?_
      refine g_then ?_
      exact fun act W ha hw => ⟨i + 1, by omega, by omega, W, ha.weak (sub_get ⟨rfl, rfl, rfl, rfl, rfl, rfl, trivial⟩), hw.toHq.lookSub (sub_skip mo14 (sub_skip mo11 (sub_skip mo8 (List.Sublist.refl _))))⟩
    · (try simp at cq17)
      refine s_no rfl rfl rfl ?_
      refine s_no rfl rfl rfl ?_
      refine s_no rfl rfl rfl ?_
      refine s_y (y_pick_f rfl rfl) rfl rfl rfl rfl ?_
      refine s_y (y_pick_f rfl rfl) rfl rfl rfl rfl ?_
      refine s_nil ?_
      refine g_then ?_
      refine g_cond_f rfl ?_
      refine g_skip ?_
      refine g_inb ?_
      refine g_then ?_
      refine g_region ?_
      refine s_y (y_add rfl rfl (by omega) (by omega)) rfl rfl rfl rfl ?_
      refine s_y (y_move rfl) rfl rfl rfl rfl ?_
      refine s_nil ?_
      refine g_then ?_
      exact fun act W ha hw => ⟨i + 1, by omega, by omega, W, ha.weak (sub_get ⟨rfl, rfl, rfl, rfl, rfl, rfl, trivial⟩), hw.toHq.lookSub (sub_skip mo14 (sub_skip mo11 (sub_skip mo8 (List.Sublist.refl _))))⟩
  · (try simp at cq7)
    refine g_exit ?_
    refine g_thenx ?_
    refine g_thenx ?_
    refine g_inbx ?_
    refine g_then ?_
    refine g_seq ?_
    refine g_region ?_
    refine s_tr (t_call rfl rfl ent_19 (fun w h => awake_t w)) rfl rfl rfl rfl (fun _ _ => ?_)
    refine s_y (y_assign rfl) rfl rfl rfl rfl ?_
    refine s_nil ?_
    refine g_then ?_
    refine g_ret ?_
    exact g_end trivial (fun a w ha hq_ => res1 ha rfl rfl  w) (fun w h => ⟨rfl, h.below⟩)

theorem DuetsAlong_no (w : World) (v : Value) (g : List Int) (v' : Value) (s : List Int) (hg : RdV (Value.int .i64) w v g) (hs : RdV (Value.int .i64) w v' s) (hgl : g.length ≤ 9223372036854775807) (hsl : s.length ≤ 9223372036854775807) (hp : pairB g s = false) :
    Calls Try.prog 7 [v, v'].toArray w fun e w' => e = .returned (.bool true) ∧ Below w.heap.size w w' := by
  refine enter (N := 95) Try.func7 rfl rfl rfl ?_
  refine g_seq ?_
  refine g_region ?_
  refine s_y (y_assign rfl) rfl rfl rfl rfl ?_
  refine s_nil ?_
  refine g_then ?_
  refine g_seq ?_
  refine g_region ?_
  refine s_y (y_move rfl) rfl rfl rfl rfl ?_
  refine s_tr (t_callm rfl rfl ent_17 (fun w h => list_any w _ g (hg.below h.below))) rfl rfl rfl rfl (fun x2 hx3 => ?_)
  obtain ⟨vo1, mo1⟩ := x2
  obtain ⟨hOo1, hEo1⟩ := hx3
  refine s_y (y_move rfl) rfl rfl rfl rfl ?_
  refine s_tr (t_callm rfl rfl ent_17 (fun w h => list_any w _ s (hs.below h.below))) rfl rfl rfl rfl (fun x5 hx6 => ?_)
  obtain ⟨vo4, mo4⟩ := x5
  obtain ⟨hOo4, hEo4⟩ := hx6
  refine s_tr (t_call rfl rfl ent_21 (fun w h => Check_no w _ _ (g.take 11) (s.take 11) (hOo1.rd fun p hp => h.at_ p (mem_ar mo4 (mem_al mo1 hp))) (hOo4.rd fun p hp => h.at_ p (mem_al mo4 hp)) (by rw [List.length_take]; omega) (by rw [List.length_take]; omega) (pair_take hp))) rfl rfl rfl rfl (fun _ _ => ?_)
  refine s_y (y_move rfl) rfl rfl rfl rfl ?_
  refine s_y (y_extract rfl rfl) rfl rfl rfl rfl ?_
  refine s_y (y_extract rfl rfl) rfl rfl rfl rfl ?_
  refine s_y (y_extract rfl rfl) rfl rfl rfl rfl ?_
  refine s_y (y_assign rfl) rfl rfl rfl rfl ?_
  refine s_y (y_assign rfl) rfl rfl rfl rfl ?_
  refine s_y (y_assign rfl) rfl rfl rfl rfl ?_
  refine s_nil ?_
  refine g_then ?_
  refine g_seq ?_
  refine g_seq ?_
  refine g_region ?_
  refine s_y (y_move rfl) rfl rfl rfl rfl ?_
  refine s_y (y_move rfl) rfl rfl rfl rfl ?_
  refine s_tr (t_call rfl rfl ent_22 (fun w h => by have h_ := pair_any w _ _ g s (hg.below h.below) (hs.below h.below) hgl hsl; rwa [hp] at h_)) rfl rfl rfl rfl (fun _ _ => ?_)
  refine s_y (y_not_f rfl) rfl rfl rfl rfl ?_
  refine s_nil ?_
  refine g_then ?_
  refine g_cond_t rfl ?_
  refine g_seq ?_
  refine g_region ?_
  refine s_y (y_move rfl) rfl rfl rfl rfl ?_
  refine s_y (y_eql_t rfl rfl (by decide)) rfl rfl rfl rfl ?_
  refine s_y (y_move rfl) rfl rfl rfl rfl ?_
  refine s_tr (t_call rfl rfl ent_19 (fun w h => awake_t w)) rfl rfl rfl rfl (fun _ _ => ?_)
  refine s_y (y_pick_t rfl rfl) rfl rfl rfl rfl ?_
  refine s_y (y_assign rfl) rfl rfl rfl rfl ?_
  refine s_nil ?_
  refine g_then ?_
  refine g_ret ?_
  refine g_thenr ?_
  exact g_end trivial (fun a w ha hq_ => res1 ha rfl rfl  w) (fun w h => ⟨rfl, h.below⟩)

theorem DuetsAlong_law (w : World) (v : Value) (g : List Int) (v' : Value) (s : List Int) (hg : RdV (Value.int .i64) w v g) (hgl : g.length ≤ maxLen) (wg : ∀ x ∈ g, (Lit.int .i64 x).wf = true) (hs : RdV (Value.int .i64) w v' s) (hsl : s.length ≤ maxLen) (ws : ∀ x ∈ s, (Lit.int .i64 x).wf = true) : Calls Try.prog 7 [v, v'].toArray w fun e w' => e = .returned (.bool true) ∧ Below w.heap.size w w' := by
  have hmx : (maxLen : Nat) = 9223372036854775807 := rfl
  cases hp : pairB g s with
  | true =>
    by_cases hz : (frs g s).2 = 0
    · exact DuetsAlong_t w v g v' s hg hs hp hz
    · exact DuetsAlong_f w v g v' s hg hs hp hz
  | false => exact DuetsAlong_no w v g v' s hg hs (by omega) (by omega) hp

def WaysAt (g : List Int) (k : Nat) : Prop := ∀ (w : World) (ag as_ : Option Addr) (cg cs : Nat) (s : List Int) (most : Int), RdV (Value.int .i64) w (.slice ag g.length cg) g → RdV (Value.int .i64) w (.slice as_ s.length cs) s → s.length + k = g.length → (∀ x ∈ s, 0 ≤ x ∧ x ≤ 20) → (∀ j, j < s.length → brk g s j = 0) → 0 ≤ most → most ≤ 2000 →
    Calls Try.prog 20 [.slice ag g.length cg, .slice as_ s.length cs, .int .i64 most].toArray w fun e w' => ∃ r : Int, ((0 ≤ r ∧ r ≤ cntR g (k) s) ∧ (cntR g (k) s ≤ most → r = cntR g (k) s) ∧ (most < cntR g (k) s → most < r)) ∧ e = .returned (.int .i64 r) ∧ Hq w w [] w'
theorem sum_take_le {h : Int → Int} (hn : ∀ x, 0 ≤ h x) : ∀ (xs : List Int) (i : Nat), ((xs.take i).map h).sum ≤ (xs.map h).sum
  | [], i => by simp
  | x :: xs, 0 => by
    have h1 := sum_take_le hn xs 0
    have h2 := hn x
    simp only [List.take_zero, List.map_nil, List.sum_nil, List.map_cons, List.sum_cons] at h1 ⊢
    omega
  | x :: xs, i + 1 => by
    have h1 := sum_take_le hn xs i
    simp only [List.take_succ_cons, List.map_cons, List.sum_cons]
    omega

theorem ways_full (w : World) (ag as_ : Option Addr) (cg cs : Nat) (g s : List Int) (most : Int) (hg : RdV (Value.int .i64) w (.slice ag g.length cg) g) (hs : RdV (Value.int .i64) w (.slice as_ s.length cs) s) (hpg : partB g = true) (kk : Nat) (hle : s.length + 0 = g.length) (hsn : ∀ x ∈ s, 0 ≤ x ∧ x ≤ 20) (hz : ∀ j, j < s.length → brk g s j = 0) (hm0 : 0 ≤ most) (hm1 : most ≤ 2000) :
    Calls Try.prog 20 [.slice ag g.length cg, .slice as_ s.length cs, .int .i64 most].toArray w fun e w' => ∃ r : Int, ((0 ≤ r ∧ r ≤ cntR g (0) s) ∧ (cntR g (0) s ≤ most → r = cntR g (0) s) ∧ (most < cntR g (0) s → most < r)) ∧ e = .returned (.int .i64 r) ∧ Hq w w [] w' := by
  obtain ⟨hgl, hgn⟩ := partB_true.1 hpg
  refine enter (N := 59) Try.func20 rfl rfl rfl ?_
  refine g_seq ?_
  refine g_region ?_
  refine s_y (y_assign rfl) rfl rfl rfl rfl ?_
  refine s_nil ?_
  refine g_then ?_
  refine g_seq ?_
  refine g_seq ?_
  refine g_region ?_
  refine s_y (y_move rfl) rfl rfl rfl rfl ?_
  refine s_y (y_lenV (n := s.length) rfl (by obtain ⟨A, c, h1, _⟩ := hs; exact ⟨A, c, h1⟩) sle_22) rfl rfl rfl rfl ?_
  refine s_y (y_move rfl) rfl rfl rfl rfl ?_
  refine s_y (y_lenV (n := g.length) rfl (by obtain ⟨A, c, h1, _⟩ := hg; exact ⟨A, c, h1⟩) sle_22) rfl rfl rfl rfl ?_
  refine s_y (y_eql_t rfl rfl (by omega)) rfl rfl rfl rfl ?_
  refine s_nil ?_
  refine g_then ?_
  refine g_cond_t rfl ?_
  refine g_seq ?_
  refine g_region ?_
  refine s_y (y_assign rfl) rfl rfl rfl rfl ?_
  refine s_nil ?_
  refine g_then ?_
  refine g_ret ?_
  refine g_thenr ?_
  exact g_end trivial (fun a w ha hq_ => res1 ha rfl rfl  w) (fun w h => ⟨_, ⟨⟨(by show (0 : Int) ≤ 1; decide), (by show (1 : Int) ≤ 1; decide)⟩, fun _ => rfl, fun h_ => h_⟩, rfl, h.hand0⟩)

theorem rdI_some {xs : List Int} {i : Nat} (h : i < xs.length) : xs[i]? = some (rdI xs (i : Int)) := by
  rw [rdI_lt h, List.getElem?_eq_getElem h]

theorem ways_new (w : World) (ag as_ : Option Addr) (cg cs : Nat) (g s : List Int) (most : Int) (hg : RdV (Value.int .i64) w (.slice ag g.length cg) g) (hs : RdV (Value.int .i64) w (.slice as_ s.length cs) s) (hpg : partB g = true) (kk : Nat) (hle : s.length + (kk + 1) = g.length) (hsn : ∀ x ∈ s, 0 ≤ x ∧ x ≤ 20) (hz : ∀ j, j < s.length → brk g s j = 0) (hm0 : 0 ≤ most) (hm1 : most ≤ 2000) (IH : WaysAt g kk) :
    Calls Try.prog 20 [.slice ag g.length cg, .slice as_ s.length cs, .int .i64 most].toArray w fun e w' => ∃ r : Int, ((0 ≤ r ∧ r ≤ cntR g (kk + 1) s) ∧ (cntR g (kk + 1) s ≤ most → r = cntR g (kk + 1) s) ∧ (most < cntR g (kk + 1) s → most < r)) ∧ e = .returned (.int .i64 r) ∧ Hq w w [] w' := by
  obtain ⟨hgl, hgn⟩ := partB_true.1 hpg
  obtain ⟨hcp, hvf⟩ := full_of hs
  have hl21 := nxL_len g s
  obtain ⟨ie3, hi3⟩ := inf_3
  refine enter (N := 59) Try.func20 rfl rfl rfl ?_
  refine g_seq ?_
  refine g_region ?_
  refine s_y (y_assign rfl) rfl rfl rfl rfl ?_
  refine s_nil ?_
  refine g_then ?_
  refine g_seq ?_
  refine g_seq ?_
  refine g_region ?_
  refine s_y (y_move rfl) rfl rfl rfl rfl ?_
  refine s_y (y_lenV (n := s.length) rfl (by obtain ⟨A, c, h1, _⟩ := hs; exact ⟨A, c, h1⟩) sle_22) rfl rfl rfl rfl ?_
  refine s_y (y_move rfl) rfl rfl rfl rfl ?_
  refine s_y (y_lenV (n := g.length) rfl (by obtain ⟨A, c, h1, _⟩ := hg; exact ⟨A, c, h1⟩) sle_22) rfl rfl rfl rfl ?_
  refine s_y (y_eql_f rfl rfl (by omega)) rfl rfl rfl rfl ?_
  refine s_nil ?_
  refine g_then ?_
  refine g_cond_f rfl ?_
  refine g_skip ?_
  refine g_then ?_
  refine g_seq ?_
  refine g_region ?_
  refine s_y (y_move rfl) rfl rfl rfl rfl ?_
  refine s_tr (t_callm rfl rfl ent_17 (fun w h => by have h_ := list_any w _ g (hg.below h.below); rw [List.take_of_length_le (by omega)] at h_; exact h_)) rfl rfl rfl rfl (fun x2 hx3 => ?_)
  obtain ⟨vo1, mo1⟩ := x2
  obtain ⟨hOo1, hEo1⟩ := hx3
  refine s_y (y_move rfl) rfl rfl rfl rfl ?_
  refine s_tr (t_callm rfl rfl ent_17 (fun w h => by have h_ := list_any w _ s (hs.below h.below); rw [List.take_of_length_le (by omega)] at h_; exact h_)) rfl rfl rfl rfl (fun x5 hx6 => ?_)
  obtain ⟨vo4, mo4⟩ := x5
  obtain ⟨hOo4, hEo4⟩ := hx6
  refine s_tr (t_callm rfl rfl ent_30 (fun w h => by have h_ := Next_ok w _ _ g s (hOo1.rd fun p hp => h.at_ p (mem_ar mo4 (mem_al mo1 hp))) (hOo4.rd fun p hp => h.at_ p (mem_al mo4 hp)) hpg hsn (by omega); rw [show nexD g s = nxL g s from if_pos (frs_zero.2 hz)] at h_; exact h_)) rfl rfl rfl rfl (fun x8 hx9 => ?_)
  obtain ⟨vo7, mo7⟩ := x8
  obtain ⟨hOo7, hEo7⟩ := hx9
  refine s_y (y_move rfl) rfl rfl rfl rfl ?_
  refine s_y (y_extract rfl rfl) rfl rfl rfl rfl ?_
  refine s_y (y_extract rfl rfl) rfl rfl rfl rfl ?_
  refine s_y (y_assign rfl) rfl rfl rfl rfl ?_
  refine s_y (y_assign rfl) rfl rfl rfl rfl ?_
  refine s_nil ?_
  refine g_then ?_
  refine g_seq ?_
  refine g_seq ?_
  refine g_region ?_
  refine s_y (y_move rfl) rfl rfl rfl rfl ?_
  refine s_y (y_neq_f rfl rfl (by decide)) rfl rfl rfl rfl ?_
  refine s_nil ?_
  refine g_then ?_
  refine g_cond_f rfl ?_
  refine g_skip ?_
  refine g_then ?_
  refine g_seq ?_
  refine g_region ?_
  refine s_y (y_assign rfl) rfl rfl rfl rfl ?_
  refine s_nil ?_
  refine g_then ?_
  refine g_seq ?_
  refine g_seq ?_
  refine g_region ?_
  refine s_y (y_move rfl) rfl rfl rfl rfl ?_
  refine s_y (y_lenV (n := ((nxL g s).length)) rfl hOo7.1 sle_22) rfl rfl rfl rfl ?_
  refine s_y (y_move rfl) rfl rfl rfl rfl ?_
  refine s_nil ?_
  refine g_then ?_
  refine g_block ?_
  refine g_loop (fun (i : Nat) act W => i ≤ (nxL g s).length ∧ ∃ (n : Int) (w1 : World), (n = (((nxL g s).take i).map fun y => cntR g kk (s ++ [y])).sum) ∧ (n ≤ most) ∧ Has 59 [] [(0, .slice ag g.length cg), (1, .slice as_ s.length cs), (2, .int .i64 most), (9, .int .i64 n), (28, vo7), (29, .int .i64 ((nxL g s).length : Nat)), (30, .int .i64 (i : Int))] act ∧ Hp w w1 ((mo7 ++ ((mo4 ++ ((mo1 ++ ([]))))))) W) (fun i => (nxL g s).length - i) 0 (fun act W ha hw => ⟨by omega, 0, W, (by rfl), (by exact hm0), ha.weak (sub_get ⟨rfl, rfl, rfl, rfl, rfl, rfl, rfl, trivial⟩), hw.toHq.lookSub (List.Sublist.refl _)⟩) ?_
  intro i act W ⟨hb_i, n, w1, hn, hnm, ha, hw⟩
  refine g_go ha hw ?_
  clear ha hw act W
  refine g_seq ?_
  refine g_region ?_
  refine s_y (y_lss rfl rfl) rfl rfl rfl rfl ?_
  refine s_nil ?_
  refine g_then ?_
  refine g_seq ?_
  refine g_cond rfl (fun cq10 => ?_) (fun cq10 => ?_)
  · (try simp at cq10)
    refine g_skip ?_
    refine g_then ?_
    refine g_seq ?_
    refine g_block ?_
    refine g_seq ?_
    refine g_region ?_
    refine s_y (y_idxO (enc := (Value.int .i64)) rfl rfl hOo7 hEo7 Try.underlying22 size_3 (by omega) (by omega)) rfl rfl rfl rfl ?_
    refine s_y (y_ldV (enc := (Value.int .i64)) (xs := nxL g s) (fun w h => (hOo7.rd fun p hp => h.at_ p (mem_al mo7 hp)).rdl) rfl agg_3 (rdI_at (by omega) (by omega))) rfl rfl rfl rfl ?_
    refine s_y (y_assign rfl) rfl rfl rfl rfl ?_
    refine s_nil ?_
    refine g_then ?_
    refine g_seq ?_
    have hxm := nxL_mem (g := g) (s := s) (x := rdI (nxL g s) (i : Int)) (List.mem_of_getElem? (rdI_some (by omega)))
    obtain ⟨hx0, hx1, hxb⟩ := hxm
    have hc1 := cntR_bounds g kk (s ++ [rdI (nxL g s) (i : Int)])
    have hc2 := pow21 (k := kk) (by omega)
    have hsum := take_sum (h := fun y => cntR g kk (s ++ [y])) (rdI_some (xs := nxL g s) (i := i) (by omega))
    have hle2 := sum_take_le (h := fun y => cntR g kk (s ++ [y])) (fun x => (cntR_bounds g kk (s ++ [x])).1) (nxL g s) (i + 1)
    have hcd : cntR g (kk + 1) s = ((nxL g s).map fun y => cntR g kk (s ++ [y])).sum := rfl
    have hc3 := cntR_part (g := g) (s := s) (k := kk) (j := i) (by omega) (by omega)
    rw [← hn] at hsum hc3
    refine g_region ?_
    refine s_y (y_move rfl) rfl rfl rfl rfl ?_
    refine s_y (y_move rfl) rfl rfl rfl rfl ?_
    refine s_y (y_move rfl) rfl rfl rfl rfl ?_
    refine s_y (y_lenV (n := s.length) rfl (by obtain ⟨A, c, h1, _⟩ := hs; exact ⟨A, c, h1⟩) sle_22) rfl rfl rfl rfl ?_
    refine s_y (y_move rfl) rfl rfl rfl rfl ?_
    refine s_y (y_lenV (n := s.length) rfl (by obtain ⟨A, c, h1, _⟩ := hs; exact ⟨A, c, h1⟩) sle_22) rfl rfl rfl rfl ?_
    refine s_y (y_full rfl rfl rfl hcp Try.underlying22 hi3.1 hi3.2.2.1) rfl rfl rfl rfl ?_
    refine s_y (y_move rfl) rfl rfl rfl rfl ?_
    refine s_tr (t_build (vs := [(0, .int .i64 (rdI (nxL g s) (i : Int)))]) (cells := [.int .i64 (rdI (nxL g s) (i : Int))]) rfl rfl Try.underlying22 hi3.1 hi3.2.1 (by rw [hi3.2.2.1]; rfl) (by rw [hi3.2.2.1]; rfl) (by rw [hi3.2.2.1]; kernel_rfl)) rfl rfl rfl rfl (fun bw hbw => ?_)
    refine s_tr (t_appendN (enc := (Value.int .i64)) (xs := s) (v := rdI (nxL g s) (i : Int)) rfl rfl Try.underlying22 hi3.1 hi3.2.1 hi3.2.2.1 hi3.2.2.2 rfl (fun w h => hvf.below h.below) (fun w h => h.toHq.cell (i := 0) rfl rfl) rfl (by omega) (by unfold maxLen; omega)) rfl rfl rfl rfl (fun svn hokn' => ?_)
    obtain ⟨hokn, bN, capN, jN, rfl, hgeN⟩ := hokn'
    have hln : (s ++ [rdI (nxL g s) (i : Int)]).length = s.length + 1 := by simp
    refine s_y (y_move rfl) rfl rfl rfl rfl ?_
    refine s_y (y_move rfl) rfl rfl rfl rfl ?_
    refine s_y (y_sub rfl rfl (by omega) (by omega)) rfl rfl rfl rfl ?_
    refine s_tr (t_callm (A := fun r : Int => (0 ≤ r ∧ r ≤ cntR g kk (s ++ [rdI (nxL g s) (i : Int)])) ∧ (cntR g kk (s ++ [rdI (nxL g s) (i : Int)]) ≤ most - n → r = cntR g kk (s ++ [rdI (nxL g s) (i : Int)])) ∧ (most - n < cntR g kk (s ++ [rdI (nxL g s) (i : Int)]) → most - n < r)) (vf := fun r => .int .i64 r) (mm := fun _ => []) rfl rfl ent_20 (fun w h => by have h_ := IH w ag (some ⟨bN, 0, none⟩) cg capN (s ++ [rdI (nxL g s) (i : Int)]) (most - n) (hg.below h.below) (by rw [hln]; exact RdV.own (jk := jN) (at_of (i := 0) h rfl) hln.symm hokn.1) (by omega) (notes_snoc hsn hx0 hx1) ((all_snoc _ hz).2 hxb) (by omega) (by omega); rw [hln] at h_; exact h_)) rfl rfl rfl rfl (fun r hr => ?_)
    refine s_y (y_assign rfl) rfl rfl rfl rfl ?_
    refine s_nil ?_
    refine g_then ?_
    refine g_seq ?_
    refine g_seq ?_
    refine g_region ?_
    refine s_y (y_move rfl) rfl rfl rfl rfl ?_
    refine s_y (y_lss rfl rfl) rfl rfl rfl rfl ?_
    refine s_nil ?_
    refine g_then ?_
    refine g_cond rfl (fun cq11 => ?_) (fun cq11 => ?_)
    · (try simp at cq11)
      exact absurd hr.1.1 (by omega)
    · (try simp at cq11)
      refine g_skip ?_
      refine g_then ?_
      refine g_seq ?_
      refine g_region ?_
      refine s_y (y_move rfl) rfl rfl rfl rfl ?_
      refine s_y (y_move rfl) rfl rfl rfl rfl ?_
      refine s_y (y_add rfl rfl (by omega) (by omega)) rfl rfl rfl rfl ?_
      refine s_y (y_assign rfl) rfl rfl rfl rfl ?_
      refine s_nil ?_
      refine g_then ?_
      refine g_seq ?_
      refine g_region ?_
      refine s_y (y_move rfl) rfl rfl rfl rfl ?_
      refine s_y (y_move rfl) rfl rfl rfl rfl ?_
      refine s_y (y_gtr rfl rfl) rfl rfl rfl rfl ?_
      refine s_nil ?_
      refine g_then ?_
      refine g_cond rfl (fun cq12 => ?_) (fun cq12 => ?_)
      · (try simp at cq12)
        refine g_seq ?_
        refine g_region ?_
        refine s_y (y_move rfl) rfl rfl rfl rfl ?_
        refine s_y (y_assign rfl) rfl rfl rfl rfl ?_
        refine s_nil ?_
        refine g_then ?_
        refine g_ret ?_
        refine g_inbr ?_
        refine g_thenr ?_
        refine g_thenr ?_
        refine g_inbr ?_
        refine g_thenr ?_
        exact g_end trivial (fun a w ha hq_ => res1 ha rfl rfl  w) (fun w h => ⟨_, ⟨⟨by omega, by omega⟩, fun h_ => by omega, fun h_ => by omega⟩, rfl, h.hand0⟩)
      · (try simp at cq12)
        refine g_skip ?_
        refine g_inb ?_
        refine g_then ?_
        refine g_region ?_
        refine s_y (y_add rfl rfl (by omega) (by omega)) rfl rfl rfl rfl ?_
        refine s_y (y_move rfl) rfl rfl rfl rfl ?_
        refine s_nil ?_
        refine g_then ?_
        exact fun act W ha hw => ⟨i + 1, by omega, by omega, (n + r), W, (by rw [hsum, hr.2.1 (by rcases Int.lt_or_le (most - n) (cntR g kk (s ++ [rdI (nxL g s) (i : Int)])) with h_ | h_; exact absurd (hr.2.2 h_) (by omega); exact h_)]), (by omega), ha.weak (sub_get ⟨rfl, rfl, rfl, rfl, rfl, rfl, rfl, trivial⟩), hw.toHq.lookSub (List.Sublist.cons _ (List.Sublist.cons _ (List.Sublist.refl _)))⟩
  · (try simp at cq10)
    refine g_exit ?_
    refine g_thenx ?_
    refine g_thenx ?_
    refine g_inbx ?_
    refine g_then ?_
    refine g_seq ?_
    refine g_region ?_
    refine s_y (y_move rfl) rfl rfl rfl rfl ?_
    refine s_y (y_assign rfl) rfl rfl rfl rfl ?_
    refine s_nil ?_
    refine g_then ?_
    refine g_ret ?_
    have hi_ : i = (nxL g s).length := by omega
    have hnc : n = cntR g (kk + 1) s := by rw [hn, hi_, List.take_length]; rfl
    have hcb := cntR_bounds g (kk + 1) s
    exact g_end trivial (fun a w ha hq_ => res1 ha rfl rfl  w) (fun w h => ⟨_, ⟨⟨by omega, by omega⟩, fun h_ => hnc, fun h_ => by omega⟩, rfl, h.hand0⟩)

theorem ways_any {g : List Int} (hpg : partB g = true) : ∀ k, WaysAt g k
  | 0 => fun w ag as_ cg cs s most hg hs hle hsn hz hm0 hm1 => ways_full w ag as_ cg cs g s most hg hs hpg 0 hle hsn hz hm0 hm1
  | kk + 1 => fun w ag as_ cg cs s most hg hs hle hsn hz hm0 hm1 => ways_new w ag as_ cg cs g s most hg hs hpg kk hle hsn hz hm0 hm1 (ways_any hpg kk)

theorem Count_any (w : World) (v : Value) (g : List Int) (hg : RdV (Value.int .i64) w v g) (hp : partB g = true) : Calls Try.prog 16 [v].toArray w fun e w' => e = .returned (.tuple #[.int .i64 (cntR g g.length []), .int .i64 0]) ∧ Below w.heap.size w w' := by
  obtain ⟨ag, cg, rfl, _, _⟩ := id hg
  exact Count_ok w ag cg g hg hp

theorem DuetsBuilt_ok (w : World) (ag : Option Addr) (cg : Nat) (g : List Int) (hg : RdV (Value.int .i64) w (.slice ag g.length cg) g) (hp : partB g = true) :
    Calls Try.prog 3 [.slice ag g.length cg].toArray w fun e w' => e = .returned (.bool true) ∧ Below w.heap.size w w' := by
  obtain ⟨hgl, hgn⟩ := partB_true.1 hp
  refine enter (N := 33) Try.func3 rfl rfl rfl ?_
  refine g_seq ?_
  refine g_region ?_
  refine s_y (y_assign rfl) rfl rfl rfl rfl ?_
  refine s_nil ?_
  refine g_then ?_
  refine g_seq ?_
  refine g_region ?_
  refine s_y (y_move rfl) rfl rfl rfl rfl ?_
  refine s_tr (t_callm rfl rfl ent_17 (fun w h => by have h_ := list_any w _ g (hg.below h.below); rw [List.take_of_length_le (by omega)] at h_; exact h_)) rfl rfl rfl rfl (fun x2 hx3 => ?_)
  obtain ⟨vo1, mo1⟩ := x2
  obtain ⟨hOo1, hEo1⟩ := hx3
  refine s_tr (t_call rfl rfl ent_16 (fun w h => Count_any w _ g (hOo1.rd fun p hp => h.at_ p (mem_al mo1 hp)) hp)) rfl rfl rfl rfl (fun _ _ => ?_)
  refine s_y (y_move rfl) rfl rfl rfl rfl ?_
  refine s_y (y_extract rfl rfl) rfl rfl rfl rfl ?_
  refine s_y (y_extract rfl rfl) rfl rfl rfl rfl ?_
  refine s_y (y_assign rfl) rfl rfl rfl rfl ?_
  refine s_y (y_assign rfl) rfl rfl rfl rfl ?_
  refine s_nil ?_
  refine g_then ?_
  refine g_seq ?_
  refine g_seq ?_
  refine g_region ?_
  refine s_y (y_move rfl) rfl rfl rfl rfl ?_
  refine s_y (y_neq_f rfl rfl (by decide)) rfl rfl rfl rfl ?_
  refine s_y (y_move rfl) rfl rfl rfl rfl ?_
  refine s_y (y_move rfl) rfl rfl rfl rfl ?_
  refine s_tr (t_call rfl rfl ent_18 (fun w h => by have h_ := Part_any w _ g (hg.below h.below) (by omega); rwa [hp] at h_)) rfl rfl rfl rfl (fun _ _ => ?_)
  refine s_y (y_not_t rfl) rfl rfl rfl rfl ?_
  refine s_y (y_pick_f rfl rfl) rfl rfl rfl rfl ?_
  refine s_nil ?_
  refine g_then ?_
  refine g_cond_f rfl ?_
  refine g_skip ?_
  refine g_then ?_
  refine g_seq ?_
  refine g_seq ?_
  refine g_region ?_
  refine s_y (y_move rfl) rfl rfl rfl rfl ?_
  refine s_y (y_gtr rfl rfl) rfl rfl rfl rfl ?_
  refine s_nil ?_
  refine g_then ?_
  refine g_cond rfl (fun cq4 => ?_) (fun cq4 => ?_)
  · (try simp at cq4)
    refine g_seq ?_
    refine g_region ?_
    refine s_tr (t_call rfl rfl ent_19 (fun w h => awake_t w)) rfl rfl rfl rfl (fun _ _ => ?_)
    refine s_y (y_assign rfl) rfl rfl rfl rfl ?_
    refine s_nil ?_
    refine g_then ?_
    refine g_ret ?_
    refine g_thenr ?_
    exact g_end trivial (fun a w ha hq_ => res1 ha rfl rfl  w) (fun w h => ⟨rfl, h.below⟩)
  · (try simp at cq4)
    refine g_skip ?_
    refine g_then ?_
    refine g_seq ?_
    refine g_region ?_
    refine s_y (y_move rfl) rfl rfl rfl rfl ?_
    refine s_tr (t_call rfl rfl ent_20 (fun w h => (ways_any hp g.length w ag none cg 0 [] 2000 (hg.below h.below) RdV.nil (by simp) (by intro x hx; cases hx) (by intro j hj; cases hj) (by decide) (by decide)).mono fun e w' ⟨r, hr, he, hh⟩ => ⟨by rw [he, hr.2.1 (by omega)], hh.below⟩)) rfl rfl rfl rfl (fun _ _ => ?_)
    refine s_y (y_move rfl) rfl rfl rfl rfl ?_
    refine s_y (y_eql_t rfl rfl (rfl)) rfl rfl rfl rfl ?_
    refine s_y (y_move rfl) rfl rfl rfl rfl ?_
    refine s_tr (t_call rfl rfl ent_19 (fun w h => awake_t w)) rfl rfl rfl rfl (fun _ _ => ?_)
    refine s_y (y_pick_t rfl rfl) rfl rfl rfl rfl ?_
    refine s_y (y_assign rfl) rfl rfl rfl rfl ?_
    refine s_nil ?_
    refine g_then ?_
    refine g_ret ?_
    exact g_end trivial (fun a w ha hq_ => res1 ha rfl rfl  w) (fun w h => ⟨rfl, h.below⟩)

theorem DuetsBuilt_no (w : World) (v : Value) (g : List Int) (hg : RdV (Value.int .i64) w v g) (hl : g.length ≤ 9223372036854775807) (hp : partB g = false) :
    Calls Try.prog 3 [v].toArray w fun e w' => e = .returned (.bool true) ∧ Below w.heap.size w w' := by
  refine enter (N := 33) Try.func3 rfl rfl rfl ?_
  refine g_seq ?_
  refine g_region ?_
  refine s_y (y_assign rfl) rfl rfl rfl rfl ?_
  refine s_nil ?_
  refine g_then ?_
  refine g_seq ?_
  refine g_region ?_
  refine s_y (y_move rfl) rfl rfl rfl rfl ?_
  refine s_tr (t_callm rfl rfl ent_17 (fun w h => list_any w _ g (hg.below h.below))) rfl rfl rfl rfl (fun x2 hx3 => ?_)
  obtain ⟨vo1, mo1⟩ := x2
  obtain ⟨hOo1, hEo1⟩ := hx3
  refine s_tr (t_call rfl rfl ent_16 (fun w h => Count_bad w _ (g.take 11) (hOo1.rd fun p hp => h.at_ p (mem_al mo1 hp)) (by rw [List.length_take]; omega) (part_take hp))) rfl rfl rfl rfl (fun _ _ => ?_)
  refine s_y (y_move rfl) rfl rfl rfl rfl ?_
  refine s_y (y_extract rfl rfl) rfl rfl rfl rfl ?_
  refine s_y (y_extract rfl rfl) rfl rfl rfl rfl ?_
  refine s_y (y_assign rfl) rfl rfl rfl rfl ?_
  refine s_y (y_assign rfl) rfl rfl rfl rfl ?_
  refine s_nil ?_
  refine g_then ?_
  refine g_seq ?_
  refine g_seq ?_
  refine g_region ?_
  refine s_y (y_move rfl) rfl rfl rfl rfl ?_
  refine s_y (y_neq_t rfl rfl (by decide)) rfl rfl rfl rfl ?_
  refine s_y (y_move rfl) rfl rfl rfl rfl ?_
  refine s_no rfl rfl rfl ?_
  refine s_no rfl rfl rfl ?_
  refine s_no rfl rfl rfl ?_
  refine s_y (y_pick_t rfl rfl) rfl rfl rfl rfl ?_
  refine s_nil ?_
  refine g_then ?_
  refine g_cond_t rfl ?_
  refine g_seq ?_
  refine g_region ?_
  refine s_y (y_move rfl) rfl rfl rfl rfl ?_
  refine s_y (y_eql_t rfl rfl (by decide)) rfl rfl rfl rfl ?_
  refine s_y (y_move rfl) rfl rfl rfl rfl ?_
  refine s_tr (t_call rfl rfl ent_19 (fun w h => awake_t w)) rfl rfl rfl rfl (fun _ _ => ?_)
  refine s_y (y_pick_t rfl rfl) rfl rfl rfl rfl ?_
  refine s_y (y_assign rfl) rfl rfl rfl rfl ?_
  refine s_nil ?_
  refine g_then ?_
  refine g_ret ?_
  refine g_thenr ?_
  exact g_end trivial (fun a w ha hq_ => res1 ha rfl rfl  w) (fun w h => ⟨rfl, h.below⟩)

theorem DuetsBuilt_law (w : World) (v : Value) (g : List Int) (hg : RdV (Value.int .i64) w v g) (hl : g.length ≤ maxLen) (_ : ∀ x ∈ g, (Lit.int .i64 x).wf = true) : Calls Try.prog 3 [v].toArray w fun e w' => e = .returned (.bool true) ∧ Below w.heap.size w w' := by
  have hmx : (maxLen : Nat) = 9223372036854775807 := rfl
  cases hp : partB g with
  | false => exact DuetsBuilt_no w v g hg (by omega) hp
  | true =>
    obtain ⟨ag, cg, rfl, _, _⟩ := id hg
    exact DuetsBuilt_ok w ag cg g hg hp

end Go.Proofs.Ytolalckejnijkaa
