/- edits: the reference's Common, Joined. -/
import Derived.Test.YtnnpdgegejklpaaEdA2
namespace Go.Proofs.Ytnnpdgegejklpaa
open Go.RowKit Go.Sx Go.WideMaps
set_option linter.unusedVariables false
set_option linter.unusedSimpArgs false
set_option maxRecDepth 100000
set_option maxHeartbeats 4000000

private theorem inf_45 : ∃ ie, Try.prog.info? 45 = some ie ∧ ie.zero = some (.slice none 0 0) ∧ ie.size = 1 ∧ ie.bytes = 24 := info_of (by kernel_rfl) (by kernel_rfl)
private theorem inf_9 : ∃ ie, Try.prog.info? 9 = some ie ∧ ie.zero = some (.string ByteArray.empty) ∧ ie.size = 1 ∧ ie.bytes = 16 := info_of (by kernel_rfl) (by kernel_rfl)
private theorem size_45 : (Try.prog.info? 45).map (·.size) = some 1 := by kernel_rfl
private theorem agg_45 : isAggB Try.prog 45 = some false := by kernel_rfl
private theorem size_9 : (Try.prog.info? 9).map (·.size) = some 1 := by kernel_rfl
private theorem agg_9 : isAggB Try.prog 9 = some false := by kernel_rfl

theorem set_row {m : Nat} {z v : Value} {vs : List Value} : (List.replicate (m + 1) z ++ vs).set m v = List.replicate m z ++ (v :: vs) := by
  rw [List.replicate_succ', List.append_assoc, List.set_append_right _ _ (by simp)]; simp
theorem rd_rowA {m : Nat} {z v : Value} {vs : List Value} : rdVal (List.replicate m z ++ (v :: vs)) (m : Int) = v := by
  simp [rdVal, List.getD_eq_getElem?_getD, List.getElem?_append_right]
theorem rd_rowB {m : Nat} {z v : Value} {vs : List Value} {k : Nat} : rdVal (List.replicate m z ++ (v :: vs)) ((m : Int) + 1 + (k : Int)) = rdVal vs (k : Int) := by
  have e : ((m : Int) + 1 + (k : Int)).toNat = m + (k + 1) := by omega
  simp only [rdVal, e, Int.toNat_natCast, List.getD_eq_getElem?_getD]
  rw [List.getElem?_append_right (by simp)]
  simp
theorem rdVal_cons {v : Value} {vs : List Value} {k : Nat} : rdVal (v :: vs) ((k + 1 : Nat) : Int) = rdVal vs (k : Int) := by
  simp only [rdVal, Int.toNat_natCast, List.getD_eq_getElem?_getD, List.getElem?_cons_succ]


theorem rdS_map {f : Nat → ByteArray} {n k : Nat} (h : k < n) : rdS ((List.range n).map f) (k : Int) = f k := by
  simp [rdS, List.getD_eq_getElem?_getD, h]
theorem rdS_setJ {xs : List ByteArray} {i j : Int} {v : ByteArray} (h0 : 0 ≤ i) (h1 : i < xs.length) (h2 : 0 ≤ j) : rdS (xs.set i.toNat v) j = if i = j then v else rdS xs j := by
  obtain ⟨p, rfl⟩ := Int.eq_ofNat_of_zero_le h0
  obtain ⟨q, rfl⟩ := Int.eq_ofNat_of_zero_le h2
  simp only [rdS, Int.toNat_natCast, List.getD_eq_getElem?_getD, List.getElem?_set]
  by_cases c : p = q
  · subst c; rw [if_pos rfl, if_pos rfl, if_pos (by omega)]; rfl
  · rw [if_neg c, if_neg (by omega)]
theorem rdS_rep {n : Nat} {k : Int} : rdS (List.replicate n ByteArray.empty) k = ByteArray.empty := by
  simp only [rdS, List.getD_eq_getElem?_getD, List.getElem?_replicate]
  split <;> rfl
theorem rdS_ext {xs ys : List ByteArray} (hl : xs.length = ys.length) (h : ∀ j : Nat, j < xs.length → rdS xs (j : Int) = rdS ys (j : Int)) : xs = ys := by
  apply List.ext_getElem hl
  intro k h1 h2
  have := h k h1
  simpa [rdS, List.getD_eq_getElem?_getD, h1, h2] using this
theorem pickC_gt {s x : ByteArray} (h : (s.size : Int) < x.size) : pickC s x = x := by unfold pickC betC; rw [decide_eq_true (show s.size < x.size by omega)]; rfl
theorem pickC_lt {s x : ByteArray} (h : (x.size : Int) < s.size) : pickC s x = s := by unfold pickC betC; rw [decide_eq_false (show ¬ s.size < x.size by omega), decide_eq_false (show ¬ x.size = s.size by omega)]; rfl
theorem pickC_et {s x : ByteArray} (h : (x.size : Int) = s.size) (hl : Op.bytesLess x.toList s.toList = true) : pickC s x = x := by unfold pickC betC; rw [decide_eq_true (show x.size = s.size by omega), hl]; simp
theorem pickC_ef {s x : ByteArray} (h : (x.size : Int) = s.size) (hl : Op.bytesLess x.toList s.toList = false) : pickC s x = s := by unfold pickC betC; rw [decide_eq_true (show x.size = s.size by omega), hl, decide_eq_false (show ¬ s.size < x.size by omega)]; rfl
theorem pickJ_gt {s x : ByteArray} (h : (x.size : Int) < s.size) : pickJ s x = x := by unfold pickJ betJ; rw [decide_eq_true (show x.size < s.size by omega)]; rfl
theorem pickJ_lt {s x : ByteArray} (h : (s.size : Int) < x.size) : pickJ s x = s := by unfold pickJ betJ; rw [decide_eq_false (show ¬ x.size < s.size by omega), decide_eq_false (show ¬ x.size = s.size by omega)]; rfl
theorem pickJ_et {s x : ByteArray} (h : (x.size : Int) = s.size) (hl : Op.bytesLess x.toList s.toList = true) : pickJ s x = x := by unfold pickJ betJ; rw [decide_eq_true (show x.size = s.size by omega), hl]; simp
theorem pickJ_ef {s x : ByteArray} (h : (x.size : Int) = s.size) (hl : Op.bytesLess x.toList s.toList = false) : pickJ s x = s := by unfold pickJ betJ; rw [decide_eq_true (show x.size = s.size by omega), hl, decide_eq_false (show ¬ x.size < s.size by omega)]; rfl
def rowW (val : Int → Int → ByteArray) (n : Nat) (i : Int) : List ByteArray := (List.range (n + 1)).map fun y : Nat => val i (y : Int)
theorem rowW_len (val : Int → Int → ByteArray) (n : Nat) (i : Int) : (rowW val n i).length = n + 1 := by simp [rowW]
theorem rowW_at {val : Int → Int → ByteArray} {n : Nat} {i j : Int} (h0 : 0 ≤ j) (h1 : j ≤ n) : rdS (rowW val n i) j = val i j := by
  obtain ⟨y, rfl⟩ := Int.eq_ofNat_of_zero_le h0
  exact rdS_map (by omega)

theorem RCommon_ok (w : World) (a b : ByteArray) (hla : a.size ≤ 12) (hlb : b.size ≤ 12) :
    Calls Try.prog 43 [.string a, .string b].toArray w fun e w' => e = .returned (.string (cmP a b 0 0)) ∧ Below w.heap.size w w' := by
  have zs1 := fun (p q : Int) (r0 : 0 ≤ p) (r1 : p ≤ a.size) (r2 : 0 ≤ q) (r3 : q ≤ b.size) => cmP_size (a := a) (b := b) 100 p q r0 r1 r2 r3 (by omega)
  obtain ⟨ie45, hi45⟩ := inf_45
  obtain ⟨ie9, hi9⟩ := inf_9
  refine enter (N := 127) Try.func43 rfl rfl rfl ?_
  refine g_seq ?_
  refine g_region ?_
  refine s_y (y_assign rfl) rfl rfl rfl rfl ?_
  refine s_nil ?_
  refine g_then ?_
  refine g_seq ?_
  refine g_region ?_
  refine s_y (y_move rfl) rfl rfl rfl rfl ?_
  refine s_y (y_lens rfl Try.underlying9) rfl rfl rfl rfl ?_
  refine s_y (y_add rfl rfl (by omega) (by omega)) rfl rfl rfl rfl ?_
  refine s_tr (t_makeL (enc := encV) (z := (Value.slice none 0 0)) (n := a.size + 1) rfl Try.underlying116 hi45.1 hi45.2.1 hi45.2.2.1 rfl (by rw [hi45.2.2.2]; omega) (by omega)) rfl rfl rfl rfl (fun bo hbo => ?_)
  rw [show List.replicate (a.size + 1) (Value.slice none 0 0) = (List.replicate (a.size + 1 - 0) (Value.slice none 0 0) ++ []) from by rw [List.append_nil]; rfl]
  refine s_y (y_assign rfl) rfl rfl rfl rfl ?_
  refine s_nil ?_
  refine g_then ?_
  refine g_seq ?_
  refine g_seq ?_
  refine g_region ?_
  refine s_y (y_move rfl) rfl rfl rfl rfl ?_
  refine s_y (y_lens rfl Try.underlying9) rfl rfl rfl rfl ?_
  refine s_y (y_assign rfl) rfl rfl rfl rfl ?_
  refine s_nil ?_
  refine g_then ?_
  refine g_block ?_
  refine g_loop (fun (u : Nat) act W => u ≤ a.size + 1 ∧ ∃ (zi : Int) (vs : List Value) (Ms : List (Nat × Obj)) (w1 : World), (zi = (a.size : Int) - (u : Int)) ∧ (vs.length = u) ∧ (∀ q : Nat, q < u → OwnV Value.string (rdVal vs (q : Int)) (rowW (cmP a b) b.size (zi + 1 + (q : Int))) Ms) ∧ (∃ W : World, ∀ p ∈ Ms, W.heap[p.1]? = some p.2) ∧ Has 127 [] [(0, .string a), (1, .string b), (4, .string (⟨#[]⟩ : ByteArray)), (5, .slice (some ⟨bo, 0, none⟩) (a.size + 1) (a.size + 1)), (6, .int .i64 zi)] act ∧ Hp w w1 ((bo, .cells ((List.replicate (a.size + 1 - u) (Value.slice none 0 0) ++ vs).map encV ++ []).toArray 45 (0, 0)) :: (Ms ++ ([]))) W) (fun u => a.size + 1 - u) 0 (fun act W ha hw => ⟨by omega, (a.size : Int), [], [], W, (by simp), (by rfl), (by intro q hq; omega), (by exact ⟨w, by simp⟩), ha.weak (sub_get ⟨rfl, rfl, rfl, rfl, rfl, trivial⟩), hw.toHq.lookSub (List.Sublist.refl _)⟩) ?_
  intro u act W ⟨hb_u, zi, vs, Ms, w1, hzi, hvl, hrows, hEs, ha, hw⟩
  refine g_go ha hw ?_
  clear ha hw act W
  refine g_seq ?_
  refine g_seq ?_
  refine g_region ?_
  refine s_y (y_move rfl) rfl rfl rfl rfl ?_
  refine s_y (y_geq rfl rfl) rfl rfl rfl rfl ?_
  refine s_nil ?_
  refine g_then ?_
  refine g_cond rfl (fun cq1 => ?_) (fun cq1 => ?_)
  · (try simp at cq1)
    refine g_skip ?_
    refine g_then ?_
    refine g_seq ?_
    refine g_block ?_
    refine g_seq ?_
    refine g_region ?_
    refine s_y (y_move rfl) rfl rfl rfl rfl ?_
    refine s_y (y_move rfl) rfl rfl rfl rfl ?_
    refine s_y (y_move rfl) rfl rfl rfl rfl ?_
    refine s_y (y_lens rfl Try.underlying9) rfl rfl rfl rfl ?_
    refine s_y (y_add rfl rfl (by omega) (by omega)) rfl rfl rfl rfl ?_
    refine s_tr (t_makeL (enc := Value.string) (z := ByteArray.empty) (n := b.size + 1) rfl Try.underlying45 hi9.1 hi9.2.1 hi9.2.2.1 rfl (by rw [hi9.2.2.2]; omega) (by omega)) rfl rfl rfl rfl (fun bw hbw => ?_)
    refine s_y (y_idxb1 rfl rfl Try.underlying116 size_45 (by omega) (by omega)) rfl rfl rfl rfl ?_
    refine s_tr0 (t_storeL (enc := encV) (v := (Value.slice (some ⟨bw, 0, none⟩) (b.size + 1) (b.size + 1))) (xs := (List.replicate (a.size + 1 - u) (Value.slice none 0 0) ++ vs)) (jk := []) 1 rfl rfl rfl rfl rfl size_45 (by simp; omega)) rfl rfl rfl (fun _ _ => ?_)
    rw [show (List.replicate (a.size + 1 - u) (Value.slice none 0 0) ++ vs).set (zi : Int).toNat (Value.slice (some ⟨bw, 0, none⟩) (b.size + 1) (b.size + 1)) = (List.replicate (a.size + 1 - (u + 1)) (Value.slice none 0 0) ++ ((Value.slice (some ⟨bw, 0, none⟩) (b.size + 1) (b.size + 1)) :: vs)) from by rw [show (zi : Int).toNat = a.size + 1 - (u + 1) by omega, show a.size + 1 - u = (a.size + 1 - (u + 1)) + 1 by omega]; exact set_row]
    refine s_nil ?_
    refine g_then ?_
    refine g_seq ?_
    refine g_region ?_
    refine s_y (y_move rfl) rfl rfl rfl rfl ?_
    refine s_y (y_lens rfl Try.underlying9) rfl rfl rfl rfl ?_
    refine s_y (y_sub rfl rfl (by omega) (by omega)) rfl rfl rfl rfl ?_
    refine s_y (y_assign rfl) rfl rfl rfl rfl ?_
    refine s_nil ?_
    refine g_then ?_
    refine g_block ?_
    refine g_loop (fun (v_ : Nat) act W => v_ ≤ b.size ∧ ∃ (zj : Int) (zs : List ByteArray) (w1 : World), (zj = (b.size : Int) - 1 - (v_ : Int)) ∧ (zs.length = b.size + 1) ∧ (∀ y : Int, zj < y → y ≤ b.size → rdS zs y = cmP a b zi y) ∧ (v_ = 0 → zs = List.replicate (b.size + 1) ByteArray.empty) ∧ (zi = (a.size : Int) → v_ = 0) ∧ Has 127 [] [(0, .string a), (1, .string b), (4, .string (⟨#[]⟩ : ByteArray)), (5, .slice (some ⟨bo, 0, none⟩) (a.size + 1) (a.size + 1)), (6, .int .i64 zi), (7, .int .i64 zj), (17, .int .i64 zi), (18, .bool (decide (zi ≥ 0))), (21, .slice (some ⟨bo, 0, none⟩) (a.size + 1) (a.size + 1)), (22, .int .i64 zi), (23, .string b), (24, .int .i64 b.size), (25, .int .i64 (b.size + 1)), (26, .slice (some ⟨bw, 0, none⟩) (b.size + 1) (b.size + 1)), (27, .pointer (some ⟨bo, (zi : Int).toNat, none⟩)), (28, .string b), (29, .int .i64 b.size), (30, .int .i64 (b.size - 1))] act ∧ Hp w w1 ((bw, .cells (zs.map Value.string ++ []).toArray 9 (0, 0)) :: (bo, .cells ((List.replicate (a.size + 1 - (u + 1)) (Value.slice none 0 0) ++ ((Value.slice (some ⟨bw, 0, none⟩) (b.size + 1) (b.size + 1)) :: vs)).map encV ++ []).toArray 45 (0, 0)) :: (Ms ++ ([]))) W) (fun v_ => b.size + 1 - v_) 0 (fun act W ha hw => ⟨by omega, (b.size : Int) - 1, List.replicate (b.size + 1) ByteArray.empty, W, (by simp), (by simp), (by intro y h1 h2; rw [rdS_rep, show y = (b.size : Int) by omega]; exact (cmP_ends (.inr rfl)).symm), (by intro _; rfl), (by intro _; rfl), ha.weak (sub_get ⟨rfl, rfl, rfl, rfl, rfl, rfl, rfl, rfl, rfl, rfl, rfl, rfl, rfl, rfl, rfl, rfl, rfl, rfl, trivial⟩), hw.toHq.lookSub (List.Sublist.refl _)⟩) ?_
    intro v_ act W ⟨hb_v_, zj, zs, w1, hzj, hzl, hzs, hz0, hzt, ha, hw⟩
    refine g_go ha hw ?_
    clear ha hw act W
    refine g_seq ?_
    refine g_seq ?_
    refine g_region ?_
    refine s_y (y_move rfl) rfl rfl rfl rfl ?_
    refine s_y (y_geq rfl rfl) rfl rfl rfl rfl ?_
    refine s_y (y_move rfl) rfl rfl rfl rfl ?_
    refine g_bool 33 rfl (fun cq2 => ?_) (fun cq2 => ?_)
    · (try simp at cq2)
      refine s_y (y_move rfl) rfl rfl rfl rfl ?_
      refine s_y (y_move rfl) rfl rfl rfl rfl ?_
      refine s_y (y_lens rfl Try.underlying9) rfl rfl rfl rfl ?_
      refine s_y (y_lss rfl rfl) rfl rfl rfl rfl ?_
      refine s_y (y_pick_t rfl rfl) rfl rfl rfl rfl ?_
      refine s_nil ?_
      refine g_then ?_
      refine g_cond rfl (fun cq3 => ?_) (fun cq3 => ?_)
      · (try simp at cq3)
        refine g_skip ?_
        refine g_then ?_
        refine g_seq ?_
        refine g_block ?_
        refine g_seq ?_
        have q1 := zs1 (zi + 1) zj (by omega) (by omega) (by omega) (by omega)
        have q2 := zs1 zi (zj + 1) (by omega) (by omega) (by omega) (by omega)
        have q3 := zs1 (zi + 1) (zj + 1) (by omega) (by omega) (by omega) (by omega)
        have hca := cutB_size (a := a) (i := zi) (by omega) (by omega)
        have hcb := cutB_size (a := b) (i := zj) (by omega) (by omega)
        refine g_region ?_
        refine s_y (y_move rfl) rfl rfl rfl rfl ?_
        refine s_y (y_move rfl) rfl rfl rfl rfl ?_
        refine s_y (y_add rfl rfl (by omega) (by omega)) rfl rfl rfl rfl ?_
        refine s_y (y_idxb1 rfl rfl Try.underlying116 size_45 (by omega) (by omega)) rfl rfl rfl rfl ?_
        refine s_y (y_ldL (enc := encV) (xs := (List.replicate (a.size + 1 - (u + 1)) (Value.slice none 0 0) ++ ((Value.slice (some ⟨bw, 0, none⟩) (b.size + 1) (b.size + 1)) :: vs))) (jk := []) 1 rfl rfl agg_45 (rdVal_at (by omega) (by simp; omega))) rfl rfl rfl rfl ?_
        rw [show rdVal (List.replicate (a.size + 1 - (u + 1)) (Value.slice none 0 0) ++ ((Value.slice (some ⟨bw, 0, none⟩) (b.size + 1) (b.size + 1)) :: vs)) (zi + 1) = rdVal vs ((0 : Nat) : Int) from by rw [show zi + 1 = ((a.size + 1 - (u + 1) : Nat) : Int) + 1 + ((0 : Nat) : Int) by omega]; exact rd_rowB]
        have hr0l := rowW_len (cmP a b) b.size (zi + 1)
        have hr0 : OwnV Value.string (rdVal vs ((0 : Nat) : Int)) (rowW (cmP a b) b.size (zi + 1)) Ms := by have h_ := hrows 0 (by omega); rwa [show zi + 1 + ((0 : Nat) : Int) = zi + 1 by omega] at h_
        refine s_y (y_move rfl) rfl rfl rfl rfl ?_
        refine s_y (y_idxO (enc := Value.string) rfl rfl hr0 hEs Try.underlying45 size_9 (by omega) (by omega)) rfl rfl rfl rfl ?_
        refine s_y (y_ldV (enc := Value.string) (xs := (rowW (cmP a b) b.size (zi + 1))) (fun w h => (hr0.rd fun p hp => h.at_ p (List.mem_cons_of_mem _ (List.mem_cons_of_mem _ (mem_al Ms hp)))).rdl) rfl agg_9 (rdS_at (by omega) (by omega))) rfl rfl rfl rfl ?_
        rw [show rdS (rowW (cmP a b) b.size (zi + 1)) (zj) = cmP a b (zi + 1) (zj) from rowW_at (by omega) (by omega)]
        refine s_y (y_assign rfl) rfl rfl rfl rfl ?_
        refine s_nil ?_
        refine g_then ?_
        refine g_seq ?_
        refine g_seq ?_
        refine g_region ?_
        refine s_y (y_move rfl) rfl rfl rfl rfl ?_
        refine s_y (y_move rfl) rfl rfl rfl rfl ?_
        refine s_y (y_idxb1 rfl rfl Try.underlying116 size_45 (by omega) (by omega)) rfl rfl rfl rfl ?_
        refine s_y (y_ldL (enc := encV) (xs := (List.replicate (a.size + 1 - (u + 1)) (Value.slice none 0 0) ++ ((Value.slice (some ⟨bw, 0, none⟩) (b.size + 1) (b.size + 1)) :: vs))) (jk := []) 1 rfl rfl agg_45 (rdVal_at (by omega) (by simp; omega))) rfl rfl rfl rfl ?_
        rw [show rdVal (List.replicate (a.size + 1 - (u + 1)) (Value.slice none 0 0) ++ ((Value.slice (some ⟨bw, 0, none⟩) (b.size + 1) (b.size + 1)) :: vs)) zi = (Value.slice (some ⟨bw, 0, none⟩) (b.size + 1) (b.size + 1)) from by rw [show zi = ((a.size + 1 - (u + 1) : Nat) : Int) by omega]; exact rd_rowA]
        refine s_y (y_move rfl) rfl rfl rfl rfl ?_
        refine s_y (y_add rfl rfl (by omega) (by omega)) rfl rfl rfl rfl ?_
        refine s_y (y_idxb1 rfl rfl Try.underlying45 size_9 (by omega) (by omega)) rfl rfl rfl rfl ?_
        refine s_y (y_ldL (enc := Value.string) (xs := zs) (jk := []) 0 rfl rfl agg_9 (rdS_at (by omega) (by omega))) rfl rfl rfl rfl ?_
        rw [show rdS zs (zj + 1) = cmP a b zi (zj + 1) from hzs _ (by omega) (by omega)]
        refine s_y (y_assign rfl) rfl rfl rfl rfl ?_
        refine s_nil ?_
        refine g_then ?_
        refine g_seq ?_
        refine g_region ?_
        refine s_y (y_move rfl) rfl rfl rfl rfl ?_
        refine s_y (y_lens rfl Try.underlying9) rfl rfl rfl rfl ?_
        refine s_y (y_move rfl) rfl rfl rfl rfl ?_
        refine s_y (y_lens rfl Try.underlying9) rfl rfl rfl rfl ?_
        refine s_y (y_gtr rfl rfl) rfl rfl rfl rfl ?_
        refine s_y (y_move rfl) rfl rfl rfl rfl ?_
        refine g_bool 62 rfl (fun cq4 => ?_) (fun cq4 => ?_)
        · (try simp at cq4)
          refine s_no rfl rfl rfl ?_
          refine s_no rfl rfl rfl ?_
          refine s_no rfl rfl rfl ?_
          refine s_no rfl rfl rfl ?_
          refine s_no rfl rfl rfl ?_
          refine s_no rfl rfl rfl ?_
          refine s_noU rfl rfl rfl rfl rfl ?_
          refine s_noU rfl rfl rfl rfl rfl ?_
          refine s_noU rfl rfl rfl rfl rfl ?_
          refine s_no rfl rfl rfl ?_
          refine s_y (y_pick_t rfl rfl) rfl rfl rfl rfl ?_
          refine s_nil ?_
          refine g_then ?_
          refine g_cond_t rfl ?_
          refine g_region ?_
          refine s_y (y_move rfl) rfl rfl rfl rfl ?_
          refine s_y (y_assign rfl) rfl rfl rfl rfl ?_
          refine s_nil ?_
          refine g_then ?_
          refine g_seq ?_
          refine g_seq ?_
          have hp1 : pickC (cmP a b (zi + 1) zj) (cmP a b zi (zj + 1)) = (cmP a b zi (zj + 1)) := by first | exact pickC_gt (by omega) | exact pickC_lt (by omega) | exact pickC_et (by omega) (by assumption) | exact pickC_ef (by omega) (by assumption)
          refine g_draw 7 (by kernel_rfl) ?_
          refine j_p (i := 0) rfl (y_move rfl) (by kernel_rfl) (by kernel_rfl) (by kernel_rfl) rfl rfl rfl rfl rfl (.inr (fun _ h => h)) ?_
          refine j_p (i := 1) rfl (y_move rfl) (by kernel_rfl) (by kernel_rfl) (by kernel_rfl) rfl rfl rfl rfl rfl (.inr (fun _ h => h)) ?_
          refine j_p (i := 2) rfl (y_idxs rfl rfl Try.underlying9 (by omega) (by omega)) (by kernel_rfl) (by kernel_rfl) (by kernel_rfl) rfl rfl rfl rfl rfl (.inr (fun _ h => h)) ?_
          refine j_p (i := 3) rfl (y_move rfl) (by kernel_rfl) (by kernel_rfl) (by kernel_rfl) rfl rfl rfl rfl rfl (.inr (fun _ h => h)) ?_
          refine j_p (i := 4) rfl (y_move rfl) (by kernel_rfl) (by kernel_rfl) (by kernel_rfl) rfl rfl rfl rfl rfl (.inr (fun _ h => h)) ?_
          refine j_p (i := 5) rfl (y_idxs rfl rfl Try.underlying9 (by omega) (by omega)) (by kernel_rfl) (by kernel_rfl) (by kernel_rfl) rfl rfl rfl rfl rfl (.inr (fun _ h => h)) ?_
          refine j_p (i := 6) rfl (y_eql rfl rfl) (by kernel_rfl) (by kernel_rfl) (by kernel_rfl) rfl rfl rfl rfl rfl (.inr (fun _ h => h)) ?_
          refine j_nil (by kernel_rfl) ?_
          refine g_then ?_
          refine g_cond rfl (fun cq5 => ?_) (fun cq5 => ?_)
          · (try simp at cq5)
            refine g_seq ?_
            refine g_draw 16 (by kernel_rfl) ?_
            refine j_p (i := 0) rfl (y_move rfl) (by kernel_rfl) (by kernel_rfl) (by kernel_rfl) rfl rfl rfl rfl rfl (.inr (fun _ h => h)) ?_
            refine j_p (i := 1) rfl (y_move rfl) (by kernel_rfl) (by kernel_rfl) (by kernel_rfl) rfl rfl rfl rfl rfl (.inr (fun _ h => h)) ?_
            refine j_p (i := 2) rfl (y_move rfl) (by kernel_rfl) (by kernel_rfl) (by kernel_rfl) rfl rfl rfl rfl rfl (.inr (fun _ h => h)) ?_
            refine j_p (i := 3) rfl (y_add rfl rfl (by omega) (by omega)) (by kernel_rfl) (by kernel_rfl) (by kernel_rfl) rfl rfl rfl rfl rfl (.inr (fun _ h => h)) ?_
            refine j_p (i := 4) rfl (y_strlh rfl rfl rfl Try.underlying9 (by omega) (by omega) (by omega)) (by kernel_rfl) (by kernel_rfl) (by kernel_rfl) rfl rfl rfl rfl rfl (.inr (fun _ h => h)) ?_
            rw [show a.extract (zi : Int).toNat (zi + 1 : Int).toNat = cutB a zi from rfl]
            refine j_p (i := 5) rfl (y_move rfl) (by kernel_rfl) (by kernel_rfl) (by kernel_rfl) rfl rfl rfl rfl rfl (.inr (fun _ h => h)) ?_
            refine j_p (i := 6) rfl (y_move rfl) (by kernel_rfl) (by kernel_rfl) (by kernel_rfl) rfl rfl rfl rfl rfl (.inr (fun _ h => h)) ?_
            refine j_p (i := 7) rfl (y_add rfl rfl (by omega) (by omega)) (by kernel_rfl) (by kernel_rfl) (by kernel_rfl) rfl rfl rfl rfl rfl (.inr (fun _ h => h)) ?_
            refine j_p (i := 8) rfl (y_idxb1 rfl rfl Try.underlying116 size_45 (by omega) (by omega)) (by kernel_rfl) (by kernel_rfl) (by kernel_rfl) rfl rfl rfl rfl rfl (.inr (fun _ h => h)) ?_
            refine j_l (i := 9) rfl (y_ldL (enc := encV) (xs := (List.replicate (a.size + 1 - (u + 1)) (Value.slice none 0 0) ++ ((Value.slice (some ⟨bw, 0, none⟩) (b.size + 1) (b.size + 1)) :: vs))) (jk := []) 1 rfl rfl agg_45 (rdVal_at (by omega) (by simp; omega))) (by kernel_rfl) (by kernel_rfl) (by kernel_rfl) (by kernel_rfl) rfl rfl rfl rfl rfl (.inr (fun _ h => h)) ?_
            rw [show rdVal (List.replicate (a.size + 1 - (u + 1)) (Value.slice none 0 0) ++ ((Value.slice (some ⟨bw, 0, none⟩) (b.size + 1) (b.size + 1)) :: vs)) (zi + 1) = rdVal vs ((0 : Nat) : Int) from by rw [show zi + 1 = ((a.size + 1 - (u + 1) : Nat) : Int) + 1 + ((0 : Nat) : Int) by omega]; exact rd_rowB]
            have hr0l := rowW_len (cmP a b) b.size (zi + 1)
            have hr0 : OwnV Value.string (rdVal vs ((0 : Nat) : Int)) (rowW (cmP a b) b.size (zi + 1)) Ms := by have h_ := hrows 0 (by omega); rwa [show zi + 1 + ((0 : Nat) : Int) = zi + 1 by omega] at h_
            refine j_p (i := 10) rfl (y_move rfl) (by kernel_rfl) (by kernel_rfl) (by kernel_rfl) rfl rfl rfl rfl rfl (.inr (fun _ h => h)) ?_
            refine j_p (i := 11) rfl (y_add rfl rfl (by omega) (by omega)) (by kernel_rfl) (by kernel_rfl) (by kernel_rfl) rfl rfl rfl rfl rfl (.inr (fun _ h => h)) ?_
            refine j_p (i := 12) rfl (y_idxO (enc := Value.string) rfl rfl hr0 hEs Try.underlying45 size_9 (by omega) (by omega)) (by kernel_rfl) (by kernel_rfl) (by kernel_rfl) rfl rfl rfl rfl rfl (.inr (fun _ h => h)) ?_
            refine j_l (i := 13) rfl (y_ldV (enc := Value.string) (xs := (rowW (cmP a b) b.size (zi + 1))) (fun w h => (hr0.rd fun p hp => h.at_ p (List.mem_cons_of_mem _ (List.mem_cons_of_mem _ (mem_al Ms hp)))).rdl) rfl agg_9 (rdS_at (by omega) (by omega))) (by kernel_rfl) (by kernel_rfl) (by kernel_rfl) (by kernel_rfl) rfl rfl rfl rfl rfl (.inr (fun _ h => h)) ?_
            rw [show rdS (rowW (cmP a b) b.size (zi + 1)) (zj + 1) = cmP a b (zi + 1) (zj + 1) from rowW_at (by omega) (by omega)]
            refine j_p (i := 14) rfl (y_sadd rfl rfl (by omega)) (by kernel_rfl) (by kernel_rfl) (by kernel_rfl) rfl rfl rfl rfl rfl (.inr (fun _ h => h)) ?_
            refine j_p (i := 15) rfl (y_assign rfl) (by kernel_rfl) (by kernel_rfl) (by kernel_rfl) rfl rfl rfl rfl rfl (.inr (fun _ h => h)) ?_
            refine j_nil (by kernel_rfl) ?_
            refine g_then ?_
            refine g_seq ?_
            have hz3 := app_size (cutB a zi) (cmP a b (zi + 1) (zj + 1))
            refine g_region ?_
            refine s_y (y_move rfl) rfl rfl rfl rfl ?_
            refine s_y (y_lens rfl Try.underlying9) rfl rfl rfl rfl ?_
            refine s_y (y_move rfl) rfl rfl rfl rfl ?_
            refine s_y (y_lens rfl Try.underlying9) rfl rfl rfl rfl ?_
            refine s_y (y_gtr rfl rfl) rfl rfl rfl rfl ?_
            refine s_y (y_move rfl) rfl rfl rfl rfl ?_
            refine g_bool 102 rfl (fun cq6 => ?_) (fun cq6 => ?_)
            · (try simp at cq6)
              refine s_no rfl rfl rfl ?_
              refine s_no rfl rfl rfl ?_
              refine s_no rfl rfl rfl ?_
              refine s_no rfl rfl rfl ?_
              refine s_no rfl rfl rfl ?_
              refine s_no rfl rfl rfl ?_
              refine s_noU rfl rfl rfl rfl rfl ?_
              refine s_noU rfl rfl rfl rfl rfl ?_
              refine s_noU rfl rfl rfl rfl rfl ?_
              refine s_no rfl rfl rfl ?_
              refine s_y (y_pick_t rfl rfl) rfl rfl rfl rfl ?_
              refine s_nil ?_
              refine g_then ?_
              refine g_cond_t rfl ?_
              refine g_region ?_
              refine s_y (y_move rfl) rfl rfl rfl rfl ?_
              refine s_y (y_assign rfl) rfl rfl rfl rfl ?_
              refine s_nil ?_
              refine g_then ?_
              have hp2 : pickC (cmP a b zi (zj + 1)) ((cutB a zi) ++ (cmP a b (zi + 1) (zj + 1))) = ((cutB a zi) ++ (cmP a b (zi + 1) (zj + 1))) := by first | exact pickC_gt (by omega) | exact pickC_lt (by omega) | exact pickC_et (by omega) (by assumption) | exact pickC_ef (by omega) (by assumption)
              refine g_region ?_
              refine s_y (y_move rfl) rfl rfl rfl rfl ?_
              refine s_y (y_move rfl) rfl rfl rfl rfl ?_
              refine s_y (y_idxb1 rfl rfl Try.underlying116 size_45 (by omega) (by omega)) rfl rfl rfl rfl ?_
              refine s_y (y_ldL (enc := encV) (xs := (List.replicate (a.size + 1 - (u + 1)) (Value.slice none 0 0) ++ ((Value.slice (some ⟨bw, 0, none⟩) (b.size + 1) (b.size + 1)) :: vs))) (jk := []) 1 rfl rfl agg_45 (rdVal_at (by omega) (by simp; omega))) rfl rfl rfl rfl ?_
              rw [show rdVal (List.replicate (a.size + 1 - (u + 1)) (Value.slice none 0 0) ++ ((Value.slice (some ⟨bw, 0, none⟩) (b.size + 1) (b.size + 1)) :: vs)) zi = (Value.slice (some ⟨bw, 0, none⟩) (b.size + 1) (b.size + 1)) from by rw [show zi = ((a.size + 1 - (u + 1) : Nat) : Int) by omega]; exact rd_rowA]
              refine s_y (y_move rfl) rfl rfl rfl rfl ?_
              refine s_y (y_move rfl) rfl rfl rfl rfl ?_
              rw [show (cutB a zi) ++ (cmP a b (zi + 1) (zj + 1)) = cmP a b zi zj from by rw [cmP_rec (a := a) (b := b) (i := zi) (j := zj) (by omega) (by omega) (by omega) (by omega)]; first | rw [if_pos (by assumption), hp1, hp2] | rw [if_neg (by assumption), hp1]]
              refine s_y (y_idxb1 rfl rfl Try.underlying45 size_9 (by omega) (by omega)) rfl rfl rfl rfl ?_
              refine s_tr0 (t_storeL (enc := Value.string) (v := cmP a b zi zj) (xs := zs) (jk := []) 0 rfl rfl rfl rfl rfl size_9 (by omega)) rfl rfl rfl (fun _ _ => ?_)
              refine s_nil ?_
              refine g_inb ?_
              refine g_then ?_
              refine g_region ?_
              refine s_y (y_move rfl) rfl rfl rfl rfl ?_
              refine s_y (y_sub rfl rfl (by omega) (by omega)) rfl rfl rfl rfl ?_
              refine s_y (y_assign rfl) rfl rfl rfl rfl ?_
              refine s_nil ?_
              refine g_then ?_
              exact fun act W ha hw => ⟨v_ + 1, by omega, by omega, (zj - 1), (zs.set ((zj : Int).toNat) (cmP a b zi zj)), W, (by omega), (by simp; omega), (by intro y h1 h2; rw [rdS_setJ (by omega) (by omega) (by omega)]; by_cases c : zj = y; rw [if_pos c, c]; rw [if_neg c]; exact hzs y (by omega) h2), (by intro h_; omega), (by intro h_; omega), ha.weak (sub_get ⟨rfl, rfl, rfl, rfl, rfl, rfl, rfl, rfl, rfl, rfl, rfl, rfl, rfl, rfl, rfl, rfl, rfl, rfl, trivial⟩), hw.toHq.lookSub (List.Sublist.refl _)⟩
            · (try simp at cq6)
              refine s_y (y_move rfl) rfl rfl rfl rfl ?_
              refine s_y (y_lens rfl Try.underlying9) rfl rfl rfl rfl ?_
              refine s_y (y_move rfl) rfl rfl rfl rfl ?_
              refine s_y (y_lens rfl Try.underlying9) rfl rfl rfl rfl ?_
              refine s_y (y_eql rfl rfl) rfl rfl rfl rfl ?_
              refine s_y (y_move rfl) rfl rfl rfl rfl ?_
              refine g_bool 108 rfl (fun cq7 => ?_) (fun cq7 => ?_)
              · (try simp at cq7)
                refine s_y (y_move rfl) rfl rfl rfl rfl ?_
                refine s_y (y_move rfl) rfl rfl rfl rfl ?_
                refine s_y (y_slss rfl rfl) rfl rfl rfl rfl ?_
                refine s_y (y_pick_t rfl rfl) rfl rfl rfl rfl ?_
                refine s_y (y_pick_f rfl rfl) rfl rfl rfl rfl ?_
                refine s_nil ?_
                refine g_then ?_
                refine g_cond rfl (fun cq8 => ?_) (fun cq8 => ?_)
                · (try simp at cq8)
                  refine g_region ?_
                  refine s_y (y_move rfl) rfl rfl rfl rfl ?_
                  refine s_y (y_assign rfl) rfl rfl rfl rfl ?_
                  refine s_nil ?_
                  refine g_then ?_
                  have hp2 : pickC (cmP a b zi (zj + 1)) ((cutB a zi) ++ (cmP a b (zi + 1) (zj + 1))) = ((cutB a zi) ++ (cmP a b (zi + 1) (zj + 1))) := by first | exact pickC_gt (by omega) | exact pickC_lt (by omega) | exact pickC_et (by omega) (by assumption) | exact pickC_ef (by omega) (by assumption)
                  refine g_region ?_
                  refine s_y (y_move rfl) rfl rfl rfl rfl ?_
                  refine s_y (y_move rfl) rfl rfl rfl rfl ?_
                  refine s_y (y_idxb1 rfl rfl Try.underlying116 size_45 (by omega) (by omega)) rfl rfl rfl rfl ?_
                  refine s_y (y_ldL (enc := encV) (xs := (List.replicate (a.size + 1 - (u + 1)) (Value.slice none 0 0) ++ ((Value.slice (some ⟨bw, 0, none⟩) (b.size + 1) (b.size + 1)) :: vs))) (jk := []) 1 rfl rfl agg_45 (rdVal_at (by omega) (by simp; omega))) rfl rfl rfl rfl ?_
                  rw [show rdVal (List.replicate (a.size + 1 - (u + 1)) (Value.slice none 0 0) ++ ((Value.slice (some ⟨bw, 0, none⟩) (b.size + 1) (b.size + 1)) :: vs)) zi = (Value.slice (some ⟨bw, 0, none⟩) (b.size + 1) (b.size + 1)) from by rw [show zi = ((a.size + 1 - (u + 1) : Nat) : Int) by omega]; exact rd_rowA]
                  refine s_y (y_move rfl) rfl rfl rfl rfl ?_
                  refine s_y (y_move rfl) rfl rfl rfl rfl ?_
                  rw [show (cutB a zi) ++ (cmP a b (zi + 1) (zj + 1)) = cmP a b zi zj from by rw [cmP_rec (a := a) (b := b) (i := zi) (j := zj) (by omega) (by omega) (by omega) (by omega)]; first | rw [if_pos (by assumption), hp1, hp2] | rw [if_neg (by assumption), hp1]]
                  refine s_y (y_idxb1 rfl rfl Try.underlying45 size_9 (by omega) (by omega)) rfl rfl rfl rfl ?_
                  refine s_tr0 (t_storeL (enc := Value.string) (v := cmP a b zi zj) (xs := zs) (jk := []) 0 rfl rfl rfl rfl rfl size_9 (by omega)) rfl rfl rfl (fun _ _ => ?_)
                  refine s_nil ?_
                  refine g_inb ?_
                  refine g_then ?_
                  refine g_region ?_
                  refine s_y (y_move rfl) rfl rfl rfl rfl ?_
                  refine s_y (y_sub rfl rfl (by omega) (by omega)) rfl rfl rfl rfl ?_
                  refine s_y (y_assign rfl) rfl rfl rfl rfl ?_
                  refine s_nil ?_
                  refine g_then ?_
                  exact fun act W ha hw => ⟨v_ + 1, by omega, by omega, (zj - 1), (zs.set ((zj : Int).toNat) (cmP a b zi zj)), W, (by omega), (by simp; omega), (by intro y h1 h2; rw [rdS_setJ (by omega) (by omega) (by omega)]; by_cases c : zj = y; rw [if_pos c, c]; rw [if_neg c]; exact hzs y (by omega) h2), (by intro h_; omega), (by intro h_; omega), ha.weak (sub_get ⟨rfl, rfl, rfl, rfl, rfl, rfl, rfl, rfl, rfl, rfl, rfl, rfl, rfl, rfl, rfl, rfl, rfl, rfl, trivial⟩), hw.toHq.lookSub (List.Sublist.refl _)⟩
                · (try simp at cq8)
                  refine g_skip ?_
                  refine g_then ?_
                  have hp2 : pickC (cmP a b zi (zj + 1)) ((cutB a zi) ++ (cmP a b (zi + 1) (zj + 1))) = (cmP a b zi (zj + 1)) := by first | exact pickC_gt (by omega) | exact pickC_lt (by omega) | exact pickC_et (by omega) (by assumption) | exact pickC_ef (by omega) (by assumption)
                  refine g_region ?_
                  refine s_y (y_move rfl) rfl rfl rfl rfl ?_
                  refine s_y (y_move rfl) rfl rfl rfl rfl ?_
                  refine s_y (y_idxb1 rfl rfl Try.underlying116 size_45 (by omega) (by omega)) rfl rfl rfl rfl ?_
                  refine s_y (y_ldL (enc := encV) (xs := (List.replicate (a.size + 1 - (u + 1)) (Value.slice none 0 0) ++ ((Value.slice (some ⟨bw, 0, none⟩) (b.size + 1) (b.size + 1)) :: vs))) (jk := []) 1 rfl rfl agg_45 (rdVal_at (by omega) (by simp; omega))) rfl rfl rfl rfl ?_
                  rw [show rdVal (List.replicate (a.size + 1 - (u + 1)) (Value.slice none 0 0) ++ ((Value.slice (some ⟨bw, 0, none⟩) (b.size + 1) (b.size + 1)) :: vs)) zi = (Value.slice (some ⟨bw, 0, none⟩) (b.size + 1) (b.size + 1)) from by rw [show zi = ((a.size + 1 - (u + 1) : Nat) : Int) by omega]; exact rd_rowA]
                  refine s_y (y_move rfl) rfl rfl rfl rfl ?_
                  refine s_y (y_move rfl) rfl rfl rfl rfl ?_
                  rw [show cmP a b zi (zj + 1) = cmP a b zi zj from by rw [cmP_rec (a := a) (b := b) (i := zi) (j := zj) (by omega) (by omega) (by omega) (by omega)]; first | rw [if_pos (by assumption), hp1, hp2] | rw [if_neg (by assumption), hp1]]
                  refine s_y (y_idxb1 rfl rfl Try.underlying45 size_9 (by omega) (by omega)) rfl rfl rfl rfl ?_
                  refine s_tr0 (t_storeL (enc := Value.string) (v := cmP a b zi zj) (xs := zs) (jk := []) 0 rfl rfl rfl rfl rfl size_9 (by omega)) rfl rfl rfl (fun _ _ => ?_)
                  refine s_nil ?_
                  refine g_inb ?_
                  refine g_then ?_
                  refine g_region ?_
                  refine s_y (y_move rfl) rfl rfl rfl rfl ?_
                  refine s_y (y_sub rfl rfl (by omega) (by omega)) rfl rfl rfl rfl ?_
                  refine s_y (y_assign rfl) rfl rfl rfl rfl ?_
                  refine s_nil ?_
                  refine g_then ?_
                  exact fun act W ha hw => ⟨v_ + 1, by omega, by omega, (zj - 1), (zs.set ((zj : Int).toNat) (cmP a b zi zj)), W, (by omega), (by simp; omega), (by intro y h1 h2; rw [rdS_setJ (by omega) (by omega) (by omega)]; by_cases c : zj = y; rw [if_pos c, c]; rw [if_neg c]; exact hzs y (by omega) h2), (by intro h_; omega), (by intro h_; omega), ha.weak (sub_get ⟨rfl, rfl, rfl, rfl, rfl, rfl, rfl, rfl, rfl, rfl, rfl, rfl, rfl, rfl, rfl, rfl, rfl, rfl, trivial⟩), hw.toHq.lookSub (List.Sublist.refl _)⟩
              · (try simp at cq7)
                refine s_no rfl rfl rfl ?_
                refine s_no rfl rfl rfl ?_
                refine s_no rfl rfl rfl ?_
                refine s_y (y_pick_f rfl rfl) rfl rfl rfl rfl ?_
                refine s_y (y_pick_f rfl rfl) rfl rfl rfl rfl ?_
                refine s_nil ?_
                refine g_then ?_
                refine g_cond_f rfl ?_
                refine g_skip ?_
                refine g_then ?_
                have hp2 : pickC (cmP a b zi (zj + 1)) ((cutB a zi) ++ (cmP a b (zi + 1) (zj + 1))) = (cmP a b zi (zj + 1)) := by first | exact pickC_gt (by omega) | exact pickC_lt (by omega) | exact pickC_et (by omega) (by assumption) | exact pickC_ef (by omega) (by assumption)
                refine g_region ?_
                refine s_y (y_move rfl) rfl rfl rfl rfl ?_
                refine s_y (y_move rfl) rfl rfl rfl rfl ?_
                refine s_y (y_idxb1 rfl rfl Try.underlying116 size_45 (by omega) (by omega)) rfl rfl rfl rfl ?_
                refine s_y (y_ldL (enc := encV) (xs := (List.replicate (a.size + 1 - (u + 1)) (Value.slice none 0 0) ++ ((Value.slice (some ⟨bw, 0, none⟩) (b.size + 1) (b.size + 1)) :: vs))) (jk := []) 1 rfl rfl agg_45 (rdVal_at (by omega) (by simp; omega))) rfl rfl rfl rfl ?_
                rw [show rdVal (List.replicate (a.size + 1 - (u + 1)) (Value.slice none 0 0) ++ ((Value.slice (some ⟨bw, 0, none⟩) (b.size + 1) (b.size + 1)) :: vs)) zi = (Value.slice (some ⟨bw, 0, none⟩) (b.size + 1) (b.size + 1)) from by rw [show zi = ((a.size + 1 - (u + 1) : Nat) : Int) by omega]; exact rd_rowA]
                refine s_y (y_move rfl) rfl rfl rfl rfl ?_
                refine s_y (y_move rfl) rfl rfl rfl rfl ?_
                rw [show cmP a b zi (zj + 1) = cmP a b zi zj from by rw [cmP_rec (a := a) (b := b) (i := zi) (j := zj) (by omega) (by omega) (by omega) (by omega)]; first | rw [if_pos (by assumption), hp1, hp2] | rw [if_neg (by assumption), hp1]]
                refine s_y (y_idxb1 rfl rfl Try.underlying45 size_9 (by omega) (by omega)) rfl rfl rfl rfl ?_
                refine s_tr0 (t_storeL (enc := Value.string) (v := cmP a b zi zj) (xs := zs) (jk := []) 0 rfl rfl rfl rfl rfl size_9 (by omega)) rfl rfl rfl (fun _ _ => ?_)
                refine s_nil ?_
                refine g_inb ?_
                refine g_then ?_
                refine g_region ?_
                refine s_y (y_move rfl) rfl rfl rfl rfl ?_
                refine s_y (y_sub rfl rfl (by omega) (by omega)) rfl rfl rfl rfl ?_
                refine s_y (y_assign rfl) rfl rfl rfl rfl ?_
                refine s_nil ?_
                refine g_then ?_
                exact fun act W ha hw => ⟨v_ + 1, by omega, by omega, (zj - 1), (zs.set ((zj : Int).toNat) (cmP a b zi zj)), W, (by omega), (by simp; omega), (by intro y h1 h2; rw [rdS_setJ (by omega) (by omega) (by omega)]; by_cases c : zj = y; rw [if_pos c, c]; rw [if_neg c]; exact hzs y (by omega) h2), (by intro h_; omega), (by intro h_; omega), ha.weak (sub_get ⟨rfl, rfl, rfl, rfl, rfl, rfl, rfl, rfl, rfl, rfl, rfl, rfl, rfl, rfl, rfl, rfl, rfl, rfl, trivial⟩), hw.toHq.lookSub (List.Sublist.refl _)⟩
          · (try simp at cq5)
            refine g_skip ?_
            refine g_then ?_
            refine g_region ?_
            refine s_y (y_move rfl) rfl rfl rfl rfl ?_
            refine s_y (y_move rfl) rfl rfl rfl rfl ?_
            refine s_y (y_idxb1 rfl rfl Try.underlying116 size_45 (by omega) (by omega)) rfl rfl rfl rfl ?_
            refine s_y (y_ldL (enc := encV) (xs := (List.replicate (a.size + 1 - (u + 1)) (Value.slice none 0 0) ++ ((Value.slice (some ⟨bw, 0, none⟩) (b.size + 1) (b.size + 1)) :: vs))) (jk := []) 1 rfl rfl agg_45 (rdVal_at (by omega) (by simp; omega))) rfl rfl rfl rfl ?_
            rw [show rdVal (List.replicate (a.size + 1 - (u + 1)) (Value.slice none 0 0) ++ ((Value.slice (some ⟨bw, 0, none⟩) (b.size + 1) (b.size + 1)) :: vs)) zi = (Value.slice (some ⟨bw, 0, none⟩) (b.size + 1) (b.size + 1)) from by rw [show zi = ((a.size + 1 - (u + 1) : Nat) : Int) by omega]; exact rd_rowA]
            refine s_y (y_move rfl) rfl rfl rfl rfl ?_
            refine s_y (y_move rfl) rfl rfl rfl rfl ?_
            rw [show cmP a b zi (zj + 1) = cmP a b zi zj from by rw [cmP_rec (a := a) (b := b) (i := zi) (j := zj) (by omega) (by omega) (by omega) (by omega)]; first | rw [if_pos (by assumption), hp1, hp2] | rw [if_neg (by assumption), hp1]]
            refine s_y (y_idxb1 rfl rfl Try.underlying45 size_9 (by omega) (by omega)) rfl rfl rfl rfl ?_
            refine s_tr0 (t_storeL (enc := Value.string) (v := cmP a b zi zj) (xs := zs) (jk := []) 0 rfl rfl rfl rfl rfl size_9 (by omega)) rfl rfl rfl (fun _ _ => ?_)
            refine s_nil ?_
            refine g_inb ?_
            refine g_then ?_
            refine g_region ?_
            refine s_y (y_move rfl) rfl rfl rfl rfl ?_
            refine s_y (y_sub rfl rfl (by omega) (by omega)) rfl rfl rfl rfl ?_
            refine s_y (y_assign rfl) rfl rfl rfl rfl ?_
            refine s_nil ?_
            refine g_then ?_
            exact fun act W ha hw => ⟨v_ + 1, by omega, by omega, (zj - 1), (zs.set ((zj : Int).toNat) (cmP a b zi zj)), W, (by omega), (by simp; omega), (by intro y h1 h2; rw [rdS_setJ (by omega) (by omega) (by omega)]; by_cases c : zj = y; rw [if_pos c, c]; rw [if_neg c]; exact hzs y (by omega) h2), (by intro h_; omega), (by intro h_; omega), ha.weak (sub_get ⟨rfl, rfl, rfl, rfl, rfl, rfl, rfl, rfl, rfl, rfl, rfl, rfl, rfl, rfl, rfl, rfl, rfl, rfl, trivial⟩), hw.toHq.lookSub (List.Sublist.refl _)⟩
        · (try simp at cq4)
          refine s_y (y_move rfl) rfl rfl rfl rfl ?_
          refine s_y (y_lens rfl Try.underlying9) rfl rfl rfl rfl ?_
          refine s_y (y_move rfl) rfl rfl rfl rfl ?_
          refine s_y (y_lens rfl Try.underlying9) rfl rfl rfl rfl ?_
          refine s_y (y_eql rfl rfl) rfl rfl rfl rfl ?_
          refine s_y (y_move rfl) rfl rfl rfl rfl ?_
          refine g_bool 68 rfl (fun cq9 => ?_) (fun cq9 => ?_)
          · (try simp at cq9)
            refine s_y (y_move rfl) rfl rfl rfl rfl ?_
            refine s_y (y_move rfl) rfl rfl rfl rfl ?_
            refine s_y (y_slss rfl rfl) rfl rfl rfl rfl ?_
            refine s_y (y_pick_t rfl rfl) rfl rfl rfl rfl ?_
            refine s_y (y_pick_f rfl rfl) rfl rfl rfl rfl ?_
            refine s_nil ?_
            refine g_then ?_
            refine g_cond rfl (fun cq10 => ?_) (fun cq10 => ?_)
            · (try simp at cq10)
              refine g_region ?_
              refine s_y (y_move rfl) rfl rfl rfl rfl ?_
              refine s_y (y_assign rfl) rfl rfl rfl rfl ?_
              refine s_nil ?_
              refine g_then ?_
              refine g_seq ?_
              refine g_seq ?_
              have hp1 : pickC (cmP a b (zi + 1) zj) (cmP a b zi (zj + 1)) = (cmP a b zi (zj + 1)) := by first | exact pickC_gt (by omega) | exact pickC_lt (by omega) | exact pickC_et (by omega) (by assumption) | exact pickC_ef (by omega) (by assumption)
              refine g_draw 7 (by kernel_rfl) ?_
              refine j_p (i := 0) rfl (y_move rfl) (by kernel_rfl) (by kernel_rfl) (by kernel_rfl) rfl rfl rfl rfl rfl (.inr (fun _ h => h)) ?_
              refine j_p (i := 1) rfl (y_move rfl) (by kernel_rfl) (by kernel_rfl) (by kernel_rfl) rfl rfl rfl rfl rfl (.inr (fun _ h => h)) ?_
              refine j_p (i := 2) rfl (y_idxs rfl rfl Try.underlying9 (by omega) (by omega)) (by kernel_rfl) (by kernel_rfl) (by kernel_rfl) rfl rfl rfl rfl rfl (.inr (fun _ h => h)) ?_
              refine j_p (i := 3) rfl (y_move rfl) (by kernel_rfl) (by kernel_rfl) (by kernel_rfl) rfl rfl rfl rfl rfl (.inr (fun _ h => h)) ?_
              refine j_p (i := 4) rfl (y_move rfl) (by kernel_rfl) (by kernel_rfl) (by kernel_rfl) rfl rfl rfl rfl rfl (.inr (fun _ h => h)) ?_
              refine j_p (i := 5) rfl (y_idxs rfl rfl Try.underlying9 (by omega) (by omega)) (by kernel_rfl) (by kernel_rfl) (by kernel_rfl) rfl rfl rfl rfl rfl (.inr (fun _ h => h)) ?_
              refine j_p (i := 6) rfl (y_eql rfl rfl) (by kernel_rfl) (by kernel_rfl) (by kernel_rfl) rfl rfl rfl rfl rfl (.inr (fun _ h => h)) ?_
              refine j_nil (by kernel_rfl) ?_
              refine g_then ?_
              refine g_cond rfl (fun cq11 => ?_) (fun cq11 => ?_)
              · (try simp at cq11)
                refine g_seq ?_
                refine g_draw 16 (by kernel_rfl) ?_
                refine j_p (i := 0) rfl (y_move rfl) (by kernel_rfl) (by kernel_rfl) (by kernel_rfl) rfl rfl rfl rfl rfl (.inr (fun _ h => h)) ?_
                refine j_p (i := 1) rfl (y_move rfl) (by kernel_rfl) (by kernel_rfl) (by kernel_rfl) rfl rfl rfl rfl rfl (.inr (fun _ h => h)) ?_
                refine j_p (i := 2) rfl (y_move rfl) (by kernel_rfl) (by kernel_rfl) (by kernel_rfl) rfl rfl rfl rfl rfl (.inr (fun _ h => h)) ?_
                refine j_p (i := 3) rfl (y_add rfl rfl (by omega) (by omega)) (by kernel_rfl) (by kernel_rfl) (by kernel_rfl) rfl rfl rfl rfl rfl (.inr (fun _ h => h)) ?_
                refine j_p (i := 4) rfl (y_strlh rfl rfl rfl Try.underlying9 (by omega) (by omega) (by omega)) (by kernel_rfl) (by kernel_rfl) (by kernel_rfl) rfl rfl rfl rfl rfl (.inr (fun _ h => h)) ?_
                rw [show a.extract (zi : Int).toNat (zi + 1 : Int).toNat = cutB a zi from rfl]
                refine j_p (i := 5) rfl (y_move rfl) (by kernel_rfl) (by kernel_rfl) (by kernel_rfl) rfl rfl rfl rfl rfl (.inr (fun _ h => h)) ?_
                refine j_p (i := 6) rfl (y_move rfl) (by kernel_rfl) (by kernel_rfl) (by kernel_rfl) rfl rfl rfl rfl rfl (.inr (fun _ h => h)) ?_
                refine j_p (i := 7) rfl (y_add rfl rfl (by omega) (by omega)) (by kernel_rfl) (by kernel_rfl) (by kernel_rfl) rfl rfl rfl rfl rfl (.inr (fun _ h => h)) ?_
                refine j_p (i := 8) rfl (y_idxb1 rfl rfl Try.underlying116 size_45 (by omega) (by omega)) (by kernel_rfl) (by kernel_rfl) (by kernel_rfl) rfl rfl rfl rfl rfl (.inr (fun _ h => h)) ?_
                refine j_l (i := 9) rfl (y_ldL (enc := encV) (xs := (List.replicate (a.size + 1 - (u + 1)) (Value.slice none 0 0) ++ ((Value.slice (some ⟨bw, 0, none⟩) (b.size + 1) (b.size + 1)) :: vs))) (jk := []) 1 rfl rfl agg_45 (rdVal_at (by omega) (by simp; omega))) (by kernel_rfl) (by kernel_rfl) (by kernel_rfl) (by kernel_rfl) rfl rfl rfl rfl rfl (.inr (fun _ h => h)) ?_
                rw [show rdVal (List.replicate (a.size + 1 - (u + 1)) (Value.slice none 0 0) ++ ((Value.slice (some ⟨bw, 0, none⟩) (b.size + 1) (b.size + 1)) :: vs)) (zi + 1) = rdVal vs ((0 : Nat) : Int) from by rw [show zi + 1 = ((a.size + 1 - (u + 1) : Nat) : Int) + 1 + ((0 : Nat) : Int) by omega]; exact rd_rowB]
                have hr0l := rowW_len (cmP a b) b.size (zi + 1)
                have hr0 : OwnV Value.string (rdVal vs ((0 : Nat) : Int)) (rowW (cmP a b) b.size (zi + 1)) Ms := by have h_ := hrows 0 (by omega); rwa [show zi + 1 + ((0 : Nat) : Int) = zi + 1 by omega] at h_
                refine j_p (i := 10) rfl (y_move rfl) (by kernel_rfl) (by kernel_rfl) (by kernel_rfl) rfl rfl rfl rfl rfl (.inr (fun _ h => h)) ?_
                refine j_p (i := 11) rfl (y_add rfl rfl (by omega) (by omega)) (by kernel_rfl) (by kernel_rfl) (by kernel_rfl) rfl rfl rfl rfl rfl (.inr (fun _ h => h)) ?_
                refine j_p (i := 12) rfl (y_idxO (enc := Value.string) rfl rfl hr0 hEs Try.underlying45 size_9 (by omega) (by omega)) (by kernel_rfl) (by kernel_rfl) (by kernel_rfl) rfl rfl rfl rfl rfl (.inr (fun _ h => h)) ?_
                refine j_l (i := 13) rfl (y_ldV (enc := Value.string) (xs := (rowW (cmP a b) b.size (zi + 1))) (fun w h => (hr0.rd fun p hp => h.at_ p (List.mem_cons_of_mem _ (List.mem_cons_of_mem _ (mem_al Ms hp)))).rdl) rfl agg_9 (rdS_at (by omega) (by omega))) (by kernel_rfl) (by kernel_rfl) (by kernel_rfl) (by kernel_rfl) rfl rfl rfl rfl rfl (.inr (fun _ h => h)) ?_
                rw [show rdS (rowW (cmP a b) b.size (zi + 1)) (zj + 1) = cmP a b (zi + 1) (zj + 1) from rowW_at (by omega) (by omega)]
                refine j_p (i := 14) rfl (y_sadd rfl rfl (by omega)) (by kernel_rfl) (by kernel_rfl) (by kernel_rfl) rfl rfl rfl rfl rfl (.inr (fun _ h => h)) ?_
                refine j_p (i := 15) rfl (y_assign rfl) (by kernel_rfl) (by kernel_rfl) (by kernel_rfl) rfl rfl rfl rfl rfl (.inr (fun _ h => h)) ?_
                refine j_nil (by kernel_rfl) ?_
                refine g_then ?_
                refine g_seq ?_
                have hz3 := app_size (cutB a zi) (cmP a b (zi + 1) (zj + 1))
                refine g_region ?_
                refine s_y (y_move rfl) rfl rfl rfl rfl ?_
                refine s_y (y_lens rfl Try.underlying9) rfl rfl rfl rfl ?_
                refine s_y (y_move rfl) rfl rfl rfl rfl ?_
                refine s_y (y_lens rfl Try.underlying9) rfl rfl rfl rfl ?_
                refine s_y (y_gtr rfl rfl) rfl rfl rfl rfl ?_
                refine s_y (y_move rfl) rfl rfl rfl rfl ?_
                refine g_bool 102 rfl (fun cq12 => ?_) (fun cq12 => ?_)
                · (try simp at cq12)
                  refine s_no rfl rfl rfl ?_
                  refine s_no rfl rfl rfl ?_
                  refine s_no rfl rfl rfl ?_
                  refine s_no rfl rfl rfl ?_
                  refine s_no rfl rfl rfl ?_
                  refine s_no rfl rfl rfl ?_
                  refine s_noU rfl rfl rfl rfl rfl ?_
                  refine s_noU rfl rfl rfl rfl rfl ?_
                  refine s_noU rfl rfl rfl rfl rfl ?_
                  refine s_no rfl rfl rfl ?_
                  refine s_y (y_pick_t rfl rfl) rfl rfl rfl rfl ?_
                  refine s_nil ?_
                  refine g_then ?_
                  refine g_cond_t rfl ?_
                  refine g_region ?_
                  refine s_y (y_move rfl) rfl rfl rfl rfl ?_
                  refine s_y (y_assign rfl) rfl rfl rfl rfl ?_
                  refine s_nil ?_
                  refine g_then ?_
                  have hp2 : pickC (cmP a b zi (zj + 1)) ((cutB a zi) ++ (cmP a b (zi + 1) (zj + 1))) = ((cutB a zi) ++ (cmP a b (zi + 1) (zj + 1))) := by first | exact pickC_gt (by omega) | exact pickC_lt (by omega) | exact pickC_et (by omega) (by assumption) | exact pickC_ef (by omega) (by assumption)
                  refine g_region ?_
                  refine s_y (y_move rfl) rfl rfl rfl rfl ?_
                  refine s_y (y_move rfl) rfl rfl rfl rfl ?_
                  refine s_y (y_idxb1 rfl rfl Try.underlying116 size_45 (by omega) (by omega)) rfl rfl rfl rfl ?_
                  refine s_y (y_ldL (enc := encV) (xs := (List.replicate (a.size + 1 - (u + 1)) (Value.slice none 0 0) ++ ((Value.slice (some ⟨bw, 0, none⟩) (b.size + 1) (b.size + 1)) :: vs))) (jk := []) 1 rfl rfl agg_45 (rdVal_at (by omega) (by simp; omega))) rfl rfl rfl rfl ?_
                  rw [show rdVal (List.replicate (a.size + 1 - (u + 1)) (Value.slice none 0 0) ++ ((Value.slice (some ⟨bw, 0, none⟩) (b.size + 1) (b.size + 1)) :: vs)) zi = (Value.slice (some ⟨bw, 0, none⟩) (b.size + 1) (b.size + 1)) from by rw [show zi = ((a.size + 1 - (u + 1) : Nat) : Int) by omega]; exact rd_rowA]
                  refine s_y (y_move rfl) rfl rfl rfl rfl ?_
                  refine s_y (y_move rfl) rfl rfl rfl rfl ?_
                  rw [show (cutB a zi) ++ (cmP a b (zi + 1) (zj + 1)) = cmP a b zi zj from by rw [cmP_rec (a := a) (b := b) (i := zi) (j := zj) (by omega) (by omega) (by omega) (by omega)]; first | rw [if_pos (by assumption), hp1, hp2] | rw [if_neg (by assumption), hp1]]
                  refine s_y (y_idxb1 rfl rfl Try.underlying45 size_9 (by omega) (by omega)) rfl rfl rfl rfl ?_
                  refine s_tr0 (t_storeL (enc := Value.string) (v := cmP a b zi zj) (xs := zs) (jk := []) 0 rfl rfl rfl rfl rfl size_9 (by omega)) rfl rfl rfl (fun _ _ => ?_)
                  refine s_nil ?_
                  refine g_inb ?_
                  refine g_then ?_
                  refine g_region ?_
                  refine s_y (y_move rfl) rfl rfl rfl rfl ?_
                  refine s_y (y_sub rfl rfl (by omega) (by omega)) rfl rfl rfl rfl ?_
                  refine s_y (y_assign rfl) rfl rfl rfl rfl ?_
                  refine s_nil ?_
                  refine g_then ?_
                  exact fun act W ha hw => ⟨v_ + 1, by omega, by omega, (zj - 1), (zs.set ((zj : Int).toNat) (cmP a b zi zj)), W, (by omega), (by simp; omega), (by intro y h1 h2; rw [rdS_setJ (by omega) (by omega) (by omega)]; by_cases c : zj = y; rw [if_pos c, c]; rw [if_neg c]; exact hzs y (by omega) h2), (by intro h_; omega), (by intro h_; omega), ha.weak (sub_get ⟨rfl, rfl, rfl, rfl, rfl, rfl, rfl, rfl, rfl, rfl, rfl, rfl, rfl, rfl, rfl, rfl, rfl, rfl, trivial⟩), hw.toHq.lookSub (List.Sublist.refl _)⟩
                · (try simp at cq12)
                  refine s_y (y_move rfl) rfl rfl rfl rfl ?_
                  refine s_y (y_lens rfl Try.underlying9) rfl rfl rfl rfl ?_
                  refine s_y (y_move rfl) rfl rfl rfl rfl ?_
                  refine s_y (y_lens rfl Try.underlying9) rfl rfl rfl rfl ?_
                  refine s_y (y_eql rfl rfl) rfl rfl rfl rfl ?_
                  refine s_y (y_move rfl) rfl rfl rfl rfl ?_
                  refine g_bool 108 rfl (fun cq13 => ?_) (fun cq13 => ?_)
                  · (try simp at cq13)
                    refine s_y (y_move rfl) rfl rfl rfl rfl ?_
                    refine s_y (y_move rfl) rfl rfl rfl rfl ?_
                    refine s_y (y_slss rfl rfl) rfl rfl rfl rfl ?_
                    refine s_y (y_pick_t rfl rfl) rfl rfl rfl rfl ?_
                    refine s_y (y_pick_f rfl rfl) rfl rfl rfl rfl ?_
                    refine s_nil ?_
                    refine g_then ?_
                    refine g_cond rfl (fun cq14 => ?_) (fun cq14 => ?_)
                    · (try simp at cq14)
                      refine g_region ?_
                      refine s_y (y_move rfl) rfl rfl rfl rfl ?_
                      refine s_y (y_assign rfl) rfl rfl rfl rfl ?_
                      refine s_nil ?_
                      refine g_then ?_
                      have hp2 : pickC (cmP a b zi (zj + 1)) ((cutB a zi) ++ (cmP a b (zi + 1) (zj + 1))) = ((cutB a zi) ++ (cmP a b (zi + 1) (zj + 1))) := by first | exact pickC_gt (by omega) | exact pickC_lt (by omega) | exact pickC_et (by omega) (by assumption) | exact pickC_ef (by omega) (by assumption)
                      refine g_region ?_
                      refine s_y (y_move rfl) rfl rfl rfl rfl ?_
                      refine s_y (y_move rfl) rfl rfl rfl rfl ?_
                      refine s_y (y_idxb1 rfl rfl Try.underlying116 size_45 (by omega) (by omega)) rfl rfl rfl rfl ?_
                      refine s_y (y_ldL (enc := encV) (xs := (List.replicate (a.size + 1 - (u + 1)) (Value.slice none 0 0) ++ ((Value.slice (some ⟨bw, 0, none⟩) (b.size + 1) (b.size + 1)) :: vs))) (jk := []) 1 rfl rfl agg_45 (rdVal_at (by omega) (by simp; omega))) rfl rfl rfl rfl ?_
                      rw [show rdVal (List.replicate (a.size + 1 - (u + 1)) (Value.slice none 0 0) ++ ((Value.slice (some ⟨bw, 0, none⟩) (b.size + 1) (b.size + 1)) :: vs)) zi = (Value.slice (some ⟨bw, 0, none⟩) (b.size + 1) (b.size + 1)) from by rw [show zi = ((a.size + 1 - (u + 1) : Nat) : Int) by omega]; exact rd_rowA]
                      refine s_y (y_move rfl) rfl rfl rfl rfl ?_
                      refine s_y (y_move rfl) rfl rfl rfl rfl ?_
                      rw [show (cutB a zi) ++ (cmP a b (zi + 1) (zj + 1)) = cmP a b zi zj from by rw [cmP_rec (a := a) (b := b) (i := zi) (j := zj) (by omega) (by omega) (by omega) (by omega)]; first | rw [if_pos (by assumption), hp1, hp2] | rw [if_neg (by assumption), hp1]]
                      refine s_y (y_idxb1 rfl rfl Try.underlying45 size_9 (by omega) (by omega)) rfl rfl rfl rfl ?_
                      refine s_tr0 (t_storeL (enc := Value.string) (v := cmP a b zi zj) (xs := zs) (jk := []) 0 rfl rfl rfl rfl rfl size_9 (by omega)) rfl rfl rfl (fun _ _ => ?_)
                      refine s_nil ?_
                      refine g_inb ?_
                      refine g_then ?_
                      refine g_region ?_
                      refine s_y (y_move rfl) rfl rfl rfl rfl ?_
                      refine s_y (y_sub rfl rfl (by omega) (by omega)) rfl rfl rfl rfl ?_
                      refine s_y (y_assign rfl) rfl rfl rfl rfl ?_
                      refine s_nil ?_
                      refine g_then ?_
                      exact fun act W ha hw => ⟨v_ + 1, by omega, by omega, (zj - 1), (zs.set ((zj : Int).toNat) (cmP a b zi zj)), W, (by omega), (by simp; omega), (by intro y h1 h2; rw [rdS_setJ (by omega) (by omega) (by omega)]; by_cases c : zj = y; rw [if_pos c, c]; rw [if_neg c]; exact hzs y (by omega) h2), (by intro h_; omega), (by intro h_; omega), ha.weak (sub_get ⟨rfl, rfl, rfl, rfl, rfl, rfl, rfl, rfl, rfl, rfl, rfl, rfl, rfl, rfl, rfl, rfl, rfl, rfl, trivial⟩), hw.toHq.lookSub (List.Sublist.refl _)⟩
                    · (try simp at cq14)
                      refine g_skip ?_
                      refine g_then ?_
                      have hp2 : pickC (cmP a b zi (zj + 1)) ((cutB a zi) ++ (cmP a b (zi + 1) (zj + 1))) = (cmP a b zi (zj + 1)) := by first | exact pickC_gt (by omega) | exact pickC_lt (by omega) | exact pickC_et (by omega) (by assumption) | exact pickC_ef (by omega) (by assumption)
                      refine g_region ?_
                      refine s_y (y_move rfl) rfl rfl rfl rfl ?_
                      refine s_y (y_move rfl) rfl rfl rfl rfl ?_
                      refine s_y (y_idxb1 rfl rfl Try.underlying116 size_45 (by omega) (by omega)) rfl rfl rfl rfl ?_
                      refine s_y (y_ldL (enc := encV) (xs := (List.replicate (a.size + 1 - (u + 1)) (Value.slice none 0 0) ++ ((Value.slice (some ⟨bw, 0, none⟩) (b.size + 1) (b.size + 1)) :: vs))) (jk := []) 1 rfl rfl agg_45 (rdVal_at (by omega) (by simp; omega))) rfl rfl rfl rfl ?_
                      rw [show rdVal (List.replicate (a.size + 1 - (u + 1)) (Value.slice none 0 0) ++ ((Value.slice (some ⟨bw, 0, none⟩) (b.size + 1) (b.size + 1)) :: vs)) zi = (Value.slice (some ⟨bw, 0, none⟩) (b.size + 1) (b.size + 1)) from by rw [show zi = ((a.size + 1 - (u + 1) : Nat) : Int) by omega]; exact rd_rowA]
                      refine s_y (y_move rfl) rfl rfl rfl rfl ?_
                      refine s_y (y_move rfl) rfl rfl rfl rfl ?_
                      rw [show cmP a b zi (zj + 1) = cmP a b zi zj from by rw [cmP_rec (a := a) (b := b) (i := zi) (j := zj) (by omega) (by omega) (by omega) (by omega)]; first | rw [if_pos (by assumption), hp1, hp2] | rw [if_neg (by assumption), hp1]]
                      refine s_y (y_idxb1 rfl rfl Try.underlying45 size_9 (by omega) (by omega)) rfl rfl rfl rfl ?_
                      refine s_tr0 (t_storeL (enc := Value.string) (v := cmP a b zi zj) (xs := zs) (jk := []) 0 rfl rfl rfl rfl rfl size_9 (by omega)) rfl rfl rfl (fun _ _ => ?_)
                      refine s_nil ?_
                      refine g_inb ?_
                      refine g_then ?_
                      refine g_region ?_
                      refine s_y (y_move rfl) rfl rfl rfl rfl ?_
                      refine s_y (y_sub rfl rfl (by omega) (by omega)) rfl rfl rfl rfl ?_
                      refine s_y (y_assign rfl) rfl rfl rfl rfl ?_
                      refine s_nil ?_
                      refine g_then ?_
                      exact fun act W ha hw => ⟨v_ + 1, by omega, by omega, (zj - 1), (zs.set ((zj : Int).toNat) (cmP a b zi zj)), W, (by omega), (by simp; omega), (by intro y h1 h2; rw [rdS_setJ (by omega) (by omega) (by omega)]; by_cases c : zj = y; rw [if_pos c, c]; rw [if_neg c]; exact hzs y (by omega) h2), (by intro h_; omega), (by intro h_; omega), ha.weak (sub_get ⟨rfl, rfl, rfl, rfl, rfl, rfl, rfl, rfl, rfl, rfl, rfl, rfl, rfl, rfl, rfl, rfl, rfl, rfl, trivial⟩), hw.toHq.lookSub (List.Sublist.refl _)⟩
                  · (try simp at cq13)
                    refine s_no rfl rfl rfl ?_
                    refine s_no rfl rfl rfl ?_
                    refine s_no rfl rfl rfl ?_
                    refine s_y (y_pick_f rfl rfl) rfl rfl rfl rfl ?_
                    refine s_y (y_pick_f rfl rfl) rfl rfl rfl rfl ?_
                    refine s_nil ?_
                    refine g_then ?_
                    refine g_cond_f rfl ?_
                    refine g_skip ?_
                    refine g_then ?_
                    have hp2 : pickC (cmP a b zi (zj + 1)) ((cutB a zi) ++ (cmP a b (zi + 1) (zj + 1))) = (cmP a b zi (zj + 1)) := by first | exact pickC_gt (by omega) | exact pickC_lt (by omega) | exact pickC_et (by omega) (by assumption) | exact pickC_ef (by omega) (by assumption)
                    refine g_region ?_
                    refine s_y (y_move rfl) rfl rfl rfl rfl ?_
                    refine s_y (y_move rfl) rfl rfl rfl rfl ?_
                    refine s_y (y_idxb1 rfl rfl Try.underlying116 size_45 (by omega) (by omega)) rfl rfl rfl rfl ?_
                    refine s_y (y_ldL (enc := encV) (xs := (List.replicate (a.size + 1 - (u + 1)) (Value.slice none 0 0) ++ ((Value.slice (some ⟨bw, 0, none⟩) (b.size + 1) (b.size + 1)) :: vs))) (jk := []) 1 rfl rfl agg_45 (rdVal_at (by omega) (by simp; omega))) rfl rfl rfl rfl ?_
                    rw [show rdVal (List.replicate (a.size + 1 - (u + 1)) (Value.slice none 0 0) ++ ((Value.slice (some ⟨bw, 0, none⟩) (b.size + 1) (b.size + 1)) :: vs)) zi = (Value.slice (some ⟨bw, 0, none⟩) (b.size + 1) (b.size + 1)) from by rw [show zi = ((a.size + 1 - (u + 1) : Nat) : Int) by omega]; exact rd_rowA]
                    refine s_y (y_move rfl) rfl rfl rfl rfl ?_
                    refine s_y (y_move rfl) rfl rfl rfl rfl ?_
                    rw [show cmP a b zi (zj + 1) = cmP a b zi zj from by rw [cmP_rec (a := a) (b := b) (i := zi) (j := zj) (by omega) (by omega) (by omega) (by omega)]; first | rw [if_pos (by assumption), hp1, hp2] | rw [if_neg (by assumption), hp1]]
                    refine s_y (y_idxb1 rfl rfl Try.underlying45 size_9 (by omega) (by omega)) rfl rfl rfl rfl ?_
                    refine s_tr0 (t_storeL (enc := Value.string) (v := cmP a b zi zj) (xs := zs) (jk := []) 0 rfl rfl rfl rfl rfl size_9 (by omega)) rfl rfl rfl (fun _ _ => ?_)
                    refine s_nil ?_
                    refine g_inb ?_
                    refine g_then ?_
                    refine g_region ?_
                    refine s_y (y_move rfl) rfl rfl rfl rfl ?_
                    refine s_y (y_sub rfl rfl (by omega) (by omega)) rfl rfl rfl rfl ?_
                    refine s_y (y_assign rfl) rfl rfl rfl rfl ?_
                    refine s_nil ?_
                    refine g_then ?_
                    exact fun act W ha hw => ⟨v_ + 1, by omega, by omega, (zj - 1), (zs.set ((zj : Int).toNat) (cmP a b zi zj)), W, (by omega), (by simp; omega), (by intro y h1 h2; rw [rdS_setJ (by omega) (by omega) (by omega)]; by_cases c : zj = y; rw [if_pos c, c]; rw [if_neg c]; exact hzs y (by omega) h2), (by intro h_; omega), (by intro h_; omega), ha.weak (sub_get ⟨rfl, rfl, rfl, rfl, rfl, rfl, rfl, rfl, rfl, rfl, rfl, rfl, rfl, rfl, rfl, rfl, rfl, rfl, trivial⟩), hw.toHq.lookSub (List.Sublist.refl _)⟩
              · (try simp at cq11)
                refine g_skip ?_
                refine g_then ?_
                refine g_region ?_
                refine s_y (y_move rfl) rfl rfl rfl rfl ?_
                refine s_y (y_move rfl) rfl rfl rfl rfl ?_
                refine s_y (y_idxb1 rfl rfl Try.underlying116 size_45 (by omega) (by omega)) rfl rfl rfl rfl ?_
                refine s_y (y_ldL (enc := encV) (xs := (List.replicate (a.size + 1 - (u + 1)) (Value.slice none 0 0) ++ ((Value.slice (some ⟨bw, 0, none⟩) (b.size + 1) (b.size + 1)) :: vs))) (jk := []) 1 rfl rfl agg_45 (rdVal_at (by omega) (by simp; omega))) rfl rfl rfl rfl ?_
                rw [show rdVal (List.replicate (a.size + 1 - (u + 1)) (Value.slice none 0 0) ++ ((Value.slice (some ⟨bw, 0, none⟩) (b.size + 1) (b.size + 1)) :: vs)) zi = (Value.slice (some ⟨bw, 0, none⟩) (b.size + 1) (b.size + 1)) from by rw [show zi = ((a.size + 1 - (u + 1) : Nat) : Int) by omega]; exact rd_rowA]
                refine s_y (y_move rfl) rfl rfl rfl rfl ?_
                refine s_y (y_move rfl) rfl rfl rfl rfl ?_
                rw [show cmP a b zi (zj + 1) = cmP a b zi zj from by rw [cmP_rec (a := a) (b := b) (i := zi) (j := zj) (by omega) (by omega) (by omega) (by omega)]; first | rw [if_pos (by assumption), hp1, hp2] | rw [if_neg (by assumption), hp1]]
                refine s_y (y_idxb1 rfl rfl Try.underlying45 size_9 (by omega) (by omega)) rfl rfl rfl rfl ?_
                refine s_tr0 (t_storeL (enc := Value.string) (v := cmP a b zi zj) (xs := zs) (jk := []) 0 rfl rfl rfl rfl rfl size_9 (by omega)) rfl rfl rfl (fun _ _ => ?_)
                refine s_nil ?_
                refine g_inb ?_
                refine g_then ?_
                refine g_region ?_
                refine s_y (y_move rfl) rfl rfl rfl rfl ?_
                refine s_y (y_sub rfl rfl (by omega) (by omega)) rfl rfl rfl rfl ?_
                refine s_y (y_assign rfl) rfl rfl rfl rfl ?_
                refine s_nil ?_
                refine g_then ?_
                exact fun act W ha hw => ⟨v_ + 1, by omega, by omega, (zj - 1), (zs.set ((zj : Int).toNat) (cmP a b zi zj)), W, (by omega), (by simp; omega), (by intro y h1 h2; rw [rdS_setJ (by omega) (by omega) (by omega)]; by_cases c : zj = y; rw [if_pos c, c]; rw [if_neg c]; exact hzs y (by omega) h2), (by intro h_; omega), (by intro h_; omega), ha.weak (sub_get ⟨rfl, rfl, rfl, rfl, rfl, rfl, rfl, rfl, rfl, rfl, rfl, rfl, rfl, rfl, rfl, rfl, rfl, rfl, trivial⟩), hw.toHq.lookSub (List.Sublist.refl _)⟩
            · (try simp at cq10)
              refine g_skip ?_
              refine g_then ?_
              refine g_seq ?_
              refine g_seq ?_
              have hp1 : pickC (cmP a b (zi + 1) zj) (cmP a b zi (zj + 1)) = (cmP a b (zi + 1) (zj)) := by first | exact pickC_gt (by omega) | exact pickC_lt (by omega) | exact pickC_et (by omega) (by assumption) | exact pickC_ef (by omega) (by assumption)
              refine g_draw 7 (by kernel_rfl) ?_
              refine j_p (i := 0) rfl (y_move rfl) (by kernel_rfl) (by kernel_rfl) (by kernel_rfl) rfl rfl rfl rfl rfl (.inr (fun _ h => h)) ?_
              refine j_p (i := 1) rfl (y_move rfl) (by kernel_rfl) (by kernel_rfl) (by kernel_rfl) rfl rfl rfl rfl rfl (.inr (fun _ h => h)) ?_
              refine j_p (i := 2) rfl (y_idxs rfl rfl Try.underlying9 (by omega) (by omega)) (by kernel_rfl) (by kernel_rfl) (by kernel_rfl) rfl rfl rfl rfl rfl (.inr (fun _ h => h)) ?_
              refine j_p (i := 3) rfl (y_move rfl) (by kernel_rfl) (by kernel_rfl) (by kernel_rfl) rfl rfl rfl rfl rfl (.inr (fun _ h => h)) ?_
              refine j_p (i := 4) rfl (y_move rfl) (by kernel_rfl) (by kernel_rfl) (by kernel_rfl) rfl rfl rfl rfl rfl (.inr (fun _ h => h)) ?_
              refine j_p (i := 5) rfl (y_idxs rfl rfl Try.underlying9 (by omega) (by omega)) (by kernel_rfl) (by kernel_rfl) (by kernel_rfl) rfl rfl rfl rfl rfl (.inr (fun _ h => h)) ?_
              refine j_p (i := 6) rfl (y_eql rfl rfl) (by kernel_rfl) (by kernel_rfl) (by kernel_rfl) rfl rfl rfl rfl rfl (.inr (fun _ h => h)) ?_
              refine j_nil (by kernel_rfl) ?_
              refine g_then ?_
              refine g_cond rfl (fun cq15 => ?_) (fun cq15 => ?_)
              · (try simp at cq15)
                refine g_seq ?_
                refine g_draw 16 (by kernel_rfl) ?_
                refine j_p (i := 0) rfl (y_move rfl) (by kernel_rfl) (by kernel_rfl) (by kernel_rfl) rfl rfl rfl rfl rfl (.inr (fun _ h => h)) ?_
                refine j_p (i := 1) rfl (y_move rfl) (by kernel_rfl) (by kernel_rfl) (by kernel_rfl) rfl rfl rfl rfl rfl (.inr (fun _ h => h)) ?_
                refine j_p (i := 2) rfl (y_move rfl) (by kernel_rfl) (by kernel_rfl) (by kernel_rfl) rfl rfl rfl rfl rfl (.inr (fun _ h => h)) ?_
                refine j_p (i := 3) rfl (y_add rfl rfl (by omega) (by omega)) (by kernel_rfl) (by kernel_rfl) (by kernel_rfl) rfl rfl rfl rfl rfl (.inr (fun _ h => h)) ?_
                refine j_p (i := 4) rfl (y_strlh rfl rfl rfl Try.underlying9 (by omega) (by omega) (by omega)) (by kernel_rfl) (by kernel_rfl) (by kernel_rfl) rfl rfl rfl rfl rfl (.inr (fun _ h => h)) ?_
                rw [show a.extract (zi : Int).toNat (zi + 1 : Int).toNat = cutB a zi from rfl]
                refine j_p (i := 5) rfl (y_move rfl) (by kernel_rfl) (by kernel_rfl) (by kernel_rfl) rfl rfl rfl rfl rfl (.inr (fun _ h => h)) ?_
                refine j_p (i := 6) rfl (y_move rfl) (by kernel_rfl) (by kernel_rfl) (by kernel_rfl) rfl rfl rfl rfl rfl (.inr (fun _ h => h)) ?_
                refine j_p (i := 7) rfl (y_add rfl rfl (by omega) (by omega)) (by kernel_rfl) (by kernel_rfl) (by kernel_rfl) rfl rfl rfl rfl rfl (.inr (fun _ h => h)) ?_
                refine j_p (i := 8) rfl (y_idxb1 rfl rfl Try.underlying116 size_45 (by omega) (by omega)) (by kernel_rfl) (by kernel_rfl) (by kernel_rfl) rfl rfl rfl rfl rfl (.inr (fun _ h => h)) ?_
                refine j_l (i := 9) rfl (y_ldL (enc := encV) (xs := (List.replicate (a.size + 1 - (u + 1)) (Value.slice none 0 0) ++ ((Value.slice (some ⟨bw, 0, none⟩) (b.size + 1) (b.size + 1)) :: vs))) (jk := []) 1 rfl rfl agg_45 (rdVal_at (by omega) (by simp; omega))) (by kernel_rfl) (by kernel_rfl) (by kernel_rfl) (by kernel_rfl) rfl rfl rfl rfl rfl (.inr (fun _ h => h)) ?_
                rw [show rdVal (List.replicate (a.size + 1 - (u + 1)) (Value.slice none 0 0) ++ ((Value.slice (some ⟨bw, 0, none⟩) (b.size + 1) (b.size + 1)) :: vs)) (zi + 1) = rdVal vs ((0 : Nat) : Int) from by rw [show zi + 1 = ((a.size + 1 - (u + 1) : Nat) : Int) + 1 + ((0 : Nat) : Int) by omega]; exact rd_rowB]
                have hr0l := rowW_len (cmP a b) b.size (zi + 1)
                have hr0 : OwnV Value.string (rdVal vs ((0 : Nat) : Int)) (rowW (cmP a b) b.size (zi + 1)) Ms := by have h_ := hrows 0 (by omega); rwa [show zi + 1 + ((0 : Nat) : Int) = zi + 1 by omega] at h_
                refine j_p (i := 10) rfl (y_move rfl) (by kernel_rfl) (by kernel_rfl) (by kernel_rfl) rfl rfl rfl rfl rfl (.inr (fun _ h => h)) ?_
                refine j_p (i := 11) rfl (y_add rfl rfl (by omega) (by omega)) (by kernel_rfl) (by kernel_rfl) (by kernel_rfl) rfl rfl rfl rfl rfl (.inr (fun _ h => h)) ?_
                refine j_p (i := 12) rfl (y_idxO (enc := Value.string) rfl rfl hr0 hEs Try.underlying45 size_9 (by omega) (by omega)) (by kernel_rfl) (by kernel_rfl) (by kernel_rfl) rfl rfl rfl rfl rfl (.inr (fun _ h => h)) ?_
                refine j_l (i := 13) rfl (y_ldV (enc := Value.string) (xs := (rowW (cmP a b) b.size (zi + 1))) (fun w h => (hr0.rd fun p hp => h.at_ p (List.mem_cons_of_mem _ (List.mem_cons_of_mem _ (mem_al Ms hp)))).rdl) rfl agg_9 (rdS_at (by omega) (by omega))) (by kernel_rfl) (by kernel_rfl) (by kernel_rfl) (by kernel_rfl) rfl rfl rfl rfl rfl (.inr (fun _ h => h)) ?_
                rw [show rdS (rowW (cmP a b) b.size (zi + 1)) (zj + 1) = cmP a b (zi + 1) (zj + 1) from rowW_at (by omega) (by omega)]
                refine j_p (i := 14) rfl (y_sadd rfl rfl (by omega)) (by kernel_rfl) (by kernel_rfl) (by kernel_rfl) rfl rfl rfl rfl rfl (.inr (fun _ h => h)) ?_
                refine j_p (i := 15) rfl (y_assign rfl) (by kernel_rfl) (by kernel_rfl) (by kernel_rfl) rfl rfl rfl rfl rfl (.inr (fun _ h => h)) ?_
                refine j_nil (by kernel_rfl) ?_
                refine g_then ?_
                refine g_seq ?_
                have hz3 := app_size (cutB a zi) (cmP a b (zi + 1) (zj + 1))
                refine g_region ?_
                refine s_y (y_move rfl) rfl rfl rfl rfl ?_
                refine s_y (y_lens rfl Try.underlying9) rfl rfl rfl rfl ?_
                refine s_y (y_move rfl) rfl rfl rfl rfl ?_
                refine s_y (y_lens rfl Try.underlying9) rfl rfl rfl rfl ?_
                refine s_y (y_gtr rfl rfl) rfl rfl rfl rfl ?_
                refine s_y (y_move rfl) rfl rfl rfl rfl ?_
                refine g_bool 102 rfl (fun cq16 => ?_) (fun cq16 => ?_)
                · (try simp at cq16)
                  refine s_no rfl rfl rfl ?_
                  refine s_no rfl rfl rfl ?_
                  refine s_no rfl rfl rfl ?_
                  refine s_no rfl rfl rfl ?_
                  refine s_no rfl rfl rfl ?_
                  refine s_no rfl rfl rfl ?_
                  refine s_noU rfl rfl rfl rfl rfl ?_
                  refine s_noU rfl rfl rfl rfl rfl ?_
                  refine s_noU rfl rfl rfl rfl rfl ?_
                  refine s_no rfl rfl rfl ?_
                  refine s_y (y_pick_t rfl rfl) rfl rfl rfl rfl ?_
                  refine s_nil ?_
                  refine g_then ?_
                  refine g_cond_t rfl ?_
                  refine g_region ?_
                  refine s_y (y_move rfl) rfl rfl rfl rfl ?_
                  refine s_y (y_assign rfl) rfl rfl rfl rfl ?_
                  refine s_nil ?_
                  refine g_then ?_
                  have hp2 : pickC (cmP a b (zi + 1) (zj)) ((cutB a zi) ++ (cmP a b (zi + 1) (zj + 1))) = ((cutB a zi) ++ (cmP a b (zi + 1) (zj + 1))) := by first | exact pickC_gt (by omega) | exact pickC_lt (by omega) | exact pickC_et (by omega) (by assumption) | exact pickC_ef (by omega) (by assumption)
                  refine g_region ?_
                  refine s_y (y_move rfl) rfl rfl rfl rfl ?_
                  refine s_y (y_move rfl) rfl rfl rfl rfl ?_
                  refine s_y (y_idxb1 rfl rfl Try.underlying116 size_45 (by omega) (by omega)) rfl rfl rfl rfl ?_
                  refine s_y (y_ldL (enc := encV) (xs := (List.replicate (a.size + 1 - (u + 1)) (Value.slice none 0 0) ++ ((Value.slice (some ⟨bw, 0, none⟩) (b.size + 1) (b.size + 1)) :: vs))) (jk := []) 1 rfl rfl agg_45 (rdVal_at (by omega) (by simp; omega))) rfl rfl rfl rfl ?_
                  rw [show rdVal (List.replicate (a.size + 1 - (u + 1)) (Value.slice none 0 0) ++ ((Value.slice (some ⟨bw, 0, none⟩) (b.size + 1) (b.size + 1)) :: vs)) zi = (Value.slice (some ⟨bw, 0, none⟩) (b.size + 1) (b.size + 1)) from by rw [show zi = ((a.size + 1 - (u + 1) : Nat) : Int) by omega]; exact rd_rowA]
                  refine s_y (y_move rfl) rfl rfl rfl rfl ?_
                  refine s_y (y_move rfl) rfl rfl rfl rfl ?_
                  rw [show (cutB a zi) ++ (cmP a b (zi + 1) (zj + 1)) = cmP a b zi zj from by rw [cmP_rec (a := a) (b := b) (i := zi) (j := zj) (by omega) (by omega) (by omega) (by omega)]; first | rw [if_pos (by assumption), hp1, hp2] | rw [if_neg (by assumption), hp1]]
                  refine s_y (y_idxb1 rfl rfl Try.underlying45 size_9 (by omega) (by omega)) rfl rfl rfl rfl ?_
                  refine s_tr0 (t_storeL (enc := Value.string) (v := cmP a b zi zj) (xs := zs) (jk := []) 0 rfl rfl rfl rfl rfl size_9 (by omega)) rfl rfl rfl (fun _ _ => ?_)
                  refine s_nil ?_
                  refine g_inb ?_
                  refine g_then ?_
                  refine g_region ?_
                  refine s_y (y_move rfl) rfl rfl rfl rfl ?_
                  refine s_y (y_sub rfl rfl (by omega) (by omega)) rfl rfl rfl rfl ?_
                  refine s_y (y_assign rfl) rfl rfl rfl rfl ?_
                  refine s_nil ?_
                  refine g_then ?_
                  exact fun act W ha hw => ⟨v_ + 1, by omega, by omega, (zj - 1), (zs.set ((zj : Int).toNat) (cmP a b zi zj)), W, (by omega), (by simp; omega), (by intro y h1 h2; rw [rdS_setJ (by omega) (by omega) (by omega)]; by_cases c : zj = y; rw [if_pos c, c]; rw [if_neg c]; exact hzs y (by omega) h2), (by intro h_; omega), (by intro h_; omega), ha.weak (sub_get ⟨rfl, rfl, rfl, rfl, rfl, rfl, rfl, rfl, rfl, rfl, rfl, rfl, rfl, rfl, rfl, rfl, rfl, rfl, trivial⟩), hw.toHq.lookSub (List.Sublist.refl _)⟩
                · (try simp at cq16)
                  refine s_y (y_move rfl) rfl rfl rfl rfl ?_
                  refine s_y (y_lens rfl Try.underlying9) rfl rfl rfl rfl ?_
                  refine s_y (y_move rfl) rfl rfl rfl rfl ?_
                  refine s_y (y_lens rfl Try.underlying9) rfl rfl rfl rfl ?_
                  refine s_y (y_eql rfl rfl) rfl rfl rfl rfl ?_
                  refine s_y (y_move rfl) rfl rfl rfl rfl ?_
                  refine g_bool 108 rfl (fun cq17 => ?_) (fun cq17 => ?_)
                  · (try simp at cq17)
                    refine s_y (y_move rfl) rfl rfl rfl rfl ?_
                    refine s_y (y_move rfl) rfl rfl rfl rfl ?_
                    refine s_y (y_slss rfl rfl) rfl rfl rfl rfl ?_
                    refine s_y (y_pick_t rfl rfl) rfl rfl rfl rfl ?_
                    refine s_y (y_pick_f rfl rfl) rfl rfl rfl rfl ?_
                    refine s_nil ?_
                    refine g_then ?_
                    refine g_cond rfl (fun cq18 => ?_) (fun cq18 => ?_)
                    · (try simp at cq18)
                      refine g_region ?_
                      refine s_y (y_move rfl) rfl rfl rfl rfl ?_
                      refine s_y (y_assign rfl) rfl rfl rfl rfl ?_
                      refine s_nil ?_
                      refine g_then ?_
                      have hp2 : pickC (cmP a b (zi + 1) (zj)) ((cutB a zi) ++ (cmP a b (zi + 1) (zj + 1))) = ((cutB a zi) ++ (cmP a b (zi + 1) (zj + 1))) := by first | exact pickC_gt (by omega) | exact pickC_lt (by omega) | exact pickC_et (by omega) (by assumption) | exact pickC_ef (by omega) (by assumption)
                      refine g_region ?_
                      refine s_y (y_move rfl) rfl rfl rfl rfl ?_
                      refine s_y (y_move rfl) rfl rfl rfl rfl ?_
                      refine s_y (y_idxb1 rfl rfl Try.underlying116 size_45 (by omega) (by omega)) rfl rfl rfl rfl ?_
                      refine s_y (y_ldL (enc := encV) (xs := (List.replicate (a.size + 1 - (u + 1)) (Value.slice none 0 0) ++ ((Value.slice (some ⟨bw, 0, none⟩) (b.size + 1) (b.size + 1)) :: vs))) (jk := []) 1 rfl rfl agg_45 (rdVal_at (by omega) (by simp; omega))) rfl rfl rfl rfl ?_
                      rw [show rdVal (List.replicate (a.size + 1 - (u + 1)) (Value.slice none 0 0) ++ ((Value.slice (some ⟨bw, 0, none⟩) (b.size + 1) (b.size + 1)) :: vs)) zi = (Value.slice (some ⟨bw, 0, none⟩) (b.size + 1) (b.size + 1)) from by rw [show zi = ((a.size + 1 - (u + 1) : Nat) : Int) by omega]; exact rd_rowA]
                      refine s_y (y_move rfl) rfl rfl rfl rfl ?_
                      refine s_y (y_move rfl) rfl rfl rfl rfl ?_
                      rw [show (cutB a zi) ++ (cmP a b (zi + 1) (zj + 1)) = cmP a b zi zj from by rw [cmP_rec (a := a) (b := b) (i := zi) (j := zj) (by omega) (by omega) (by omega) (by omega)]; first | rw [if_pos (by assumption), hp1, hp2] | rw [if_neg (by assumption), hp1]]
                      refine s_y (y_idxb1 rfl rfl Try.underlying45 size_9 (by omega) (by omega)) rfl rfl rfl rfl ?_
                      refine s_tr0 (t_storeL (enc := Value.string) (v := cmP a b zi zj) (xs := zs) (jk := []) 0 rfl rfl rfl rfl rfl size_9 (by omega)) rfl rfl rfl (fun _ _ => ?_)
                      refine s_nil ?_
                      refine g_inb ?_
                      refine g_then ?_
                      refine g_region ?_
                      refine s_y (y_move rfl) rfl rfl rfl rfl ?_
                      refine s_y (y_sub rfl rfl (by omega) (by omega)) rfl rfl rfl rfl ?_
                      refine s_y (y_assign rfl) rfl rfl rfl rfl ?_
                      refine s_nil ?_
                      refine g_then ?_
                      exact fun act W ha hw => ⟨v_ + 1, by omega, by omega, (zj - 1), (zs.set ((zj : Int).toNat) (cmP a b zi zj)), W, (by omega), (by simp; omega), (by intro y h1 h2; rw [rdS_setJ (by omega) (by omega) (by omega)]; by_cases c : zj = y; rw [if_pos c, c]; rw [if_neg c]; exact hzs y (by omega) h2), (by intro h_; omega), (by intro h_; omega), ha.weak (sub_get ⟨rfl, rfl, rfl, rfl, rfl, rfl, rfl, rfl, rfl, rfl, rfl, rfl, rfl, rfl, rfl, rfl, rfl, rfl, trivial⟩), hw.toHq.lookSub (List.Sublist.refl _)⟩
                    · (try simp at cq18)
                      refine g_skip ?_
                      refine g_then ?_
                      have hp2 : pickC (cmP a b (zi + 1) (zj)) ((cutB a zi) ++ (cmP a b (zi + 1) (zj + 1))) = (cmP a b (zi + 1) (zj)) := by first | exact pickC_gt (by omega) | exact pickC_lt (by omega) | exact pickC_et (by omega) (by assumption) | exact pickC_ef (by omega) (by assumption)
                      refine g_region ?_
                      refine s_y (y_move rfl) rfl rfl rfl rfl ?_
                      refine s_y (y_move rfl) rfl rfl rfl rfl ?_
                      refine s_y (y_idxb1 rfl rfl Try.underlying116 size_45 (by omega) (by omega)) rfl rfl rfl rfl ?_
                      refine s_y (y_ldL (enc := encV) (xs := (List.replicate (a.size + 1 - (u + 1)) (Value.slice none 0 0) ++ ((Value.slice (some ⟨bw, 0, none⟩) (b.size + 1) (b.size + 1)) :: vs))) (jk := []) 1 rfl rfl agg_45 (rdVal_at (by omega) (by simp; omega))) rfl rfl rfl rfl ?_
                      rw [show rdVal (List.replicate (a.size + 1 - (u + 1)) (Value.slice none 0 0) ++ ((Value.slice (some ⟨bw, 0, none⟩) (b.size + 1) (b.size + 1)) :: vs)) zi = (Value.slice (some ⟨bw, 0, none⟩) (b.size + 1) (b.size + 1)) from by rw [show zi = ((a.size + 1 - (u + 1) : Nat) : Int) by omega]; exact rd_rowA]
                      refine s_y (y_move rfl) rfl rfl rfl rfl ?_
                      refine s_y (y_move rfl) rfl rfl rfl rfl ?_
                      rw [show cmP a b (zi + 1) (zj) = cmP a b zi zj from by rw [cmP_rec (a := a) (b := b) (i := zi) (j := zj) (by omega) (by omega) (by omega) (by omega)]; first | rw [if_pos (by assumption), hp1, hp2] | rw [if_neg (by assumption), hp1]]
                      refine s_y (y_idxb1 rfl rfl Try.underlying45 size_9 (by omega) (by omega)) rfl rfl rfl rfl ?_
                      refine s_tr0 (t_storeL (enc := Value.string) (v := cmP a b zi zj) (xs := zs) (jk := []) 0 rfl rfl rfl rfl rfl size_9 (by omega)) rfl rfl rfl (fun _ _ => ?_)
                      refine s_nil ?_
                      refine g_inb ?_
                      refine g_then ?_
                      refine g_region ?_
                      refine s_y (y_move rfl) rfl rfl rfl rfl ?_
                      refine s_y (y_sub rfl rfl (by omega) (by omega)) rfl rfl rfl rfl ?_
                      refine s_y (y_assign rfl) rfl rfl rfl rfl ?_
                      refine s_nil ?_
                      refine g_then ?_
                      exact fun act W ha hw => ⟨v_ + 1, by omega, by omega, (zj - 1), (zs.set ((zj : Int).toNat) (cmP a b zi zj)), W, (by omega), (by simp; omega), (by intro y h1 h2; rw [rdS_setJ (by omega) (by omega) (by omega)]; by_cases c : zj = y; rw [if_pos c, c]; rw [if_neg c]; exact hzs y (by omega) h2), (by intro h_; omega), (by intro h_; omega), ha.weak (sub_get ⟨rfl, rfl, rfl, rfl, rfl, rfl, rfl, rfl, rfl, rfl, rfl, rfl, rfl, rfl, rfl, rfl, rfl, rfl, trivial⟩), hw.toHq.lookSub (List.Sublist.refl _)⟩
                  · (try simp at cq17)
                    refine s_no rfl rfl rfl ?_
                    refine s_no rfl rfl rfl ?_
                    refine s_no rfl rfl rfl ?_
                    refine s_y (y_pick_f rfl rfl) rfl rfl rfl rfl ?_
                    refine s_y (y_pick_f rfl rfl) rfl rfl rfl rfl ?_
                    refine s_nil ?_
                    refine g_then ?_
                    refine g_cond_f rfl ?_
                    refine g_skip ?_
                    refine g_then ?_
                    have hp2 : pickC (cmP a b (zi + 1) (zj)) ((cutB a zi) ++ (cmP a b (zi + 1) (zj + 1))) = (cmP a b (zi + 1) (zj)) := by first | exact pickC_gt (by omega) | exact pickC_lt (by omega) | exact pickC_et (by omega) (by assumption) | exact pickC_ef (by omega) (by assumption)
                    refine g_region ?_
                    refine s_y (y_move rfl) rfl rfl rfl rfl ?_
                    refine s_y (y_move rfl) rfl rfl rfl rfl ?_
                    refine s_y (y_idxb1 rfl rfl Try.underlying116 size_45 (by omega) (by omega)) rfl rfl rfl rfl ?_
                    refine s_y (y_ldL (enc := encV) (xs := (List.replicate (a.size + 1 - (u + 1)) (Value.slice none 0 0) ++ ((Value.slice (some ⟨bw, 0, none⟩) (b.size + 1) (b.size + 1)) :: vs))) (jk := []) 1 rfl rfl agg_45 (rdVal_at (by omega) (by simp; omega))) rfl rfl rfl rfl ?_
                    rw [show rdVal (List.replicate (a.size + 1 - (u + 1)) (Value.slice none 0 0) ++ ((Value.slice (some ⟨bw, 0, none⟩) (b.size + 1) (b.size + 1)) :: vs)) zi = (Value.slice (some ⟨bw, 0, none⟩) (b.size + 1) (b.size + 1)) from by rw [show zi = ((a.size + 1 - (u + 1) : Nat) : Int) by omega]; exact rd_rowA]
                    refine s_y (y_move rfl) rfl rfl rfl rfl ?_
                    refine s_y (y_move rfl) rfl rfl rfl rfl ?_
                    rw [show cmP a b (zi + 1) (zj) = cmP a b zi zj from by rw [cmP_rec (a := a) (b := b) (i := zi) (j := zj) (by omega) (by omega) (by omega) (by omega)]; first | rw [if_pos (by assumption), hp1, hp2] | rw [if_neg (by assumption), hp1]]
                    refine s_y (y_idxb1 rfl rfl Try.underlying45 size_9 (by omega) (by omega)) rfl rfl rfl rfl ?_
                    refine s_tr0 (t_storeL (enc := Value.string) (v := cmP a b zi zj) (xs := zs) (jk := []) 0 rfl rfl rfl rfl rfl size_9 (by omega)) rfl rfl rfl (fun _ _ => ?_)
                    refine s_nil ?_
                    refine g_inb ?_
                    refine g_then ?_
                    refine g_region ?_
                    refine s_y (y_move rfl) rfl rfl rfl rfl ?_
                    refine s_y (y_sub rfl rfl (by omega) (by omega)) rfl rfl rfl rfl ?_
                    refine s_y (y_assign rfl) rfl rfl rfl rfl ?_
                    refine s_nil ?_
                    refine g_then ?_
                    exact fun act W ha hw => ⟨v_ + 1, by omega, by omega, (zj - 1), (zs.set ((zj : Int).toNat) (cmP a b zi zj)), W, (by omega), (by simp; omega), (by intro y h1 h2; rw [rdS_setJ (by omega) (by omega) (by omega)]; by_cases c : zj = y; rw [if_pos c, c]; rw [if_neg c]; exact hzs y (by omega) h2), (by intro h_; omega), (by intro h_; omega), ha.weak (sub_get ⟨rfl, rfl, rfl, rfl, rfl, rfl, rfl, rfl, rfl, rfl, rfl, rfl, rfl, rfl, rfl, rfl, rfl, rfl, trivial⟩), hw.toHq.lookSub (List.Sublist.refl _)⟩
              · (try simp at cq15)
                refine g_skip ?_
                refine g_then ?_
                refine g_region ?_
                refine s_y (y_move rfl) rfl rfl rfl rfl ?_
                refine s_y (y_move rfl) rfl rfl rfl rfl ?_
                refine s_y (y_idxb1 rfl rfl Try.underlying116 size_45 (by omega) (by omega)) rfl rfl rfl rfl ?_
                refine s_y (y_ldL (enc := encV) (xs := (List.replicate (a.size + 1 - (u + 1)) (Value.slice none 0 0) ++ ((Value.slice (some ⟨bw, 0, none⟩) (b.size + 1) (b.size + 1)) :: vs))) (jk := []) 1 rfl rfl agg_45 (rdVal_at (by omega) (by simp; omega))) rfl rfl rfl rfl ?_
                rw [show rdVal (List.replicate (a.size + 1 - (u + 1)) (Value.slice none 0 0) ++ ((Value.slice (some ⟨bw, 0, none⟩) (b.size + 1) (b.size + 1)) :: vs)) zi = (Value.slice (some ⟨bw, 0, none⟩) (b.size + 1) (b.size + 1)) from by rw [show zi = ((a.size + 1 - (u + 1) : Nat) : Int) by omega]; exact rd_rowA]
                refine s_y (y_move rfl) rfl rfl rfl rfl ?_
                refine s_y (y_move rfl) rfl rfl rfl rfl ?_
                rw [show cmP a b (zi + 1) (zj) = cmP a b zi zj from by rw [cmP_rec (a := a) (b := b) (i := zi) (j := zj) (by omega) (by omega) (by omega) (by omega)]; first | rw [if_pos (by assumption), hp1, hp2] | rw [if_neg (by assumption), hp1]]
                refine s_y (y_idxb1 rfl rfl Try.underlying45 size_9 (by omega) (by omega)) rfl rfl rfl rfl ?_
                refine s_tr0 (t_storeL (enc := Value.string) (v := cmP a b zi zj) (xs := zs) (jk := []) 0 rfl rfl rfl rfl rfl size_9 (by omega)) rfl rfl rfl (fun _ _ => ?_)
                refine s_nil ?_
                refine g_inb ?_
                refine g_then ?_
                refine g_region ?_
                refine s_y (y_move rfl) rfl rfl rfl rfl ?_
                refine s_y (y_sub rfl rfl (by omega) (by omega)) rfl rfl rfl rfl ?_
                refine s_y (y_assign rfl) rfl rfl rfl rfl ?_
                refine s_nil ?_
                refine g_then ?_
                exact fun act W ha hw => ⟨v_ + 1, by omega, by omega, (zj - 1), (zs.set ((zj : Int).toNat) (cmP a b zi zj)), W, (by omega), (by simp; omega), (by intro y h1 h2; rw [rdS_setJ (by omega) (by omega) (by omega)]; by_cases c : zj = y; rw [if_pos c, c]; rw [if_neg c]; exact hzs y (by omega) h2), (by intro h_; omega), (by intro h_; omega), ha.weak (sub_get ⟨rfl, rfl, rfl, rfl, rfl, rfl, rfl, rfl, rfl, rfl, rfl, rfl, rfl, rfl, rfl, rfl, rfl, rfl, trivial⟩), hw.toHq.lookSub (List.Sublist.refl _)⟩
          · (try simp at cq9)
            refine s_no rfl rfl rfl ?_
            refine s_no rfl rfl rfl ?_
            refine s_no rfl rfl rfl ?_
            refine s_y (y_pick_f rfl rfl) rfl rfl rfl rfl ?_
            refine s_y (y_pick_f rfl rfl) rfl rfl rfl rfl ?_
            refine s_nil ?_
            refine g_then ?_
            refine g_cond_f rfl ?_
            refine g_skip ?_
            refine g_then ?_
            refine g_seq ?_
            refine g_seq ?_
            have hp1 : pickC (cmP a b (zi + 1) zj) (cmP a b zi (zj + 1)) = (cmP a b (zi + 1) (zj)) := by first | exact pickC_gt (by omega) | exact pickC_lt (by omega) | exact pickC_et (by omega) (by assumption) | exact pickC_ef (by omega) (by assumption)
            refine g_draw 7 (by kernel_rfl) ?_
            refine j_p (i := 0) rfl (y_move rfl) (by kernel_rfl) (by kernel_rfl) (by kernel_rfl) rfl rfl rfl rfl rfl (.inr (fun _ h => h)) ?_
            refine j_p (i := 1) rfl (y_move rfl) (by kernel_rfl) (by kernel_rfl) (by kernel_rfl) rfl rfl rfl rfl rfl (.inr (fun _ h => h)) ?_
            refine j_p (i := 2) rfl (y_idxs rfl rfl Try.underlying9 (by omega) (by omega)) (by kernel_rfl) (by kernel_rfl) (by kernel_rfl) rfl rfl rfl rfl rfl (.inr (fun _ h => h)) ?_
            refine j_p (i := 3) rfl (y_move rfl) (by kernel_rfl) (by kernel_rfl) (by kernel_rfl) rfl rfl rfl rfl rfl (.inr (fun _ h => h)) ?_
            refine j_p (i := 4) rfl (y_move rfl) (by kernel_rfl) (by kernel_rfl) (by kernel_rfl) rfl rfl rfl rfl rfl (.inr (fun _ h => h)) ?_
            refine j_p (i := 5) rfl (y_idxs rfl rfl Try.underlying9 (by omega) (by omega)) (by kernel_rfl) (by kernel_rfl) (by kernel_rfl) rfl rfl rfl rfl rfl (.inr (fun _ h => h)) ?_
            refine j_p (i := 6) rfl (y_eql rfl rfl) (by kernel_rfl) (by kernel_rfl) (by kernel_rfl) rfl rfl rfl rfl rfl (.inr (fun _ h => h)) ?_
            refine j_nil (by kernel_rfl) ?_
            refine g_then ?_
            refine g_cond rfl (fun cq19 => ?_) (fun cq19 => ?_)
            · (try simp at cq19)
              refine g_seq ?_
              refine g_draw 16 (by kernel_rfl) ?_
              refine j_p (i := 0) rfl (y_move rfl) (by kernel_rfl) (by kernel_rfl) (by kernel_rfl) rfl rfl rfl rfl rfl (.inr (fun _ h => h)) ?_
              refine j_p (i := 1) rfl (y_move rfl) (by kernel_rfl) (by kernel_rfl) (by kernel_rfl) rfl rfl rfl rfl rfl (.inr (fun _ h => h)) ?_
              refine j_p (i := 2) rfl (y_move rfl) (by kernel_rfl) (by kernel_rfl) (by kernel_rfl) rfl rfl rfl rfl rfl (.inr (fun _ h => h)) ?_
              refine j_p (i := 3) rfl (y_add rfl rfl (by omega) (by omega)) (by kernel_rfl) (by kernel_rfl) (by kernel_rfl) rfl rfl rfl rfl rfl (.inr (fun _ h => h)) ?_
              refine j_p (i := 4) rfl (y_strlh rfl rfl rfl Try.underlying9 (by omega) (by omega) (by omega)) (by kernel_rfl) (by kernel_rfl) (by kernel_rfl) rfl rfl rfl rfl rfl (.inr (fun _ h => h)) ?_
              rw [show a.extract (zi : Int).toNat (zi + 1 : Int).toNat = cutB a zi from rfl]
              refine j_p (i := 5) rfl (y_move rfl) (by kernel_rfl) (by kernel_rfl) (by kernel_rfl) rfl rfl rfl rfl rfl (.inr (fun _ h => h)) ?_
              refine j_p (i := 6) rfl (y_move rfl) (by kernel_rfl) (by kernel_rfl) (by kernel_rfl) rfl rfl rfl rfl rfl (.inr (fun _ h => h)) ?_
              refine j_p (i := 7) rfl (y_add rfl rfl (by omega) (by omega)) (by kernel_rfl) (by kernel_rfl) (by kernel_rfl) rfl rfl rfl rfl rfl (.inr (fun _ h => h)) ?_
              refine j_p (i := 8) rfl (y_idxb1 rfl rfl Try.underlying116 size_45 (by omega) (by omega)) (by kernel_rfl) (by kernel_rfl) (by kernel_rfl) rfl rfl rfl rfl rfl (.inr (fun _ h => h)) ?_
              refine j_l (i := 9) rfl (y_ldL (enc := encV) (xs := (List.replicate (a.size + 1 - (u + 1)) (Value.slice none 0 0) ++ ((Value.slice (some ⟨bw, 0, none⟩) (b.size + 1) (b.size + 1)) :: vs))) (jk := []) 1 rfl rfl agg_45 (rdVal_at (by omega) (by simp; omega))) (by kernel_rfl) (by kernel_rfl) (by kernel_rfl) (by kernel_rfl) rfl rfl rfl rfl rfl (.inr (fun _ h => h)) ?_
              rw [show rdVal (List.replicate (a.size + 1 - (u + 1)) (Value.slice none 0 0) ++ ((Value.slice (some ⟨bw, 0, none⟩) (b.size + 1) (b.size + 1)) :: vs)) (zi + 1) = rdVal vs ((0 : Nat) : Int) from by rw [show zi + 1 = ((a.size + 1 - (u + 1) : Nat) : Int) + 1 + ((0 : Nat) : Int) by omega]; exact rd_rowB]
              have hr0l := rowW_len (cmP a b) b.size (zi + 1)
              have hr0 : OwnV Value.string (rdVal vs ((0 : Nat) : Int)) (rowW (cmP a b) b.size (zi + 1)) Ms := by have h_ := hrows 0 (by omega); rwa [show zi + 1 + ((0 : Nat) : Int) = zi + 1 by omega] at h_
              refine j_p (i := 10) rfl (y_move rfl) (by kernel_rfl) (by kernel_rfl) (by kernel_rfl) rfl rfl rfl rfl rfl (.inr (fun _ h => h)) ?_
              refine j_p (i := 11) rfl (y_add rfl rfl (by omega) (by omega)) (by kernel_rfl) (by kernel_rfl) (by kernel_rfl) rfl rfl rfl rfl rfl (.inr (fun _ h => h)) ?_
              refine j_p (i := 12) rfl (y_idxO (enc := Value.string) rfl rfl hr0 hEs Try.underlying45 size_9 (by omega) (by omega)) (by kernel_rfl) (by kernel_rfl) (by kernel_rfl) rfl rfl rfl rfl rfl (.inr (fun _ h => h)) ?_
              refine j_l (i := 13) rfl (y_ldV (enc := Value.string) (xs := (rowW (cmP a b) b.size (zi + 1))) (fun w h => (hr0.rd fun p hp => h.at_ p (List.mem_cons_of_mem _ (List.mem_cons_of_mem _ (mem_al Ms hp)))).rdl) rfl agg_9 (rdS_at (by omega) (by omega))) (by kernel_rfl) (by kernel_rfl) (by kernel_rfl) (by kernel_rfl) rfl rfl rfl rfl rfl (.inr (fun _ h => h)) ?_
              rw [show rdS (rowW (cmP a b) b.size (zi + 1)) (zj + 1) = cmP a b (zi + 1) (zj + 1) from rowW_at (by omega) (by omega)]
              refine j_p (i := 14) rfl (y_sadd rfl rfl (by omega)) (by kernel_rfl) (by kernel_rfl) (by kernel_rfl) rfl rfl rfl rfl rfl (.inr (fun _ h => h)) ?_
              refine j_p (i := 15) rfl (y_assign rfl) (by kernel_rfl) (by kernel_rfl) (by kernel_rfl) rfl rfl rfl rfl rfl (.inr (fun _ h => h)) ?_
              refine j_nil (by kernel_rfl) ?_
              refine g_then ?_
              refine g_seq ?_
              have hz3 := app_size (cutB a zi) (cmP a b (zi + 1) (zj + 1))
              refine g_region ?_
              refine s_y (y_move rfl) rfl rfl rfl rfl ?_
              refine s_y (y_lens rfl Try.underlying9) rfl rfl rfl rfl ?_
              refine s_y (y_move rfl) rfl rfl rfl rfl ?_
              refine s_y (y_lens rfl Try.underlying9) rfl rfl rfl rfl ?_
              refine s_y (y_gtr rfl rfl) rfl rfl rfl rfl ?_
              refine s_y (y_move rfl) rfl rfl rfl rfl ?_
              refine g_bool 102 rfl (fun cq20 => ?_) (fun cq20 => ?_)
              · (try simp at cq20)
                refine s_no rfl rfl rfl ?_
                refine s_no rfl rfl rfl ?_
                refine s_no rfl rfl rfl ?_
                refine s_no rfl rfl rfl ?_
                refine s_no rfl rfl rfl ?_
                refine s_no rfl rfl rfl ?_
                refine s_noU rfl rfl rfl rfl rfl ?_
                refine s_noU rfl rfl rfl rfl rfl ?_
                refine s_noU rfl rfl rfl rfl rfl ?_
                refine s_no rfl rfl rfl ?_
                refine s_y (y_pick_t rfl rfl) rfl rfl rfl rfl ?_
                refine s_nil ?_
                refine g_then ?_
                refine g_cond_t rfl ?_
                refine g_region ?_
                refine s_y (y_move rfl) rfl rfl rfl rfl ?_
                refine s_y (y_assign rfl) rfl rfl rfl rfl ?_
                refine s_nil ?_
                refine g_then ?_
                have hp2 : pickC (cmP a b (zi + 1) (zj)) ((cutB a zi) ++ (cmP a b (zi + 1) (zj + 1))) = ((cutB a zi) ++ (cmP a b (zi + 1) (zj + 1))) := by first | exact pickC_gt (by omega) | exact pickC_lt (by omega) | exact pickC_et (by omega) (by assumption) | exact pickC_ef (by omega) (by assumption)
                refine g_region ?_
                refine s_y (y_move rfl) rfl rfl rfl rfl ?_
                refine s_y (y_move rfl) rfl rfl rfl rfl ?_
                refine s_y (y_idxb1 rfl rfl Try.underlying116 size_45 (by omega) (by omega)) rfl rfl rfl rfl ?_
                refine s_y (y_ldL (enc := encV) (xs := (List.replicate (a.size + 1 - (u + 1)) (Value.slice none 0 0) ++ ((Value.slice (some ⟨bw, 0, none⟩) (b.size + 1) (b.size + 1)) :: vs))) (jk := []) 1 rfl rfl agg_45 (rdVal_at (by omega) (by simp; omega))) rfl rfl rfl rfl ?_
                rw [show rdVal (List.replicate (a.size + 1 - (u + 1)) (Value.slice none 0 0) ++ ((Value.slice (some ⟨bw, 0, none⟩) (b.size + 1) (b.size + 1)) :: vs)) zi = (Value.slice (some ⟨bw, 0, none⟩) (b.size + 1) (b.size + 1)) from by rw [show zi = ((a.size + 1 - (u + 1) : Nat) : Int) by omega]; exact rd_rowA]
                refine s_y (y_move rfl) rfl rfl rfl rfl ?_
                refine s_y (y_move rfl) rfl rfl rfl rfl ?_
                rw [show (cutB a zi) ++ (cmP a b (zi + 1) (zj + 1)) = cmP a b zi zj from by rw [cmP_rec (a := a) (b := b) (i := zi) (j := zj) (by omega) (by omega) (by omega) (by omega)]; first | rw [if_pos (by assumption), hp1, hp2] | rw [if_neg (by assumption), hp1]]
                refine s_y (y_idxb1 rfl rfl Try.underlying45 size_9 (by omega) (by omega)) rfl rfl rfl rfl ?_
                refine s_tr0 (t_storeL (enc := Value.string) (v := cmP a b zi zj) (xs := zs) (jk := []) 0 rfl rfl rfl rfl rfl size_9 (by omega)) rfl rfl rfl (fun _ _ => ?_)
                refine s_nil ?_
                refine g_inb ?_
                refine g_then ?_
                refine g_region ?_
                refine s_y (y_move rfl) rfl rfl rfl rfl ?_
                refine s_y (y_sub rfl rfl (by omega) (by omega)) rfl rfl rfl rfl ?_
                refine s_y (y_assign rfl) rfl rfl rfl rfl ?_
                refine s_nil ?_
                refine g_then ?_
                exact fun act W ha hw => ⟨v_ + 1, by omega, by omega, (zj - 1), (zs.set ((zj : Int).toNat) (cmP a b zi zj)), W, (by omega), (by simp; omega), (by intro y h1 h2; rw [rdS_setJ (by omega) (by omega) (by omega)]; by_cases c : zj = y; rw [if_pos c, c]; rw [if_neg c]; exact hzs y (by omega) h2), (by intro h_; omega), (by intro h_; omega), ha.weak (sub_get ⟨rfl, rfl, rfl, rfl, rfl, rfl, rfl, rfl, rfl, rfl, rfl, rfl, rfl, rfl, rfl, rfl, rfl, rfl, trivial⟩), hw.toHq.lookSub (List.Sublist.refl _)⟩
              · (try simp at cq20)
                refine s_y (y_move rfl) rfl rfl rfl rfl ?_
                refine s_y (y_lens rfl Try.underlying9) rfl rfl rfl rfl ?_
                refine s_y (y_move rfl) rfl rfl rfl rfl ?_
                refine s_y (y_lens rfl Try.underlying9) rfl rfl rfl rfl ?_
                refine s_y (y_eql rfl rfl) rfl rfl rfl rfl ?_
                refine s_y (y_move rfl) rfl rfl rfl rfl ?_
                refine g_bool 108 rfl (fun cq21 => ?_) (fun cq21 => ?_)
                · (try simp at cq21)
                  refine s_y (y_move rfl) rfl rfl rfl rfl ?_
                  refine s_y (y_move rfl) rfl rfl rfl rfl ?_
                  refine s_y (y_slss rfl rfl) rfl rfl rfl rfl ?_
                  refine s_y (y_pick_t rfl rfl) rfl rfl rfl rfl ?_
                  refine s_y (y_pick_f rfl rfl) rfl rfl rfl rfl ?_
                  refine s_nil ?_
                  refine g_then ?_
                  refine g_cond rfl (fun cq22 => ?_) (fun cq22 => ?_)
                  · (try simp at cq22)
                    refine g_region ?_
                    refine s_y (y_move rfl) rfl rfl rfl rfl ?_
                    refine s_y (y_assign rfl) rfl rfl rfl rfl ?_
                    refine s_nil ?_
                    refine g_then ?_
                    have hp2 : pickC (cmP a b (zi + 1) (zj)) ((cutB a zi) ++ (cmP a b (zi + 1) (zj + 1))) = ((cutB a zi) ++ (cmP a b (zi + 1) (zj + 1))) := by first | exact pickC_gt (by omega) | exact pickC_lt (by omega) | exact pickC_et (by omega) (by assumption) | exact pickC_ef (by omega) (by assumption)
                    refine g_region ?_
                    refine s_y (y_move rfl) rfl rfl rfl rfl ?_
                    refine s_y (y_move rfl) rfl rfl rfl rfl ?_
                    refine s_y (y_idxb1 rfl rfl Try.underlying116 size_45 (by omega) (by omega)) rfl rfl rfl rfl ?_
                    refine s_y (y_ldL (enc := encV) (xs := (List.replicate (a.size + 1 - (u + 1)) (Value.slice none 0 0) ++ ((Value.slice (some ⟨bw, 0, none⟩) (b.size + 1) (b.size + 1)) :: vs))) (jk := []) 1 rfl rfl agg_45 (rdVal_at (by omega) (by simp; omega))) rfl rfl rfl rfl ?_
                    rw [show rdVal (List.replicate (a.size + 1 - (u + 1)) (Value.slice none 0 0) ++ ((Value.slice (some ⟨bw, 0, none⟩) (b.size + 1) (b.size + 1)) :: vs)) zi = (Value.slice (some ⟨bw, 0, none⟩) (b.size + 1) (b.size + 1)) from by rw [show zi = ((a.size + 1 - (u + 1) : Nat) : Int) by omega]; exact rd_rowA]
                    refine s_y (y_move rfl) rfl rfl rfl rfl ?_
                    refine s_y (y_move rfl) rfl rfl rfl rfl ?_
                    rw [show (cutB a zi) ++ (cmP a b (zi + 1) (zj + 1)) = cmP a b zi zj from by rw [cmP_rec (a := a) (b := b) (i := zi) (j := zj) (by omega) (by omega) (by omega) (by omega)]; first | rw [if_pos (by assumption), hp1, hp2] | rw [if_neg (by assumption), hp1]]
                    refine s_y (y_idxb1 rfl rfl Try.underlying45 size_9 (by omega) (by omega)) rfl rfl rfl rfl ?_
                    refine s_tr0 (t_storeL (enc := Value.string) (v := cmP a b zi zj) (xs := zs) (jk := []) 0 rfl rfl rfl rfl rfl size_9 (by omega)) rfl rfl rfl (fun _ _ => ?_)
                    refine s_nil ?_
                    refine g_inb ?_
                    refine g_then ?_
                    refine g_region ?_
                    refine s_y (y_move rfl) rfl rfl rfl rfl ?_
                    refine s_y (y_sub rfl rfl (by omega) (by omega)) rfl rfl rfl rfl ?_
                    refine s_y (y_assign rfl) rfl rfl rfl rfl ?_
                    refine s_nil ?_
                    refine g_then ?_
                    exact fun act W ha hw => ⟨v_ + 1, by omega, by omega, (zj - 1), (zs.set ((zj : Int).toNat) (cmP a b zi zj)), W, (by omega), (by simp; omega), (by intro y h1 h2; rw [rdS_setJ (by omega) (by omega) (by omega)]; by_cases c : zj = y; rw [if_pos c, c]; rw [if_neg c]; exact hzs y (by omega) h2), (by intro h_; omega), (by intro h_; omega), ha.weak (sub_get ⟨rfl, rfl, rfl, rfl, rfl, rfl, rfl, rfl, rfl, rfl, rfl, rfl, rfl, rfl, rfl, rfl, rfl, rfl, trivial⟩), hw.toHq.lookSub (List.Sublist.refl _)⟩
                  · (try simp at cq22)
                    refine g_skip ?_
                    refine g_then ?_
                    have hp2 : pickC (cmP a b (zi + 1) (zj)) ((cutB a zi) ++ (cmP a b (zi + 1) (zj + 1))) = (cmP a b (zi + 1) (zj)) := by first | exact pickC_gt (by omega) | exact pickC_lt (by omega) | exact pickC_et (by omega) (by assumption) | exact pickC_ef (by omega) (by assumption)
                    refine g_region ?_
                    refine s_y (y_move rfl) rfl rfl rfl rfl ?_
                    refine s_y (y_move rfl) rfl rfl rfl rfl ?_
                    refine s_y (y_idxb1 rfl rfl Try.underlying116 size_45 (by omega) (by omega)) rfl rfl rfl rfl ?_
                    refine s_y (y_ldL (enc := encV) (xs := (List.replicate (a.size + 1 - (u + 1)) (Value.slice none 0 0) ++ ((Value.slice (some ⟨bw, 0, none⟩) (b.size + 1) (b.size + 1)) :: vs))) (jk := []) 1 rfl rfl agg_45 (rdVal_at (by omega) (by simp; omega))) rfl rfl rfl rfl ?_
                    rw [show rdVal (List.replicate (a.size + 1 - (u + 1)) (Value.slice none 0 0) ++ ((Value.slice (some ⟨bw, 0, none⟩) (b.size + 1) (b.size + 1)) :: vs)) zi = (Value.slice (some ⟨bw, 0, none⟩) (b.size + 1) (b.size + 1)) from by rw [show zi = ((a.size + 1 - (u + 1) : Nat) : Int) by omega]; exact rd_rowA]
                    refine s_y (y_move rfl) rfl rfl rfl rfl ?_
                    refine s_y (y_move rfl) rfl rfl rfl rfl ?_
                    rw [show cmP a b (zi + 1) (zj) = cmP a b zi zj from by rw [cmP_rec (a := a) (b := b) (i := zi) (j := zj) (by omega) (by omega) (by omega) (by omega)]; first | rw [if_pos (by assumption), hp1, hp2] | rw [if_neg (by assumption), hp1]]
                    refine s_y (y_idxb1 rfl rfl Try.underlying45 size_9 (by omega) (by omega)) rfl rfl rfl rfl ?_
                    refine s_tr0 (t_storeL (enc := Value.string) (v := cmP a b zi zj) (xs := zs) (jk := []) 0 rfl rfl rfl rfl rfl size_9 (by omega)) rfl rfl rfl (fun _ _ => ?_)
                    refine s_nil ?_
                    refine g_inb ?_
                    refine g_then ?_
                    refine g_region ?_
                    refine s_y (y_move rfl) rfl rfl rfl rfl ?_
                    refine s_y (y_sub rfl rfl (by omega) (by omega)) rfl rfl rfl rfl ?_
                    refine s_y (y_assign rfl) rfl rfl rfl rfl ?_
                    refine s_nil ?_
                    refine g_then ?_
                    exact fun act W ha hw => ⟨v_ + 1, by omega, by omega, (zj - 1), (zs.set ((zj : Int).toNat) (cmP a b zi zj)), W, (by omega), (by simp; omega), (by intro y h1 h2; rw [rdS_setJ (by omega) (by omega) (by omega)]; by_cases c : zj = y; rw [if_pos c, c]; rw [if_neg c]; exact hzs y (by omega) h2), (by intro h_; omega), (by intro h_; omega), ha.weak (sub_get ⟨rfl, rfl, rfl, rfl, rfl, rfl, rfl, rfl, rfl, rfl, rfl, rfl, rfl, rfl, rfl, rfl, rfl, rfl, trivial⟩), hw.toHq.lookSub (List.Sublist.refl _)⟩
                · (try simp at cq21)
                  refine s_no rfl rfl rfl ?_
                  refine s_no rfl rfl rfl ?_
                  refine s_no rfl rfl rfl ?_
                  refine s_y (y_pick_f rfl rfl) rfl rfl rfl rfl ?_
                  refine s_y (y_pick_f rfl rfl) rfl rfl rfl rfl ?_
                  refine s_nil ?_
                  refine g_then ?_
                  refine g_cond_f rfl ?_
                  refine g_skip ?_
                  refine g_then ?_
                  have hp2 : pickC (cmP a b (zi + 1) (zj)) ((cutB a zi) ++ (cmP a b (zi + 1) (zj + 1))) = (cmP a b (zi + 1) (zj)) := by first | exact pickC_gt (by omega) | exact pickC_lt (by omega) | exact pickC_et (by omega) (by assumption) | exact pickC_ef (by omega) (by assumption)
                  refine g_region ?_
                  refine s_y (y_move rfl) rfl rfl rfl rfl ?_
                  refine s_y (y_move rfl) rfl rfl rfl rfl ?_
                  refine s_y (y_idxb1 rfl rfl Try.underlying116 size_45 (by omega) (by omega)) rfl rfl rfl rfl ?_
                  refine s_y (y_ldL (enc := encV) (xs := (List.replicate (a.size + 1 - (u + 1)) (Value.slice none 0 0) ++ ((Value.slice (some ⟨bw, 0, none⟩) (b.size + 1) (b.size + 1)) :: vs))) (jk := []) 1 rfl rfl agg_45 (rdVal_at (by omega) (by simp; omega))) rfl rfl rfl rfl ?_
                  rw [show rdVal (List.replicate (a.size + 1 - (u + 1)) (Value.slice none 0 0) ++ ((Value.slice (some ⟨bw, 0, none⟩) (b.size + 1) (b.size + 1)) :: vs)) zi = (Value.slice (some ⟨bw, 0, none⟩) (b.size + 1) (b.size + 1)) from by rw [show zi = ((a.size + 1 - (u + 1) : Nat) : Int) by omega]; exact rd_rowA]
                  refine s_y (y_move rfl) rfl rfl rfl rfl ?_
                  refine s_y (y_move rfl) rfl rfl rfl rfl ?_
                  rw [show cmP a b (zi + 1) (zj) = cmP a b zi zj from by rw [cmP_rec (a := a) (b := b) (i := zi) (j := zj) (by omega) (by omega) (by omega) (by omega)]; first | rw [if_pos (by assumption), hp1, hp2] | rw [if_neg (by assumption), hp1]]
                  refine s_y (y_idxb1 rfl rfl Try.underlying45 size_9 (by omega) (by omega)) rfl rfl rfl rfl ?_
                  refine s_tr0 (t_storeL (enc := Value.string) (v := cmP a b zi zj) (xs := zs) (jk := []) 0 rfl rfl rfl rfl rfl size_9 (by omega)) rfl rfl rfl (fun _ _ => ?_)
                  refine s_nil ?_
                  refine g_inb ?_
                  refine g_then ?_
                  refine g_region ?_
                  refine s_y (y_move rfl) rfl rfl rfl rfl ?_
                  refine s_y (y_sub rfl rfl (by omega) (by omega)) rfl rfl rfl rfl ?_
                  refine s_y (y_assign rfl) rfl rfl rfl rfl ?_
                  refine s_nil ?_
                  refine g_then ?_
                  exact fun act W ha hw => ⟨v_ + 1, by omega, by omega, (zj - 1), (zs.set ((zj : Int).toNat) (cmP a b zi zj)), W, (by omega), (by simp; omega), (by intro y h1 h2; rw [rdS_setJ (by omega) (by omega) (by omega)]; by_cases c : zj = y; rw [if_pos c, c]; rw [if_neg c]; exact hzs y (by omega) h2), (by intro h_; omega), (by intro h_; omega), ha.weak (sub_get ⟨rfl, rfl, rfl, rfl, rfl, rfl, rfl, rfl, rfl, rfl, rfl, rfl, rfl, rfl, rfl, rfl, rfl, rfl, trivial⟩), hw.toHq.lookSub (List.Sublist.refl _)⟩
            · (try simp at cq19)
              refine g_skip ?_
              refine g_then ?_
              refine g_region ?_
              refine s_y (y_move rfl) rfl rfl rfl rfl ?_
              refine s_y (y_move rfl) rfl rfl rfl rfl ?_
              refine s_y (y_idxb1 rfl rfl Try.underlying116 size_45 (by omega) (by omega)) rfl rfl rfl rfl ?_
              refine s_y (y_ldL (enc := encV) (xs := (List.replicate (a.size + 1 - (u + 1)) (Value.slice none 0 0) ++ ((Value.slice (some ⟨bw, 0, none⟩) (b.size + 1) (b.size + 1)) :: vs))) (jk := []) 1 rfl rfl agg_45 (rdVal_at (by omega) (by simp; omega))) rfl rfl rfl rfl ?_
              rw [show rdVal (List.replicate (a.size + 1 - (u + 1)) (Value.slice none 0 0) ++ ((Value.slice (some ⟨bw, 0, none⟩) (b.size + 1) (b.size + 1)) :: vs)) zi = (Value.slice (some ⟨bw, 0, none⟩) (b.size + 1) (b.size + 1)) from by rw [show zi = ((a.size + 1 - (u + 1) : Nat) : Int) by omega]; exact rd_rowA]
              refine s_y (y_move rfl) rfl rfl rfl rfl ?_
              refine s_y (y_move rfl) rfl rfl rfl rfl ?_
              rw [show cmP a b (zi + 1) (zj) = cmP a b zi zj from by rw [cmP_rec (a := a) (b := b) (i := zi) (j := zj) (by omega) (by omega) (by omega) (by omega)]; first | rw [if_pos (by assumption), hp1, hp2] | rw [if_neg (by assumption), hp1]]
              refine s_y (y_idxb1 rfl rfl Try.underlying45 size_9 (by omega) (by omega)) rfl rfl rfl rfl ?_
              refine s_tr0 (t_storeL (enc := Value.string) (v := cmP a b zi zj) (xs := zs) (jk := []) 0 rfl rfl rfl rfl rfl size_9 (by omega)) rfl rfl rfl (fun _ _ => ?_)
              refine s_nil ?_
              refine g_inb ?_
              refine g_then ?_
              refine g_region ?_
              refine s_y (y_move rfl) rfl rfl rfl rfl ?_
              refine s_y (y_sub rfl rfl (by omega) (by omega)) rfl rfl rfl rfl ?_
              refine s_y (y_assign rfl) rfl rfl rfl rfl ?_
              refine s_nil ?_
              refine g_then ?_
              exact fun act W ha hw => ⟨v_ + 1, by omega, by omega, (zj - 1), (zs.set ((zj : Int).toNat) (cmP a b zi zj)), W, (by omega), (by simp; omega), (by intro y h1 h2; rw [rdS_setJ (by omega) (by omega) (by omega)]; by_cases c : zj = y; rw [if_pos c, c]; rw [if_neg c]; exact hzs y (by omega) h2), (by intro h_; omega), (by intro h_; omega), ha.weak (sub_get ⟨rfl, rfl, rfl, rfl, rfl, rfl, rfl, rfl, rfl, rfl, rfl, rfl, rfl, rfl, rfl, rfl, rfl, rfl, trivial⟩), hw.toHq.lookSub (List.Sublist.refl _)⟩
      · (try simp at cq3)
        refine g_exit ?_
        refine g_thenx ?_
        refine g_thenx ?_
        refine g_inbx ?_
        refine g_inb ?_
        refine g_then ?_
        refine g_region ?_
        refine s_y (y_move rfl) rfl rfl rfl rfl ?_
        refine s_y (y_sub rfl rfl (by omega) (by omega)) rfl rfl rfl rfl ?_
        refine s_y (y_assign rfl) rfl rfl rfl rfl ?_
        refine s_nil ?_
        refine g_then ?_
        have hzr : zs = (rowW (cmP a b) b.size zi) := by
          refine rdS_ext (by rw [hzl, rowW_len]) fun y hy => ?_
          rw [rowW_at (by omega) (by omega)]
          by_cases c : zi = (a.size : Int)
          · rw [hz0 (hzt c), rdS_rep]; exact (cmP_ends (.inl c)).symm
          · exact hzs _ (by omega) (by omega)
        have hall : ∀ q : Nat, q < u + 1 → OwnV Value.string (rdVal ((Value.slice (some ⟨bw, 0, none⟩) (b.size + 1) (b.size + 1)) :: vs) (q : Int)) (rowW (cmP a b) b.size ((zi - 1) + 1 + (q : Int))) ((bw, Obj.cells ((zs.map Value.string) ++ []).toArray 9 (0, 0)) :: Ms) := by
          intro q hq
          cases q with
          | zero =>
            rw [show zi - 1 + 1 + ((0 : Nat) : Int) = zi by omega, ← hzr]
            exact (OwnV.blk (b := bw) (jk := []) (t := 9) hzl.symm (Nat.le_refl _)).mono (fun p hp => by rw [List.mem_singleton] at hp; rw [hp]; exact List.mem_cons_self ..)
          | succ q =>
            rw [show zi - 1 + 1 + ((q + 1 : Nat) : Int) = zi + 1 + (q : Int) by omega, rdVal_cons]
            exact (hrows q (by omega)).mono fun p hp => List.mem_cons_of_mem _ hp
        exact fun act W ha hw => ⟨u + 1, by omega, by omega, (zi - 1), ((Value.slice (some ⟨bw, 0, none⟩) (b.size + 1) (b.size + 1)) :: vs), ((bw, Obj.cells ((zs.map Value.string) ++ []).toArray 9 (0, 0)) :: Ms), W, (by omega), (by simp; omega), (by exact hall), (by exact ⟨W, fun p hp => hw.at_ p (by simp only [List.mem_cons, List.mem_append] at hp ⊢; rcases hp with h_ | h_; exact .inl h_; exact .inr (.inr (.inl h_)))⟩), ha.weak (sub_get ⟨rfl, rfl, rfl, rfl, rfl, trivial⟩), hw.toHq.pick (List.perm_middle (l₁ := [_])) (List.Sublist.refl _)⟩
    · (try simp at cq2)
      refine s_no rfl rfl rfl ?_
      refine s_no rfl rfl rfl ?_
      refine s_no rfl rfl rfl ?_
      refine s_no rfl rfl rfl ?_
      refine s_y (y_pick_f rfl rfl) rfl rfl rfl rfl ?_
      refine s_nil ?_
      refine g_then ?_
      refine g_cond_f rfl ?_
      refine g_exit ?_
      refine g_thenx ?_
      refine g_thenx ?_
      refine g_inbx ?_
      refine g_inb ?_
      refine g_then ?_
      refine g_region ?_
      refine s_y (y_move rfl) rfl rfl rfl rfl ?_
      refine s_y (y_sub rfl rfl (by omega) (by omega)) rfl rfl rfl rfl ?_
      refine s_y (y_assign rfl) rfl rfl rfl rfl ?_
      refine s_nil ?_
      refine g_then ?_
      have hzr : zs = (rowW (cmP a b) b.size zi) := by
        refine rdS_ext (by rw [hzl, rowW_len]) fun y hy => ?_
        rw [rowW_at (by omega) (by omega)]
        by_cases c : zi = (a.size : Int)
        · rw [hz0 (hzt c), rdS_rep]; exact (cmP_ends (.inl c)).symm
        · exact hzs _ (by omega) (by omega)
      have hall : ∀ q : Nat, q < u + 1 → OwnV Value.string (rdVal ((Value.slice (some ⟨bw, 0, none⟩) (b.size + 1) (b.size + 1)) :: vs) (q : Int)) (rowW (cmP a b) b.size ((zi - 1) + 1 + (q : Int))) ((bw, Obj.cells ((zs.map Value.string) ++ []).toArray 9 (0, 0)) :: Ms) := by
        intro q hq
        cases q with
        | zero =>
          rw [show zi - 1 + 1 + ((0 : Nat) : Int) = zi by omega, ← hzr]
          exact (OwnV.blk (b := bw) (jk := []) (t := 9) hzl.symm (Nat.le_refl _)).mono (fun p hp => by rw [List.mem_singleton] at hp; rw [hp]; exact List.mem_cons_self ..)
        | succ q =>
          rw [show zi - 1 + 1 + ((q + 1 : Nat) : Int) = zi + 1 + (q : Int) by omega, rdVal_cons]
          exact (hrows q (by omega)).mono fun p hp => List.mem_cons_of_mem _ hp
      exact fun act W ha hw => ⟨u + 1, by omega, by omega, (zi - 1), ((Value.slice (some ⟨bw, 0, none⟩) (b.size + 1) (b.size + 1)) :: vs), ((bw, Obj.cells ((zs.map Value.string) ++ []).toArray 9 (0, 0)) :: Ms), W, (by omega), (by simp; omega), (by exact hall), (by exact ⟨W, fun p hp => hw.at_ p (by simp only [List.mem_cons, List.mem_append] at hp ⊢; rcases hp with h_ | h_; exact .inl h_; exact .inr (.inr (.inl h_)))⟩), ha.weak (sub_get ⟨rfl, rfl, rfl, rfl, rfl, trivial⟩), hw.toHq.pick (List.perm_middle (l₁ := [_])) (List.Sublist.refl _)⟩
  · (try simp at cq1)
    refine g_exit ?_
    refine g_thenx ?_
    refine g_thenx ?_
    refine g_inbx ?_
    refine g_then ?_
    refine g_seq ?_
    refine g_region ?_
    refine s_y (y_move rfl) rfl rfl rfl rfl ?_
    refine s_y (y_idxb1 rfl rfl Try.underlying116 size_45 (by omega) (by omega)) rfl rfl rfl rfl ?_
    refine s_y (y_ldL (enc := encV) (xs := (List.replicate (a.size + 1 - u) (Value.slice none 0 0) ++ vs)) (jk := []) 0 rfl rfl agg_45 (rdVal_at (by omega) (by simp; omega))) rfl rfl rfl rfl ?_
    have hr0l := rowW_len (cmP a b) b.size 0
    have hr0 : OwnV Value.string (rdVal vs ((0 : Nat) : Int)) (rowW (cmP a b) b.size 0) Ms := by have h_ := hrows 0 (by omega); rwa [show zi + 1 + ((0 : Nat) : Int) = 0 by omega] at h_
    rw [show rdVal (List.replicate (a.size + 1 - u) (Value.slice none 0 0) ++ vs) 0 = rdVal vs ((0 : Nat) : Int) from by rw [show a.size + 1 - u = 0 by omega]; rfl]
    refine s_y (y_idxO (enc := Value.string) rfl rfl hr0 hEs Try.underlying45 size_9 (by omega) (by omega)) rfl rfl rfl rfl ?_
    refine s_y (y_ldV (enc := Value.string) (xs := (rowW (cmP a b) b.size 0)) (fun w h => (hr0.rd fun p hp => h.at_ p (List.mem_cons_of_mem _ (mem_al Ms hp))).rdl) rfl agg_9 (rdS_at (by omega) (by omega))) rfl rfl rfl rfl ?_
    rw [show rdS (rowW (cmP a b) b.size 0) 0 = cmP a b 0 0 from rowW_at (by omega) (by omega)]
    refine s_y (y_assign rfl) rfl rfl rfl rfl ?_
    refine s_nil ?_
    refine g_then ?_
    refine g_ret ?_
    exact g_end trivial (fun a w ha hq_ => res1 ha rfl rfl  w) (fun w h => ⟨rfl, h.below⟩)

theorem RJoined_ok (w : World) (a b : ByteArray) (hla : a.size ≤ 12) (hlb : b.size ≤ 12) :
    Calls Try.prog 44 [.string a, .string b].toArray w fun e w' => e = .returned (.string (jnP a b 0 0)) ∧ Below w.heap.size w w' := by
  have zs1 := fun (p q : Int) (r0 : 0 ≤ p) (r1 : p ≤ a.size) (r2 : 0 ≤ q) (r3 : q ≤ b.size) => jnP_size (a := a) (b := b) 100 p q r0 r1 r2 r3 (by omega)
  obtain ⟨ie45, hi45⟩ := inf_45
  obtain ⟨ie9, hi9⟩ := inf_9
  refine enter (N := 148) Try.func44 rfl rfl rfl ?_
  refine g_seq ?_
  refine g_region ?_
  refine s_y (y_assign rfl) rfl rfl rfl rfl ?_
  refine s_nil ?_
  refine g_then ?_
  refine g_seq ?_
  refine g_region ?_
  refine s_y (y_move rfl) rfl rfl rfl rfl ?_
  refine s_y (y_lens rfl Try.underlying9) rfl rfl rfl rfl ?_
  refine s_y (y_add rfl rfl (by omega) (by omega)) rfl rfl rfl rfl ?_
  refine s_tr (t_makeL (enc := encV) (z := (Value.slice none 0 0)) (n := a.size + 1) rfl Try.underlying116 hi45.1 hi45.2.1 hi45.2.2.1 rfl (by rw [hi45.2.2.2]; omega) (by omega)) rfl rfl rfl rfl (fun bo hbo => ?_)
  rw [show List.replicate (a.size + 1) (Value.slice none 0 0) = (List.replicate (a.size + 1 - 0) (Value.slice none 0 0) ++ []) from by rw [List.append_nil]; rfl]
  refine s_y (y_assign rfl) rfl rfl rfl rfl ?_
  refine s_nil ?_
  refine g_then ?_
  refine g_seq ?_
  refine g_seq ?_
  refine g_region ?_
  refine s_y (y_move rfl) rfl rfl rfl rfl ?_
  refine s_y (y_lens rfl Try.underlying9) rfl rfl rfl rfl ?_
  refine s_y (y_assign rfl) rfl rfl rfl rfl ?_
  refine s_nil ?_
  refine g_then ?_
  refine g_block ?_
  refine g_loop (fun (u : Nat) act W => u ≤ a.size + 1 ∧ ∃ (zi : Int) (vs : List Value) (Ms : List (Nat × Obj)) (w1 : World), (zi = (a.size : Int) - (u : Int)) ∧ (vs.length = u) ∧ (∀ q : Nat, q < u → OwnV Value.string (rdVal vs (q : Int)) (rowW (jnP a b) b.size (zi + 1 + (q : Int))) Ms) ∧ (∃ W : World, ∀ p ∈ Ms, W.heap[p.1]? = some p.2) ∧ Has 148 [] [(0, .string a), (1, .string b), (4, .string (⟨#[]⟩ : ByteArray)), (5, .slice (some ⟨bo, 0, none⟩) (a.size + 1) (a.size + 1)), (6, .int .i64 zi)] act ∧ Hp w w1 ((bo, .cells ((List.replicate (a.size + 1 - u) (Value.slice none 0 0) ++ vs).map encV ++ []).toArray 45 (0, 0)) :: (Ms ++ ([]))) W) (fun u => a.size + 1 - u) 0 (fun act W ha hw => ⟨by omega, (a.size : Int), [], [], W, (by simp), (by rfl), (by intro q hq; omega), (by exact ⟨w, by simp⟩), ha.weak (sub_get ⟨rfl, rfl, rfl, rfl, rfl, trivial⟩), hw.toHq.lookSub (List.Sublist.refl _)⟩) ?_
  intro u act W ⟨hb_u, zi, vs, Ms, w1, hzi, hvl, hrows, hEs, ha, hw⟩
  refine g_go ha hw ?_
  clear ha hw act W
  refine g_seq ?_
  refine g_seq ?_
  refine g_region ?_
  refine s_y (y_move rfl) rfl rfl rfl rfl ?_
  refine s_y (y_geq rfl rfl) rfl rfl rfl rfl ?_
  refine s_nil ?_
  refine g_then ?_
  refine g_cond rfl (fun cq1 => ?_) (fun cq1 => ?_)
  · (try simp at cq1)
    refine g_skip ?_
    refine g_then ?_
    refine g_seq ?_
    refine g_block ?_
    refine g_seq ?_
    refine g_region ?_
    refine s_y (y_move rfl) rfl rfl rfl rfl ?_
    refine s_y (y_move rfl) rfl rfl rfl rfl ?_
    refine s_y (y_move rfl) rfl rfl rfl rfl ?_
    refine s_y (y_lens rfl Try.underlying9) rfl rfl rfl rfl ?_
    refine s_y (y_add rfl rfl (by omega) (by omega)) rfl rfl rfl rfl ?_
    refine s_tr (t_makeL (enc := Value.string) (z := ByteArray.empty) (n := b.size + 1) rfl Try.underlying45 hi9.1 hi9.2.1 hi9.2.2.1 rfl (by rw [hi9.2.2.2]; omega) (by omega)) rfl rfl rfl rfl (fun bw hbw => ?_)
    refine s_y (y_idxb1 rfl rfl Try.underlying116 size_45 (by omega) (by omega)) rfl rfl rfl rfl ?_
    refine s_tr0 (t_storeL (enc := encV) (v := (Value.slice (some ⟨bw, 0, none⟩) (b.size + 1) (b.size + 1))) (xs := (List.replicate (a.size + 1 - u) (Value.slice none 0 0) ++ vs)) (jk := []) 1 rfl rfl rfl rfl rfl size_45 (by simp; omega)) rfl rfl rfl (fun _ _ => ?_)
    rw [show (List.replicate (a.size + 1 - u) (Value.slice none 0 0) ++ vs).set (zi : Int).toNat (Value.slice (some ⟨bw, 0, none⟩) (b.size + 1) (b.size + 1)) = (List.replicate (a.size + 1 - (u + 1)) (Value.slice none 0 0) ++ ((Value.slice (some ⟨bw, 0, none⟩) (b.size + 1) (b.size + 1)) :: vs)) from by rw [show (zi : Int).toNat = a.size + 1 - (u + 1) by omega, show a.size + 1 - u = (a.size + 1 - (u + 1)) + 1 by omega]; exact set_row]
    refine s_nil ?_
    refine g_then ?_
    refine g_seq ?_
    refine g_region ?_
    refine s_y (y_move rfl) rfl rfl rfl rfl ?_
    refine s_y (y_lens rfl Try.underlying9) rfl rfl rfl rfl ?_
    refine s_y (y_assign rfl) rfl rfl rfl rfl ?_
    refine s_nil ?_
    refine g_then ?_
    refine g_block ?_
    refine g_loop (fun (v_ : Nat) act W => v_ ≤ b.size + 1 ∧ ∃ (zj : Int) (zs : List ByteArray) (w1 : World), (zj = (b.size : Int) - (v_ : Int)) ∧ (zs.length = b.size + 1) ∧ (∀ y : Int, zj < y → y ≤ b.size → rdS zs y = jnP a b zi y) ∧ Has 148 [] [(0, .string a), (1, .string b), (4, .string (⟨#[]⟩ : ByteArray)), (5, .slice (some ⟨bo, 0, none⟩) (a.size + 1) (a.size + 1)), (6, .int .i64 zi), (7, .int .i64 zj), (16, .int .i64 zi), (17, .bool (decide (zi ≥ 0))), (20, .slice (some ⟨bo, 0, none⟩) (a.size + 1) (a.size + 1)), (21, .int .i64 zi), (22, .string b), (23, .int .i64 b.size), (24, .int .i64 (b.size + 1)), (25, .slice (some ⟨bw, 0, none⟩) (b.size + 1) (b.size + 1)), (26, .pointer (some ⟨bo, (zi : Int).toNat, none⟩)), (27, .string b), (28, .int .i64 b.size)] act ∧ Hp w w1 ((bw, .cells (zs.map Value.string ++ []).toArray 9 (0, 0)) :: (bo, .cells ((List.replicate (a.size + 1 - (u + 1)) (Value.slice none 0 0) ++ ((Value.slice (some ⟨bw, 0, none⟩) (b.size + 1) (b.size + 1)) :: vs)).map encV ++ []).toArray 45 (0, 0)) :: (Ms ++ ([]))) W) (fun v_ => b.size + 1 - v_) 0 (fun act W ha hw => ⟨by omega, (b.size : Int), List.replicate (b.size + 1) ByteArray.empty, W, (by simp), (by simp), (by intro y h1 h2; omega), ha.weak (sub_get ⟨rfl, rfl, rfl, rfl, rfl, rfl, rfl, rfl, rfl, rfl, rfl, rfl, rfl, rfl, rfl, rfl, rfl, trivial⟩), hw.toHq.lookSub (List.Sublist.refl _)⟩) ?_
    intro v_ act W ⟨hb_v_, zj, zs, w1, hzj, hzl, hzs, ha, hw⟩
    refine g_go ha hw ?_
    clear ha hw act W
    refine g_seq ?_
    refine g_seq ?_
    refine g_region ?_
    refine s_y (y_move rfl) rfl rfl rfl rfl ?_
    refine s_y (y_geq rfl rfl) rfl rfl rfl rfl ?_
    refine s_nil ?_
    refine g_then ?_
    refine g_cond rfl (fun cq2 => ?_) (fun cq2 => ?_)
    · (try simp at cq2)
      refine g_skip ?_
      refine g_then ?_
      refine g_seq ?_
      refine g_block ?_
      refine g_block ?_
      refine g_seq ?_
      refine g_region ?_
      refine s_y (y_move rfl) rfl rfl rfl rfl ?_
      refine s_y (y_move rfl) rfl rfl rfl rfl ?_
      refine s_y (y_lens rfl Try.underlying9) rfl rfl rfl rfl ?_
      refine s_y (y_eql rfl rfl) rfl rfl rfl rfl ?_
      refine s_y (y_assign rfl) rfl rfl rfl rfl ?_
      refine s_nil ?_
      refine g_then ?_
      refine g_cond rfl (fun cq3 => ?_) (fun cq3 => ?_)
      · (try simp at cq3)
        refine g_draw 9 (by kernel_rfl) ?_
        refine j_p (i := 0) rfl (y_move rfl) (by kernel_rfl) (by kernel_rfl) (by kernel_rfl) rfl rfl rfl rfl rfl (.inr (fun _ h => h)) ?_
        refine j_p (i := 1) rfl (y_move rfl) (by kernel_rfl) (by kernel_rfl) (by kernel_rfl) rfl rfl rfl rfl rfl (.inr (fun _ h => h)) ?_
        refine j_p (i := 2) rfl (y_idxb1 rfl rfl Try.underlying116 size_45 (by omega) (by omega)) (by kernel_rfl) (by kernel_rfl) (by kernel_rfl) rfl rfl rfl rfl rfl (.inr (fun _ h => h)) ?_
        refine j_l (i := 3) rfl (y_ldL (enc := encV) (xs := (List.replicate (a.size + 1 - (u + 1)) (Value.slice none 0 0) ++ ((Value.slice (some ⟨bw, 0, none⟩) (b.size + 1) (b.size + 1)) :: vs))) (jk := []) 1 rfl rfl agg_45 (rdVal_at (by omega) (by simp; omega))) (by kernel_rfl) (by kernel_rfl) (by kernel_rfl) (by kernel_rfl) rfl rfl rfl rfl rfl (.inr (fun _ h => h)) ?_
        rw [show rdVal (List.replicate (a.size + 1 - (u + 1)) (Value.slice none 0 0) ++ ((Value.slice (some ⟨bw, 0, none⟩) (b.size + 1) (b.size + 1)) :: vs)) zi = (Value.slice (some ⟨bw, 0, none⟩) (b.size + 1) (b.size + 1)) from by rw [show zi = ((a.size + 1 - (u + 1) : Nat) : Int) by omega]; exact rd_rowA]
        refine j_p (i := 4) rfl (y_move rfl) (by kernel_rfl) (by kernel_rfl) (by kernel_rfl) rfl rfl rfl rfl rfl (.inr (fun _ h => h)) ?_
        refine j_p (i := 5) rfl (y_move rfl) (by kernel_rfl) (by kernel_rfl) (by kernel_rfl) rfl rfl rfl rfl rfl (.inr (fun _ h => h)) ?_
        refine j_p (i := 6) rfl (y_move rfl) (by kernel_rfl) (by kernel_rfl) (by kernel_rfl) rfl rfl rfl rfl rfl (.inr (fun _ h => h)) ?_
        refine j_p (i := 7) rfl (y_strl rfl rfl Try.underlying9 (by omega) (by omega)) (by kernel_rfl) (by kernel_rfl) (by kernel_rfl) rfl rfl rfl rfl rfl (.inr (fun _ h => h)) ?_
        rw [show b.extract (zj : Int).toNat b.size = jnP a b zi zj from by rw [show zi = (a.size : Int) by omega]; exact (jnP_endA (by omega) (by omega)).symm]
        refine j_p (i := 8) rfl (y_idxb1 rfl rfl Try.underlying45 size_9 (by omega) (by omega)) (by kernel_rfl) (by kernel_rfl) (by kernel_rfl) rfl rfl rfl rfl rfl (.inr (fun _ h => h)) ?_
        refine j_tr0 (i := 9) rfl (t_storeL (enc := Value.string) (v := jnP a b zi zj) (xs := zs) (jk := []) 0 rfl rfl rfl rfl rfl size_9 (by omega)) (by kernel_rfl) rfl rfl rfl (.inl rfl) (fun _ _ => ?_)
        refine j_nil (by kernel_rfl) ?_
        refine g_inb ?_
        refine g_inb ?_
        refine g_then ?_
        refine g_region ?_
        refine s_y (y_move rfl) rfl rfl rfl rfl ?_
        refine s_y (y_sub rfl rfl (by omega) (by omega)) rfl rfl rfl rfl ?_
        refine s_y (y_assign rfl) rfl rfl rfl rfl ?_
        refine s_nil ?_
        refine g_then ?_
        exact fun act W ha hw => ⟨v_ + 1, by omega, by omega, (zj - 1), (zs.set ((zj : Int).toNat) (jnP a b zi zj)), W, (by omega), (by simp; omega), (by intro y h1 h2; rw [rdS_setJ (by omega) (by omega) (by omega)]; by_cases c : zj = y; rw [if_pos c, c]; rw [if_neg c]; exact hzs y (by omega) h2), ha.weak (sub_get ⟨rfl, rfl, rfl, rfl, rfl, rfl, rfl, rfl, rfl, rfl, rfl, rfl, rfl, rfl, rfl, rfl, rfl, trivial⟩), hw.toHq.lookSub (List.Sublist.refl _)⟩
      · (try simp at cq3)
        refine g_seq ?_
        refine g_region ?_
        refine s_y (y_move rfl) rfl rfl rfl rfl ?_
        refine s_y (y_move rfl) rfl rfl rfl rfl ?_
        refine s_y (y_lens rfl Try.underlying9) rfl rfl rfl rfl ?_
        refine s_y (y_eql rfl rfl) rfl rfl rfl rfl ?_
        refine s_y (y_assign rfl) rfl rfl rfl rfl ?_
        refine s_nil ?_
        refine g_then ?_
        refine g_cond rfl (fun cq4 => ?_) (fun cq4 => ?_)
        · (try simp at cq4)
          refine g_draw 9 (by kernel_rfl) ?_
          refine j_p (i := 0) rfl (y_move rfl) (by kernel_rfl) (by kernel_rfl) (by kernel_rfl) rfl rfl rfl rfl rfl (.inr (fun _ h => h)) ?_
          refine j_p (i := 1) rfl (y_move rfl) (by kernel_rfl) (by kernel_rfl) (by kernel_rfl) rfl rfl rfl rfl rfl (.inr (fun _ h => h)) ?_
          refine j_p (i := 2) rfl (y_idxb1 rfl rfl Try.underlying116 size_45 (by omega) (by omega)) (by kernel_rfl) (by kernel_rfl) (by kernel_rfl) rfl rfl rfl rfl rfl (.inr (fun _ h => h)) ?_
          refine j_l (i := 3) rfl (y_ldL (enc := encV) (xs := (List.replicate (a.size + 1 - (u + 1)) (Value.slice none 0 0) ++ ((Value.slice (some ⟨bw, 0, none⟩) (b.size + 1) (b.size + 1)) :: vs))) (jk := []) 1 rfl rfl agg_45 (rdVal_at (by omega) (by simp; omega))) (by kernel_rfl) (by kernel_rfl) (by kernel_rfl) (by kernel_rfl) rfl rfl rfl rfl rfl (.inr (fun _ h => h)) ?_
          rw [show rdVal (List.replicate (a.size + 1 - (u + 1)) (Value.slice none 0 0) ++ ((Value.slice (some ⟨bw, 0, none⟩) (b.size + 1) (b.size + 1)) :: vs)) zi = (Value.slice (some ⟨bw, 0, none⟩) (b.size + 1) (b.size + 1)) from by rw [show zi = ((a.size + 1 - (u + 1) : Nat) : Int) by omega]; exact rd_rowA]
          refine j_p (i := 4) rfl (y_move rfl) (by kernel_rfl) (by kernel_rfl) (by kernel_rfl) rfl rfl rfl rfl rfl (.inr (fun _ h => h)) ?_
          refine j_p (i := 5) rfl (y_move rfl) (by kernel_rfl) (by kernel_rfl) (by kernel_rfl) rfl rfl rfl rfl rfl (.inr (fun _ h => h)) ?_
          refine j_p (i := 6) rfl (y_move rfl) (by kernel_rfl) (by kernel_rfl) (by kernel_rfl) rfl rfl rfl rfl rfl (.inr (fun _ h => h)) ?_
          refine j_p (i := 7) rfl (y_strl rfl rfl Try.underlying9 (by omega) (by omega)) (by kernel_rfl) (by kernel_rfl) (by kernel_rfl) rfl rfl rfl rfl rfl (.inr (fun _ h => h)) ?_
          rw [show a.extract (zi : Int).toNat a.size = jnP a b zi zj from by rw [show zj = (b.size : Int) by omega]; exact (jnP_endB (by omega) (by omega)).symm]
          refine j_p (i := 8) rfl (y_idxb1 rfl rfl Try.underlying45 size_9 (by omega) (by omega)) (by kernel_rfl) (by kernel_rfl) (by kernel_rfl) rfl rfl rfl rfl rfl (.inr (fun _ h => h)) ?_
          refine j_tr0 (i := 9) rfl (t_storeL (enc := Value.string) (v := jnP a b zi zj) (xs := zs) (jk := []) 0 rfl rfl rfl rfl rfl size_9 (by omega)) (by kernel_rfl) rfl rfl rfl (.inl rfl) (fun _ _ => ?_)
          refine j_nil (by kernel_rfl) ?_
          refine g_inb ?_
          refine g_inb ?_
          refine g_then ?_
          refine g_region ?_
          refine s_y (y_move rfl) rfl rfl rfl rfl ?_
          refine s_y (y_sub rfl rfl (by omega) (by omega)) rfl rfl rfl rfl ?_
          refine s_y (y_assign rfl) rfl rfl rfl rfl ?_
          refine s_nil ?_
          refine g_then ?_
          exact fun act W ha hw => ⟨v_ + 1, by omega, by omega, (zj - 1), (zs.set ((zj : Int).toNat) (jnP a b zi zj)), W, (by omega), (by simp; omega), (by intro y h1 h2; rw [rdS_setJ (by omega) (by omega) (by omega)]; by_cases c : zj = y; rw [if_pos c, c]; rw [if_neg c]; exact hzs y (by omega) h2), ha.weak (sub_get ⟨rfl, rfl, rfl, rfl, rfl, rfl, rfl, rfl, rfl, rfl, rfl, rfl, rfl, rfl, rfl, rfl, rfl, trivial⟩), hw.toHq.lookSub (List.Sublist.refl _)⟩
        · (try simp at cq4)
          refine g_seq ?_
          refine g_draw 8 (by kernel_rfl) ?_
          refine j_p (i := 0) rfl (y_move rfl) (by kernel_rfl) (by kernel_rfl) (by kernel_rfl) rfl rfl rfl rfl rfl (.inr (fun _ h => h)) ?_
          refine j_p (i := 1) rfl (y_move rfl) (by kernel_rfl) (by kernel_rfl) (by kernel_rfl) rfl rfl rfl rfl rfl (.inr (fun _ h => h)) ?_
          refine j_p (i := 2) rfl (y_idxs rfl rfl Try.underlying9 (by omega) (by omega)) (by kernel_rfl) (by kernel_rfl) (by kernel_rfl) rfl rfl rfl rfl rfl (.inr (fun _ h => h)) ?_
          refine j_p (i := 3) rfl (y_move rfl) (by kernel_rfl) (by kernel_rfl) (by kernel_rfl) rfl rfl rfl rfl rfl (.inr (fun _ h => h)) ?_
          refine j_p (i := 4) rfl (y_move rfl) (by kernel_rfl) (by kernel_rfl) (by kernel_rfl) rfl rfl rfl rfl rfl (.inr (fun _ h => h)) ?_
          refine j_p (i := 5) rfl (y_idxs rfl rfl Try.underlying9 (by omega) (by omega)) (by kernel_rfl) (by kernel_rfl) (by kernel_rfl) rfl rfl rfl rfl rfl (.inr (fun _ h => h)) ?_
          refine j_p (i := 6) rfl (y_eql rfl rfl) (by kernel_rfl) (by kernel_rfl) (by kernel_rfl) rfl rfl rfl rfl rfl (.inr (fun _ h => h)) ?_
          refine j_p (i := 7) rfl (y_assign rfl) (by kernel_rfl) (by kernel_rfl) (by kernel_rfl) rfl rfl rfl rfl rfl (.inr (fun _ h => h)) ?_
          refine j_nil (by kernel_rfl) ?_
          refine g_then ?_
          refine g_cond rfl (fun cq5 => ?_) (fun cq5 => ?_)
          · (try simp at cq5)
            have q1 := zs1 (zi + 1) zj (by omega) (by omega) (by omega) (by omega)
            have q2 := zs1 zi (zj + 1) (by omega) (by omega) (by omega) (by omega)
            have q3 := zs1 (zi + 1) (zj + 1) (by omega) (by omega) (by omega) (by omega)
            have hca := cutB_size (a := a) (i := zi) (by omega) (by omega)
            have hcb := cutB_size (a := b) (i := zj) (by omega) (by omega)
            refine g_draw 21 (by kernel_rfl) ?_
            refine j_p (i := 0) rfl (y_move rfl) (by kernel_rfl) (by kernel_rfl) (by kernel_rfl) rfl rfl rfl rfl rfl (.inr (fun _ h => h)) ?_
            refine j_p (i := 1) rfl (y_move rfl) (by kernel_rfl) (by kernel_rfl) (by kernel_rfl) rfl rfl rfl rfl rfl (.inr (fun _ h => h)) ?_
            refine j_p (i := 2) rfl (y_idxb1 rfl rfl Try.underlying116 size_45 (by omega) (by omega)) (by kernel_rfl) (by kernel_rfl) (by kernel_rfl) rfl rfl rfl rfl rfl (.inr (fun _ h => h)) ?_
            refine j_l (i := 3) rfl (y_ldL (enc := encV) (xs := (List.replicate (a.size + 1 - (u + 1)) (Value.slice none 0 0) ++ ((Value.slice (some ⟨bw, 0, none⟩) (b.size + 1) (b.size + 1)) :: vs))) (jk := []) 1 rfl rfl agg_45 (rdVal_at (by omega) (by simp; omega))) (by kernel_rfl) (by kernel_rfl) (by kernel_rfl) (by kernel_rfl) rfl rfl rfl rfl rfl (.inr (fun _ h => h)) ?_
            rw [show rdVal (List.replicate (a.size + 1 - (u + 1)) (Value.slice none 0 0) ++ ((Value.slice (some ⟨bw, 0, none⟩) (b.size + 1) (b.size + 1)) :: vs)) zi = (Value.slice (some ⟨bw, 0, none⟩) (b.size + 1) (b.size + 1)) from by rw [show zi = ((a.size + 1 - (u + 1) : Nat) : Int) by omega]; exact rd_rowA]
            refine j_p (i := 4) rfl (y_move rfl) (by kernel_rfl) (by kernel_rfl) (by kernel_rfl) rfl rfl rfl rfl rfl (.inr (fun _ h => h)) ?_
            refine j_p (i := 5) rfl (y_move rfl) (by kernel_rfl) (by kernel_rfl) (by kernel_rfl) rfl rfl rfl rfl rfl (.inr (fun _ h => h)) ?_
            refine j_p (i := 6) rfl (y_move rfl) (by kernel_rfl) (by kernel_rfl) (by kernel_rfl) rfl rfl rfl rfl rfl (.inr (fun _ h => h)) ?_
            refine j_p (i := 7) rfl (y_move rfl) (by kernel_rfl) (by kernel_rfl) (by kernel_rfl) rfl rfl rfl rfl rfl (.inr (fun _ h => h)) ?_
            refine j_p (i := 8) rfl (y_add rfl rfl (by omega) (by omega)) (by kernel_rfl) (by kernel_rfl) (by kernel_rfl) rfl rfl rfl rfl rfl (.inr (fun _ h => h)) ?_
            refine j_p (i := 9) rfl (y_strlh rfl rfl rfl Try.underlying9 (by omega) (by omega) (by omega)) (by kernel_rfl) (by kernel_rfl) (by kernel_rfl) rfl rfl rfl rfl rfl (.inr (fun _ h => h)) ?_
            rw [show a.extract (zi : Int).toNat (zi + 1 : Int).toNat = cutB a zi from rfl]
            refine j_p (i := 10) rfl (y_move rfl) (by kernel_rfl) (by kernel_rfl) (by kernel_rfl) rfl rfl rfl rfl rfl (.inr (fun _ h => h)) ?_
            refine j_p (i := 11) rfl (y_move rfl) (by kernel_rfl) (by kernel_rfl) (by kernel_rfl) rfl rfl rfl rfl rfl (.inr (fun _ h => h)) ?_
            refine j_p (i := 12) rfl (y_add rfl rfl (by omega) (by omega)) (by kernel_rfl) (by kernel_rfl) (by kernel_rfl) rfl rfl rfl rfl rfl (.inr (fun _ h => h)) ?_
            refine j_p (i := 13) rfl (y_idxb1 rfl rfl Try.underlying116 size_45 (by omega) (by omega)) (by kernel_rfl) (by kernel_rfl) (by kernel_rfl) rfl rfl rfl rfl rfl (.inr (fun _ h => h)) ?_
            refine j_l (i := 14) rfl (y_ldL (enc := encV) (xs := (List.replicate (a.size + 1 - (u + 1)) (Value.slice none 0 0) ++ ((Value.slice (some ⟨bw, 0, none⟩) (b.size + 1) (b.size + 1)) :: vs))) (jk := []) 1 rfl rfl agg_45 (rdVal_at (by omega) (by simp; omega))) (by kernel_rfl) (by kernel_rfl) (by kernel_rfl) (by kernel_rfl) rfl rfl rfl rfl rfl (.inr (fun _ h => h)) ?_
            rw [show rdVal (List.replicate (a.size + 1 - (u + 1)) (Value.slice none 0 0) ++ ((Value.slice (some ⟨bw, 0, none⟩) (b.size + 1) (b.size + 1)) :: vs)) (zi + 1) = rdVal vs ((0 : Nat) : Int) from by rw [show zi + 1 = ((a.size + 1 - (u + 1) : Nat) : Int) + 1 + ((0 : Nat) : Int) by omega]; exact rd_rowB]
            have hr0l := rowW_len (jnP a b) b.size (zi + 1)
            have hr0 : OwnV Value.string (rdVal vs ((0 : Nat) : Int)) (rowW (jnP a b) b.size (zi + 1)) Ms := by have h_ := hrows 0 (by omega); rwa [show zi + 1 + ((0 : Nat) : Int) = zi + 1 by omega] at h_
            refine j_p (i := 15) rfl (y_move rfl) (by kernel_rfl) (by kernel_rfl) (by kernel_rfl) rfl rfl rfl rfl rfl (.inr (fun _ h => h)) ?_
            refine j_p (i := 16) rfl (y_add rfl rfl (by omega) (by omega)) (by kernel_rfl) (by kernel_rfl) (by kernel_rfl) rfl rfl rfl rfl rfl (.inr (fun _ h => h)) ?_
            refine j_p (i := 17) rfl (y_idxO (enc := Value.string) rfl rfl hr0 hEs Try.underlying45 size_9 (by omega) (by omega)) (by kernel_rfl) (by kernel_rfl) (by kernel_rfl) rfl rfl rfl rfl rfl (.inr (fun _ h => h)) ?_
            refine j_l (i := 18) rfl (y_ldV (enc := Value.string) (xs := (rowW (jnP a b) b.size (zi + 1))) (fun w h => (hr0.rd fun p hp => h.at_ p (List.mem_cons_of_mem _ (List.mem_cons_of_mem _ (mem_al Ms hp)))).rdl) rfl agg_9 (rdS_at (by omega) (by omega))) (by kernel_rfl) (by kernel_rfl) (by kernel_rfl) (by kernel_rfl) rfl rfl rfl rfl rfl (.inr (fun _ h => h)) ?_
            rw [show rdS (rowW (jnP a b) b.size (zi + 1)) (zj + 1) = jnP a b (zi + 1) (zj + 1) from rowW_at (by omega) (by omega)]
            refine j_p (i := 19) rfl (y_sadd rfl rfl (by omega)) (by kernel_rfl) (by kernel_rfl) (by kernel_rfl) rfl rfl rfl rfl rfl (.inr (fun _ h => h)) ?_
            rw [show (cutB a zi) ++ (jnP a b (zi + 1) (zj + 1)) = jnP a b zi zj from by rw [jnP_rec (a := a) (b := b) (i := zi) (j := zj) (by omega) (by omega) (by omega) (by omega), if_pos (by assumption)]]
            refine j_p (i := 20) rfl (y_idxb1 rfl rfl Try.underlying45 size_9 (by omega) (by omega)) (by kernel_rfl) (by kernel_rfl) (by kernel_rfl) rfl rfl rfl rfl rfl (.inr (fun _ h => h)) ?_
            refine j_tr0 (i := 21) rfl (t_storeL (enc := Value.string) (v := jnP a b zi zj) (xs := zs) (jk := []) 0 rfl rfl rfl rfl rfl size_9 (by omega)) (by kernel_rfl) rfl rfl rfl (.inl rfl) (fun _ _ => ?_)
            refine j_nil (by kernel_rfl) ?_
            refine g_inb ?_
            refine g_inb ?_
            refine g_then ?_
            refine g_region ?_
            refine s_y (y_move rfl) rfl rfl rfl rfl ?_
            refine s_y (y_sub rfl rfl (by omega) (by omega)) rfl rfl rfl rfl ?_
            refine s_y (y_assign rfl) rfl rfl rfl rfl ?_
            refine s_nil ?_
            refine g_then ?_
            exact fun act W ha hw => ⟨v_ + 1, by omega, by omega, (zj - 1), (zs.set ((zj : Int).toNat) (jnP a b zi zj)), W, (by omega), (by simp; omega), (by intro y h1 h2; rw [rdS_setJ (by omega) (by omega) (by omega)]; by_cases c : zj = y; rw [if_pos c, c]; rw [if_neg c]; exact hzs y (by omega) h2), ha.weak (sub_get ⟨rfl, rfl, rfl, rfl, rfl, rfl, rfl, rfl, rfl, rfl, rfl, rfl, rfl, rfl, rfl, rfl, rfl, trivial⟩), hw.toHq.lookSub (List.Sublist.refl _)⟩
          · (try simp at cq5)
            refine g_seq ?_
            have q1 := zs1 (zi + 1) zj (by omega) (by omega) (by omega) (by omega)
            have q2 := zs1 zi (zj + 1) (by omega) (by omega) (by omega) (by omega)
            have q3 := zs1 (zi + 1) (zj + 1) (by omega) (by omega) (by omega) (by omega)
            have hca := cutB_size (a := a) (i := zi) (by omega) (by omega)
            have hcb := cutB_size (a := b) (i := zj) (by omega) (by omega)
            refine g_draw 30 (by kernel_rfl) ?_
            refine j_p (i := 0) rfl (y_move rfl) (by kernel_rfl) (by kernel_rfl) (by kernel_rfl) rfl rfl rfl rfl rfl (.inr (fun _ h => h)) ?_
            refine j_p (i := 1) rfl (y_move rfl) (by kernel_rfl) (by kernel_rfl) (by kernel_rfl) rfl rfl rfl rfl rfl (.inr (fun _ h => h)) ?_
            refine j_p (i := 2) rfl (y_move rfl) (by kernel_rfl) (by kernel_rfl) (by kernel_rfl) rfl rfl rfl rfl rfl (.inr (fun _ h => h)) ?_
            refine j_p (i := 3) rfl (y_add rfl rfl (by omega) (by omega)) (by kernel_rfl) (by kernel_rfl) (by kernel_rfl) rfl rfl rfl rfl rfl (.inr (fun _ h => h)) ?_
            refine j_p (i := 4) rfl (y_strlh rfl rfl rfl Try.underlying9 (by omega) (by omega) (by omega)) (by kernel_rfl) (by kernel_rfl) (by kernel_rfl) rfl rfl rfl rfl rfl (.inr (fun _ h => h)) ?_
            rw [show a.extract (zi : Int).toNat (zi + 1 : Int).toNat = cutB a zi from rfl]
            refine j_p (i := 5) rfl (y_move rfl) (by kernel_rfl) (by kernel_rfl) (by kernel_rfl) rfl rfl rfl rfl rfl (.inr (fun _ h => h)) ?_
            refine j_p (i := 6) rfl (y_move rfl) (by kernel_rfl) (by kernel_rfl) (by kernel_rfl) rfl rfl rfl rfl rfl (.inr (fun _ h => h)) ?_
            refine j_p (i := 7) rfl (y_add rfl rfl (by omega) (by omega)) (by kernel_rfl) (by kernel_rfl) (by kernel_rfl) rfl rfl rfl rfl rfl (.inr (fun _ h => h)) ?_
            refine j_p (i := 8) rfl (y_idxb1 rfl rfl Try.underlying116 size_45 (by omega) (by omega)) (by kernel_rfl) (by kernel_rfl) (by kernel_rfl) rfl rfl rfl rfl rfl (.inr (fun _ h => h)) ?_
            refine j_l (i := 9) rfl (y_ldL (enc := encV) (xs := (List.replicate (a.size + 1 - (u + 1)) (Value.slice none 0 0) ++ ((Value.slice (some ⟨bw, 0, none⟩) (b.size + 1) (b.size + 1)) :: vs))) (jk := []) 1 rfl rfl agg_45 (rdVal_at (by omega) (by simp; omega))) (by kernel_rfl) (by kernel_rfl) (by kernel_rfl) (by kernel_rfl) rfl rfl rfl rfl rfl (.inr (fun _ h => h)) ?_
            rw [show rdVal (List.replicate (a.size + 1 - (u + 1)) (Value.slice none 0 0) ++ ((Value.slice (some ⟨bw, 0, none⟩) (b.size + 1) (b.size + 1)) :: vs)) (zi + 1) = rdVal vs ((0 : Nat) : Int) from by rw [show zi + 1 = ((a.size + 1 - (u + 1) : Nat) : Int) + 1 + ((0 : Nat) : Int) by omega]; exact rd_rowB]
            have hr0l := rowW_len (jnP a b) b.size (zi + 1)
            have hr0 : OwnV Value.string (rdVal vs ((0 : Nat) : Int)) (rowW (jnP a b) b.size (zi + 1)) Ms := by have h_ := hrows 0 (by omega); rwa [show zi + 1 + ((0 : Nat) : Int) = zi + 1 by omega] at h_
            refine j_p (i := 10) rfl (y_move rfl) (by kernel_rfl) (by kernel_rfl) (by kernel_rfl) rfl rfl rfl rfl rfl (.inr (fun _ h => h)) ?_
            refine j_p (i := 11) rfl (y_idxO (enc := Value.string) rfl rfl hr0 hEs Try.underlying45 size_9 (by omega) (by omega)) (by kernel_rfl) (by kernel_rfl) (by kernel_rfl) rfl rfl rfl rfl rfl (.inr (fun _ h => h)) ?_
            refine j_l (i := 12) rfl (y_ldV (enc := Value.string) (xs := (rowW (jnP a b) b.size (zi + 1))) (fun w h => (hr0.rd fun p hp => h.at_ p (List.mem_cons_of_mem _ (List.mem_cons_of_mem _ (mem_al Ms hp)))).rdl) rfl agg_9 (rdS_at (by omega) (by omega))) (by kernel_rfl) (by kernel_rfl) (by kernel_rfl) (by kernel_rfl) rfl rfl rfl rfl rfl (.inr (fun _ h => h)) ?_
            rw [show rdS (rowW (jnP a b) b.size (zi + 1)) (zj) = jnP a b (zi + 1) (zj) from rowW_at (by omega) (by omega)]
            refine j_p (i := 13) rfl (y_sadd rfl rfl (by omega)) (by kernel_rfl) (by kernel_rfl) (by kernel_rfl) rfl rfl rfl rfl rfl (.inr (fun _ h => h)) ?_
            refine j_p (i := 14) rfl (y_move rfl) (by kernel_rfl) (by kernel_rfl) (by kernel_rfl) rfl rfl rfl rfl rfl (.inr (fun _ h => h)) ?_
            refine j_p (i := 15) rfl (y_move rfl) (by kernel_rfl) (by kernel_rfl) (by kernel_rfl) rfl rfl rfl rfl rfl (.inr (fun _ h => h)) ?_
            refine j_p (i := 16) rfl (y_move rfl) (by kernel_rfl) (by kernel_rfl) (by kernel_rfl) rfl rfl rfl rfl rfl (.inr (fun _ h => h)) ?_
            refine j_p (i := 17) rfl (y_add rfl rfl (by omega) (by omega)) (by kernel_rfl) (by kernel_rfl) (by kernel_rfl) rfl rfl rfl rfl rfl (.inr (fun _ h => h)) ?_
            refine j_p (i := 18) rfl (y_strlh rfl rfl rfl Try.underlying9 (by omega) (by omega) (by omega)) (by kernel_rfl) (by kernel_rfl) (by kernel_rfl) rfl rfl rfl rfl rfl (.inr (fun _ h => h)) ?_
            rw [show b.extract (zj : Int).toNat (zj + 1 : Int).toNat = cutB b zj from rfl]
            refine j_p (i := 19) rfl (y_move rfl) (by kernel_rfl) (by kernel_rfl) (by kernel_rfl) rfl rfl rfl rfl rfl (.inr (fun _ h => h)) ?_
            refine j_p (i := 20) rfl (y_move rfl) (by kernel_rfl) (by kernel_rfl) (by kernel_rfl) rfl rfl rfl rfl rfl (.inr (fun _ h => h)) ?_
            refine j_p (i := 21) rfl (y_idxb1 rfl rfl Try.underlying116 size_45 (by omega) (by omega)) (by kernel_rfl) (by kernel_rfl) (by kernel_rfl) rfl rfl rfl rfl rfl (.inr (fun _ h => h)) ?_
            refine j_l (i := 22) rfl (y_ldL (enc := encV) (xs := (List.replicate (a.size + 1 - (u + 1)) (Value.slice none 0 0) ++ ((Value.slice (some ⟨bw, 0, none⟩) (b.size + 1) (b.size + 1)) :: vs))) (jk := []) 1 rfl rfl agg_45 (rdVal_at (by omega) (by simp; omega))) (by kernel_rfl) (by kernel_rfl) (by kernel_rfl) (by kernel_rfl) rfl rfl rfl rfl rfl (.inr (fun _ h => h)) ?_
            rw [show rdVal (List.replicate (a.size + 1 - (u + 1)) (Value.slice none 0 0) ++ ((Value.slice (some ⟨bw, 0, none⟩) (b.size + 1) (b.size + 1)) :: vs)) zi = (Value.slice (some ⟨bw, 0, none⟩) (b.size + 1) (b.size + 1)) from by rw [show zi = ((a.size + 1 - (u + 1) : Nat) : Int) by omega]; exact rd_rowA]
            refine j_p (i := 23) rfl (y_move rfl) (by kernel_rfl) (by kernel_rfl) (by kernel_rfl) rfl rfl rfl rfl rfl (.inr (fun _ h => h)) ?_
            refine j_p (i := 24) rfl (y_add rfl rfl (by omega) (by omega)) (by kernel_rfl) (by kernel_rfl) (by kernel_rfl) rfl rfl rfl rfl rfl (.inr (fun _ h => h)) ?_
            refine j_p (i := 25) rfl (y_idxb1 rfl rfl Try.underlying45 size_9 (by omega) (by omega)) (by kernel_rfl) (by kernel_rfl) (by kernel_rfl) rfl rfl rfl rfl rfl (.inr (fun _ h => h)) ?_
            refine j_l (i := 26) rfl (y_ldL (enc := Value.string) (xs := zs) (jk := []) 0 rfl rfl agg_9 (rdS_at (by omega) (by omega))) (by kernel_rfl) (by kernel_rfl) (by kernel_rfl) (by kernel_rfl) rfl rfl rfl rfl rfl (.inr (fun _ h => h)) ?_
            rw [show rdS zs (zj + 1) = jnP a b zi (zj + 1) from hzs _ (by omega) (by omega)]
            refine j_p (i := 27) rfl (y_sadd rfl rfl (by omega)) (by kernel_rfl) (by kernel_rfl) (by kernel_rfl) rfl rfl rfl rfl rfl (.inr (fun _ h => h)) ?_
            refine j_p (i := 28) rfl (y_assign rfl) (by kernel_rfl) (by kernel_rfl) (by kernel_rfl) rfl rfl rfl rfl rfl (.inr (fun _ h => h)) ?_
            refine j_p (i := 29) rfl (y_assign rfl) (by kernel_rfl) (by kernel_rfl) (by kernel_rfl) rfl rfl rfl rfl rfl (.inr (fun _ h => h)) ?_
            refine j_nil (by kernel_rfl) ?_
            refine g_then ?_
            refine g_seq ?_
            refine g_seq ?_
            have hz1 := app_size (cutB a zi) (jnP a b (zi + 1) zj)
            have hz2 := app_size (cutB b zj) (jnP a b zi (zj + 1))
            refine g_region ?_
            refine s_y (y_move rfl) rfl rfl rfl rfl ?_
            refine s_y (y_lens rfl Try.underlying9) rfl rfl rfl rfl ?_
            refine s_y (y_move rfl) rfl rfl rfl rfl ?_
            refine s_y (y_lens rfl Try.underlying9) rfl rfl rfl rfl ?_
            refine s_y (y_lss rfl rfl) rfl rfl rfl rfl ?_
            refine s_y (y_move rfl) rfl rfl rfl rfl ?_
            refine g_bool 66 rfl (fun cq6 => ?_) (fun cq6 => ?_)
            · (try simp at cq6)
              refine s_no rfl rfl rfl ?_
              refine s_no rfl rfl rfl ?_
              refine s_no rfl rfl rfl ?_
              refine s_no rfl rfl rfl ?_
              refine s_no rfl rfl rfl ?_
              refine s_no rfl rfl rfl ?_
              refine s_noU rfl rfl rfl rfl rfl ?_
              refine s_noU rfl rfl rfl rfl rfl ?_
              refine s_noU rfl rfl rfl rfl rfl ?_
              refine s_no rfl rfl rfl ?_
              refine s_y (y_pick_t rfl rfl) rfl rfl rfl rfl ?_
              refine s_nil ?_
              refine g_then ?_
              refine g_cond_t rfl ?_
              refine g_region ?_
              refine s_y (y_move rfl) rfl rfl rfl rfl ?_
              refine s_y (y_assign rfl) rfl rfl rfl rfl ?_
              refine s_nil ?_
              refine g_then ?_
              have hp1 : pickJ (cutB a zi ++ jnP a b (zi + 1) zj) ((cutB b zj) ++ (jnP a b zi (zj + 1))) = ((cutB b zj) ++ (jnP a b zi (zj + 1))) := by first | exact pickJ_gt (by omega) | exact pickJ_lt (by omega) | exact pickJ_et (by omega) (by assumption) | exact pickJ_ef (by omega) (by assumption)
              refine g_region ?_
              refine s_y (y_move rfl) rfl rfl rfl rfl ?_
              refine s_y (y_move rfl) rfl rfl rfl rfl ?_
              refine s_y (y_idxb1 rfl rfl Try.underlying116 size_45 (by omega) (by omega)) rfl rfl rfl rfl ?_
              refine s_y (y_ldL (enc := encV) (xs := (List.replicate (a.size + 1 - (u + 1)) (Value.slice none 0 0) ++ ((Value.slice (some ⟨bw, 0, none⟩) (b.size + 1) (b.size + 1)) :: vs))) (jk := []) 1 rfl rfl agg_45 (rdVal_at (by omega) (by simp; omega))) rfl rfl rfl rfl ?_
              rw [show rdVal (List.replicate (a.size + 1 - (u + 1)) (Value.slice none 0 0) ++ ((Value.slice (some ⟨bw, 0, none⟩) (b.size + 1) (b.size + 1)) :: vs)) zi = (Value.slice (some ⟨bw, 0, none⟩) (b.size + 1) (b.size + 1)) from by rw [show zi = ((a.size + 1 - (u + 1) : Nat) : Int) by omega]; exact rd_rowA]
              refine s_y (y_move rfl) rfl rfl rfl rfl ?_
              refine s_y (y_move rfl) rfl rfl rfl rfl ?_
              rw [show (cutB b zj) ++ (jnP a b zi (zj + 1)) = jnP a b zi zj from by rw [jnP_rec (a := a) (b := b) (i := zi) (j := zj) (by omega) (by omega) (by omega) (by omega), if_neg (by assumption), hp1]]
              refine s_y (y_idxb1 rfl rfl Try.underlying45 size_9 (by omega) (by omega)) rfl rfl rfl rfl ?_
              refine s_tr0 (t_storeL (enc := Value.string) (v := jnP a b zi zj) (xs := zs) (jk := []) 0 rfl rfl rfl rfl rfl size_9 (by omega)) rfl rfl rfl (fun _ _ => ?_)
              refine s_nil ?_
              refine g_inb ?_
              refine g_inb ?_
              refine g_then ?_
              refine g_region ?_
              refine s_y (y_move rfl) rfl rfl rfl rfl ?_
              refine s_y (y_sub rfl rfl (by omega) (by omega)) rfl rfl rfl rfl ?_
              refine s_y (y_assign rfl) rfl rfl rfl rfl ?_
              refine s_nil ?_
              refine g_then ?_
              exact fun act W ha hw => ⟨v_ + 1, by omega, by omega, (zj - 1), (zs.set ((zj : Int).toNat) (jnP a b zi zj)), W, (by omega), (by simp; omega), (by intro y h1 h2; rw [rdS_setJ (by omega) (by omega) (by omega)]; by_cases c : zj = y; rw [if_pos c, c]; rw [if_neg c]; exact hzs y (by omega) h2), ha.weak (sub_get ⟨rfl, rfl, rfl, rfl, rfl, rfl, rfl, rfl, rfl, rfl, rfl, rfl, rfl, rfl, rfl, rfl, rfl, trivial⟩), hw.toHq.lookSub (List.Sublist.refl _)⟩
            · (try simp at cq6)
              refine s_y (y_move rfl) rfl rfl rfl rfl ?_
              refine s_y (y_lens rfl Try.underlying9) rfl rfl rfl rfl ?_
              refine s_y (y_move rfl) rfl rfl rfl rfl ?_
              refine s_y (y_lens rfl Try.underlying9) rfl rfl rfl rfl ?_
              refine s_y (y_eql rfl rfl) rfl rfl rfl rfl ?_
              refine s_y (y_move rfl) rfl rfl rfl rfl ?_
              refine g_bool 72 rfl (fun cq7 => ?_) (fun cq7 => ?_)
              · (try simp at cq7)
                refine s_y (y_move rfl) rfl rfl rfl rfl ?_
                refine s_y (y_move rfl) rfl rfl rfl rfl ?_
                refine s_y (y_slss rfl rfl) rfl rfl rfl rfl ?_
                refine s_y (y_pick_t rfl rfl) rfl rfl rfl rfl ?_
                refine s_y (y_pick_f rfl rfl) rfl rfl rfl rfl ?_
                refine s_nil ?_
                refine g_then ?_
                refine g_cond rfl (fun cq8 => ?_) (fun cq8 => ?_)
                · (try simp at cq8)
                  refine g_region ?_
                  refine s_y (y_move rfl) rfl rfl rfl rfl ?_
                  refine s_y (y_assign rfl) rfl rfl rfl rfl ?_
                  refine s_nil ?_
                  refine g_then ?_
                  have hp1 : pickJ (cutB a zi ++ jnP a b (zi + 1) zj) ((cutB b zj) ++ (jnP a b zi (zj + 1))) = ((cutB b zj) ++ (jnP a b zi (zj + 1))) := by first | exact pickJ_gt (by omega) | exact pickJ_lt (by omega) | exact pickJ_et (by omega) (by assumption) | exact pickJ_ef (by omega) (by assumption)
                  refine g_region ?_
                  refine s_y (y_move rfl) rfl rfl rfl rfl ?_
                  refine s_y (y_move rfl) rfl rfl rfl rfl ?_
                  refine s_y (y_idxb1 rfl rfl Try.underlying116 size_45 (by omega) (by omega)) rfl rfl rfl rfl ?_
                  refine s_y (y_ldL (enc := encV) (xs := (List.replicate (a.size + 1 - (u + 1)) (Value.slice none 0 0) ++ ((Value.slice (some ⟨bw, 0, none⟩) (b.size + 1) (b.size + 1)) :: vs))) (jk := []) 1 rfl rfl agg_45 (rdVal_at (by omega) (by simp; omega))) rfl rfl rfl rfl ?_
                  rw [show rdVal (List.replicate (a.size + 1 - (u + 1)) (Value.slice none 0 0) ++ ((Value.slice (some ⟨bw, 0, none⟩) (b.size + 1) (b.size + 1)) :: vs)) zi = (Value.slice (some ⟨bw, 0, none⟩) (b.size + 1) (b.size + 1)) from by rw [show zi = ((a.size + 1 - (u + 1) : Nat) : Int) by omega]; exact rd_rowA]
                  refine s_y (y_move rfl) rfl rfl rfl rfl ?_
                  refine s_y (y_move rfl) rfl rfl rfl rfl ?_
                  rw [show (cutB b zj) ++ (jnP a b zi (zj + 1)) = jnP a b zi zj from by rw [jnP_rec (a := a) (b := b) (i := zi) (j := zj) (by omega) (by omega) (by omega) (by omega), if_neg (by assumption), hp1]]
                  refine s_y (y_idxb1 rfl rfl Try.underlying45 size_9 (by omega) (by omega)) rfl rfl rfl rfl ?_
                  refine s_tr0 (t_storeL (enc := Value.string) (v := jnP a b zi zj) (xs := zs) (jk := []) 0 rfl rfl rfl rfl rfl size_9 (by omega)) rfl rfl rfl (fun _ _ => ?_)
                  refine s_nil ?_
                  refine g_inb ?_
                  refine g_inb ?_
                  refine g_then ?_
                  refine g_region ?_
                  refine s_y (y_move rfl) rfl rfl rfl rfl ?_
                  refine s_y (y_sub rfl rfl (by omega) (by omega)) rfl rfl rfl rfl ?_
                  refine s_y (y_assign rfl) rfl rfl rfl rfl ?_
                  refine s_nil ?_
                  refine g_then ?_
                  exact fun act W ha hw => ⟨v_ + 1, by omega, by omega, (zj - 1), (zs.set ((zj : Int).toNat) (jnP a b zi zj)), W, (by omega), (by simp; omega), (by intro y h1 h2; rw [rdS_setJ (by omega) (by omega) (by omega)]; by_cases c : zj = y; rw [if_pos c, c]; rw [if_neg c]; exact hzs y (by omega) h2), ha.weak (sub_get ⟨rfl, rfl, rfl, rfl, rfl, rfl, rfl, rfl, rfl, rfl, rfl, rfl, rfl, rfl, rfl, rfl, rfl, trivial⟩), hw.toHq.lookSub (List.Sublist.refl _)⟩
                · (try simp at cq8)
                  refine g_skip ?_
                  refine g_then ?_
                  have hp1 : pickJ (cutB a zi ++ jnP a b (zi + 1) zj) ((cutB b zj) ++ (jnP a b zi (zj + 1))) = ((cutB a zi) ++ (jnP a b (zi + 1) (zj))) := by first | exact pickJ_gt (by omega) | exact pickJ_lt (by omega) | exact pickJ_et (by omega) (by assumption) | exact pickJ_ef (by omega) (by assumption)
                  refine g_region ?_
                  refine s_y (y_move rfl) rfl rfl rfl rfl ?_
                  refine s_y (y_move rfl) rfl rfl rfl rfl ?_
                  refine s_y (y_idxb1 rfl rfl Try.underlying116 size_45 (by omega) (by omega)) rfl rfl rfl rfl ?_
                  refine s_y (y_ldL (enc := encV) (xs := (List.replicate (a.size + 1 - (u + 1)) (Value.slice none 0 0) ++ ((Value.slice (some ⟨bw, 0, none⟩) (b.size + 1) (b.size + 1)) :: vs))) (jk := []) 1 rfl rfl agg_45 (rdVal_at (by omega) (by simp; omega))) rfl rfl rfl rfl ?_
                  rw [show rdVal (List.replicate (a.size + 1 - (u + 1)) (Value.slice none 0 0) ++ ((Value.slice (some ⟨bw, 0, none⟩) (b.size + 1) (b.size + 1)) :: vs)) zi = (Value.slice (some ⟨bw, 0, none⟩) (b.size + 1) (b.size + 1)) from by rw [show zi = ((a.size + 1 - (u + 1) : Nat) : Int) by omega]; exact rd_rowA]
                  refine s_y (y_move rfl) rfl rfl rfl rfl ?_
                  refine s_y (y_move rfl) rfl rfl rfl rfl ?_
                  rw [show (cutB a zi) ++ (jnP a b (zi + 1) (zj)) = jnP a b zi zj from by rw [jnP_rec (a := a) (b := b) (i := zi) (j := zj) (by omega) (by omega) (by omega) (by omega), if_neg (by assumption), hp1]]
                  refine s_y (y_idxb1 rfl rfl Try.underlying45 size_9 (by omega) (by omega)) rfl rfl rfl rfl ?_
                  refine s_tr0 (t_storeL (enc := Value.string) (v := jnP a b zi zj) (xs := zs) (jk := []) 0 rfl rfl rfl rfl rfl size_9 (by omega)) rfl rfl rfl (fun _ _ => ?_)
                  refine s_nil ?_
                  refine g_inb ?_
                  refine g_inb ?_
                  refine g_then ?_
                  refine g_region ?_
                  refine s_y (y_move rfl) rfl rfl rfl rfl ?_
                  refine s_y (y_sub rfl rfl (by omega) (by omega)) rfl rfl rfl rfl ?_
                  refine s_y (y_assign rfl) rfl rfl rfl rfl ?_
                  refine s_nil ?_
                  refine g_then ?_
                  exact fun act W ha hw => ⟨v_ + 1, by omega, by omega, (zj - 1), (zs.set ((zj : Int).toNat) (jnP a b zi zj)), W, (by omega), (by simp; omega), (by intro y h1 h2; rw [rdS_setJ (by omega) (by omega) (by omega)]; by_cases c : zj = y; rw [if_pos c, c]; rw [if_neg c]; exact hzs y (by omega) h2), ha.weak (sub_get ⟨rfl, rfl, rfl, rfl, rfl, rfl, rfl, rfl, rfl, rfl, rfl, rfl, rfl, rfl, rfl, rfl, rfl, trivial⟩), hw.toHq.lookSub (List.Sublist.refl _)⟩
              · (try simp at cq7)
                refine s_no rfl rfl rfl ?_
                refine s_no rfl rfl rfl ?_
                refine s_no rfl rfl rfl ?_
                refine s_y (y_pick_f rfl rfl) rfl rfl rfl rfl ?_
                refine s_y (y_pick_f rfl rfl) rfl rfl rfl rfl ?_
                refine s_nil ?_
                refine g_then ?_
                refine g_cond_f rfl ?_
                refine g_skip ?_
                refine g_then ?_
                have hp1 : pickJ (cutB a zi ++ jnP a b (zi + 1) zj) ((cutB b zj) ++ (jnP a b zi (zj + 1))) = ((cutB a zi) ++ (jnP a b (zi + 1) (zj))) := by first | exact pickJ_gt (by omega) | exact pickJ_lt (by omega) | exact pickJ_et (by omega) (by assumption) | exact pickJ_ef (by omega) (by assumption)
                refine g_region ?_
                refine s_y (y_move rfl) rfl rfl rfl rfl ?_
                refine s_y (y_move rfl) rfl rfl rfl rfl ?_
                refine s_y (y_idxb1 rfl rfl Try.underlying116 size_45 (by omega) (by omega)) rfl rfl rfl rfl ?_
                refine s_y (y_ldL (enc := encV) (xs := (List.replicate (a.size + 1 - (u + 1)) (Value.slice none 0 0) ++ ((Value.slice (some ⟨bw, 0, none⟩) (b.size + 1) (b.size + 1)) :: vs))) (jk := []) 1 rfl rfl agg_45 (rdVal_at (by omega) (by simp; omega))) rfl rfl rfl rfl ?_
                rw [show rdVal (List.replicate (a.size + 1 - (u + 1)) (Value.slice none 0 0) ++ ((Value.slice (some ⟨bw, 0, none⟩) (b.size + 1) (b.size + 1)) :: vs)) zi = (Value.slice (some ⟨bw, 0, none⟩) (b.size + 1) (b.size + 1)) from by rw [show zi = ((a.size + 1 - (u + 1) : Nat) : Int) by omega]; exact rd_rowA]
                refine s_y (y_move rfl) rfl rfl rfl rfl ?_
                refine s_y (y_move rfl) rfl rfl rfl rfl ?_
                rw [show (cutB a zi) ++ (jnP a b (zi + 1) (zj)) = jnP a b zi zj from by rw [jnP_rec (a := a) (b := b) (i := zi) (j := zj) (by omega) (by omega) (by omega) (by omega), if_neg (by assumption), hp1]]
                refine s_y (y_idxb1 rfl rfl Try.underlying45 size_9 (by omega) (by omega)) rfl rfl rfl rfl ?_
                refine s_tr0 (t_storeL (enc := Value.string) (v := jnP a b zi zj) (xs := zs) (jk := []) 0 rfl rfl rfl rfl rfl size_9 (by omega)) rfl rfl rfl (fun _ _ => ?_)
                refine s_nil ?_
                refine g_inb ?_
                refine g_inb ?_
                refine g_then ?_
                refine g_region ?_
                refine s_y (y_move rfl) rfl rfl rfl rfl ?_
                refine s_y (y_sub rfl rfl (by omega) (by omega)) rfl rfl rfl rfl ?_
                refine s_y (y_assign rfl) rfl rfl rfl rfl ?_
                refine s_nil ?_
                refine g_then ?_
                exact fun act W ha hw => ⟨v_ + 1, by omega, by omega, (zj - 1), (zs.set ((zj : Int).toNat) (jnP a b zi zj)), W, (by omega), (by simp; omega), (by intro y h1 h2; rw [rdS_setJ (by omega) (by omega) (by omega)]; by_cases c : zj = y; rw [if_pos c, c]; rw [if_neg c]; exact hzs y (by omega) h2), ha.weak (sub_get ⟨rfl, rfl, rfl, rfl, rfl, rfl, rfl, rfl, rfl, rfl, rfl, rfl, rfl, rfl, rfl, rfl, rfl, trivial⟩), hw.toHq.lookSub (List.Sublist.refl _)⟩
    · (try simp at cq2)
      refine g_exit ?_
      refine g_thenx ?_
      refine g_thenx ?_
      refine g_inbx ?_
      refine g_inb ?_
      refine g_then ?_
      refine g_region ?_
      refine s_y (y_move rfl) rfl rfl rfl rfl ?_
      refine s_y (y_sub rfl rfl (by omega) (by omega)) rfl rfl rfl rfl ?_
      refine s_y (y_assign rfl) rfl rfl rfl rfl ?_
      refine s_nil ?_
      refine g_then ?_
      have hzr : zs = (rowW (jnP a b) b.size zi) := by
        refine rdS_ext (by rw [hzl, rowW_len]) fun y hy => ?_
        rw [rowW_at (by omega) (by omega)]
        exact hzs _ (by omega) (by omega)
      have hall : ∀ q : Nat, q < u + 1 → OwnV Value.string (rdVal ((Value.slice (some ⟨bw, 0, none⟩) (b.size + 1) (b.size + 1)) :: vs) (q : Int)) (rowW (jnP a b) b.size ((zi - 1) + 1 + (q : Int))) ((bw, Obj.cells ((zs.map Value.string) ++ []).toArray 9 (0, 0)) :: Ms) := by
        intro q hq
        cases q with
        | zero =>
          rw [show zi - 1 + 1 + ((0 : Nat) : Int) = zi by omega, ← hzr]
          exact (OwnV.blk (b := bw) (jk := []) (t := 9) hzl.symm (Nat.le_refl _)).mono (fun p hp => by rw [List.mem_singleton] at hp; rw [hp]; exact List.mem_cons_self ..)
        | succ q =>
          rw [show zi - 1 + 1 + ((q + 1 : Nat) : Int) = zi + 1 + (q : Int) by omega, rdVal_cons]
          exact (hrows q (by omega)).mono fun p hp => List.mem_cons_of_mem _ hp
      exact fun act W ha hw => ⟨u + 1, by omega, by omega, (zi - 1), ((Value.slice (some ⟨bw, 0, none⟩) (b.size + 1) (b.size + 1)) :: vs), ((bw, Obj.cells ((zs.map Value.string) ++ []).toArray 9 (0, 0)) :: Ms), W, (by omega), (by simp; omega), (by exact hall), (by exact ⟨W, fun p hp => hw.at_ p (by simp only [List.mem_cons, List.mem_append] at hp ⊢; rcases hp with h_ | h_; exact .inl h_; exact .inr (.inr (.inl h_)))⟩), ha.weak (sub_get ⟨rfl, rfl, rfl, rfl, rfl, trivial⟩), hw.toHq.pick (List.perm_middle (l₁ := [_])) (List.Sublist.refl _)⟩
  · (try simp at cq1)
    refine g_exit ?_
    refine g_thenx ?_
    refine g_thenx ?_
    refine g_inbx ?_
    refine g_then ?_
    refine g_seq ?_
    refine g_region ?_
    refine s_y (y_move rfl) rfl rfl rfl rfl ?_
    refine s_y (y_idxb1 rfl rfl Try.underlying116 size_45 (by omega) (by omega)) rfl rfl rfl rfl ?_
    refine s_y (y_ldL (enc := encV) (xs := (List.replicate (a.size + 1 - u) (Value.slice none 0 0) ++ vs)) (jk := []) 0 rfl rfl agg_45 (rdVal_at (by omega) (by simp; omega))) rfl rfl rfl rfl ?_
    have hr0l := rowW_len (jnP a b) b.size 0
    have hr0 : OwnV Value.string (rdVal vs ((0 : Nat) : Int)) (rowW (jnP a b) b.size 0) Ms := by have h_ := hrows 0 (by omega); rwa [show zi + 1 + ((0 : Nat) : Int) = 0 by omega] at h_
    rw [show rdVal (List.replicate (a.size + 1 - u) (Value.slice none 0 0) ++ vs) 0 = rdVal vs ((0 : Nat) : Int) from by rw [show a.size + 1 - u = 0 by omega]; rfl]
    refine s_y (y_idxO (enc := Value.string) rfl rfl hr0 hEs Try.underlying45 size_9 (by omega) (by omega)) rfl rfl rfl rfl ?_
    refine s_y (y_ldV (enc := Value.string) (xs := (rowW (jnP a b) b.size 0)) (fun w h => (hr0.rd fun p hp => h.at_ p (List.mem_cons_of_mem _ (mem_al Ms hp))).rdl) rfl agg_9 (rdS_at (by omega) (by omega))) rfl rfl rfl rfl ?_
    rw [show rdS (rowW (jnP a b) b.size 0) 0 = jnP a b 0 0 from rowW_at (by omega) (by omega)]
    refine s_y (y_assign rfl) rfl rfl rfl rfl ?_
    refine s_nil ?_
    refine g_then ?_
    refine g_ret ?_
    exact g_end trivial (fun a w ha hq_ => res1 ha rfl rfl  w) (fun w h => ⟨rfl, h.below⟩)

end Go.Proofs.Ytnnpdgegejklpaa
