/- edits: the reference's Heights. -/
import Derived.Test.YtnnpdgegejklpaaEdO
namespace Go.Proofs.Ytnnpdgegejklpaa
open Go.RowKit Go.Sx 
set_option linter.unusedVariables false
set_option linter.unusedSimpArgs false
set_option maxRecDepth 100000
set_option maxHeartbeats 4000000

private theorem sle_66 : Try.prog.underlying 66 = some (.slice (Try.prog.elem 66)) := by kernel_rfl
private theorem size_46 : (Try.prog.info? 46).map (·.size) = some 1 := by kernel_rfl
private theorem agg_46 : isAggB Try.prog 46 = some false := by kernel_rfl
private theorem sle_46 : Try.prog.underlying 46 = some (.slice (Try.prog.elem 46)) := by kernel_rfl
private theorem size_3 : (Try.prog.info? 3).map (·.size) = some 1 := by kernel_rfl
private theorem agg_3 : isAggB Try.prog 3 = some false := by kernel_rfl
private theorem fld_23_1 (b off : Nat) (w : World) : (Instr.fieldAt 23 (.pointer (some ⟨b, off, none⟩)) 1).run Try.prog w = .ok (.pointer (some ⟨b, off + 1, none⟩)) w := by kernel_rfl
private theorem fld_23_0 (b off : Nat) (w : World) : (Instr.fieldAt 23 (.pointer (some ⟨b, off, none⟩)) 0).run Try.prog w = .ok (.pointer (some ⟨b, off, none⟩)) w := by kernel_rfl
private theorem fld_23_2 (b off : Nat) (w : World) : (Instr.fieldAt 23 (.pointer (some ⟨b, off, none⟩)) 2).run Try.prog w = .ok (.pointer (some ⟨b, off + 2, none⟩)) w := by kernel_rfl

theorem step_iff {a b : ByteArray} {pi po ps : Int} {hs : List (List Int)} {p q : Nat} : stepH a b pi po ps hs p q ↔ (((p : Int) < a.size → rdI (rdR hs ((p : Int) + 1)) (q : Int) ≤ rdI (rdR hs (p : Int)) (q : Int) + po) ∧ ((q : Int) < b.size → rdI (rdR hs (p : Int)) ((q : Int) + 1) ≤ rdI (rdR hs (p : Int)) (q : Int) + pi) ∧
    ((p : Int) < a.size → (q : Int) < b.size → rdI (rdR hs ((p : Int) + 1)) ((q : Int) + 1) ≤ rdI (rdR hs (p : Int)) (q : Int) + (if bt a (p : Int) = bt b (q : Int) then 0 else ps))) :=
  ⟨fun h => ⟨fun h1 => h.1 (by omega), fun h1 => h.2.1 (by omega), fun h1 h2 => h.2.2 (by omega) (by omega)⟩, fun h => ⟨fun h1 => h.1 (by omega), fun h1 => h.2.1 (by omega), fun h1 h2 => h.2.2 (by omega) (by omega)⟩⟩
theorem four (p q m n : Int) : (p < m ∧ q < n) ∨ (p < m ∧ ¬ q < n) ∨ (¬ p < m ∧ q < n) ∨ (¬ p < m ∧ ¬ q < n) := by omega

theorem RHeights_ok (w : World) (a b : ByteArray) (pi po ps : Int) (v : Value) (vs : List Value) (hs : List (List Int)) (hh : RdVV w v vs hs) (hlh : hs.length ≤ 9223372036854775807) (hlr : ∀ r ∈ hs, r.length ≤ 9223372036854775807) (ha12 : a.size ≤ 12) (hb12 : b.size ≤ 12) (hok : okP pi po ps) :
    Calls Try.prog 49 [.string a, .string b, .agg #[.int .i64 pi, .int .i64 po, .int .i64 ps], v].toArray w fun e w' => e = .returned (.bool (hgtR a b pi po ps hs).2) ∧ Below w.heap.size w w' := by
  have hvl := hh.len
  obtain ⟨hp1, hp2, hp3⟩ := id hok
  refine enter (N := 159) Try.func49 rfl rfl rfl ?_
  refine g_seq ?_
  refine g_region ?_
  refine s_tr (t_box rfl rfl) rfl rfl rfl rfl (fun b6 hb6 => ?_)
  refine s_y (y_assign rfl) rfl rfl rfl rfl ?_
  refine s_nil ?_
  refine g_then ?_
  refine g_seq ?_
  refine g_seq ?_
  refine g_region ?_
  refine s_y (y_move rfl) rfl rfl rfl rfl ?_
  refine s_y (y_lenV (n := hs.length) rfl hh.shape sle_66) rfl rfl rfl rfl ?_
  refine s_y (y_move rfl) rfl rfl rfl rfl ?_
  refine s_y (y_lens rfl Try.underlying9) rfl rfl rfl rfl ?_
  refine s_y (y_add rfl rfl (by omega) (by omega)) rfl rfl rfl rfl ?_
  refine s_y (y_neq rfl rfl) rfl rfl rfl rfl ?_
  refine s_nil ?_
  refine g_then ?_
  refine g_cond rfl (fun cq1 => ?_) (fun cq1 => ?_)
  · (try simp at cq1)
    refine g_seq ?_
    refine g_region ?_
    refine s_y (y_assign rfl) rfl rfl rfl rfl ?_
    refine s_nil ?_
    refine g_then ?_
    refine g_ret ?_
    refine g_thenr ?_
    rw [hgtR_f (fun h_ => by have := h_.1.1; omega)]
    exact g_end trivial (fun a w ha hq_ => res1 ha rfl rfl  w) (fun w h => ⟨rfl, h.below⟩)
  · (try simp at cq1)
    refine g_skip ?_
    refine g_then ?_
    refine g_seq ?_
    refine g_seq ?_
    refine g_region ?_
    refine s_y (y_move rfl) rfl rfl rfl rfl ?_
    refine s_y (y_lenV (n := hs.length) rfl hh.shape sle_66) rfl rfl rfl rfl ?_
    refine s_y (y_move rfl) rfl rfl rfl rfl ?_
    refine s_nil ?_
    refine g_then ?_
    refine g_block ?_
    refine g_loop (fun (i : Nat) act W => i ≤ hs.length ∧ ∃ (w1 : World), (∀ r ∈ hs.take i, r.length = b.size + 1 ∧ ∀ x ∈ r, -1000 ≤ x ∧ x ≤ 1000) ∧ Has 159 [] [(0, .string a), (1, .string b), (3, v), (6, .pointer (some ⟨b6, 0, none⟩)), (22, v), (23, .int .i64 (hs.length : Nat)), (24, .int .i64 (i : Int))] act ∧ Hp w w1 ((b6, .cells [.int .i64 pi, .int .i64 po, .int .i64 ps].toArray 23 (0, 0)) :: []) W) (fun i => hs.length - i) 0 (fun act W ha hw => ⟨by omega, W, (by intro r hr; simp at hr), ha.weak (sub_get ⟨rfl, rfl, rfl, rfl, rfl, rfl, rfl, trivial⟩), hw.toHq.lookSub (List.Sublist.refl _)⟩) ?_
    intro i act W ⟨hb_i, w1, hsh, ha, hw⟩
    refine g_go ha hw ?_
    clear ha hw act W
    refine g_seq ?_
    refine g_region ?_
    refine s_y (y_lss rfl rfl) rfl rfl rfl rfl ?_
    refine s_nil ?_
    refine g_then ?_
    refine g_seq ?_
    refine g_cond rfl (fun cq2 => ?_) (fun cq2 => ?_)
    · (try simp at cq2)
      refine g_skip ?_
      refine g_then ?_
      refine g_seq ?_
      refine g_block ?_
      refine g_seq ?_
      have hlri : (rdR hs (i : Int)).length ≤ 9223372036854775807 := hlr _ (rdR_mem (by omega) (by omega))
      refine g_region ?_
      refine s_y (y_idxR rfl rfl hh Try.underlying66 size_46 (by omega) (by omega)) rfl rfl rfl rfl ?_
      refine s_y (y_ldV (enc := encV) (xs := vs) (fun w h => hh.rdl.below h.below) rfl agg_46 (rdVal_at (by omega) (by have := hh.len; omega))) rfl rfl rfl rfl ?_
      refine s_y (y_assign rfl) rfl rfl rfl rfl ?_
      refine s_nil ?_
      refine g_then ?_
      refine g_seq ?_
      refine g_seq ?_
      refine g_region ?_
      refine s_y (y_move rfl) rfl rfl rfl rfl ?_
      refine s_y (y_lenV (n := ((rdR hs (i : Int)).length)) rfl (by obtain ⟨A, c, h1, _⟩ := (hh.at_ (i := (i : Int)) (by omega) (by omega)); exact ⟨A, c, h1⟩) sle_46) rfl rfl rfl rfl ?_
      refine s_y (y_move rfl) rfl rfl rfl rfl ?_
      refine s_y (y_lens rfl Try.underlying9) rfl rfl rfl rfl ?_
      refine s_y (y_add rfl rfl (by omega) (by omega)) rfl rfl rfl rfl ?_
      refine s_y (y_neq rfl rfl) rfl rfl rfl rfl ?_
      refine s_nil ?_
      refine g_then ?_
      refine g_cond rfl (fun cq3 => ?_) (fun cq3 => ?_)
      · (try simp at cq3)
        refine g_seq ?_
        refine g_region ?_
        refine s_y (y_assign rfl) rfl rfl rfl rfl ?_
        refine s_nil ?_
        refine g_then ?_
        refine g_ret ?_
        refine g_thenr ?_
        refine g_inbr ?_
        refine g_thenr ?_
        refine g_thenr ?_
        refine g_inbr ?_
        refine g_thenr ?_
        rw [hgtR_f (fun h_ => by have h1 := h_.1.2 (rdR hs (i : Int)) (rdR_mem (by omega) (by omega)); have := h1.1; omega)]
        exact g_end trivial (fun a w ha hq_ => res1 ha rfl rfl  w) (fun w h => ⟨rfl, h.below⟩)
      · (try simp at cq3)
        refine g_skip ?_
        refine g_then ?_
        refine g_seq ?_
        refine g_region ?_
        refine s_y (y_move rfl) rfl rfl rfl rfl ?_
        refine s_y (y_lenV (n := ((rdR hs (i : Int)).length)) rfl (by obtain ⟨A, c, h1, _⟩ := (hh.at_ (i := (i : Int)) (by omega) (by omega)); exact ⟨A, c, h1⟩) sle_46) rfl rfl rfl rfl ?_
        refine s_y (y_move rfl) rfl rfl rfl rfl ?_
        refine s_nil ?_
        refine g_then ?_
        refine g_block ?_
        refine g_loop (fun (k : Nat) act W => k ≤ (rdR hs (i : Int)).length ∧ ∃ (w1 : World), (∀ x ∈ (rdR hs (i : Int)).take k, -1000 ≤ x ∧ x ≤ 1000) ∧ Has 159 [] [(0, .string a), (1, .string b), (3, v), (6, .pointer (some ⟨b6, 0, none⟩)), (10, (rdVal vs (i : Int))), (22, v), (23, .int .i64 (hs.length : Nat)), (24, .int .i64 (i : Int)), (25, .bool (decide ((i : Int) < (hs.length : Nat)))), (26, .pointer (some (elemA (adrOf v) ((i : Int) : Int).toNat))), (27, (rdVal vs (i : Int))), (28, (rdVal vs (i : Int))), (29, .int .i64 ((rdR hs (i : Int)).length : Nat)), (30, .string b), (31, .int .i64 b.size), (32, .int .i64 (b.size + 1)), (34, (rdVal vs (i : Int))), (35, .int .i64 ((rdR hs (i : Int)).length : Nat)), (36, .int .i64 (k : Int))] act ∧ Hp w w1 ((b6, .cells [.int .i64 pi, .int .i64 po, .int .i64 ps].toArray 23 (0, 0)) :: []) W) (fun k => (rdR hs (i : Int)).length - k) 0 (fun act W ha hw => ⟨by omega, W, (by intro x hx; simp at hx), ha.weak (sub_get ⟨rfl, rfl, rfl, rfl, rfl, rfl, rfl, rfl, rfl, rfl, rfl, rfl, rfl, rfl, rfl, rfl, rfl, rfl, rfl, trivial⟩), hw.toHq.lookSub (List.Sublist.refl _)⟩) ?_
        intro k act W ⟨hb_k, w1, hin, ha, hw⟩
        refine g_go ha hw ?_
        clear ha hw act W
        refine g_seq ?_
        refine g_region ?_
        refine s_y (y_lss rfl rfl) rfl rfl rfl rfl ?_
        refine s_nil ?_
        refine g_then ?_
        refine g_seq ?_
        refine g_cond rfl (fun cq4 => ?_) (fun cq4 => ?_)
        · (try simp at cq4)
          refine g_skip ?_
          refine g_then ?_
          refine g_seq ?_
          refine g_block ?_
          refine g_seq ?_
          refine g_region ?_
          refine s_y (y_idxV (enc := (Value.int .i64)) rfl rfl (hh.at_ (i := (i : Int)) (by omega) (by omega)) Try.underlying46 size_3 (by omega) (by omega)) rfl rfl rfl rfl ?_
          refine s_y (y_ldV (enc := (Value.int .i64)) (xs := (rdR hs (i : Int))) (fun w h => (hh.at_ (i := (i : Int)) (by omega) (by omega)).rdl.below h.below) rfl agg_3 (rdI_at (by omega) (by omega))) rfl rfl rfl rfl ?_
          refine s_y (y_assign rfl) rfl rfl rfl rfl ?_
          refine s_nil ?_
          refine g_then ?_
          refine g_seq ?_
          refine g_region ?_
          refine s_y (y_move rfl) rfl rfl rfl rfl ?_
          refine s_y (y_lss rfl rfl) rfl rfl rfl rfl ?_
          refine s_y (y_move rfl) rfl rfl rfl rfl ?_
          refine g_bool 42 rfl (fun cq5 => ?_) (fun cq5 => ?_)
          · (try simp at cq5)
            refine s_no rfl rfl rfl ?_
            refine s_no rfl rfl rfl ?_
            refine s_y (y_pick_t rfl rfl) rfl rfl rfl rfl ?_
            refine s_nil ?_
            refine g_then ?_
            refine g_cond_t rfl ?_
            refine g_seq ?_
            refine g_region ?_
            refine s_y (y_assign rfl) rfl rfl rfl rfl ?_
            refine s_nil ?_
            refine g_then ?_
            refine g_ret ?_
            refine g_inbr ?_
            refine g_thenr ?_
            refine g_thenr ?_
            refine g_inbr ?_
            refine g_inbr ?_
            refine g_thenr ?_
            refine g_thenr ?_
            refine g_inbr ?_
            refine g_thenr ?_
            rw [hgtR_f (fun h_ => by have h1 := h_.1.2 (rdR hs (i : Int)) (rdR_mem (by omega) (by omega)); have := h1.2 (rdI (rdR hs (i : Int)) (k : Int)) (rdI_mem (by omega) (by omega)); omega)]
            exact g_end trivial (fun a w ha hq_ => res1 ha rfl rfl  w) (fun w h => ⟨rfl, h.below⟩)
          · (try simp at cq5)
            refine s_y (y_move rfl) rfl rfl rfl rfl ?_
            refine s_y (y_gtr rfl rfl) rfl rfl rfl rfl ?_
            refine s_y (y_pick_f rfl rfl) rfl rfl rfl rfl ?_
            refine s_nil ?_
            refine g_then ?_
            refine g_cond rfl (fun cq6 => ?_) (fun cq6 => ?_)
            · (try simp at cq6)
              refine g_seq ?_
              refine g_region ?_
              refine s_y (y_assign rfl) rfl rfl rfl rfl ?_
              refine s_nil ?_
              refine g_then ?_
              refine g_ret ?_
              refine g_inbr ?_
              refine g_thenr ?_
              refine g_thenr ?_
              refine g_inbr ?_
              refine g_inbr ?_
              refine g_thenr ?_
              refine g_thenr ?_
              refine g_inbr ?_
              refine g_thenr ?_
              rw [hgtR_f (fun h_ => by have h1 := h_.1.2 (rdR hs (i : Int)) (rdR_mem (by omega) (by omega)); have := h1.2 (rdI (rdR hs (i : Int)) (k : Int)) (rdI_mem (by omega) (by omega)); omega)]
              exact g_end trivial (fun a w ha hq_ => res1 ha rfl rfl  w) (fun w h => ⟨rfl, h.below⟩)
            · (try simp at cq6)
              refine g_skip ?_
              refine g_inb ?_
              refine g_then ?_
              refine g_region ?_
              refine s_y (y_add rfl rfl (by omega) (by omega)) rfl rfl rfl rfl ?_
              refine s_y (y_move rfl) rfl rfl rfl rfl ?_
              refine s_nil ?_
              refine g_then ?_
              exact fun act W ha hw => ⟨k + 1, by omega, by omega, W, (by rw [rdI_take (by omega)]; intro x hx; rcases List.mem_append.1 hx with hx | hx; exact hin x hx; rw [List.mem_singleton] at hx; subst hx; omega), ha.weak (sub_get ⟨rfl, rfl, rfl, rfl, rfl, rfl, rfl, rfl, rfl, rfl, rfl, rfl, rfl, rfl, rfl, rfl, rfl, rfl, rfl, trivial⟩), hw.toHq.lookSub (List.Sublist.refl _)⟩
        · (try simp at cq4)
          refine g_exit ?_
          refine g_thenx ?_
          refine g_thenx ?_
          refine g_inbx ?_
          refine g_inb ?_
          refine g_then ?_
          refine g_region ?_
          refine s_y (y_add rfl rfl (by omega) (by omega)) rfl rfl rfl rfl ?_
          refine s_y (y_move rfl) rfl rfl rfl rfl ?_
          refine s_nil ?_
          refine g_then ?_
          exact fun act W ha hw => ⟨i + 1, by omega, by omega, W, (by rw [rdR_take (by omega)]; intro r hr; rcases List.mem_append.1 hr with hr | hr; exact hsh r hr; rw [List.mem_singleton] at hr; subst hr; exact ⟨by omega, by have h_ := hin; rw [List.take_of_length_le (by omega)] at h_; exact h_⟩), ha.weak (sub_get ⟨rfl, rfl, rfl, rfl, rfl, rfl, rfl, trivial⟩), hw.toHq.lookSub (List.Sublist.refl _)⟩
    · (try simp at cq2)
      refine g_exit ?_
      refine g_thenx ?_
      refine g_thenx ?_
      refine g_inbx ?_
      refine g_then ?_
      refine g_seq ?_
      refine g_seq ?_
      have hall : shapeH a b hs := ⟨by omega, by have h_ := hsh; rw [show i = hs.length by omega, List.take_length] at h_; exact h_⟩
      have hln := hall.1
      have hrow : ∀ k : Nat, k ≤ a.size → (rdR hs (k : Int)).length = b.size + 1 := fun k hk => (hall.2 _ (rdR_mem (by omega) (by omega))).1
      have hbnd : ∀ k l : Nat, k ≤ a.size → l ≤ b.size → -1000 ≤ ht hs k l ∧ ht hs k l ≤ 1000 := fun k l hk hl_ => (hall.2 _ (rdR_mem (i := (k : Int)) (by omega) (by omega))).2 _ (rdI_mem (by omega) (by rw [hrow k hk]; omega))
      refine g_region ?_
      refine s_y (y_move rfl) rfl rfl rfl rfl ?_
      refine s_y (y_lenV (n := hs.length) rfl hh.shape sle_66) rfl rfl rfl rfl ?_
      refine s_y (y_move rfl) rfl rfl rfl rfl ?_
      refine s_nil ?_
      refine g_then ?_
      refine g_block ?_
      refine g_loop (fun (p : Nat) act W => p ≤ hs.length ∧ ∃ (w1 : World), (∀ i' j' : Nat, i' < p → j' ≤ b.size → stepH a b pi po ps hs i' j') ∧ Has 159 [] [(0, .string a), (1, .string b), (3, v), (6, .pointer (some ⟨b6, 0, none⟩)), (49, .int .i64 (hs.length : Nat)), (50, .int .i64 (p : Int))] act ∧ Hp w w1 ((b6, .cells [.int .i64 pi, .int .i64 po, .int .i64 ps].toArray 23 (0, 0)) :: []) W) (fun p => hs.length - p) 0 (fun act W ha hw => ⟨by omega, W, (by intro i' j' h1; omega), ha.weak (sub_get ⟨rfl, rfl, rfl, rfl, rfl, rfl, trivial⟩), hw.toHq.lookSub (List.Sublist.refl _)⟩) ?_
      intro p act W ⟨hb_p, w1, hE, ha, hw⟩
      refine g_go ha hw ?_
      clear ha hw act W
      have hrp : (p : Int) < hs.length → (rdR hs (p : Int)).length = b.size + 1 := fun hp_ => hrow p (by omega)
      have hrp1 : (p : Int) < a.size → (rdR hs ((p : Int) + 1)).length = b.size + 1 := fun hp_ => hrow (p + 1) (by omega)
      refine g_seq ?_
      refine g_region ?_
      refine s_y (y_lss rfl rfl) rfl rfl rfl rfl ?_
      refine s_nil ?_
      refine g_then ?_
      refine g_seq ?_
      refine g_cond rfl (fun cq7 => ?_) (fun cq7 => ?_)
      · (try simp at cq7)
        refine g_skip ?_
        refine g_then ?_
        refine g_seq ?_
        refine g_block ?_
        refine g_seq ?_
        refine g_region ?_
        refine s_y (y_move rfl) rfl rfl rfl rfl ?_
        refine s_y (y_assign rfl) rfl rfl rfl rfl ?_
        refine s_nil ?_
        refine g_then ?_
        refine g_seq ?_
        refine g_region ?_
        refine s_y (y_move rfl) rfl rfl rfl rfl ?_
        refine s_y (y_move rfl) rfl rfl rfl rfl ?_
        refine s_y (y_idxR rfl rfl hh Try.underlying66 size_46 (by omega) (by omega)) rfl rfl rfl rfl ?_
        refine s_y (y_ldV (enc := encV) (xs := vs) (fun w h => hh.rdl.below h.below) rfl agg_46 (rdVal_at (by omega) (by have := hh.len; omega))) rfl rfl rfl rfl ?_
        refine s_y (y_lenV (n := ((rdR hs (p : Int)).length)) rfl (by obtain ⟨A, c, h1, _⟩ := (hh.at_ (i := (p : Int)) (by omega) (by omega)); exact ⟨A, c, h1⟩) sle_46) rfl rfl rfl rfl ?_
        refine s_y (y_move rfl) rfl rfl rfl rfl ?_
        refine s_nil ?_
        refine g_then ?_
        refine g_block ?_
        refine g_loop (fun (q : Nat) act W => q ≤ b.size + 1 ∧ ∃ (w1 : World), (∀ j' : Nat, j' < q → stepH a b pi po ps hs p j') ∧ Has 159 [] [(0, .string a), (1, .string b), (3, v), (6, .pointer (some ⟨b6, 0, none⟩)), (13, .int .i64 (p : Int)), (49, .int .i64 (hs.length : Nat)), (50, .int .i64 (p : Int)), (51, .bool (decide ((p : Int) < (hs.length : Nat)))), (52, .int .i64 (p : Int)), (53, v), (54, .int .i64 (p : Int)), (55, .pointer (some (elemA (adrOf v) ((p : Int) : Int).toNat))), (56, (rdVal vs (p : Int))), (57, .int .i64 ((rdR hs (p : Int)).length : Nat)), (58, .int .i64 (q : Int))] act ∧ Hp w w1 ((b6, .cells [.int .i64 pi, .int .i64 po, .int .i64 ps].toArray 23 (0, 0)) :: []) W) (fun q => b.size + 1 - q) 0 (fun act W ha hw => ⟨by omega, W, (by intro j' h1; omega), ha.weak (sub_get ⟨rfl, rfl, rfl, rfl, rfl, rfl, rfl, rfl, rfl, rfl, rfl, rfl, rfl, rfl, rfl, trivial⟩), hw.toHq.lookSub (List.Sublist.refl _)⟩) ?_
        intro q act W ⟨hb_q, w1, hF, ha, hw⟩
        refine g_go ha hw ?_
        clear ha hw act W
        refine g_seq ?_
        refine g_region ?_
        refine s_y (y_lss rfl rfl) rfl rfl rfl rfl ?_
        refine s_nil ?_
        refine g_then ?_
        refine g_seq ?_
        refine g_cond rfl (fun cq8 => ?_) (fun cq8 => ?_)
        · (try simp at cq8)
          refine g_skip ?_
          refine g_then ?_
          refine g_seq ?_
          refine g_block ?_
          refine g_seq ?_
          refine g_region ?_
          refine s_y (y_move rfl) rfl rfl rfl rfl ?_
          refine s_y (y_assign rfl) rfl rfl rfl rfl ?_
          refine s_nil ?_
          refine g_then ?_
          refine g_seq ?_
          refine g_seq ?_
          have hb0 := hbnd p q (by omega) (by omega)
          unfold ht at hb0
          rcases four (p : Int) (q : Int) a.size b.size with e1 | e1 | e1 | e1
          · skip
            refine g_draw 52 (by kernel_rfl) ?_
            refine j_p (i := 0) rfl (y_move rfl) (by kernel_rfl) (by kernel_rfl) (by kernel_rfl) rfl rfl rfl rfl rfl (.inr (fun _ h => h)) ?_
            refine j_p (i := 1) rfl (y_move rfl) (by kernel_rfl) (by kernel_rfl) (by kernel_rfl) rfl rfl rfl rfl rfl (.inr (fun _ h => h)) ?_
            refine j_p (i := 2) rfl (y_lens rfl Try.underlying9) (by kernel_rfl) (by kernel_rfl) (by kernel_rfl) rfl rfl rfl rfl rfl (.inr (fun _ h => h)) ?_
            refine j_p (i := 3) rfl (y_lss_t rfl rfl (e1.1)) (by kernel_rfl) (by kernel_rfl) (by kernel_rfl) rfl rfl rfl rfl rfl (.inr (fun _ h => h)) ?_
            refine j_p (i := 4) rfl (y_move rfl) (by kernel_rfl) (by kernel_rfl) (by kernel_rfl) rfl rfl rfl rfl rfl (.inr (fun _ h => h)) ?_
            refine j_p (i := 5) rfl (y_move rfl) (by kernel_rfl) (by kernel_rfl) (by kernel_rfl) rfl rfl rfl rfl rfl (.inr (fun _ h => h)) ?_
            refine j_p (i := 6) rfl (y_move rfl) (by kernel_rfl) (by kernel_rfl) (by kernel_rfl) rfl rfl rfl rfl rfl (.inr (fun _ h => h)) ?_
            refine j_p (i := 7) rfl (y_add rfl rfl (by omega) (by omega)) (by kernel_rfl) (by kernel_rfl) (by kernel_rfl) rfl rfl rfl rfl rfl (.inr (fun _ h => h)) ?_
            refine j_p (i := 8) rfl (y_idxR rfl rfl hh Try.underlying66 size_46 (by omega) (by omega)) (by kernel_rfl) (by kernel_rfl) (by kernel_rfl) rfl rfl rfl rfl rfl (.inr (fun _ h => h)) ?_
            refine j_l (i := 9) rfl (y_ldV (enc := encV) (xs := vs) (fun w h => hh.rdl.below h.below) rfl agg_46 (rdVal_at (by omega) (by have := hh.len; omega))) (by kernel_rfl) (by kernel_rfl) (by kernel_rfl) (by kernel_rfl) rfl rfl rfl rfl rfl (.inr (fun _ h => h)) ?_
            refine j_p (i := 10) rfl (y_move rfl) (by kernel_rfl) (by kernel_rfl) (by kernel_rfl) rfl rfl rfl rfl rfl (.inr (fun _ h => h)) ?_
            refine j_p (i := 11) rfl (y_idxV (enc := (Value.int .i64)) rfl rfl (hh.at_ (i := (p : Int) + 1) (by omega) (by omega)) Try.underlying46 size_3 (by omega) (by omega)) (by kernel_rfl) (by kernel_rfl) (by kernel_rfl) rfl rfl rfl rfl rfl (.inr (fun _ h => h)) ?_
            refine j_l (i := 12) rfl (y_ldV (enc := (Value.int .i64)) (xs := (rdR hs ((p : Int) + 1))) (fun w h => (hh.at_ (i := (p : Int) + 1) (by omega) (by omega)).rdl.below h.below) rfl agg_3 (rdI_at (by omega) (by omega))) (by kernel_rfl) (by kernel_rfl) (by kernel_rfl) (by kernel_rfl) rfl rfl rfl rfl rfl (.inr (fun _ h => h)) ?_
            refine j_p (i := 13) rfl (y_move rfl) (by kernel_rfl) (by kernel_rfl) (by kernel_rfl) rfl rfl rfl rfl rfl (.inr (fun _ h => h)) ?_
            refine j_p (i := 14) rfl (y_move rfl) (by kernel_rfl) (by kernel_rfl) (by kernel_rfl) rfl rfl rfl rfl rfl (.inr (fun _ h => h)) ?_
            refine j_p (i := 15) rfl (y_idxR rfl rfl hh Try.underlying66 size_46 (by omega) (by omega)) (by kernel_rfl) (by kernel_rfl) (by kernel_rfl) rfl rfl rfl rfl rfl (.inr (fun _ h => h)) ?_
            refine j_l (i := 16) rfl (y_ldV (enc := encV) (xs := vs) (fun w h => hh.rdl.below h.below) rfl agg_46 (rdVal_at (by omega) (by have := hh.len; omega))) (by kernel_rfl) (by kernel_rfl) (by kernel_rfl) (by kernel_rfl) rfl rfl rfl rfl rfl (.inr (fun _ h => h)) ?_
            refine j_p (i := 17) rfl (y_move rfl) (by kernel_rfl) (by kernel_rfl) (by kernel_rfl) rfl rfl rfl rfl rfl (.inr (fun _ h => h)) ?_
            refine j_p (i := 18) rfl (y_idxV (enc := (Value.int .i64)) rfl rfl (hh.at_ (i := (p : Int)) (by omega) (by omega)) Try.underlying46 size_3 (by omega) (by omega)) (by kernel_rfl) (by kernel_rfl) (by kernel_rfl) rfl rfl rfl rfl rfl (.inr (fun _ h => h)) ?_
            refine j_l (i := 19) rfl (y_ldV (enc := (Value.int .i64)) (xs := (rdR hs (p : Int))) (fun w h => (hh.at_ (i := (p : Int)) (by omega) (by omega)).rdl.below h.below) rfl agg_3 (rdI_at (by omega) (by omega))) (by kernel_rfl) (by kernel_rfl) (by kernel_rfl) (by kernel_rfl) rfl rfl rfl rfl rfl (.inr (fun _ h => h)) ?_
            refine j_p (i := 20) rfl (y_fld rfl (fun w => fld_23_1 _ _ w)) (by kernel_rfl) (by kernel_rfl) (by kernel_rfl) rfl rfl rfl rfl rfl (.inr (fun _ h => h)) ?_
            refine j_l (i := 21) rfl (y_ld1 0 rfl rfl agg_3 rfl) (by kernel_rfl) (by kernel_rfl) (by kernel_rfl) (by kernel_rfl) rfl rfl rfl rfl rfl (.inr (fun _ h => h)) ?_
            refine j_p (i := 22) rfl (y_add rfl rfl (by omega) (by omega)) (by kernel_rfl) (by kernel_rfl) (by kernel_rfl) rfl rfl rfl rfl rfl (.inr (fun _ h => h)) ?_
            refine j_p (i := 23) rfl (y_gtr rfl rfl) (by kernel_rfl) (by kernel_rfl) (by kernel_rfl) rfl rfl rfl rfl rfl (.inr (fun _ h => h)) ?_
            refine j_p (i := 24) rfl (y_pick_t rfl rfl) (by kernel_rfl) (by kernel_rfl) (by kernel_rfl) rfl rfl rfl rfl rfl (.inr (fun _ h => h)) ?_
            refine j_p (i := 25) rfl (y_move rfl) (by kernel_rfl) (by kernel_rfl) (by kernel_rfl) rfl rfl rfl rfl rfl (.inr (fun _ h => h)) ?_
            refine g_bool 86 rfl (fun cq9 => ?_) (fun cq9 => ?_)
            · (try simp at cq9)
              refine j_no (i := 26) rfl (by kernel_rfl) (by kernel_rfl) (by kernel_rfl) rfl rfl rfl rfl rfl (.inr (fun _ h => h)) ?_
              refine j_no (i := 27) rfl (by kernel_rfl) (by kernel_rfl) (by kernel_rfl) rfl rfl rfl rfl rfl (.inr (fun _ h => h)) ?_
              refine j_no (i := 28) rfl (by kernel_rfl) (by kernel_rfl) (by kernel_rfl) rfl rfl rfl rfl rfl (.inr (fun _ h => h)) ?_
              refine j_no (i := 29) rfl (by kernel_rfl) (by kernel_rfl) (by kernel_rfl) rfl rfl rfl rfl rfl (.inr (fun _ h => h)) ?_
              refine j_no (i := 30) rfl (by kernel_rfl) (by kernel_rfl) (by kernel_rfl) rfl rfl rfl rfl rfl (.inr (fun _ h => h)) ?_
              refine j_noU (i := 31) rfl (by kernel_rfl) (by kernel_rfl) (by kernel_rfl) rfl rfl rfl rfl rfl rfl rfl (.inr (fun _ h => h)) ?_
              refine j_noU (i := 32) rfl (by kernel_rfl) (by kernel_rfl) (by kernel_rfl) rfl rfl rfl rfl rfl rfl rfl (.inr (fun _ h => h)) ?_
              refine j_noU (i := 33) rfl (by kernel_rfl) (by kernel_rfl) (by kernel_rfl) rfl rfl rfl rfl rfl rfl rfl (.inr (fun _ h => h)) ?_
              refine j_noU (i := 34) rfl (by kernel_rfl) (by kernel_rfl) (by kernel_rfl) rfl rfl rfl rfl rfl rfl rfl (.inr (fun _ h => h)) ?_
              refine j_noU (i := 35) rfl (by kernel_rfl) (by kernel_rfl) (by kernel_rfl) rfl rfl rfl rfl rfl rfl rfl (.inr (fun _ h => h)) ?_
              refine j_noU (i := 36) rfl (by kernel_rfl) (by kernel_rfl) (by kernel_rfl) rfl rfl rfl rfl rfl rfl rfl (.inr (fun _ h => h)) ?_
              refine j_noU (i := 37) rfl (by kernel_rfl) (by kernel_rfl) (by kernel_rfl) rfl rfl rfl rfl rfl rfl rfl (.inr (fun _ h => h)) ?_
              refine j_noU (i := 38) rfl (by kernel_rfl) (by kernel_rfl) (by kernel_rfl) rfl rfl rfl rfl rfl rfl rfl (.inr (fun _ h => h)) ?_
              refine j_noU (i := 39) rfl (by kernel_rfl) (by kernel_rfl) (by kernel_rfl) rfl rfl rfl rfl rfl rfl rfl (.inr (fun _ h => h)) ?_
              refine j_noU (i := 40) rfl (by kernel_rfl) (by kernel_rfl) (by kernel_rfl) rfl rfl rfl rfl rfl rfl rfl (.inr (fun _ h => h)) ?_
              refine j_noU (i := 41) rfl (by kernel_rfl) (by kernel_rfl) (by kernel_rfl) rfl rfl rfl rfl rfl rfl rfl (.inr (fun _ h => h)) ?_
              refine j_noU (i := 42) rfl (by kernel_rfl) (by kernel_rfl) (by kernel_rfl) rfl rfl rfl rfl rfl rfl rfl (.inr (fun _ h => h)) ?_
              refine j_noU (i := 43) rfl (by kernel_rfl) (by kernel_rfl) (by kernel_rfl) rfl rfl rfl rfl rfl rfl rfl (.inr (fun _ h => h)) ?_
              refine j_noU (i := 44) rfl (by kernel_rfl) (by kernel_rfl) (by kernel_rfl) rfl rfl rfl rfl rfl rfl rfl (.inr (fun _ h => h)) ?_
              refine j_noU (i := 45) rfl (by kernel_rfl) (by kernel_rfl) (by kernel_rfl) rfl rfl rfl rfl rfl rfl rfl (.inr (fun _ h => h)) ?_
              refine j_noU (i := 46) rfl (by kernel_rfl) (by kernel_rfl) (by kernel_rfl) rfl rfl rfl rfl rfl rfl rfl (.inr (fun _ h => h)) ?_
              refine j_noU (i := 47) rfl (by kernel_rfl) (by kernel_rfl) (by kernel_rfl) rfl rfl rfl rfl rfl rfl rfl (.inr (fun _ h => h)) ?_
              refine j_noU (i := 48) rfl (by kernel_rfl) (by kernel_rfl) (by kernel_rfl) rfl rfl rfl rfl rfl rfl rfl (.inr (fun _ h => h)) ?_
              refine j_noU (i := 49) rfl (by kernel_rfl) (by kernel_rfl) (by kernel_rfl) rfl rfl rfl rfl rfl rfl rfl (.inr (fun _ h => h)) ?_
              refine j_no (i := 50) rfl (by kernel_rfl) (by kernel_rfl) (by kernel_rfl) rfl rfl rfl rfl rfl (.inr (fun _ h => h)) ?_
              refine j_p (i := 51) rfl (y_pick_t rfl rfl) (by kernel_rfl) (by kernel_rfl) (by kernel_rfl) rfl rfl rfl rfl rfl (.inr (fun _ h => h)) ?_
              refine j_nil (by kernel_rfl) ?_
              refine g_then ?_
              refine g_cond_t rfl ?_
              refine g_seq ?_
              refine g_region ?_
              refine s_y (y_assign rfl) rfl rfl rfl rfl ?_
              refine s_nil ?_
              refine g_then ?_
              refine g_ret ?_
              refine g_thenr ?_
              refine g_inbr ?_
              refine g_thenr ?_
              refine g_thenr ?_
              refine g_inbr ?_
              refine g_inbr ?_
              refine g_thenr ?_
              refine g_thenr ?_
              refine g_inbr ?_
              refine g_thenr ?_
              rw [hgtR_f (fun h_ => by have h1 := step_iff.1 (h_.2.1 p q (by omega) (by omega)); obtain ⟨g1, g2, g3⟩ := h1; first | (have := g1 e1.1; omega) | (have := g2 e1.2; omega))]
              exact g_end trivial (fun a w ha hq_ => res1 ha rfl rfl  w) (fun w h => ⟨rfl, h.below⟩)
            · (try simp at cq9)
              refine j_p (i := 26) rfl (y_move rfl) (by kernel_rfl) (by kernel_rfl) (by kernel_rfl) rfl rfl rfl rfl rfl (.inr (fun _ h => h)) ?_
              refine j_p (i := 27) rfl (y_move rfl) (by kernel_rfl) (by kernel_rfl) (by kernel_rfl) rfl rfl rfl rfl rfl (.inr (fun _ h => h)) ?_
              refine j_p (i := 28) rfl (y_lens rfl Try.underlying9) (by kernel_rfl) (by kernel_rfl) (by kernel_rfl) rfl rfl rfl rfl rfl (.inr (fun _ h => h)) ?_
              refine j_p (i := 29) rfl (y_lss_t rfl rfl (e1.2)) (by kernel_rfl) (by kernel_rfl) (by kernel_rfl) rfl rfl rfl rfl rfl (.inr (fun _ h => h)) ?_
              refine j_p (i := 30) rfl (y_move rfl) (by kernel_rfl) (by kernel_rfl) (by kernel_rfl) rfl rfl rfl rfl rfl (.inr (fun _ h => h)) ?_
              refine j_p (i := 31) rfl (y_move rfl) (by kernel_rfl) (by kernel_rfl) (by kernel_rfl) rfl rfl rfl rfl rfl (.inr (fun _ h => h)) ?_
              refine j_p (i := 32) rfl (y_move rfl) (by kernel_rfl) (by kernel_rfl) (by kernel_rfl) rfl rfl rfl rfl rfl (.inr (fun _ h => h)) ?_
              refine j_p (i := 33) rfl (y_idxR rfl rfl hh Try.underlying66 size_46 (by omega) (by omega)) (by kernel_rfl) (by kernel_rfl) (by kernel_rfl) rfl rfl rfl rfl rfl (.inr (fun _ h => h)) ?_
              refine j_l (i := 34) rfl (y_ldV (enc := encV) (xs := vs) (fun w h => hh.rdl.below h.below) rfl agg_46 (rdVal_at (by omega) (by have := hh.len; omega))) (by kernel_rfl) (by kernel_rfl) (by kernel_rfl) (by kernel_rfl) rfl rfl rfl rfl rfl (.inr (fun _ h => h)) ?_
              refine j_p (i := 35) rfl (y_move rfl) (by kernel_rfl) (by kernel_rfl) (by kernel_rfl) rfl rfl rfl rfl rfl (.inr (fun _ h => h)) ?_
              refine j_p (i := 36) rfl (y_add rfl rfl (by omega) (by omega)) (by kernel_rfl) (by kernel_rfl) (by kernel_rfl) rfl rfl rfl rfl rfl (.inr (fun _ h => h)) ?_
              refine j_p (i := 37) rfl (y_idxV (enc := (Value.int .i64)) rfl rfl (hh.at_ (i := (p : Int)) (by omega) (by omega)) Try.underlying46 size_3 (by omega) (by omega)) (by kernel_rfl) (by kernel_rfl) (by kernel_rfl) rfl rfl rfl rfl rfl (.inr (fun _ h => h)) ?_
              refine j_l (i := 38) rfl (y_ldV (enc := (Value.int .i64)) (xs := (rdR hs (p : Int))) (fun w h => (hh.at_ (i := (p : Int)) (by omega) (by omega)).rdl.below h.below) rfl agg_3 (rdI_at (by omega) (by omega))) (by kernel_rfl) (by kernel_rfl) (by kernel_rfl) (by kernel_rfl) rfl rfl rfl rfl rfl (.inr (fun _ h => h)) ?_
              refine j_p (i := 39) rfl (y_move rfl) (by kernel_rfl) (by kernel_rfl) (by kernel_rfl) rfl rfl rfl rfl rfl (.inr (fun _ h => h)) ?_
              refine j_p (i := 40) rfl (y_move rfl) (by kernel_rfl) (by kernel_rfl) (by kernel_rfl) rfl rfl rfl rfl rfl (.inr (fun _ h => h)) ?_
              refine j_p (i := 41) rfl (y_idxR rfl rfl hh Try.underlying66 size_46 (by omega) (by omega)) (by kernel_rfl) (by kernel_rfl) (by kernel_rfl) rfl rfl rfl rfl rfl (.inr (fun _ h => h)) ?_
              refine j_l (i := 42) rfl (y_ldV (enc := encV) (xs := vs) (fun w h => hh.rdl.below h.below) rfl agg_46 (rdVal_at (by omega) (by have := hh.len; omega))) (by kernel_rfl) (by kernel_rfl) (by kernel_rfl) (by kernel_rfl) rfl rfl rfl rfl rfl (.inr (fun _ h => h)) ?_
              refine j_p (i := 43) rfl (y_move rfl) (by kernel_rfl) (by kernel_rfl) (by kernel_rfl) rfl rfl rfl rfl rfl (.inr (fun _ h => h)) ?_
              refine j_p (i := 44) rfl (y_idxV (enc := (Value.int .i64)) rfl rfl (hh.at_ (i := (p : Int)) (by omega) (by omega)) Try.underlying46 size_3 (by omega) (by omega)) (by kernel_rfl) (by kernel_rfl) (by kernel_rfl) rfl rfl rfl rfl rfl (.inr (fun _ h => h)) ?_
              refine j_l (i := 45) rfl (y_ldV (enc := (Value.int .i64)) (xs := (rdR hs (p : Int))) (fun w h => (hh.at_ (i := (p : Int)) (by omega) (by omega)).rdl.below h.below) rfl agg_3 (rdI_at (by omega) (by omega))) (by kernel_rfl) (by kernel_rfl) (by kernel_rfl) (by kernel_rfl) rfl rfl rfl rfl rfl (.inr (fun _ h => h)) ?_
              refine j_p (i := 46) rfl (y_fld rfl (fun w => fld_23_0 _ _ w)) (by kernel_rfl) (by kernel_rfl) (by kernel_rfl) rfl rfl rfl rfl rfl (.inr (fun _ h => h)) ?_
              refine j_l (i := 47) rfl (y_ld1 0 rfl rfl agg_3 rfl) (by kernel_rfl) (by kernel_rfl) (by kernel_rfl) (by kernel_rfl) rfl rfl rfl rfl rfl (.inr (fun _ h => h)) ?_
              refine j_p (i := 48) rfl (y_add rfl rfl (by omega) (by omega)) (by kernel_rfl) (by kernel_rfl) (by kernel_rfl) rfl rfl rfl rfl rfl (.inr (fun _ h => h)) ?_
              refine j_p (i := 49) rfl (y_gtr rfl rfl) (by kernel_rfl) (by kernel_rfl) (by kernel_rfl) rfl rfl rfl rfl rfl (.inr (fun _ h => h)) ?_
              refine j_p (i := 50) rfl (y_pick_t rfl rfl) (by kernel_rfl) (by kernel_rfl) (by kernel_rfl) rfl rfl rfl rfl rfl (.inr (fun _ h => h)) ?_
              refine j_p (i := 51) rfl (y_pick_f rfl rfl) (by kernel_rfl) (by kernel_rfl) (by kernel_rfl) rfl rfl rfl rfl rfl (.inr (fun _ h => h)) ?_
              refine j_nil (by kernel_rfl) ?_
              refine g_then ?_
              refine g_cond rfl (fun cq10 => ?_) (fun cq10 => ?_)
              · (try simp at cq10)
                refine g_seq ?_
                refine g_region ?_
                refine s_y (y_assign rfl) rfl rfl rfl rfl ?_
                refine s_nil ?_
                refine g_then ?_
                refine g_ret ?_
                refine g_thenr ?_
                refine g_inbr ?_
                refine g_thenr ?_
                refine g_thenr ?_
                refine g_inbr ?_
                refine g_inbr ?_
                refine g_thenr ?_
                refine g_thenr ?_
                refine g_inbr ?_
                refine g_thenr ?_
                rw [hgtR_f (fun h_ => by have h1 := step_iff.1 (h_.2.1 p q (by omega) (by omega)); obtain ⟨g1, g2, g3⟩ := h1; first | (have := g1 e1.1; omega) | (have := g2 e1.2; omega))]
                exact g_end trivial (fun a w ha hq_ => res1 ha rfl rfl  w) (fun w h => ⟨rfl, h.below⟩)
              · (try simp at cq10)
                refine g_skip ?_
                refine g_then ?_
                refine g_seq ?_
                refine g_region ?_
                refine s_y (y_move rfl) rfl rfl rfl rfl ?_
                refine s_y (y_move rfl) rfl rfl rfl rfl ?_
                refine s_y (y_lens rfl Try.underlying9) rfl rfl rfl rfl ?_
                refine s_y (y_lss_t rfl rfl (e1.1)) rfl rfl rfl rfl ?_
                refine s_y (y_move rfl) rfl rfl rfl rfl ?_
                refine s_y (y_move rfl) rfl rfl rfl rfl ?_
                refine s_y (y_move rfl) rfl rfl rfl rfl ?_
                refine s_y (y_lens rfl Try.underlying9) rfl rfl rfl rfl ?_
                refine s_y (y_lss_t rfl rfl (e1.2)) rfl rfl rfl rfl ?_
                refine s_y (y_pick_t rfl rfl) rfl rfl rfl rfl ?_
                refine s_nil ?_
                refine g_then ?_
                refine g_cond_t rfl ?_
                refine g_seq ?_
                refine g_region ?_
                refine s_y (y_fld rfl (fun w => fld_23_2 _ _ w)) rfl rfl rfl rfl ?_
                refine s_y (y_ld1 0 rfl rfl agg_3 rfl) rfl rfl rfl rfl ?_
                refine s_y (y_assign rfl) rfl rfl rfl rfl ?_
                refine s_nil ?_
                refine g_then ?_
                refine g_seq ?_
                refine g_seq ?_
                refine g_draw 7 (by kernel_rfl) ?_
                refine j_p (i := 0) rfl (y_move rfl) (by kernel_rfl) (by kernel_rfl) (by kernel_rfl) rfl rfl rfl rfl rfl (.inr (fun _ h => h)) ?_
                refine j_p (i := 1) rfl (y_move rfl) (by kernel_rfl) (by kernel_rfl) (by kernel_rfl) rfl rfl rfl rfl rfl (.inr (fun _ h => h)) ?_
                refine j_p (i := 2) rfl (y_idxs rfl rfl Try.underlying9 (by omega) (by omega)) (by kernel_rfl) (by kernel_rfl) (by kernel_rfl) rfl rfl rfl rfl rfl (.inr (fun _ h => h)) ?_
                refine j_p (i := 3) rfl (y_move rfl) (by kernel_rfl) (by kernel_rfl) (by kernel_rfl) rfl rfl rfl rfl rfl (.inr (fun _ h => h)) ?_
                refine j_p (i := 4) rfl (y_move rfl) (by kernel_rfl) (by kernel_rfl) (by kernel_rfl) rfl rfl rfl rfl rfl (.inr (fun _ h => h)) ?_
                refine j_p (i := 5) rfl (y_idxs rfl rfl Try.underlying9 (by omega) (by omega)) (by kernel_rfl) (by kernel_rfl) (by kernel_rfl) rfl rfl rfl rfl rfl (.inr (fun _ h => h)) ?_
                refine j_p (i := 6) rfl (y_eql rfl rfl) (by kernel_rfl) (by kernel_rfl) (by kernel_rfl) rfl rfl rfl rfl rfl (.inr (fun _ h => h)) ?_
                refine j_nil (by kernel_rfl) ?_
                refine g_then ?_
                refine g_cond rfl (fun cq11 => ?_) (fun cq11 => ?_)
                · (try simp at cq11)
                  refine g_region ?_
                  refine s_y (y_assign rfl) rfl rfl rfl rfl ?_
                  refine s_nil ?_
                  refine g_then ?_
                  refine g_seq ?_
                  refine g_draw 19 (by kernel_rfl) ?_
                  refine j_p (i := 0) rfl (y_move rfl) (by kernel_rfl) (by kernel_rfl) (by kernel_rfl) rfl rfl rfl rfl rfl (.inr (fun _ h => h)) ?_
                  refine j_p (i := 1) rfl (y_move rfl) (by kernel_rfl) (by kernel_rfl) (by kernel_rfl) rfl rfl rfl rfl rfl (.inr (fun _ h => h)) ?_
                  refine j_p (i := 2) rfl (y_add rfl rfl (by omega) (by omega)) (by kernel_rfl) (by kernel_rfl) (by kernel_rfl) rfl rfl rfl rfl rfl (.inr (fun _ h => h)) ?_
                  refine j_p (i := 3) rfl (y_idxR rfl rfl hh Try.underlying66 size_46 (by omega) (by omega)) (by kernel_rfl) (by kernel_rfl) (by kernel_rfl) rfl rfl rfl rfl rfl (.inr (fun _ h => h)) ?_
                  refine j_l (i := 4) rfl (y_ldV (enc := encV) (xs := vs) (fun w h => hh.rdl.below h.below) rfl agg_46 (rdVal_at (by omega) (by have := hh.len; omega))) (by kernel_rfl) (by kernel_rfl) (by kernel_rfl) (by kernel_rfl) rfl rfl rfl rfl rfl (.inr (fun _ h => h)) ?_
                  refine j_p (i := 5) rfl (y_move rfl) (by kernel_rfl) (by kernel_rfl) (by kernel_rfl) rfl rfl rfl rfl rfl (.inr (fun _ h => h)) ?_
                  refine j_p (i := 6) rfl (y_add rfl rfl (by omega) (by omega)) (by kernel_rfl) (by kernel_rfl) (by kernel_rfl) rfl rfl rfl rfl rfl (.inr (fun _ h => h)) ?_
                  refine j_p (i := 7) rfl (y_idxV (enc := (Value.int .i64)) rfl rfl (hh.at_ (i := (p : Int) + 1) (by omega) (by omega)) Try.underlying46 size_3 (by omega) (by omega)) (by kernel_rfl) (by kernel_rfl) (by kernel_rfl) rfl rfl rfl rfl rfl (.inr (fun _ h => h)) ?_
                  refine j_l (i := 8) rfl (y_ldV (enc := (Value.int .i64)) (xs := (rdR hs ((p : Int) + 1))) (fun w h => (hh.at_ (i := (p : Int) + 1) (by omega) (by omega)).rdl.below h.below) rfl agg_3 (rdI_at (by omega) (by omega))) (by kernel_rfl) (by kernel_rfl) (by kernel_rfl) (by kernel_rfl) rfl rfl rfl rfl rfl (.inr (fun _ h => h)) ?_
                  refine j_p (i := 9) rfl (y_move rfl) (by kernel_rfl) (by kernel_rfl) (by kernel_rfl) rfl rfl rfl rfl rfl (.inr (fun _ h => h)) ?_
                  refine j_p (i := 10) rfl (y_move rfl) (by kernel_rfl) (by kernel_rfl) (by kernel_rfl) rfl rfl rfl rfl rfl (.inr (fun _ h => h)) ?_
                  refine j_p (i := 11) rfl (y_idxR rfl rfl hh Try.underlying66 size_46 (by omega) (by omega)) (by kernel_rfl) (by kernel_rfl) (by kernel_rfl) rfl rfl rfl rfl rfl (.inr (fun _ h => h)) ?_
                  refine j_l (i := 12) rfl (y_ldV (enc := encV) (xs := vs) (fun w h => hh.rdl.below h.below) rfl agg_46 (rdVal_at (by omega) (by have := hh.len; omega))) (by kernel_rfl) (by kernel_rfl) (by kernel_rfl) (by kernel_rfl) rfl rfl rfl rfl rfl (.inr (fun _ h => h)) ?_
                  refine j_p (i := 13) rfl (y_move rfl) (by kernel_rfl) (by kernel_rfl) (by kernel_rfl) rfl rfl rfl rfl rfl (.inr (fun _ h => h)) ?_
                  refine j_p (i := 14) rfl (y_idxV (enc := (Value.int .i64)) rfl rfl (hh.at_ (i := (p : Int)) (by omega) (by omega)) Try.underlying46 size_3 (by omega) (by omega)) (by kernel_rfl) (by kernel_rfl) (by kernel_rfl) rfl rfl rfl rfl rfl (.inr (fun _ h => h)) ?_
                  refine j_l (i := 15) rfl (y_ldV (enc := (Value.int .i64)) (xs := (rdR hs (p : Int))) (fun w h => (hh.at_ (i := (p : Int)) (by omega) (by omega)).rdl.below h.below) rfl agg_3 (rdI_at (by omega) (by omega))) (by kernel_rfl) (by kernel_rfl) (by kernel_rfl) (by kernel_rfl) rfl rfl rfl rfl rfl (.inr (fun _ h => h)) ?_
                  refine j_p (i := 16) rfl (y_move rfl) (by kernel_rfl) (by kernel_rfl) (by kernel_rfl) rfl rfl rfl rfl rfl (.inr (fun _ h => h)) ?_
                  refine j_p (i := 17) rfl (y_add rfl rfl (by omega) (by omega)) (by kernel_rfl) (by kernel_rfl) (by kernel_rfl) rfl rfl rfl rfl rfl (.inr (fun _ h => h)) ?_
                  refine j_p (i := 18) rfl (y_gtr rfl rfl) (by kernel_rfl) (by kernel_rfl) (by kernel_rfl) rfl rfl rfl rfl rfl (.inr (fun _ h => h)) ?_
                  refine j_nil (by kernel_rfl) ?_
                  refine g_then ?_
                  refine g_cond rfl (fun cq12 => ?_) (fun cq12 => ?_)
                  · (try simp at cq12)
                    refine g_seq ?_
                    refine g_region ?_
                    refine s_y (y_assign rfl) rfl rfl rfl rfl ?_
                    refine s_nil ?_
                    refine g_then ?_
                    refine g_ret ?_
                    refine g_inbr ?_
                    refine g_thenr ?_
                    refine g_thenr ?_
                    refine g_inbr ?_
                    refine g_inbr ?_
                    refine g_thenr ?_
                    refine g_thenr ?_
                    refine g_inbr ?_
                    refine g_thenr ?_
                    rw [hgtR_f (fun h_ => by have h1 := step_iff.1 (h_.2.1 p q (by omega) (by omega)); obtain ⟨g1, g2, g3⟩ := h1; have g4 := g3 e1.1 e1.2; split at g4 <;> omega)]
                    exact g_end trivial (fun a w ha hq_ => res1 ha rfl rfl  w) (fun w h => ⟨rfl, h.below⟩)
                  · (try simp at cq12)
                    refine g_skip ?_
                    refine g_inb ?_
                    refine g_then ?_
                    refine g_region ?_
                    refine s_y (y_add rfl rfl (by omega) (by omega)) rfl rfl rfl rfl ?_
                    refine s_y (y_move rfl) rfl rfl rfl rfl ?_
                    refine s_nil ?_
                    refine g_then ?_
                    exact fun act W ha hw => ⟨q + 1, by omega, by omega, W, (by intro j' h1; rcases Nat.lt_or_ge j' q with c | c; exact hF j' c; rw [show j' = q by omega]; exact step_iff.2 ⟨fun h => by omega, fun h => by omega, fun h h' => by split <;> omega⟩), ha.weak (sub_get ⟨rfl, rfl, rfl, rfl, rfl, rfl, rfl, rfl, rfl, rfl, rfl, rfl, rfl, rfl, rfl, trivial⟩), hw.toHq.lookSub (List.Sublist.refl _)⟩
                · (try simp at cq11)
                  refine g_skip ?_
                  refine g_then ?_
                  refine g_seq ?_
                  refine g_draw 19 (by kernel_rfl) ?_
                  refine j_p (i := 0) rfl (y_move rfl) (by kernel_rfl) (by kernel_rfl) (by kernel_rfl) rfl rfl rfl rfl rfl (.inr (fun _ h => h)) ?_
                  refine j_p (i := 1) rfl (y_move rfl) (by kernel_rfl) (by kernel_rfl) (by kernel_rfl) rfl rfl rfl rfl rfl (.inr (fun _ h => h)) ?_
                  refine j_p (i := 2) rfl (y_add rfl rfl (by omega) (by omega)) (by kernel_rfl) (by kernel_rfl) (by kernel_rfl) rfl rfl rfl rfl rfl (.inr (fun _ h => h)) ?_
                  refine j_p (i := 3) rfl (y_idxR rfl rfl hh Try.underlying66 size_46 (by omega) (by omega)) (by kernel_rfl) (by kernel_rfl) (by kernel_rfl) rfl rfl rfl rfl rfl (.inr (fun _ h => h)) ?_
                  refine j_l (i := 4) rfl (y_ldV (enc := encV) (xs := vs) (fun w h => hh.rdl.below h.below) rfl agg_46 (rdVal_at (by omega) (by have := hh.len; omega))) (by kernel_rfl) (by kernel_rfl) (by kernel_rfl) (by kernel_rfl) rfl rfl rfl rfl rfl (.inr (fun _ h => h)) ?_
                  refine j_p (i := 5) rfl (y_move rfl) (by kernel_rfl) (by kernel_rfl) (by kernel_rfl) rfl rfl rfl rfl rfl (.inr (fun _ h => h)) ?_
                  refine j_p (i := 6) rfl (y_add rfl rfl (by omega) (by omega)) (by kernel_rfl) (by kernel_rfl) (by kernel_rfl) rfl rfl rfl rfl rfl (.inr (fun _ h => h)) ?_
                  refine j_p (i := 7) rfl (y_idxV (enc := (Value.int .i64)) rfl rfl (hh.at_ (i := (p : Int) + 1) (by omega) (by omega)) Try.underlying46 size_3 (by omega) (by omega)) (by kernel_rfl) (by kernel_rfl) (by kernel_rfl) rfl rfl rfl rfl rfl (.inr (fun _ h => h)) ?_
                  refine j_l (i := 8) rfl (y_ldV (enc := (Value.int .i64)) (xs := (rdR hs ((p : Int) + 1))) (fun w h => (hh.at_ (i := (p : Int) + 1) (by omega) (by omega)).rdl.below h.below) rfl agg_3 (rdI_at (by omega) (by omega))) (by kernel_rfl) (by kernel_rfl) (by kernel_rfl) (by kernel_rfl) rfl rfl rfl rfl rfl (.inr (fun _ h => h)) ?_
                  refine j_p (i := 9) rfl (y_move rfl) (by kernel_rfl) (by kernel_rfl) (by kernel_rfl) rfl rfl rfl rfl rfl (.inr (fun _ h => h)) ?_
                  refine j_p (i := 10) rfl (y_move rfl) (by kernel_rfl) (by kernel_rfl) (by kernel_rfl) rfl rfl rfl rfl rfl (.inr (fun _ h => h)) ?_
                  refine j_p (i := 11) rfl (y_idxR rfl rfl hh Try.underlying66 size_46 (by omega) (by omega)) (by kernel_rfl) (by kernel_rfl) (by kernel_rfl) rfl rfl rfl rfl rfl (.inr (fun _ h => h)) ?_
                  refine j_l (i := 12) rfl (y_ldV (enc := encV) (xs := vs) (fun w h => hh.rdl.below h.below) rfl agg_46 (rdVal_at (by omega) (by have := hh.len; omega))) (by kernel_rfl) (by kernel_rfl) (by kernel_rfl) (by kernel_rfl) rfl rfl rfl rfl rfl (.inr (fun _ h => h)) ?_
                  refine j_p (i := 13) rfl (y_move rfl) (by kernel_rfl) (by kernel_rfl) (by kernel_rfl) rfl rfl rfl rfl rfl (.inr (fun _ h => h)) ?_
                  refine j_p (i := 14) rfl (y_idxV (enc := (Value.int .i64)) rfl rfl (hh.at_ (i := (p : Int)) (by omega) (by omega)) Try.underlying46 size_3 (by omega) (by omega)) (by kernel_rfl) (by kernel_rfl) (by kernel_rfl) rfl rfl rfl rfl rfl (.inr (fun _ h => h)) ?_
                  refine j_l (i := 15) rfl (y_ldV (enc := (Value.int .i64)) (xs := (rdR hs (p : Int))) (fun w h => (hh.at_ (i := (p : Int)) (by omega) (by omega)).rdl.below h.below) rfl agg_3 (rdI_at (by omega) (by omega))) (by kernel_rfl) (by kernel_rfl) (by kernel_rfl) (by kernel_rfl) rfl rfl rfl rfl rfl (.inr (fun _ h => h)) ?_
                  refine j_p (i := 16) rfl (y_move rfl) (by kernel_rfl) (by kernel_rfl) (by kernel_rfl) rfl rfl rfl rfl rfl (.inr (fun _ h => h)) ?_
                  refine j_p (i := 17) rfl (y_add rfl rfl (by omega) (by omega)) (by kernel_rfl) (by kernel_rfl) (by kernel_rfl) rfl rfl rfl rfl rfl (.inr (fun _ h => h)) ?_
                  refine j_p (i := 18) rfl (y_gtr rfl rfl) (by kernel_rfl) (by kernel_rfl) (by kernel_rfl) rfl rfl rfl rfl rfl (.inr (fun _ h => h)) ?_
                  refine j_nil (by kernel_rfl) ?_
                  refine g_then ?_
                  refine g_cond rfl (fun cq13 => ?_) (fun cq13 => ?_)
                  · (try simp at cq13)
                    refine g_seq ?_
                    refine g_region ?_
                    refine s_y (y_assign rfl) rfl rfl rfl rfl ?_
                    refine s_nil ?_
                    refine g_then ?_
                    refine g_ret ?_
                    refine g_inbr ?_
                    refine g_thenr ?_
                    refine g_thenr ?_
                    refine g_inbr ?_
                    refine g_inbr ?_
                    refine g_thenr ?_
                    refine g_thenr ?_
                    refine g_inbr ?_
                    refine g_thenr ?_
                    rw [hgtR_f (fun h_ => by have h1 := step_iff.1 (h_.2.1 p q (by omega) (by omega)); obtain ⟨g1, g2, g3⟩ := h1; have g4 := g3 e1.1 e1.2; split at g4 <;> omega)]
                    exact g_end trivial (fun a w ha hq_ => res1 ha rfl rfl  w) (fun w h => ⟨rfl, h.below⟩)
                  · (try simp at cq13)
                    refine g_skip ?_
                    refine g_inb ?_
                    refine g_then ?_
                    refine g_region ?_
                    refine s_y (y_add rfl rfl (by omega) (by omega)) rfl rfl rfl rfl ?_
                    refine s_y (y_move rfl) rfl rfl rfl rfl ?_
                    refine s_nil ?_
                    refine g_then ?_
                    exact fun act W ha hw => ⟨q + 1, by omega, by omega, W, (by intro j' h1; rcases Nat.lt_or_ge j' q with c | c; exact hF j' c; rw [show j' = q by omega]; exact step_iff.2 ⟨fun h => by omega, fun h => by omega, fun h h' => by split <;> omega⟩), ha.weak (sub_get ⟨rfl, rfl, rfl, rfl, rfl, rfl, rfl, rfl, rfl, rfl, rfl, rfl, rfl, rfl, rfl, trivial⟩), hw.toHq.lookSub (List.Sublist.refl _)⟩
          · skip
            refine g_draw 52 (by kernel_rfl) ?_
            refine j_p (i := 0) rfl (y_move rfl) (by kernel_rfl) (by kernel_rfl) (by kernel_rfl) rfl rfl rfl rfl rfl (.inr (fun _ h => h)) ?_
            refine j_p (i := 1) rfl (y_move rfl) (by kernel_rfl) (by kernel_rfl) (by kernel_rfl) rfl rfl rfl rfl rfl (.inr (fun _ h => h)) ?_
            refine j_p (i := 2) rfl (y_lens rfl Try.underlying9) (by kernel_rfl) (by kernel_rfl) (by kernel_rfl) rfl rfl rfl rfl rfl (.inr (fun _ h => h)) ?_
            refine j_p (i := 3) rfl (y_lss_t rfl rfl (e1.1)) (by kernel_rfl) (by kernel_rfl) (by kernel_rfl) rfl rfl rfl rfl rfl (.inr (fun _ h => h)) ?_
            refine j_p (i := 4) rfl (y_move rfl) (by kernel_rfl) (by kernel_rfl) (by kernel_rfl) rfl rfl rfl rfl rfl (.inr (fun _ h => h)) ?_
            refine j_p (i := 5) rfl (y_move rfl) (by kernel_rfl) (by kernel_rfl) (by kernel_rfl) rfl rfl rfl rfl rfl (.inr (fun _ h => h)) ?_
            refine j_p (i := 6) rfl (y_move rfl) (by kernel_rfl) (by kernel_rfl) (by kernel_rfl) rfl rfl rfl rfl rfl (.inr (fun _ h => h)) ?_
            refine j_p (i := 7) rfl (y_add rfl rfl (by omega) (by omega)) (by kernel_rfl) (by kernel_rfl) (by kernel_rfl) rfl rfl rfl rfl rfl (.inr (fun _ h => h)) ?_
            refine j_p (i := 8) rfl (y_idxR rfl rfl hh Try.underlying66 size_46 (by omega) (by omega)) (by kernel_rfl) (by kernel_rfl) (by kernel_rfl) rfl rfl rfl rfl rfl (.inr (fun _ h => h)) ?_
            refine j_l (i := 9) rfl (y_ldV (enc := encV) (xs := vs) (fun w h => hh.rdl.below h.below) rfl agg_46 (rdVal_at (by omega) (by have := hh.len; omega))) (by kernel_rfl) (by kernel_rfl) (by kernel_rfl) (by kernel_rfl) rfl rfl rfl rfl rfl (.inr (fun _ h => h)) ?_
            refine j_p (i := 10) rfl (y_move rfl) (by kernel_rfl) (by kernel_rfl) (by kernel_rfl) rfl rfl rfl rfl rfl (.inr (fun _ h => h)) ?_
            refine j_p (i := 11) rfl (y_idxV (enc := (Value.int .i64)) rfl rfl (hh.at_ (i := (p : Int) + 1) (by omega) (by omega)) Try.underlying46 size_3 (by omega) (by omega)) (by kernel_rfl) (by kernel_rfl) (by kernel_rfl) rfl rfl rfl rfl rfl (.inr (fun _ h => h)) ?_
            refine j_l (i := 12) rfl (y_ldV (enc := (Value.int .i64)) (xs := (rdR hs ((p : Int) + 1))) (fun w h => (hh.at_ (i := (p : Int) + 1) (by omega) (by omega)).rdl.below h.below) rfl agg_3 (rdI_at (by omega) (by omega))) (by kernel_rfl) (by kernel_rfl) (by kernel_rfl) (by kernel_rfl) rfl rfl rfl rfl rfl (.inr (fun _ h => h)) ?_
            refine j_p (i := 13) rfl (y_move rfl) (by kernel_rfl) (by kernel_rfl) (by kernel_rfl) rfl rfl rfl rfl rfl (.inr (fun _ h => h)) ?_
            refine j_p (i := 14) rfl (y_move rfl) (by kernel_rfl) (by kernel_rfl) (by kernel_rfl) rfl rfl rfl rfl rfl (.inr (fun _ h => h)) ?_
            refine j_p (i := 15) rfl (y_idxR rfl rfl hh Try.underlying66 size_46 (by omega) (by omega)) (by kernel_rfl) (by kernel_rfl) (by kernel_rfl) rfl rfl rfl rfl rfl (.inr (fun _ h => h)) ?_
            refine j_l (i := 16) rfl (y_ldV (enc := encV) (xs := vs) (fun w h => hh.rdl.below h.below) rfl agg_46 (rdVal_at (by omega) (by have := hh.len; omega))) (by kernel_rfl) (by kernel_rfl) (by kernel_rfl) (by kernel_rfl) rfl rfl rfl rfl rfl (.inr (fun _ h => h)) ?_
            refine j_p (i := 17) rfl (y_move rfl) (by kernel_rfl) (by kernel_rfl) (by kernel_rfl) rfl rfl rfl rfl rfl (.inr (fun _ h => h)) ?_
            refine j_p (i := 18) rfl (y_idxV (enc := (Value.int .i64)) rfl rfl (hh.at_ (i := (p : Int)) (by omega) (by omega)) Try.underlying46 size_3 (by omega) (by omega)) (by kernel_rfl) (by kernel_rfl) (by kernel_rfl) rfl rfl rfl rfl rfl (.inr (fun _ h => h)) ?_
            refine j_l (i := 19) rfl (y_ldV (enc := (Value.int .i64)) (xs := (rdR hs (p : Int))) (fun w h => (hh.at_ (i := (p : Int)) (by omega) (by omega)).rdl.below h.below) rfl agg_3 (rdI_at (by omega) (by omega))) (by kernel_rfl) (by kernel_rfl) (by kernel_rfl) (by kernel_rfl) rfl rfl rfl rfl rfl (.inr (fun _ h => h)) ?_
            refine j_p (i := 20) rfl (y_fld rfl (fun w => fld_23_1 _ _ w)) (by kernel_rfl) (by kernel_rfl) (by kernel_rfl) rfl rfl rfl rfl rfl (.inr (fun _ h => h)) ?_
            refine j_l (i := 21) rfl (y_ld1 0 rfl rfl agg_3 rfl) (by kernel_rfl) (by kernel_rfl) (by kernel_rfl) (by kernel_rfl) rfl rfl rfl rfl rfl (.inr (fun _ h => h)) ?_
            refine j_p (i := 22) rfl (y_add rfl rfl (by omega) (by omega)) (by kernel_rfl) (by kernel_rfl) (by kernel_rfl) rfl rfl rfl rfl rfl (.inr (fun _ h => h)) ?_
            refine j_p (i := 23) rfl (y_gtr rfl rfl) (by kernel_rfl) (by kernel_rfl) (by kernel_rfl) rfl rfl rfl rfl rfl (.inr (fun _ h => h)) ?_
            refine j_p (i := 24) rfl (y_pick_t rfl rfl) (by kernel_rfl) (by kernel_rfl) (by kernel_rfl) rfl rfl rfl rfl rfl (.inr (fun _ h => h)) ?_
            refine j_p (i := 25) rfl (y_move rfl) (by kernel_rfl) (by kernel_rfl) (by kernel_rfl) rfl rfl rfl rfl rfl (.inr (fun _ h => h)) ?_
            refine g_bool 86 rfl (fun cq14 => ?_) (fun cq14 => ?_)
            · (try simp at cq14)
              refine j_no (i := 26) rfl (by kernel_rfl) (by kernel_rfl) (by kernel_rfl) rfl rfl rfl rfl rfl (.inr (fun _ h => h)) ?_
              refine j_no (i := 27) rfl (by kernel_rfl) (by kernel_rfl) (by kernel_rfl) rfl rfl rfl rfl rfl (.inr (fun _ h => h)) ?_
              refine j_no (i := 28) rfl (by kernel_rfl) (by kernel_rfl) (by kernel_rfl) rfl rfl rfl rfl rfl (.inr (fun _ h => h)) ?_
              refine j_no (i := 29) rfl (by kernel_rfl) (by kernel_rfl) (by kernel_rfl) rfl rfl rfl rfl rfl (.inr (fun _ h => h)) ?_
              refine j_no (i := 30) rfl (by kernel_rfl) (by kernel_rfl) (by kernel_rfl) rfl rfl rfl rfl rfl (.inr (fun _ h => h)) ?_
              refine j_noU (i := 31) rfl (by kernel_rfl) (by kernel_rfl) (by kernel_rfl) rfl rfl rfl rfl rfl rfl rfl (.inr (fun _ h => h)) ?_
              refine j_noU (i := 32) rfl (by kernel_rfl) (by kernel_rfl) (by kernel_rfl) rfl rfl rfl rfl rfl rfl rfl (.inr (fun _ h => h)) ?_
              refine j_noU (i := 33) rfl (by kernel_rfl) (by kernel_rfl) (by kernel_rfl) rfl rfl rfl rfl rfl rfl rfl (.inr (fun _ h => h)) ?_
              refine j_noU (i := 34) rfl (by kernel_rfl) (by kernel_rfl) (by kernel_rfl) rfl rfl rfl rfl rfl rfl rfl (.inr (fun _ h => h)) ?_
              refine j_noU (i := 35) rfl (by kernel_rfl) (by kernel_rfl) (by kernel_rfl) rfl rfl rfl rfl rfl rfl rfl (.inr (fun _ h => h)) ?_
              refine j_noU (i := 36) rfl (by kernel_rfl) (by kernel_rfl) (by kernel_rfl) rfl rfl rfl rfl rfl rfl rfl (.inr (fun _ h => h)) ?_
              refine j_noU (i := 37) rfl (by kernel_rfl) (by kernel_rfl) (by kernel_rfl) rfl rfl rfl rfl rfl rfl rfl (.inr (fun _ h => h)) ?_
              refine j_noU (i := 38) rfl (by kernel_rfl) (by kernel_rfl) (by kernel_rfl) rfl rfl rfl rfl rfl rfl rfl (.inr (fun _ h => h)) ?_
              refine j_noU (i := 39) rfl (by kernel_rfl) (by kernel_rfl) (by kernel_rfl) rfl rfl rfl rfl rfl rfl rfl (.inr (fun _ h => h)) ?_
              refine j_noU (i := 40) rfl (by kernel_rfl) (by kernel_rfl) (by kernel_rfl) rfl rfl rfl rfl rfl rfl rfl (.inr (fun _ h => h)) ?_
              refine j_noU (i := 41) rfl (by kernel_rfl) (by kernel_rfl) (by kernel_rfl) rfl rfl rfl rfl rfl rfl rfl (.inr (fun _ h => h)) ?_
              refine j_noU (i := 42) rfl (by kernel_rfl) (by kernel_rfl) (by kernel_rfl) rfl rfl rfl rfl rfl rfl rfl (.inr (fun _ h => h)) ?_
              refine j_noU (i := 43) rfl (by kernel_rfl) (by kernel_rfl) (by kernel_rfl) rfl rfl rfl rfl rfl rfl rfl (.inr (fun _ h => h)) ?_
              refine j_noU (i := 44) rfl (by kernel_rfl) (by kernel_rfl) (by kernel_rfl) rfl rfl rfl rfl rfl rfl rfl (.inr (fun _ h => h)) ?_
              refine j_noU (i := 45) rfl (by kernel_rfl) (by kernel_rfl) (by kernel_rfl) rfl rfl rfl rfl rfl rfl rfl (.inr (fun _ h => h)) ?_
              refine j_noU (i := 46) rfl (by kernel_rfl) (by kernel_rfl) (by kernel_rfl) rfl rfl rfl rfl rfl rfl rfl (.inr (fun _ h => h)) ?_
              refine j_noU (i := 47) rfl (by kernel_rfl) (by kernel_rfl) (by kernel_rfl) rfl rfl rfl rfl rfl rfl rfl (.inr (fun _ h => h)) ?_
              refine j_noU (i := 48) rfl (by kernel_rfl) (by kernel_rfl) (by kernel_rfl) rfl rfl rfl rfl rfl rfl rfl (.inr (fun _ h => h)) ?_
              refine j_noU (i := 49) rfl (by kernel_rfl) (by kernel_rfl) (by kernel_rfl) rfl rfl rfl rfl rfl rfl rfl (.inr (fun _ h => h)) ?_
              refine j_no (i := 50) rfl (by kernel_rfl) (by kernel_rfl) (by kernel_rfl) rfl rfl rfl rfl rfl (.inr (fun _ h => h)) ?_
              refine j_p (i := 51) rfl (y_pick_t rfl rfl) (by kernel_rfl) (by kernel_rfl) (by kernel_rfl) rfl rfl rfl rfl rfl (.inr (fun _ h => h)) ?_
              refine j_nil (by kernel_rfl) ?_
              refine g_then ?_
              refine g_cond_t rfl ?_
              refine g_seq ?_
              refine g_region ?_
              refine s_y (y_assign rfl) rfl rfl rfl rfl ?_
              refine s_nil ?_
              refine g_then ?_
              refine g_ret ?_
              refine g_thenr ?_
              refine g_inbr ?_
              refine g_thenr ?_
              refine g_thenr ?_
              refine g_inbr ?_
              refine g_inbr ?_
              refine g_thenr ?_
              refine g_thenr ?_
              refine g_inbr ?_
              refine g_thenr ?_
              rw [hgtR_f (fun h_ => by have h1 := step_iff.1 (h_.2.1 p q (by omega) (by omega)); obtain ⟨g1, g2, g3⟩ := h1; first | (have := g1 e1.1; omega) | (have := g2 e1.2; omega))]
              exact g_end trivial (fun a w ha hq_ => res1 ha rfl rfl  w) (fun w h => ⟨rfl, h.below⟩)
            · (try simp at cq14)
              refine j_p (i := 26) rfl (y_move rfl) (by kernel_rfl) (by kernel_rfl) (by kernel_rfl) rfl rfl rfl rfl rfl (.inr (fun _ h => h)) ?_
              refine j_p (i := 27) rfl (y_move rfl) (by kernel_rfl) (by kernel_rfl) (by kernel_rfl) rfl rfl rfl rfl rfl (.inr (fun _ h => h)) ?_
              refine j_p (i := 28) rfl (y_lens rfl Try.underlying9) (by kernel_rfl) (by kernel_rfl) (by kernel_rfl) rfl rfl rfl rfl rfl (.inr (fun _ h => h)) ?_
              refine j_p (i := 29) rfl (y_lss_f rfl rfl (e1.2)) (by kernel_rfl) (by kernel_rfl) (by kernel_rfl) rfl rfl rfl rfl rfl (.inr (fun _ h => h)) ?_
              refine j_p (i := 30) rfl (y_move rfl) (by kernel_rfl) (by kernel_rfl) (by kernel_rfl) rfl rfl rfl rfl rfl (.inr (fun _ h => h)) ?_
              refine j_no (i := 31) rfl (by kernel_rfl) (by kernel_rfl) (by kernel_rfl) rfl rfl rfl rfl rfl (.inr (fun _ h => h)) ?_
              refine j_no (i := 32) rfl (by kernel_rfl) (by kernel_rfl) (by kernel_rfl) rfl rfl rfl rfl rfl (.inr (fun _ h => h)) ?_
              refine j_no (i := 33) rfl (by kernel_rfl) (by kernel_rfl) (by kernel_rfl) rfl rfl rfl rfl rfl (.inr (fun _ h => h)) ?_
              refine j_no (i := 34) rfl (by kernel_rfl) (by kernel_rfl) (by kernel_rfl) rfl rfl rfl rfl rfl (.inr (fun _ h => h)) ?_
              refine j_no (i := 35) rfl (by kernel_rfl) (by kernel_rfl) (by kernel_rfl) rfl rfl rfl rfl rfl (.inr (fun _ h => h)) ?_
              refine j_no (i := 36) rfl (by kernel_rfl) (by kernel_rfl) (by kernel_rfl) rfl rfl rfl rfl rfl (.inr (fun _ h => h)) ?_
              refine j_no (i := 37) rfl (by kernel_rfl) (by kernel_rfl) (by kernel_rfl) rfl rfl rfl rfl rfl (.inr (fun _ h => h)) ?_
              refine j_no (i := 38) rfl (by kernel_rfl) (by kernel_rfl) (by kernel_rfl) rfl rfl rfl rfl rfl (.inr (fun _ h => h)) ?_
              refine j_no (i := 39) rfl (by kernel_rfl) (by kernel_rfl) (by kernel_rfl) rfl rfl rfl rfl rfl (.inr (fun _ h => h)) ?_
              refine j_no (i := 40) rfl (by kernel_rfl) (by kernel_rfl) (by kernel_rfl) rfl rfl rfl rfl rfl (.inr (fun _ h => h)) ?_
              refine j_no (i := 41) rfl (by kernel_rfl) (by kernel_rfl) (by kernel_rfl) rfl rfl rfl rfl rfl (.inr (fun _ h => h)) ?_
              refine j_no (i := 42) rfl (by kernel_rfl) (by kernel_rfl) (by kernel_rfl) rfl rfl rfl rfl rfl (.inr (fun _ h => h)) ?_
              refine j_no (i := 43) rfl (by kernel_rfl) (by kernel_rfl) (by kernel_rfl) rfl rfl rfl rfl rfl (.inr (fun _ h => h)) ?_
              refine j_no (i := 44) rfl (by kernel_rfl) (by kernel_rfl) (by kernel_rfl) rfl rfl rfl rfl rfl (.inr (fun _ h => h)) ?_
              refine j_no (i := 45) rfl (by kernel_rfl) (by kernel_rfl) (by kernel_rfl) rfl rfl rfl rfl rfl (.inr (fun _ h => h)) ?_
              refine j_no (i := 46) rfl (by kernel_rfl) (by kernel_rfl) (by kernel_rfl) rfl rfl rfl rfl rfl (.inr (fun _ h => h)) ?_
              refine j_no (i := 47) rfl (by kernel_rfl) (by kernel_rfl) (by kernel_rfl) rfl rfl rfl rfl rfl (.inr (fun _ h => h)) ?_
              refine j_no (i := 48) rfl (by kernel_rfl) (by kernel_rfl) (by kernel_rfl) rfl rfl rfl rfl rfl (.inr (fun _ h => h)) ?_
              refine j_no (i := 49) rfl (by kernel_rfl) (by kernel_rfl) (by kernel_rfl) rfl rfl rfl rfl rfl (.inr (fun _ h => h)) ?_
              refine j_p (i := 50) rfl (y_pick_f rfl rfl) (by kernel_rfl) (by kernel_rfl) (by kernel_rfl) rfl rfl rfl rfl rfl (.inr (fun _ h => h)) ?_
              refine j_p (i := 51) rfl (y_pick_f rfl rfl) (by kernel_rfl) (by kernel_rfl) (by kernel_rfl) rfl rfl rfl rfl rfl (.inr (fun _ h => h)) ?_
              refine j_nil (by kernel_rfl) ?_
              refine g_then ?_
              refine g_cond_f rfl ?_
              refine g_skip ?_
              refine g_then ?_
              refine g_seq ?_
              refine g_region ?_
              refine s_y (y_move rfl) rfl rfl rfl rfl ?_
              refine s_y (y_move rfl) rfl rfl rfl rfl ?_
              refine s_y (y_lens rfl Try.underlying9) rfl rfl rfl rfl ?_
              refine s_y (y_lss_t rfl rfl (e1.1)) rfl rfl rfl rfl ?_
              refine s_y (y_move rfl) rfl rfl rfl rfl ?_
              refine s_y (y_move rfl) rfl rfl rfl rfl ?_
              refine s_y (y_move rfl) rfl rfl rfl rfl ?_
              refine s_y (y_lens rfl Try.underlying9) rfl rfl rfl rfl ?_
              refine s_y (y_lss_f rfl rfl (e1.2)) rfl rfl rfl rfl ?_
              refine s_y (y_pick_t rfl rfl) rfl rfl rfl rfl ?_
              refine s_nil ?_
              refine g_then ?_
              refine g_cond_f rfl ?_
              refine g_skip ?_
              refine g_inb ?_
              refine g_then ?_
              refine g_region ?_
              refine s_y (y_add rfl rfl (by omega) (by omega)) rfl rfl rfl rfl ?_
              refine s_y (y_move rfl) rfl rfl rfl rfl ?_
              refine s_nil ?_
              refine g_then ?_
              exact fun act W ha hw => ⟨q + 1, by omega, by omega, W, (by intro j' h1; rcases Nat.lt_or_ge j' q with c | c; exact hF j' c; rw [show j' = q by omega]; exact step_iff.2 ⟨fun h => by omega, fun h => by omega, fun h h' => by split <;> omega⟩), ha.weak (sub_get ⟨rfl, rfl, rfl, rfl, rfl, rfl, rfl, rfl, rfl, rfl, rfl, rfl, rfl, rfl, rfl, trivial⟩), hw.toHq.lookSub (List.Sublist.refl _)⟩
          · skip
            refine g_draw 52 (by kernel_rfl) ?_
            refine j_p (i := 0) rfl (y_move rfl) (by kernel_rfl) (by kernel_rfl) (by kernel_rfl) rfl rfl rfl rfl rfl (.inr (fun _ h => h)) ?_
            refine j_p (i := 1) rfl (y_move rfl) (by kernel_rfl) (by kernel_rfl) (by kernel_rfl) rfl rfl rfl rfl rfl (.inr (fun _ h => h)) ?_
            refine j_p (i := 2) rfl (y_lens rfl Try.underlying9) (by kernel_rfl) (by kernel_rfl) (by kernel_rfl) rfl rfl rfl rfl rfl (.inr (fun _ h => h)) ?_
            refine j_p (i := 3) rfl (y_lss_f rfl rfl (e1.1)) (by kernel_rfl) (by kernel_rfl) (by kernel_rfl) rfl rfl rfl rfl rfl (.inr (fun _ h => h)) ?_
            refine j_p (i := 4) rfl (y_move rfl) (by kernel_rfl) (by kernel_rfl) (by kernel_rfl) rfl rfl rfl rfl rfl (.inr (fun _ h => h)) ?_
            refine j_no (i := 5) rfl (by kernel_rfl) (by kernel_rfl) (by kernel_rfl) rfl rfl rfl rfl rfl (.inr (fun _ h => h)) ?_
            refine j_no (i := 6) rfl (by kernel_rfl) (by kernel_rfl) (by kernel_rfl) rfl rfl rfl rfl rfl (.inr (fun _ h => h)) ?_
            refine j_no (i := 7) rfl (by kernel_rfl) (by kernel_rfl) (by kernel_rfl) rfl rfl rfl rfl rfl (.inr (fun _ h => h)) ?_
            refine j_no (i := 8) rfl (by kernel_rfl) (by kernel_rfl) (by kernel_rfl) rfl rfl rfl rfl rfl (.inr (fun _ h => h)) ?_
            refine j_no (i := 9) rfl (by kernel_rfl) (by kernel_rfl) (by kernel_rfl) rfl rfl rfl rfl rfl (.inr (fun _ h => h)) ?_
            refine j_no (i := 10) rfl (by kernel_rfl) (by kernel_rfl) (by kernel_rfl) rfl rfl rfl rfl rfl (.inr (fun _ h => h)) ?_
            refine j_no (i := 11) rfl (by kernel_rfl) (by kernel_rfl) (by kernel_rfl) rfl rfl rfl rfl rfl (.inr (fun _ h => h)) ?_
            refine j_no (i := 12) rfl (by kernel_rfl) (by kernel_rfl) (by kernel_rfl) rfl rfl rfl rfl rfl (.inr (fun _ h => h)) ?_
            refine j_no (i := 13) rfl (by kernel_rfl) (by kernel_rfl) (by kernel_rfl) rfl rfl rfl rfl rfl (.inr (fun _ h => h)) ?_
            refine j_no (i := 14) rfl (by kernel_rfl) (by kernel_rfl) (by kernel_rfl) rfl rfl rfl rfl rfl (.inr (fun _ h => h)) ?_
            refine j_no (i := 15) rfl (by kernel_rfl) (by kernel_rfl) (by kernel_rfl) rfl rfl rfl rfl rfl (.inr (fun _ h => h)) ?_
            refine j_no (i := 16) rfl (by kernel_rfl) (by kernel_rfl) (by kernel_rfl) rfl rfl rfl rfl rfl (.inr (fun _ h => h)) ?_
            refine j_no (i := 17) rfl (by kernel_rfl) (by kernel_rfl) (by kernel_rfl) rfl rfl rfl rfl rfl (.inr (fun _ h => h)) ?_
            refine j_no (i := 18) rfl (by kernel_rfl) (by kernel_rfl) (by kernel_rfl) rfl rfl rfl rfl rfl (.inr (fun _ h => h)) ?_
            refine j_no (i := 19) rfl (by kernel_rfl) (by kernel_rfl) (by kernel_rfl) rfl rfl rfl rfl rfl (.inr (fun _ h => h)) ?_
            refine j_no (i := 20) rfl (by kernel_rfl) (by kernel_rfl) (by kernel_rfl) rfl rfl rfl rfl rfl (.inr (fun _ h => h)) ?_
            refine j_no (i := 21) rfl (by kernel_rfl) (by kernel_rfl) (by kernel_rfl) rfl rfl rfl rfl rfl (.inr (fun _ h => h)) ?_
            refine j_no (i := 22) rfl (by kernel_rfl) (by kernel_rfl) (by kernel_rfl) rfl rfl rfl rfl rfl (.inr (fun _ h => h)) ?_
            refine j_no (i := 23) rfl (by kernel_rfl) (by kernel_rfl) (by kernel_rfl) rfl rfl rfl rfl rfl (.inr (fun _ h => h)) ?_
            refine j_p (i := 24) rfl (y_pick_f rfl rfl) (by kernel_rfl) (by kernel_rfl) (by kernel_rfl) rfl rfl rfl rfl rfl (.inr (fun _ h => h)) ?_
            refine j_p (i := 25) rfl (y_move rfl) (by kernel_rfl) (by kernel_rfl) (by kernel_rfl) rfl rfl rfl rfl rfl (.inr (fun _ h => h)) ?_
            refine j_p (i := 26) rfl (y_move rfl) (by kernel_rfl) (by kernel_rfl) (by kernel_rfl) rfl rfl rfl rfl rfl (.inr (fun _ h => h)) ?_
            refine j_p (i := 27) rfl (y_move rfl) (by kernel_rfl) (by kernel_rfl) (by kernel_rfl) rfl rfl rfl rfl rfl (.inr (fun _ h => h)) ?_
            refine j_p (i := 28) rfl (y_lens rfl Try.underlying9) (by kernel_rfl) (by kernel_rfl) (by kernel_rfl) rfl rfl rfl rfl rfl (.inr (fun _ h => h)) ?_
            refine j_p (i := 29) rfl (y_lss_t rfl rfl (e1.2)) (by kernel_rfl) (by kernel_rfl) (by kernel_rfl) rfl rfl rfl rfl rfl (.inr (fun _ h => h)) ?_
            refine j_p (i := 30) rfl (y_move rfl) (by kernel_rfl) (by kernel_rfl) (by kernel_rfl) rfl rfl rfl rfl rfl (.inr (fun _ h => h)) ?_
            refine j_p (i := 31) rfl (y_move rfl) (by kernel_rfl) (by kernel_rfl) (by kernel_rfl) rfl rfl rfl rfl rfl (.inr (fun _ h => h)) ?_
            refine j_p (i := 32) rfl (y_move rfl) (by kernel_rfl) (by kernel_rfl) (by kernel_rfl) rfl rfl rfl rfl rfl (.inr (fun _ h => h)) ?_
            refine j_p (i := 33) rfl (y_idxR rfl rfl hh Try.underlying66 size_46 (by omega) (by omega)) (by kernel_rfl) (by kernel_rfl) (by kernel_rfl) rfl rfl rfl rfl rfl (.inr (fun _ h => h)) ?_
            refine j_l (i := 34) rfl (y_ldV (enc := encV) (xs := vs) (fun w h => hh.rdl.below h.below) rfl agg_46 (rdVal_at (by omega) (by have := hh.len; omega))) (by kernel_rfl) (by kernel_rfl) (by kernel_rfl) (by kernel_rfl) rfl rfl rfl rfl rfl (.inr (fun _ h => h)) ?_
            refine j_p (i := 35) rfl (y_move rfl) (by kernel_rfl) (by kernel_rfl) (by kernel_rfl) rfl rfl rfl rfl rfl (.inr (fun _ h => h)) ?_
            refine j_p (i := 36) rfl (y_add rfl rfl (by omega) (by omega)) (by kernel_rfl) (by kernel_rfl) (by kernel_rfl) rfl rfl rfl rfl rfl (.inr (fun _ h => h)) ?_
            refine j_p (i := 37) rfl (y_idxV (enc := (Value.int .i64)) rfl rfl (hh.at_ (i := (p : Int)) (by omega) (by omega)) Try.underlying46 size_3 (by omega) (by omega)) (by kernel_rfl) (by kernel_rfl) (by kernel_rfl) rfl rfl rfl rfl rfl (.inr (fun _ h => h)) ?_
            refine j_l (i := 38) rfl (y_ldV (enc := (Value.int .i64)) (xs := (rdR hs (p : Int))) (fun w h => (hh.at_ (i := (p : Int)) (by omega) (by omega)).rdl.below h.below) rfl agg_3 (rdI_at (by omega) (by omega))) (by kernel_rfl) (by kernel_rfl) (by kernel_rfl) (by kernel_rfl) rfl rfl rfl rfl rfl (.inr (fun _ h => h)) ?_
            refine j_p (i := 39) rfl (y_move rfl) (by kernel_rfl) (by kernel_rfl) (by kernel_rfl) rfl rfl rfl rfl rfl (.inr (fun _ h => h)) ?_
            refine j_p (i := 40) rfl (y_move rfl) (by kernel_rfl) (by kernel_rfl) (by kernel_rfl) rfl rfl rfl rfl rfl (.inr (fun _ h => h)) ?_
            refine j_p (i := 41) rfl (y_idxR rfl rfl hh Try.underlying66 size_46 (by omega) (by omega)) (by kernel_rfl) (by kernel_rfl) (by kernel_rfl) rfl rfl rfl rfl rfl (.inr (fun _ h => h)) ?_
            refine j_l (i := 42) rfl (y_ldV (enc := encV) (xs := vs) (fun w h => hh.rdl.below h.below) rfl agg_46 (rdVal_at (by omega) (by have := hh.len; omega))) (by kernel_rfl) (by kernel_rfl) (by kernel_rfl) (by kernel_rfl) rfl rfl rfl rfl rfl (.inr (fun _ h => h)) ?_
            refine j_p (i := 43) rfl (y_move rfl) (by kernel_rfl) (by kernel_rfl) (by kernel_rfl) rfl rfl rfl rfl rfl (.inr (fun _ h => h)) ?_
            refine j_p (i := 44) rfl (y_idxV (enc := (Value.int .i64)) rfl rfl (hh.at_ (i := (p : Int)) (by omega) (by omega)) Try.underlying46 size_3 (by omega) (by omega)) (by kernel_rfl) (by kernel_rfl) (by kernel_rfl) rfl rfl rfl rfl rfl (.inr (fun _ h => h)) ?_
            refine j_l (i := 45) rfl (y_ldV (enc := (Value.int .i64)) (xs := (rdR hs (p : Int))) (fun w h => (hh.at_ (i := (p : Int)) (by omega) (by omega)).rdl.below h.below) rfl agg_3 (rdI_at (by omega) (by omega))) (by kernel_rfl) (by kernel_rfl) (by kernel_rfl) (by kernel_rfl) rfl rfl rfl rfl rfl (.inr (fun _ h => h)) ?_
            refine j_p (i := 46) rfl (y_fld rfl (fun w => fld_23_0 _ _ w)) (by kernel_rfl) (by kernel_rfl) (by kernel_rfl) rfl rfl rfl rfl rfl (.inr (fun _ h => h)) ?_
            refine j_l (i := 47) rfl (y_ld1 0 rfl rfl agg_3 rfl) (by kernel_rfl) (by kernel_rfl) (by kernel_rfl) (by kernel_rfl) rfl rfl rfl rfl rfl (.inr (fun _ h => h)) ?_
            refine j_p (i := 48) rfl (y_add rfl rfl (by omega) (by omega)) (by kernel_rfl) (by kernel_rfl) (by kernel_rfl) rfl rfl rfl rfl rfl (.inr (fun _ h => h)) ?_
            refine j_p (i := 49) rfl (y_gtr rfl rfl) (by kernel_rfl) (by kernel_rfl) (by kernel_rfl) rfl rfl rfl rfl rfl (.inr (fun _ h => h)) ?_
            refine j_p (i := 50) rfl (y_pick_t rfl rfl) (by kernel_rfl) (by kernel_rfl) (by kernel_rfl) rfl rfl rfl rfl rfl (.inr (fun _ h => h)) ?_
            refine j_p (i := 51) rfl (y_pick_f rfl rfl) (by kernel_rfl) (by kernel_rfl) (by kernel_rfl) rfl rfl rfl rfl rfl (.inr (fun _ h => h)) ?_
            refine j_nil (by kernel_rfl) ?_
            refine g_then ?_
            refine g_cond rfl (fun cq15 => ?_) (fun cq15 => ?_)
            · (try simp at cq15)
              refine g_seq ?_
              refine g_region ?_
              refine s_y (y_assign rfl) rfl rfl rfl rfl ?_
              refine s_nil ?_
              refine g_then ?_
              refine g_ret ?_
              refine g_thenr ?_
              refine g_inbr ?_
              refine g_thenr ?_
              refine g_thenr ?_
              refine g_inbr ?_
              refine g_inbr ?_
              refine g_thenr ?_
              refine g_thenr ?_
              refine g_inbr ?_
              refine g_thenr ?_
              rw [hgtR_f (fun h_ => by have h1 := step_iff.1 (h_.2.1 p q (by omega) (by omega)); obtain ⟨g1, g2, g3⟩ := h1; first | (have := g1 e1.1; omega) | (have := g2 e1.2; omega))]
              exact g_end trivial (fun a w ha hq_ => res1 ha rfl rfl  w) (fun w h => ⟨rfl, h.below⟩)
            · (try simp at cq15)
              refine g_skip ?_
              refine g_then ?_
              refine g_seq ?_
              refine g_region ?_
              refine s_y (y_move rfl) rfl rfl rfl rfl ?_
              refine s_y (y_move rfl) rfl rfl rfl rfl ?_
              refine s_y (y_lens rfl Try.underlying9) rfl rfl rfl rfl ?_
              refine s_y (y_lss_f rfl rfl (e1.1)) rfl rfl rfl rfl ?_
              refine s_y (y_move rfl) rfl rfl rfl rfl ?_
              refine s_no rfl rfl rfl ?_
              refine s_no rfl rfl rfl ?_
              refine s_no rfl rfl rfl ?_
              refine s_no rfl rfl rfl ?_
              refine s_y (y_pick_f rfl rfl) rfl rfl rfl rfl ?_
              refine s_nil ?_
              refine g_then ?_
              refine g_cond_f rfl ?_
              refine g_skip ?_
              refine g_inb ?_
              refine g_then ?_
              refine g_region ?_
              refine s_y (y_add rfl rfl (by omega) (by omega)) rfl rfl rfl rfl ?_
              refine s_y (y_move rfl) rfl rfl rfl rfl ?_
              refine s_nil ?_
              refine g_then ?_
              exact fun act W ha hw => ⟨q + 1, by omega, by omega, W, (by intro j' h1; rcases Nat.lt_or_ge j' q with c | c; exact hF j' c; rw [show j' = q by omega]; exact step_iff.2 ⟨fun h => by omega, fun h => by omega, fun h h' => by split <;> omega⟩), ha.weak (sub_get ⟨rfl, rfl, rfl, rfl, rfl, rfl, rfl, rfl, rfl, rfl, rfl, rfl, rfl, rfl, rfl, trivial⟩), hw.toHq.lookSub (List.Sublist.refl _)⟩
          · skip
            refine g_draw 52 (by kernel_rfl) ?_
            refine j_p (i := 0) rfl (y_move rfl) (by kernel_rfl) (by kernel_rfl) (by kernel_rfl) rfl rfl rfl rfl rfl (.inr (fun _ h => h)) ?_
            refine j_p (i := 1) rfl (y_move rfl) (by kernel_rfl) (by kernel_rfl) (by kernel_rfl) rfl rfl rfl rfl rfl (.inr (fun _ h => h)) ?_
            refine j_p (i := 2) rfl (y_lens rfl Try.underlying9) (by kernel_rfl) (by kernel_rfl) (by kernel_rfl) rfl rfl rfl rfl rfl (.inr (fun _ h => h)) ?_
            refine j_p (i := 3) rfl (y_lss_f rfl rfl (e1.1)) (by kernel_rfl) (by kernel_rfl) (by kernel_rfl) rfl rfl rfl rfl rfl (.inr (fun _ h => h)) ?_
            refine j_p (i := 4) rfl (y_move rfl) (by kernel_rfl) (by kernel_rfl) (by kernel_rfl) rfl rfl rfl rfl rfl (.inr (fun _ h => h)) ?_
            refine j_no (i := 5) rfl (by kernel_rfl) (by kernel_rfl) (by kernel_rfl) rfl rfl rfl rfl rfl (.inr (fun _ h => h)) ?_
            refine j_no (i := 6) rfl (by kernel_rfl) (by kernel_rfl) (by kernel_rfl) rfl rfl rfl rfl rfl (.inr (fun _ h => h)) ?_
            refine j_no (i := 7) rfl (by kernel_rfl) (by kernel_rfl) (by kernel_rfl) rfl rfl rfl rfl rfl (.inr (fun _ h => h)) ?_
            refine j_no (i := 8) rfl (by kernel_rfl) (by kernel_rfl) (by kernel_rfl) rfl rfl rfl rfl rfl (.inr (fun _ h => h)) ?_
            refine j_no (i := 9) rfl (by kernel_rfl) (by kernel_rfl) (by kernel_rfl) rfl rfl rfl rfl rfl (.inr (fun _ h => h)) ?_
            refine j_no (i := 10) rfl (by kernel_rfl) (by kernel_rfl) (by kernel_rfl) rfl rfl rfl rfl rfl (.inr (fun _ h => h)) ?_
            refine j_no (i := 11) rfl (by kernel_rfl) (by kernel_rfl) (by kernel_rfl) rfl rfl rfl rfl rfl (.inr (fun _ h => h)) ?_
            refine j_no (i := 12) rfl (by kernel_rfl) (by kernel_rfl) (by kernel_rfl) rfl rfl rfl rfl rfl (.inr (fun _ h => h)) ?_
            refine j_no (i := 13) rfl (by kernel_rfl) (by kernel_rfl) (by kernel_rfl) rfl rfl rfl rfl rfl (.inr (fun _ h => h)) ?_
            refine j_no (i := 14) rfl (by kernel_rfl) (by kernel_rfl) (by kernel_rfl) rfl rfl rfl rfl rfl (.inr (fun _ h => h)) ?_
            refine j_no (i := 15) rfl (by kernel_rfl) (by kernel_rfl) (by kernel_rfl) rfl rfl rfl rfl rfl (.inr (fun _ h => h)) ?_
            refine j_no (i := 16) rfl (by kernel_rfl) (by kernel_rfl) (by kernel_rfl) rfl rfl rfl rfl rfl (.inr (fun _ h => h)) ?_
            refine j_no (i := 17) rfl (by kernel_rfl) (by kernel_rfl) (by kernel_rfl) rfl rfl rfl rfl rfl (.inr (fun _ h => h)) ?_
            refine j_no (i := 18) rfl (by kernel_rfl) (by kernel_rfl) (by kernel_rfl) rfl rfl rfl rfl rfl (.inr (fun _ h => h)) ?_
            refine j_no (i := 19) rfl (by kernel_rfl) (by kernel_rfl) (by kernel_rfl) rfl rfl rfl rfl rfl (.inr (fun _ h => h)) ?_
            refine j_no (i := 20) rfl (by kernel_rfl) (by kernel_rfl) (by kernel_rfl) rfl rfl rfl rfl rfl (.inr (fun _ h => h)) ?_
            refine j_no (i := 21) rfl (by kernel_rfl) (by kernel_rfl) (by kernel_rfl) rfl rfl rfl rfl rfl (.inr (fun _ h => h)) ?_
            refine j_no (i := 22) rfl (by kernel_rfl) (by kernel_rfl) (by kernel_rfl) rfl rfl rfl rfl rfl (.inr (fun _ h => h)) ?_
            refine j_no (i := 23) rfl (by kernel_rfl) (by kernel_rfl) (by kernel_rfl) rfl rfl rfl rfl rfl (.inr (fun _ h => h)) ?_
            refine j_p (i := 24) rfl (y_pick_f rfl rfl) (by kernel_rfl) (by kernel_rfl) (by kernel_rfl) rfl rfl rfl rfl rfl (.inr (fun _ h => h)) ?_
            refine j_p (i := 25) rfl (y_move rfl) (by kernel_rfl) (by kernel_rfl) (by kernel_rfl) rfl rfl rfl rfl rfl (.inr (fun _ h => h)) ?_
            refine j_p (i := 26) rfl (y_move rfl) (by kernel_rfl) (by kernel_rfl) (by kernel_rfl) rfl rfl rfl rfl rfl (.inr (fun _ h => h)) ?_
            refine j_p (i := 27) rfl (y_move rfl) (by kernel_rfl) (by kernel_rfl) (by kernel_rfl) rfl rfl rfl rfl rfl (.inr (fun _ h => h)) ?_
            refine j_p (i := 28) rfl (y_lens rfl Try.underlying9) (by kernel_rfl) (by kernel_rfl) (by kernel_rfl) rfl rfl rfl rfl rfl (.inr (fun _ h => h)) ?_
            refine j_p (i := 29) rfl (y_lss_f rfl rfl (e1.2)) (by kernel_rfl) (by kernel_rfl) (by kernel_rfl) rfl rfl rfl rfl rfl (.inr (fun _ h => h)) ?_
            refine j_p (i := 30) rfl (y_move rfl) (by kernel_rfl) (by kernel_rfl) (by kernel_rfl) rfl rfl rfl rfl rfl (.inr (fun _ h => h)) ?_
            refine j_no (i := 31) rfl (by kernel_rfl) (by kernel_rfl) (by kernel_rfl) rfl rfl rfl rfl rfl (.inr (fun _ h => h)) ?_
            refine j_no (i := 32) rfl (by kernel_rfl) (by kernel_rfl) (by kernel_rfl) rfl rfl rfl rfl rfl (.inr (fun _ h => h)) ?_
            refine j_no (i := 33) rfl (by kernel_rfl) (by kernel_rfl) (by kernel_rfl) rfl rfl rfl rfl rfl (.inr (fun _ h => h)) ?_
            refine j_no (i := 34) rfl (by kernel_rfl) (by kernel_rfl) (by kernel_rfl) rfl rfl rfl rfl rfl (.inr (fun _ h => h)) ?_
            refine j_no (i := 35) rfl (by kernel_rfl) (by kernel_rfl) (by kernel_rfl) rfl rfl rfl rfl rfl (.inr (fun _ h => h)) ?_
            refine j_no (i := 36) rfl (by kernel_rfl) (by kernel_rfl) (by kernel_rfl) rfl rfl rfl rfl rfl (.inr (fun _ h => h)) ?_
            refine j_no (i := 37) rfl (by kernel_rfl) (by kernel_rfl) (by kernel_rfl) rfl rfl rfl rfl rfl (.inr (fun _ h => h)) ?_
            refine j_no (i := 38) rfl (by kernel_rfl) (by kernel_rfl) (by kernel_rfl) rfl rfl rfl rfl rfl (.inr (fun _ h => h)) ?_
            refine j_no (i := 39) rfl (by kernel_rfl) (by kernel_rfl) (by kernel_rfl) rfl rfl rfl rfl rfl (.inr (fun _ h => h)) ?_
            refine j_no (i := 40) rfl (by kernel_rfl) (by kernel_rfl) (by kernel_rfl) rfl rfl rfl rfl rfl (.inr (fun _ h => h)) ?_
            refine j_no (i := 41) rfl (by kernel_rfl) (by kernel_rfl) (by kernel_rfl) rfl rfl rfl rfl rfl (.inr (fun _ h => h)) ?_
            refine j_no (i := 42) rfl (by kernel_rfl) (by kernel_rfl) (by kernel_rfl) rfl rfl rfl rfl rfl (.inr (fun _ h => h)) ?_
            refine j_no (i := 43) rfl (by kernel_rfl) (by kernel_rfl) (by kernel_rfl) rfl rfl rfl rfl rfl (.inr (fun _ h => h)) ?_
            refine j_no (i := 44) rfl (by kernel_rfl) (by kernel_rfl) (by kernel_rfl) rfl rfl rfl rfl rfl (.inr (fun _ h => h)) ?_
            refine j_no (i := 45) rfl (by kernel_rfl) (by kernel_rfl) (by kernel_rfl) rfl rfl rfl rfl rfl (.inr (fun _ h => h)) ?_
            refine j_no (i := 46) rfl (by kernel_rfl) (by kernel_rfl) (by kernel_rfl) rfl rfl rfl rfl rfl (.inr (fun _ h => h)) ?_
            refine j_no (i := 47) rfl (by kernel_rfl) (by kernel_rfl) (by kernel_rfl) rfl rfl rfl rfl rfl (.inr (fun _ h => h)) ?_
            refine j_no (i := 48) rfl (by kernel_rfl) (by kernel_rfl) (by kernel_rfl) rfl rfl rfl rfl rfl (.inr (fun _ h => h)) ?_
            refine j_no (i := 49) rfl (by kernel_rfl) (by kernel_rfl) (by kernel_rfl) rfl rfl rfl rfl rfl (.inr (fun _ h => h)) ?_
            refine j_p (i := 50) rfl (y_pick_f rfl rfl) (by kernel_rfl) (by kernel_rfl) (by kernel_rfl) rfl rfl rfl rfl rfl (.inr (fun _ h => h)) ?_
            refine j_p (i := 51) rfl (y_pick_f rfl rfl) (by kernel_rfl) (by kernel_rfl) (by kernel_rfl) rfl rfl rfl rfl rfl (.inr (fun _ h => h)) ?_
            refine j_nil (by kernel_rfl) ?_
            refine g_then ?_
            refine g_cond_f rfl ?_
            refine g_skip ?_
            refine g_then ?_
            refine g_seq ?_
            refine g_region ?_
            refine s_y (y_move rfl) rfl rfl rfl rfl ?_
            refine s_y (y_move rfl) rfl rfl rfl rfl ?_
            refine s_y (y_lens rfl Try.underlying9) rfl rfl rfl rfl ?_
            refine s_y (y_lss_f rfl rfl (e1.1)) rfl rfl rfl rfl ?_
            refine s_y (y_move rfl) rfl rfl rfl rfl ?_
            refine s_no rfl rfl rfl ?_
            refine s_no rfl rfl rfl ?_
            refine s_no rfl rfl rfl ?_
            refine s_no rfl rfl rfl ?_
            refine s_y (y_pick_f rfl rfl) rfl rfl rfl rfl ?_
            refine s_nil ?_
            refine g_then ?_
            refine g_cond_f rfl ?_
            refine g_skip ?_
            refine g_inb ?_
            refine g_then ?_
            refine g_region ?_
            refine s_y (y_add rfl rfl (by omega) (by omega)) rfl rfl rfl rfl ?_
            refine s_y (y_move rfl) rfl rfl rfl rfl ?_
            refine s_nil ?_
            refine g_then ?_
            exact fun act W ha hw => ⟨q + 1, by omega, by omega, W, (by intro j' h1; rcases Nat.lt_or_ge j' q with c | c; exact hF j' c; rw [show j' = q by omega]; exact step_iff.2 ⟨fun h => by omega, fun h => by omega, fun h h' => by split <;> omega⟩), ha.weak (sub_get ⟨rfl, rfl, rfl, rfl, rfl, rfl, rfl, rfl, rfl, rfl, rfl, rfl, rfl, rfl, rfl, trivial⟩), hw.toHq.lookSub (List.Sublist.refl _)⟩
        · (try simp at cq8)
          refine g_exit ?_
          refine g_thenx ?_
          refine g_thenx ?_
          refine g_inbx ?_
          refine g_inb ?_
          refine g_then ?_
          refine g_region ?_
          refine s_y (y_add rfl rfl (by omega) (by omega)) rfl rfl rfl rfl ?_
          refine s_y (y_move rfl) rfl rfl rfl rfl ?_
          refine s_nil ?_
          refine g_then ?_
          exact fun act W ha hw => ⟨p + 1, by omega, by omega, W, (by intro i' j' h1 h2; rcases Nat.lt_or_ge i' p with c | c; exact hE i' j' c h2; rw [show i' = p by omega]; exact hF j' (by omega)), ha.weak (sub_get ⟨rfl, rfl, rfl, rfl, rfl, rfl, trivial⟩), hw.toHq.lookSub (List.Sublist.refl _)⟩
      · (try simp at cq7)
        refine g_exit ?_
        refine g_thenx ?_
        refine g_thenx ?_
        refine g_inbx ?_
        refine g_then ?_
        refine g_seq ?_
        have h00 : (rdR hs 0).length = b.size + 1 := hrow 0 (by omega)
        refine g_region ?_
        refine s_y (y_move rfl) rfl rfl rfl rfl ?_
        refine s_y (y_idxR rfl rfl hh Try.underlying66 size_46 (by omega) (by omega)) rfl rfl rfl rfl ?_
        refine s_y (y_ldV (enc := encV) (xs := vs) (fun w h => hh.rdl.below h.below) rfl agg_46 (rdVal_at (by omega) (by have := hh.len; omega))) rfl rfl rfl rfl ?_
        refine s_y (y_idxV (enc := (Value.int .i64)) rfl rfl (hh.at_ (i := 0) (by omega) (by omega)) Try.underlying46 size_3 (by omega) (by omega)) rfl rfl rfl rfl ?_
        refine s_y (y_ldV (enc := (Value.int .i64)) (xs := (rdR hs 0)) (fun w h => (hh.at_ (i := 0) (by omega) (by omega)).rdl.below h.below) rfl agg_3 (rdI_at (by omega) (by omega))) rfl rfl rfl rfl ?_
        refine s_y (y_eql rfl rfl) rfl rfl rfl rfl ?_
        refine s_y (y_assign rfl) rfl rfl rfl rfl ?_
        refine s_nil ?_
        refine g_then ?_
        refine g_ret ?_
        rw [show (hgtR a b pi po ps hs).2 = decide (rdI (rdR hs 0) 0 = 0) from by
          by_cases hz : rdI (rdR hs 0) 0 = 0
          · rw [decide_eq_true hz, hgtR_t ⟨hall, fun i' j' h1 h2 => hE i' j' (by omega) h2, hz⟩]
          · rw [decide_eq_false hz, hgtR_f (fun h_ => hz h_.2.2)]]
        exact g_end trivial (fun a w ha hq_ => res1 ha rfl rfl  w) (fun w h => ⟨rfl, h.below⟩)

end Go.Proofs.Ytnnpdgegejklpaa
