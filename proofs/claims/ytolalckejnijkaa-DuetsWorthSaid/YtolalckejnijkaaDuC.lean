/- duets: Check, Lift; the reference's. -/
import Derived.Test.YtolalckejnijkaaDuB
namespace Go.Proofs.Ytolalckejnijkaa
open Go.RowKit Go.Sx 
set_option linter.unusedVariables false
set_option linter.unusedSimpArgs false
set_option maxRecDepth 100000
set_option maxHeartbeats 4000000

private theorem ent_48 : Enters Try.prog 48 := enters_of Try.func48 (by kernel_rfl) rfl
private theorem zero_48 : (Try.prog.info? 48).bind (·.zero) = some (.agg #[(.slice none 0 0), (.slice none 0 0)]) := by kernel_rfl
private theorem size_48 : (Try.prog.info? 48).map (·.size) = some 2 := by kernel_rfl
private theorem agg_48 : isAggB Try.prog 48 = some true := by kernel_rfl
private theorem ent_49 : Enters Try.prog 49 := enters_of Try.func49 (by kernel_rfl) rfl
private theorem ent_70 : Enters Try.prog 70 := enters_of Try.func70 (by kernel_rfl) rfl
private theorem size_3 : (Try.prog.info? 3).map (·.size) = some 1 := by kernel_rfl
private theorem agg_3 : isAggB Try.prog 3 = some false := by kernel_rfl
private theorem ent_69 : Enters Try.prog 69 := enters_of Try.func69 (by kernel_rfl) rfl
private theorem sle_22 : Try.prog.underlying 22 = some (.slice (Try.prog.elem 22)) := by kernel_rfl
private theorem ent_71 : Enters Try.prog 71 := enters_of Try.func71 (by kernel_rfl) rfl
private theorem ent_50 : Enters Try.prog 50 := enters_of Try.func50 (by kernel_rfl) rfl
private theorem inf_3 : ∃ ie, Try.prog.info? 3 = some ie ∧ ie.zero = some (.int .i64 0) ∧ ie.size = 1 ∧ ie.bytes = 8 := info_of (by kernel_rfl) (by kernel_rfl)
private theorem ent_46 : Enters Try.prog 46 := enters_of Try.func46 (by kernel_rfl) rfl
private theorem ent_51 : Enters Try.prog 51 := enters_of Try.func51 (by kernel_rfl) rfl
private theorem ent_37 : Enters Try.prog 37 := enters_of Try.func37 (by kernel_rfl) rfl

theorem pair_facts {g s : List Int} (h : pairB g s = true) : ((1 ≤ g.length ∧ g.length ≤ 8) ∧ ∀ x ∈ g, 0 ≤ x ∧ x ≤ 20) ∧ (∀ x ∈ s, 0 ≤ x ∧ x ≤ 20) ∧ g.length = s.length := by
  unfold pairB at h
  rw [Bool.and_eq_true, Bool.and_eq_true, decide_eq_true_iff, partB_true, partB_true] at h
  exact ⟨h.1, h.2.1.2, h.2.2⟩
theorem chkD_none {g s : List Int} (h : (frs g s).2 = 0) : chkD g s = (0, 0, 4) := if_pos h
theorem chkD_some {g s : List Int} (h : ¬ (frs g s).2 = 0) : chkD g s = ((frs g s).1, (frs g s).2, 0) := if_neg h

theorem Check_lit (w : World) (ag as_ : Option Addr) (cg cs : Nat) (g s : List Int) (hg : RdV (Value.int .i64) w (.slice ag g.length cg) g) (hs : RdV (Value.int .i64) w (.slice as_ s.length cs) s) (hp : pairB g s = true) :
    Calls Try.prog 21 [.slice ag g.length cg, .slice as_ s.length cs].toArray w fun e w' => e = .returned (.tuple #[.int .i64 (chkD g s).1, .int .i64 (chkD g s).2.1, .int .i64 (chkD g s).2.2]) ∧ Below w.heap.size w w' := by
  obtain ⟨⟨hgl, hgn⟩, hsn, hln⟩ := pair_facts hp
  refine enter (N := 26) Try.func21 rfl rfl rfl ?_
  refine g_seq ?_
  refine g_region ?_
  refine s_y (y_assign rfl) rfl rfl rfl rfl ?_
  refine s_y (y_assign rfl) rfl rfl rfl rfl ?_
  refine s_y (y_assign rfl) rfl rfl rfl rfl ?_
  refine s_nil ?_
  refine g_then ?_
  refine g_seq ?_
  refine g_region ?_
  refine s_y (y_move rfl) rfl rfl rfl rfl ?_
  refine s_y (y_move rfl) rfl rfl rfl rfl ?_
  refine s_tr (t_call rfl rfl ent_48 (fun w h => by have h_ := read_any w ag as_ cg cs g s (hg.below h.below) (hs.below h.below) (by omega) (by omega); rw [hp] at h_; exact h_)) rfl rfl rfl rfl (fun _ _ => ?_)
  refine s_y (y_move rfl) rfl rfl rfl rfl ?_
  refine s_y (y_extract rfl rfl) rfl rfl rfl rfl ?_
  refine s_y (y_extract rfl rfl) rfl rfl rfl rfl ?_
  refine s_tr (t_alloc zero_48 rfl) rfl rfl rfl rfl (fun bd hbd => ?_)
  refine s_tr0 (t_store 0 rfl rfl rfl rfl size_48 rfl rfl) rfl rfl rfl (fun _ _ => ?_)
  refine s_y (y_assign rfl) rfl rfl rfl rfl ?_
  refine s_nil ?_
  refine g_then ?_
  refine g_seq ?_
  refine g_seq ?_
  refine g_region ?_
  refine s_y (y_move rfl) rfl rfl rfl rfl ?_
  refine s_y (y_not_t rfl) rfl rfl rfl rfl ?_
  refine s_nil ?_
  refine g_then ?_
  refine g_cond_f rfl ?_
  refine g_skip ?_
  refine g_then ?_
  refine g_seq ?_
  refine g_region ?_
  refine s_y (y_ldn 0 rfl rfl agg_48 size_48 rfl rfl) rfl rfl rfl rfl ?_
  refine s_tr (t_call rfl rfl ent_49 (fun w h => first_any w ag as_ cg cs g s (hg.below h.below) (hs.below h.below) (by omega) (by omega) hgn hsn)) rfl rfl rfl rfl (fun _ _ => ?_)
  refine s_y (y_move rfl) rfl rfl rfl rfl ?_
  refine s_y (y_extract rfl rfl) rfl rfl rfl rfl ?_
  refine s_y (y_extract rfl rfl) rfl rfl rfl rfl ?_
  refine s_y (y_assign rfl) rfl rfl rfl rfl ?_
  refine s_y (y_assign rfl) rfl rfl rfl rfl ?_
  refine s_nil ?_
  refine g_then ?_
  refine g_seq ?_
  refine g_seq ?_
  refine g_region ?_
  refine s_y (y_move rfl) rfl rfl rfl rfl ?_
  refine s_y (y_eql rfl rfl) rfl rfl rfl rfl ?_
  refine s_nil ?_
  refine g_then ?_
  refine g_cond rfl (fun cq1 => ?_) (fun cq1 => ?_)
  · (try simp at cq1)
    rw [chkD_none (by simpa using cq1)]
    refine g_seq ?_
    refine g_region ?_
    refine s_y (y_assign rfl) rfl rfl rfl rfl ?_
    refine s_y (y_assign rfl) rfl rfl rfl rfl ?_
    refine s_y (y_assign rfl) rfl rfl rfl rfl ?_
    refine s_nil ?_
    refine g_then ?_
    refine g_ret ?_
    refine g_thenr ?_
    exact g_end trivial (fun a w ha hq_ => res3 ha rfl rfl rfl rfl  w) (fun w h => ⟨rfl, h.below⟩)
  · (try simp at cq1)
    rw [chkD_some (by simpa using cq1)]
    refine g_skip ?_
    refine g_then ?_
    refine g_seq ?_
    refine g_region ?_
    refine s_y (y_move rfl) rfl rfl rfl rfl ?_
    refine s_y (y_move rfl) rfl rfl rfl rfl ?_
    refine s_y (y_assign rfl) rfl rfl rfl rfl ?_
    refine s_y (y_assign rfl) rfl rfl rfl rfl ?_
    refine s_y (y_assign rfl) rfl rfl rfl rfl ?_
    refine s_nil ?_
    refine g_then ?_
    refine g_ret ?_
    exact g_end trivial (fun a w ha hq_ => res3 ha rfl rfl rfl rfl  w) (fun w h => ⟨rfl, h.below⟩)

theorem Check_litno (w : World) (ag as_ : Option Addr) (cg cs : Nat) (g s : List Int) (hg : RdV (Value.int .i64) w (.slice ag g.length cg) g) (hs : RdV (Value.int .i64) w (.slice as_ s.length cs) s) (hgl : g.length ≤ 9223372036854775807) (hsl : s.length ≤ 9223372036854775807) (hp : pairB g s = false) :
    Calls Try.prog 21 [.slice ag g.length cg, .slice as_ s.length cs].toArray w fun e w' => e = .returned (.tuple #[.int .i64 0, .int .i64 0, .int .i64 2]) ∧ Below w.heap.size w w' := by
  refine enter (N := 26) Try.func21 rfl rfl rfl ?_
  refine g_seq ?_
  refine g_region ?_
  refine s_y (y_assign rfl) rfl rfl rfl rfl ?_
  refine s_y (y_assign rfl) rfl rfl rfl rfl ?_
  refine s_y (y_assign rfl) rfl rfl rfl rfl ?_
  refine s_nil ?_
  refine g_then ?_
  refine g_seq ?_
  refine g_region ?_
  refine s_y (y_move rfl) rfl rfl rfl rfl ?_
  refine s_y (y_move rfl) rfl rfl rfl rfl ?_
  refine s_tr (t_call rfl rfl ent_48 (fun w h => by have h_ := read_any w ag as_ cg cs g s (hg.below h.below) (hs.below h.below) (by omega) (by omega); rw [hp] at h_; exact h_)) rfl rfl rfl rfl (fun _ _ => ?_)
  refine s_y (y_move rfl) rfl rfl rfl rfl ?_
  refine s_y (y_extract rfl rfl) rfl rfl rfl rfl ?_
  refine s_y (y_extract rfl rfl) rfl rfl rfl rfl ?_
  refine s_tr (t_alloc zero_48 rfl) rfl rfl rfl rfl (fun bd hbd => ?_)
  refine s_tr0 (t_store 0 rfl rfl rfl rfl size_48 rfl rfl) rfl rfl rfl (fun _ _ => ?_)
  refine s_y (y_assign rfl) rfl rfl rfl rfl ?_
  refine s_nil ?_
  refine g_then ?_
  refine g_seq ?_
  refine g_seq ?_
  refine g_region ?_
  refine s_y (y_move rfl) rfl rfl rfl rfl ?_
  refine s_y (y_not_f rfl) rfl rfl rfl rfl ?_
  refine s_nil ?_
  refine g_then ?_
  refine g_cond_t rfl ?_
  refine g_seq ?_
  refine g_region ?_
  refine s_y (y_assign rfl) rfl rfl rfl rfl ?_
  refine s_y (y_assign rfl) rfl rfl rfl rfl ?_
  refine s_y (y_assign rfl) rfl rfl rfl rfl ?_
  refine s_nil ?_
  refine g_then ?_
  refine g_ret ?_
  refine g_thenr ?_
  exact g_end trivial (fun a w ha hq_ => res3 ha rfl rfl rfl rfl  w) (fun w h => ⟨rfl, h.below⟩)

theorem Check_ok (w : World) (v v' : Value) (g s : List Int) (hg : RdV (Value.int .i64) w v g) (hs : RdV (Value.int .i64) w v' s) (hp : pairB g s = true) : Calls Try.prog 21 [v, v'].toArray w fun e w' => e = .returned (.tuple #[.int .i64 (chkD g s).1, .int .i64 (chkD g s).2.1, .int .i64 (chkD g s).2.2]) ∧ Below w.heap.size w w' := by
  obtain ⟨ag, cg, rfl, _, _⟩ := id hg
  obtain ⟨as_, cs, rfl, _, _⟩ := id hs
  exact Check_lit w ag as_ cg cs g s hg hs hp
theorem Check_no (w : World) (v v' : Value) (g s : List Int) (hg : RdV (Value.int .i64) w v g) (hs : RdV (Value.int .i64) w v' s) (hgl : g.length ≤ 9223372036854775807) (hsl : s.length ≤ 9223372036854775807) (hp : pairB g s = false) : Calls Try.prog 21 [v, v'].toArray w fun e w' => e = .returned (.tuple #[.int .i64 0, .int .i64 0, .int .i64 2]) ∧ Below w.heap.size w w' := by
  obtain ⟨ag, cg, rfl, _, _⟩ := id hg
  obtain ⟨as_, cs, rfl, _, _⟩ := id hs
  exact Check_litno w ag as_ cg cs g s hg hs hgl hsl hp

theorem sort_any (w : World) (x : Int) (h0 : -1000 ≤ x) (h1 : x ≤ 1000) :
    Calls Try.prog 70 [.int .i64 x].toArray w fun e w' => e = .returned (.int .i64 (x % 7)) ∧ Below w.heap.size w w' := by
  have ht1 := Int.tmod_lt_of_pos x (show (0 : Int) < 7 by decide)
  have ht2 : -7 < Int.tmod x 7 := by have h3_ := Int.tmod_lt_of_pos (-x) (show (0 : Int) < 7 by decide); rw [Int.neg_tmod] at h3_; omega
  refine enter (N := 7) Try.func70 rfl rfl rfl ?_
  refine g_seq ?_
  refine g_region ?_
  refine s_y (y_assign rfl) rfl rfl rfl rfl ?_
  refine s_nil ?_
  refine g_then ?_
  refine g_seq ?_
  refine g_region ?_
  refine s_y (y_move rfl) rfl rfl rfl rfl ?_
  refine s_y (y_remt rfl rfl (by omega)) rfl rfl rfl rfl ?_
  refine s_y (y_add rfl rfl (by omega) (by omega)) rfl rfl rfl rfl ?_
  refine s_y (y_rem rfl rfl (by omega) (by omega)) rfl rfl rfl rfl ?_
  rw [tmod7]
  refine s_y (y_assign rfl) rfl rfl rfl rfl ?_
  refine s_nil ?_
  refine g_then ?_
  refine g_ret ?_
  exact g_end trivial (fun a w ha hq_ => res1 ha rfl rfl  w) (fun w h => ⟨rfl, h.below⟩)

theorem Ropen_any (w : World) (x : Int) (h0 : -1000 ≤ x) (h1 : x ≤ 1000) :
    Calls Try.prog 69 [.int .i64 x].toArray w fun e w' => e = .returned (.bool (decide (opn x))) ∧ Below w.heap.size w w' := by
  refine enter (N := 11) Try.func69 rfl rfl rfl ?_
  refine g_seq ?_
  refine g_region ?_
  refine s_y (y_assign rfl) rfl rfl rfl rfl ?_
  refine s_nil ?_
  refine g_then ?_
  refine g_seq ?_
  refine g_region ?_
  refine s_y (y_move rfl) rfl rfl rfl rfl ?_
  refine s_tr (t_call rfl rfl ent_70 (fun w h => sort_any w x (by omega) (by omega))) rfl rfl rfl rfl (fun _ _ => ?_)
  refine s_y (y_eql rfl rfl) rfl rfl rfl rfl ?_
  refine s_y (y_move rfl) rfl rfl rfl rfl ?_
  refine g_bool 6 rfl (fun cq1 => ?_) (fun cq1 => ?_)
  · (try simp at cq1)
    refine s_no rfl rfl rfl ?_
    refine s_no rfl rfl rfl ?_
    refine s_no rfl rfl rfl ?_
    refine s_y (y_pick_t rfl rfl) rfl rfl rfl rfl ?_
    refine s_y (y_assign rfl) rfl rfl rfl rfl ?_
    refine s_nil ?_
    refine g_then ?_
    refine g_ret ?_
    rw [show decide (opn x) = true from by first | exact decide_eq_true (by unfold opn; omega) | exact decide_eq_false (by unfold opn; omega) | exact decide_eq_decide.2 (by unfold opn; constructor <;> intro h_ <;> omega) | (rw [← decide_not]; exact decide_eq_decide.2 (by unfold opn; constructor <;> intro h_ <;> omega))]
    exact g_end trivial (fun a w ha hq_ => res1 ha rfl rfl  w) (fun w h => ⟨rfl, h.below⟩)
  · (try simp at cq1)
    refine s_y (y_move rfl) rfl rfl rfl rfl ?_
    refine s_tr (t_call rfl rfl ent_70 (fun w h => sort_any w x (by omega) (by omega))) rfl rfl rfl rfl (fun _ _ => ?_)
    refine s_y (y_eql rfl rfl) rfl rfl rfl rfl ?_
    refine s_y (y_pick_f rfl rfl) rfl rfl rfl rfl ?_
    refine s_y (y_assign rfl) rfl rfl rfl rfl ?_
    refine s_nil ?_
    refine g_then ?_
    refine g_ret ?_
    rw [show decide (opn x) = decide ((x % 7) = 4) from by first | exact decide_eq_true (by unfold opn; omega) | exact decide_eq_false (by unfold opn; omega) | exact decide_eq_decide.2 (by unfold opn; constructor <;> intro h_ <;> omega) | (rw [← decide_not]; exact decide_eq_decide.2 (by unfold opn; constructor <;> intro h_ <;> omega))]
    exact g_end trivial (fun a w ha hq_ => res1 ha rfl rfl  w) (fun w h => ⟨rfl, h.below⟩)

theorem Rabs_any (w : World) (x : Int) (h0 : -1000 ≤ x) (h1 : x ≤ 1000) :
    Calls Try.prog 71 [.int .i64 x].toArray w fun e w' => e = .returned (.int .i64 (aI x)) ∧ Below w.heap.size w w' := by
  refine enter (N := 7) Try.func71 rfl rfl rfl ?_
  refine g_seq ?_
  refine g_region ?_
  refine s_y (y_assign rfl) rfl rfl rfl rfl ?_
  refine s_nil ?_
  refine g_then ?_
  refine g_seq ?_
  refine g_region ?_
  refine s_y (y_move rfl) rfl rfl rfl rfl ?_
  refine s_y (y_move rfl) rfl rfl rfl rfl ?_
  refine s_y (y_neg rfl (by omega) (by omega)) rfl rfl rfl rfl ?_
  refine s_y (y_max rfl rfl) rfl rfl rfl rfl ?_
  refine s_y (y_assign rfl) rfl rfl rfl rfl ?_
  refine s_nil ?_
  refine g_then ?_
  refine g_ret ?_
  exact g_end trivial (fun a w ha hq_ => res1 ha rfl rfl  w) (fun w h => ⟨rfl, h.below⟩)

theorem RBroken_lit (w : World) (ag as_ : Option Addr) (cg cs : Nat) (g s : List Int) (hg : RdV (Value.int .i64) w (.slice ag g.length cg) g) (hs : RdV (Value.int .i64) w (.slice as_ s.length cs) s) (i : Nat) (hi : i < s.length) (hle : s.length ≤ g.length) (hgl : g.length ≤ 1000) (hgn : ∀ x ∈ g, 0 ≤ x ∧ x ≤ 20) (hsn : ∀ x ∈ s, 0 ≤ x ∧ x ≤ 20) :
    Calls Try.prog 50 [.slice ag g.length cg, .slice as_ s.length cs, .int .i64 (i : Int)].toArray w fun e w' => e = .returned (.int .i64 (brk g s i)) ∧ Below w.heap.size w w' := by
  have g0 := notes_at hgn (i := (i : Int)) (by omega) (by omega)
  have s0 := notes_at hsn (i := (i : Int)) (by omega) (by omega)
  have g1 : 1 ≤ (i : Int) → 0 ≤ rdI g ((i : Int) - 1) ∧ rdI g ((i : Int) - 1) ≤ 20 := fun h => notes_at hgn (by omega) (by omega)
  have s1 : 1 ≤ (i : Int) → 0 ≤ rdI s ((i : Int) - 1) ∧ rdI s ((i : Int) - 1) ≤ 20 := fun h => notes_at hsn (by omega) (by omega)
  have s2 : 2 ≤ (i : Int) → 0 ≤ rdI s ((i : Int) - 2) ∧ rdI s ((i : Int) - 2) ≤ 20 := fun h => notes_at hsn (by omega) (by omega)
  have s3 : 2 ≤ (i : Int) → 0 ≤ rdI s ((i : Int) - 1 - 1) ∧ rdI s ((i : Int) - 1 - 1) ≤ 20 := fun h => notes_at hsn (by omega) (by omega)
  have q0 : ivI g s (i : Int) = rdI s (i : Int) - rdI g (i : Int) := rfl
  have q1 : ivI g s ((i : Int) - 1) = rdI s ((i : Int) - 1) - rdI g ((i : Int) - 1) := rfl
  have q2 : mvI s (i : Int) = rdI s (i : Int) - rdI s ((i : Int) - 1) := rfl
  have q3 : mvI g (i : Int) = rdI g (i : Int) - rdI g ((i : Int) - 1) := rfl
  have q4 : mvI s ((i : Int) - 1) = rdI s ((i : Int) - 1) - rdI s ((i : Int) - 1 - 1) := rfl
  have ha1 := aI_spec (mvI s (i : Int))
  refine enter (N := 186) Try.func50 rfl rfl rfl ?_
  refine g_seq ?_
  refine g_region ?_
  refine s_y (y_assign rfl) rfl rfl rfl rfl ?_
  refine s_nil ?_
  refine g_then ?_
  refine g_seq ?_
  refine g_draw 10 (by kernel_rfl) ?_
  refine j_p (i := 0) rfl (y_move rfl) (by kernel_rfl) (by kernel_rfl) (by kernel_rfl) rfl rfl rfl rfl rfl (.inr (fun _ h => h)) ?_
  refine j_p (i := 1) rfl (y_move rfl) (by kernel_rfl) (by kernel_rfl) (by kernel_rfl) rfl rfl rfl rfl rfl (.inr (fun _ h => h)) ?_
  refine j_p (i := 2) rfl (y_idxV (enc := (Value.int .i64)) rfl rfl hs Try.underlying22 size_3 (by omega) (by omega)) (by kernel_rfl) (by kernel_rfl) (by kernel_rfl) rfl rfl rfl rfl rfl (.inr (fun _ h => h)) ?_
  refine j_l (i := 3) rfl (y_ldV (enc := (Value.int .i64)) (xs := s) (fun w h => hs.rdl.below h.below) rfl agg_3 (rdI_at (by omega) (by omega))) (by kernel_rfl) (by kernel_rfl) (by kernel_rfl) (by kernel_rfl) rfl rfl rfl rfl rfl (.inr (fun _ h => h)) ?_
  refine j_p (i := 4) rfl (y_move rfl) (by kernel_rfl) (by kernel_rfl) (by kernel_rfl) rfl rfl rfl rfl rfl (.inr (fun _ h => h)) ?_
  refine j_p (i := 5) rfl (y_move rfl) (by kernel_rfl) (by kernel_rfl) (by kernel_rfl) rfl rfl rfl rfl rfl (.inr (fun _ h => h)) ?_
  refine j_p (i := 6) rfl (y_idxV (enc := (Value.int .i64)) rfl rfl hg Try.underlying22 size_3 (by omega) (by omega)) (by kernel_rfl) (by kernel_rfl) (by kernel_rfl) rfl rfl rfl rfl rfl (.inr (fun _ h => h)) ?_
  refine j_l (i := 7) rfl (y_ldV (enc := (Value.int .i64)) (xs := g) (fun w h => hg.rdl.below h.below) rfl agg_3 (rdI_at (by omega) (by omega))) (by kernel_rfl) (by kernel_rfl) (by kernel_rfl) (by kernel_rfl) rfl rfl rfl rfl rfl (.inr (fun _ h => h)) ?_
  refine j_p (i := 8) rfl (y_sub rfl rfl (by omega) (by omega)) (by kernel_rfl) (by kernel_rfl) (by kernel_rfl) rfl rfl rfl rfl rfl (.inr (fun _ h => h)) ?_
  refine j_p (i := 9) rfl (y_assign rfl) (by kernel_rfl) (by kernel_rfl) (by kernel_rfl) rfl rfl rfl rfl rfl (.inr (fun _ h => h)) ?_
  refine j_nil (by kernel_rfl) ?_
  refine g_then ?_
  refine g_seq ?_
  refine g_seam (fun act W => ∃ (bb0 : Bool) (w1 : World), (bb0 = true ↔ ¬ R0 (ivI g s (i : Int))) ∧ Has 186 [] [(0, .slice ag g.length cg), (1, .slice as_ s.length cs), (2, .int .i64 (i : Int)), (6, .int .i64 0), (7, .int .i64 (ivI g s (i : Int))), (26, .bool bb0)] act ∧ Hp w w1 ([]) W) ?_ ?_
  · skip
    refine g_region ?_
    refine s_y (y_move rfl) rfl rfl rfl rfl ?_
    refine s_y (y_lss rfl rfl) rfl rfl rfl rfl ?_
    refine s_y (y_move rfl) rfl rfl rfl rfl ?_
    refine g_bool 23 rfl (fun cq1 => ?_) (fun cq1 => ?_)
    · (try simp at cq1)
      refine s_no rfl rfl rfl ?_
      refine s_no rfl rfl rfl ?_
      refine s_y (y_pick_t rfl rfl) rfl rfl rfl rfl ?_
      refine s_nil ?_
      refine g_then ?_
      exact fun act W ha hw => ⟨true, W, (by first | exact ⟨fun _ => (by (try unfold R0 R1 R2 R3 R4 R5 R6 R7); (try unfold R0); (try unfold R1); (try unfold R2); (try unfold R3); (try unfold R4); (try unfold R5); (try unfold R6); (try unfold R7); (try simp only [opn, not_or, not_and] at *); omega), fun _ => rfl⟩ | exact ⟨fun h_ => (by cases h_), fun h_ => (h_ (by (try unfold R0 R1 R2 R3 R4 R5 R6 R7); (try unfold R0); (try unfold R1); (try unfold R2); (try unfold R3); (try unfold R4); (try unfold R5); (try unfold R6); (try unfold R7); (try simp only [opn, not_or, not_and] at *); omega)).elim⟩ | (simp only [decide_eq_true_eq, Bool.not_eq_true', decide_eq_false_iff_not]; (try unfold R0 R1 R2 R3 R4 R5 R6 R7); (try unfold R0); (try unfold R1); (try unfold R2); (try unfold R3); (try unfold R4); (try unfold R5); (try unfold R6); (try unfold R7); (try simp only [opn, not_or, not_and] at *); constructor <;> intro h_ <;> omega)), ha.weak (sub_get ⟨rfl, rfl, rfl, rfl, rfl, rfl, trivial⟩), hw.toHq.lookSub (List.Sublist.refl _)⟩
    · (try simp at cq1)
      refine s_y (y_move rfl) rfl rfl rfl rfl ?_
      refine s_y (y_gtr rfl rfl) rfl rfl rfl rfl ?_
      refine s_y (y_pick_f rfl rfl) rfl rfl rfl rfl ?_
      refine s_nil ?_
      refine g_then ?_
      exact fun act W ha hw => ⟨decide ((ivI g s (i : Int)) > 14), W, (by first | exact ⟨fun _ => (by (try unfold R0 R1 R2 R3 R4 R5 R6 R7); (try unfold R0); (try unfold R1); (try unfold R2); (try unfold R3); (try unfold R4); (try unfold R5); (try unfold R6); (try unfold R7); (try simp only [opn, not_or, not_and] at *); omega), fun _ => rfl⟩ | exact ⟨fun h_ => (by cases h_), fun h_ => (h_ (by (try unfold R0 R1 R2 R3 R4 R5 R6 R7); (try unfold R0); (try unfold R1); (try unfold R2); (try unfold R3); (try unfold R4); (try unfold R5); (try unfold R6); (try unfold R7); (try simp only [opn, not_or, not_and] at *); omega)).elim⟩ | (simp only [decide_eq_true_eq, Bool.not_eq_true', decide_eq_false_iff_not]; (try unfold R0 R1 R2 R3 R4 R5 R6 R7); (try unfold R0); (try unfold R1); (try unfold R2); (try unfold R3); (try unfold R4); (try unfold R5); (try unfold R6); (try unfold R7); (try simp only [opn, not_or, not_and] at *); constructor <;> intro h_ <;> omega)), ha.weak (sub_get ⟨rfl, rfl, rfl, rfl, rfl, rfl, trivial⟩), hw.toHq.lookSub (List.Sublist.refl _)⟩
  rintro act W ⟨bb0, w1, hb0, ha, hw⟩
  refine g_go ha hw ?_
  clear ha hw act W
  refine g_cond rfl (fun cq2 => ?_) (fun cq2 => ?_)
  · (try simp at cq2)
    have r0 : ¬ R0 (ivI g s (i : Int)) := hb0.1 (by simpa using cq2)
    refine g_seq ?_
    refine g_region ?_
    refine s_y (y_assign rfl) rfl rfl rfl rfl ?_
    refine s_nil ?_
    refine g_then ?_
    refine g_ret ?_
    refine g_thenr ?_
    rw [show brk g s i = 1 from by unfold brk brkI; rw [if_pos r0]]
    exact g_end trivial (fun a w ha hq_ => res1 ha rfl rfl  w) (fun w h => ⟨rfl, h.below⟩)
  · (try simp at cq2)
    have r0 : R0 (ivI g s (i : Int)) := Decidable.not_not.1 (fun h_ => by have h2_ := hb0.2 h_; simp_all)
    have r0' : 0 ≤ ivI g s (i : Int) ∧ ivI g s (i : Int) ≤ 14 := r0
    refine g_skip ?_
    refine g_then ?_
    refine g_seq ?_
    refine g_seam (fun act W => ∃ (bb1 : Bool) (w1 : World), (bb1 = true ↔ ¬ R1 (ivI g s (i : Int))) ∧ Has 186 [] [(0, .slice ag g.length cg), (1, .slice as_ s.length cs), (2, .int .i64 (i : Int)), (6, .int .i64 0), (7, .int .i64 (ivI g s (i : Int))), (39, .bool bb1)] act ∧ Hp w w1 ([]) W) ?_ ?_
    · skip
      refine g_region ?_
      refine s_y (y_move rfl) rfl rfl rfl rfl ?_
      refine s_tr (t_call rfl rfl ent_69 (fun w h => Ropen_any w (ivI g s (i : Int)) (by omega) (by omega))) rfl rfl rfl rfl (fun _ _ => ?_)
      refine s_y (y_not rfl) rfl rfl rfl rfl ?_
      refine s_y (y_move rfl) rfl rfl rfl rfl ?_
      refine g_bool 30 rfl (fun cq3 => ?_) (fun cq3 => ?_)
      · (try simp at cq3)
        refine s_y (y_move rfl) rfl rfl rfl rfl ?_
        refine s_tr (t_call rfl rfl ent_70 (fun w h => sort_any w (ivI g s (i : Int)) (by omega) (by omega))) rfl rfl rfl rfl (fun _ _ => ?_)
        refine s_y (y_neq rfl rfl) rfl rfl rfl rfl ?_
        refine s_y (y_pick_t rfl rfl) rfl rfl rfl rfl ?_
        refine s_y (y_move rfl) rfl rfl rfl rfl ?_
        refine g_bool 35 rfl (fun cq4 => ?_) (fun cq4 => ?_)
        · (try simp at cq4)
          refine s_y (y_move rfl) rfl rfl rfl rfl ?_
          refine s_tr (t_call rfl rfl ent_70 (fun w h => sort_any w (ivI g s (i : Int)) (by omega) (by omega))) rfl rfl rfl rfl (fun _ _ => ?_)
          refine s_y (y_neq rfl rfl) rfl rfl rfl rfl ?_
          refine s_y (y_pick_t rfl rfl) rfl rfl rfl rfl ?_
          refine s_nil ?_
          refine g_then ?_
          exact fun act W ha hw => ⟨!decide (((ivI g s (i : Int)) % 7) = 5), W, (by first | exact ⟨fun _ => (by (try unfold R0 R1 R2 R3 R4 R5 R6 R7); (try unfold R0); (try unfold R1); (try unfold R2); (try unfold R3); (try unfold R4); (try unfold R5); (try unfold R6); (try unfold R7); (try simp only [opn, not_or, not_and] at *); omega), fun _ => rfl⟩ | exact ⟨fun h_ => (by cases h_), fun h_ => (h_ (by (try unfold R0 R1 R2 R3 R4 R5 R6 R7); (try unfold R0); (try unfold R1); (try unfold R2); (try unfold R3); (try unfold R4); (try unfold R5); (try unfold R6); (try unfold R7); (try simp only [opn, not_or, not_and] at *); omega)).elim⟩ | (simp only [decide_eq_true_eq, Bool.not_eq_true', decide_eq_false_iff_not]; (try unfold R0 R1 R2 R3 R4 R5 R6 R7); (try unfold R0); (try unfold R1); (try unfold R2); (try unfold R3); (try unfold R4); (try unfold R5); (try unfold R6); (try unfold R7); (try simp only [opn, not_or, not_and] at *); constructor <;> intro h_ <;> omega)), ha.weak (sub_get ⟨rfl, rfl, rfl, rfl, rfl, rfl, trivial⟩), hw.toHq.lookSub (List.Sublist.refl _)⟩
        · (try simp at cq4)
          refine s_no rfl rfl rfl ?_
          refine s_no rfl rfl rfl ?_
          refine s_no rfl rfl rfl ?_
          refine s_y (y_pick_f rfl rfl) rfl rfl rfl rfl ?_
          refine s_nil ?_
          refine g_then ?_
          exact fun act W ha hw => ⟨false, W, (by first | exact ⟨fun _ => (by (try unfold R0 R1 R2 R3 R4 R5 R6 R7); (try unfold R0); (try unfold R1); (try unfold R2); (try unfold R3); (try unfold R4); (try unfold R5); (try unfold R6); (try unfold R7); (try simp only [opn, not_or, not_and] at *); omega), fun _ => rfl⟩ | exact ⟨fun h_ => (by cases h_), fun h_ => (h_ (by (try unfold R0 R1 R2 R3 R4 R5 R6 R7); (try unfold R0); (try unfold R1); (try unfold R2); (try unfold R3); (try unfold R4); (try unfold R5); (try unfold R6); (try unfold R7); (try simp only [opn, not_or, not_and] at *); omega)).elim⟩ | (simp only [decide_eq_true_eq, Bool.not_eq_true', decide_eq_false_iff_not]; (try unfold R0 R1 R2 R3 R4 R5 R6 R7); (try unfold R0); (try unfold R1); (try unfold R2); (try unfold R3); (try unfold R4); (try unfold R5); (try unfold R6); (try unfold R7); (try simp only [opn, not_or, not_and] at *); constructor <;> intro h_ <;> omega)), ha.weak (sub_get ⟨rfl, rfl, rfl, rfl, rfl, rfl, trivial⟩), hw.toHq.lookSub (List.Sublist.refl _)⟩
      · (try simp at cq3)
        refine s_no rfl rfl rfl ?_
        refine s_no rfl rfl rfl ?_
        refine s_no rfl rfl rfl ?_
        refine s_y (y_pick_f rfl rfl) rfl rfl rfl rfl ?_
        refine s_y (y_move rfl) rfl rfl rfl rfl ?_
        refine s_no rfl rfl rfl ?_
        refine s_no rfl rfl rfl ?_
        refine s_no rfl rfl rfl ?_
        refine s_y (y_pick_f rfl rfl) rfl rfl rfl rfl ?_
        refine s_nil ?_
        refine g_then ?_
        exact fun act W ha hw => ⟨false, W, (by first | exact ⟨fun _ => (by (try unfold R0 R1 R2 R3 R4 R5 R6 R7); (try unfold R0); (try unfold R1); (try unfold R2); (try unfold R3); (try unfold R4); (try unfold R5); (try unfold R6); (try unfold R7); (try simp only [opn, not_or, not_and] at *); omega), fun _ => rfl⟩ | exact ⟨fun h_ => (by cases h_), fun h_ => (h_ (by (try unfold R0 R1 R2 R3 R4 R5 R6 R7); (try unfold R0); (try unfold R1); (try unfold R2); (try unfold R3); (try unfold R4); (try unfold R5); (try unfold R6); (try unfold R7); (try simp only [opn, not_or, not_and] at *); omega)).elim⟩ | (simp only [decide_eq_true_eq, Bool.not_eq_true', decide_eq_false_iff_not]; (try unfold R0 R1 R2 R3 R4 R5 R6 R7); (try unfold R0); (try unfold R1); (try unfold R2); (try unfold R3); (try unfold R4); (try unfold R5); (try unfold R6); (try unfold R7); (try simp only [opn, not_or, not_and] at *); constructor <;> intro h_ <;> omega)), ha.weak (sub_get ⟨rfl, rfl, rfl, rfl, rfl, rfl, trivial⟩), hw.toHq.lookSub (List.Sublist.refl _)⟩
    rintro act W ⟨bb1, w1, hb1, ha, hw⟩
    refine g_go ha hw ?_
    clear ha hw act W
    refine g_cond rfl (fun cq5 => ?_) (fun cq5 => ?_)
    · (try simp at cq5)
      have r1 : ¬ R1 (ivI g s (i : Int)) := hb1.1 (by simpa using cq5)
      refine g_seq ?_
      refine g_region ?_
      refine s_y (y_assign rfl) rfl rfl rfl rfl ?_
      refine s_nil ?_
      refine g_then ?_
      refine g_ret ?_
      refine g_thenr ?_
      rw [show brk g s i = 2 from by unfold brk brkI; rw [if_neg (not_not_intro (show R0 (ivI g s (i : Int)) from r0)), if_pos r1]]
      exact g_end trivial (fun a w ha hq_ => res1 ha rfl rfl  w) (fun w h => ⟨rfl, h.below⟩)
    · (try simp at cq5)
      have r1 : R1 (ivI g s (i : Int)) := Decidable.not_not.1 (fun h_ => by have h2_ := hb1.2 h_; simp_all)
      refine g_skip ?_
      refine g_then ?_
      refine g_seq ?_
      refine g_seam (fun act W => ∃ (bb2 : Bool) (w1 : World), (bb2 = true ↔ ¬ R2 g.length (i : Int) (ivI g s (i : Int))) ∧ Has 186 [] [(0, .slice ag g.length cg), (1, .slice as_ s.length cs), (2, .int .i64 (i : Int)), (6, .int .i64 0), (7, .int .i64 (ivI g s (i : Int))), (63, .bool bb2)] act ∧ Hp w w1 ([]) W) ?_ ?_
      · skip
        refine g_region ?_
        refine s_y (y_move rfl) rfl rfl rfl rfl ?_
        refine s_y (y_move rfl) rfl rfl rfl rfl ?_
        refine s_y (y_lenV (n := g.length) rfl (by obtain ⟨A, c, h1, _⟩ := hg; exact ⟨A, c, h1⟩) sle_22) rfl rfl rfl rfl ?_
        refine s_y (y_sub rfl rfl (by omega) (by omega)) rfl rfl rfl rfl ?_
        refine s_y (y_eql rfl rfl) rfl rfl rfl rfl ?_
        refine s_y (y_move rfl) rfl rfl rfl rfl ?_
        refine g_bool 45 rfl (fun cq6 => ?_) (fun cq6 => ?_)
        · (try simp at cq6)
          refine s_y (y_move rfl) rfl rfl rfl rfl ?_
          refine s_y (y_rem rfl rfl (by omega) (by omega)) rfl rfl rfl rfl ?_
          refine s_y (y_neq rfl rfl) rfl rfl rfl rfl ?_
          refine s_y (y_pick_t rfl rfl) rfl rfl rfl rfl ?_
          refine s_y (y_move rfl) rfl rfl rfl rfl ?_
          refine g_bool 50 rfl (fun cq7 => ?_) (fun cq7 => ?_)
          · (try simp at cq7)
            refine s_no rfl rfl rfl ?_
            refine s_no rfl rfl rfl ?_
            refine s_no rfl rfl rfl ?_
            refine s_noU rfl rfl rfl rfl rfl ?_
            refine s_noU rfl rfl rfl rfl rfl ?_
            refine s_noU rfl rfl rfl rfl rfl ?_
            refine s_no rfl rfl rfl ?_
            refine s_no rfl rfl rfl ?_
            refine s_noU rfl rfl rfl rfl rfl ?_
            refine s_noU rfl rfl rfl rfl rfl ?_
            refine s_noU rfl rfl rfl rfl rfl ?_
            refine s_no rfl rfl rfl ?_
            refine s_y (y_pick_t rfl rfl) rfl rfl rfl rfl ?_
            refine s_nil ?_
            refine g_then ?_
            exact fun act W ha hw => ⟨true, W, (by first | exact ⟨fun _ => (by (try unfold R0 R1 R2 R3 R4 R5 R6 R7); (try unfold R0); (try unfold R1); (try unfold R2); (try unfold R3); (try unfold R4); (try unfold R5); (try unfold R6); (try unfold R7); (try simp only [opn, not_or, not_and] at *); omega), fun _ => rfl⟩ | exact ⟨fun h_ => (by cases h_), fun h_ => (h_ (by (try unfold R0 R1 R2 R3 R4 R5 R6 R7); (try unfold R0); (try unfold R1); (try unfold R2); (try unfold R3); (try unfold R4); (try unfold R5); (try unfold R6); (try unfold R7); (try simp only [opn, not_or, not_and] at *); omega)).elim⟩ | (simp only [decide_eq_true_eq, Bool.not_eq_true', decide_eq_false_iff_not]; (try unfold R0 R1 R2 R3 R4 R5 R6 R7); (try unfold R0); (try unfold R1); (try unfold R2); (try unfold R3); (try unfold R4); (try unfold R5); (try unfold R6); (try unfold R7); (try simp only [opn, not_or, not_and] at *); constructor <;> intro h_ <;> omega)), ha.weak (sub_get ⟨rfl, rfl, rfl, rfl, rfl, rfl, trivial⟩), hw.toHq.lookSub (List.Sublist.refl _)⟩
          · (try simp at cq7)
            refine s_y (y_move rfl) rfl rfl rfl rfl ?_
            refine s_y (y_eql rfl rfl) rfl rfl rfl rfl ?_
            refine s_y (y_move rfl) rfl rfl rfl rfl ?_
            refine g_bool 53 rfl (fun cq8 => ?_) (fun cq8 => ?_)
            · (try simp at cq8)
              refine s_y (y_move rfl) rfl rfl rfl rfl ?_
              refine s_y (y_rem rfl rfl (by omega) (by omega)) rfl rfl rfl rfl ?_
              refine s_y (y_neq rfl rfl) rfl rfl rfl rfl ?_
              refine s_y (y_pick_t rfl rfl) rfl rfl rfl rfl ?_
              refine s_y (y_move rfl) rfl rfl rfl rfl ?_
              refine g_bool 58 rfl (fun cq9 => ?_) (fun cq9 => ?_)
              · (try simp at cq9)
                refine s_y (y_move rfl) rfl rfl rfl rfl ?_
                refine s_y (y_rem rfl rfl (by omega) (by omega)) rfl rfl rfl rfl ?_
                refine s_y (y_neq rfl rfl) rfl rfl rfl rfl ?_
                refine s_y (y_pick_t rfl rfl) rfl rfl rfl rfl ?_
                refine s_y (y_pick_f rfl rfl) rfl rfl rfl rfl ?_
                refine s_nil ?_
                refine g_then ?_
                exact fun act W ha hw => ⟨!decide (((ivI g s (i : Int)) % 7) = 4), W, (by first | exact ⟨fun _ => (by (try unfold R0 R1 R2 R3 R4 R5 R6 R7); (try unfold R0); (try unfold R1); (try unfold R2); (try unfold R3); (try unfold R4); (try unfold R5); (try unfold R6); (try unfold R7); (try simp only [opn, not_or, not_and] at *); omega), fun _ => rfl⟩ | exact ⟨fun h_ => (by cases h_), fun h_ => (h_ (by (try unfold R0 R1 R2 R3 R4 R5 R6 R7); (try unfold R0); (try unfold R1); (try unfold R2); (try unfold R3); (try unfold R4); (try unfold R5); (try unfold R6); (try unfold R7); (try simp only [opn, not_or, not_and] at *); omega)).elim⟩ | (simp only [decide_eq_true_eq, Bool.not_eq_true', decide_eq_false_iff_not]; (try unfold R0 R1 R2 R3 R4 R5 R6 R7); (try unfold R0); (try unfold R1); (try unfold R2); (try unfold R3); (try unfold R4); (try unfold R5); (try unfold R6); (try unfold R7); (try simp only [opn, not_or, not_and] at *); constructor <;> intro h_ <;> omega)), ha.weak (sub_get ⟨rfl, rfl, rfl, rfl, rfl, rfl, trivial⟩), hw.toHq.lookSub (List.Sublist.refl _)⟩
              · (try simp at cq9)
                refine s_no rfl rfl rfl ?_
                refine s_no rfl rfl rfl ?_
                refine s_no rfl rfl rfl ?_
                refine s_y (y_pick_f rfl rfl) rfl rfl rfl rfl ?_
                refine s_y (y_pick_f rfl rfl) rfl rfl rfl rfl ?_
                refine s_nil ?_
                refine g_then ?_
                exact fun act W ha hw => ⟨false, W, (by first | exact ⟨fun _ => (by (try unfold R0 R1 R2 R3 R4 R5 R6 R7); (try unfold R0); (try unfold R1); (try unfold R2); (try unfold R3); (try unfold R4); (try unfold R5); (try unfold R6); (try unfold R7); (try simp only [opn, not_or, not_and] at *); omega), fun _ => rfl⟩ | exact ⟨fun h_ => (by cases h_), fun h_ => (h_ (by (try unfold R0 R1 R2 R3 R4 R5 R6 R7); (try unfold R0); (try unfold R1); (try unfold R2); (try unfold R3); (try unfold R4); (try unfold R5); (try unfold R6); (try unfold R7); (try simp only [opn, not_or, not_and] at *); omega)).elim⟩ | (simp only [decide_eq_true_eq, Bool.not_eq_true', decide_eq_false_iff_not]; (try unfold R0 R1 R2 R3 R4 R5 R6 R7); (try unfold R0); (try unfold R1); (try unfold R2); (try unfold R3); (try unfold R4); (try unfold R5); (try unfold R6); (try unfold R7); (try simp only [opn, not_or, not_and] at *); constructor <;> intro h_ <;> omega)), ha.weak (sub_get ⟨rfl, rfl, rfl, rfl, rfl, rfl, trivial⟩), hw.toHq.lookSub (List.Sublist.refl _)⟩
            · (try simp at cq8)
              refine s_no rfl rfl rfl ?_
              refine s_no rfl rfl rfl ?_
              refine s_no rfl rfl rfl ?_
              refine s_y (y_pick_f rfl rfl) rfl rfl rfl rfl ?_
              refine s_y (y_move rfl) rfl rfl rfl rfl ?_
              refine s_no rfl rfl rfl ?_
              refine s_no rfl rfl rfl ?_
              refine s_no rfl rfl rfl ?_
              refine s_y (y_pick_f rfl rfl) rfl rfl rfl rfl ?_
              refine s_y (y_pick_f rfl rfl) rfl rfl rfl rfl ?_
              refine s_nil ?_
              refine g_then ?_
              exact fun act W ha hw => ⟨false, W, (by first | exact ⟨fun _ => (by (try unfold R0 R1 R2 R3 R4 R5 R6 R7); (try unfold R0); (try unfold R1); (try unfold R2); (try unfold R3); (try unfold R4); (try unfold R5); (try unfold R6); (try unfold R7); (try simp only [opn, not_or, not_and] at *); omega), fun _ => rfl⟩ | exact ⟨fun h_ => (by cases h_), fun h_ => (h_ (by (try unfold R0 R1 R2 R3 R4 R5 R6 R7); (try unfold R0); (try unfold R1); (try unfold R2); (try unfold R3); (try unfold R4); (try unfold R5); (try unfold R6); (try unfold R7); (try simp only [opn, not_or, not_and] at *); omega)).elim⟩ | (simp only [decide_eq_true_eq, Bool.not_eq_true', decide_eq_false_iff_not]; (try unfold R0 R1 R2 R3 R4 R5 R6 R7); (try unfold R0); (try unfold R1); (try unfold R2); (try unfold R3); (try unfold R4); (try unfold R5); (try unfold R6); (try unfold R7); (try simp only [opn, not_or, not_and] at *); constructor <;> intro h_ <;> omega)), ha.weak (sub_get ⟨rfl, rfl, rfl, rfl, rfl, rfl, trivial⟩), hw.toHq.lookSub (List.Sublist.refl _)⟩
        · (try simp at cq6)
          refine s_no rfl rfl rfl ?_
          refine s_no rfl rfl rfl ?_
          refine s_no rfl rfl rfl ?_
          refine s_y (y_pick_f rfl rfl) rfl rfl rfl rfl ?_
          refine s_y (y_move rfl) rfl rfl rfl rfl ?_
          refine s_y (y_move rfl) rfl rfl rfl rfl ?_
          refine s_y (y_eql rfl rfl) rfl rfl rfl rfl ?_
          refine s_y (y_move rfl) rfl rfl rfl rfl ?_
          refine g_bool 53 rfl (fun cq10 => ?_) (fun cq10 => ?_)
          · (try simp at cq10)
            refine s_y (y_move rfl) rfl rfl rfl rfl ?_
            refine s_y (y_rem rfl rfl (by omega) (by omega)) rfl rfl rfl rfl ?_
            refine s_y (y_neq rfl rfl) rfl rfl rfl rfl ?_
            refine s_y (y_pick_t rfl rfl) rfl rfl rfl rfl ?_
            refine s_y (y_move rfl) rfl rfl rfl rfl ?_
            refine g_bool 58 rfl (fun cq11 => ?_) (fun cq11 => ?_)
            · (try simp at cq11)
              refine s_y (y_move rfl) rfl rfl rfl rfl ?_
              refine s_y (y_rem rfl rfl (by omega) (by omega)) rfl rfl rfl rfl ?_
              refine s_y (y_neq rfl rfl) rfl rfl rfl rfl ?_
              refine s_y (y_pick_t rfl rfl) rfl rfl rfl rfl ?_
              refine s_y (y_pick_f rfl rfl) rfl rfl rfl rfl ?_
              refine s_nil ?_
              refine g_then ?_
              exact fun act W ha hw => ⟨!decide (((ivI g s (i : Int)) % 7) = 4), W, (by first | exact ⟨fun _ => (by (try unfold R0 R1 R2 R3 R4 R5 R6 R7); (try unfold R0); (try unfold R1); (try unfold R2); (try unfold R3); (try unfold R4); (try unfold R5); (try unfold R6); (try unfold R7); (try simp only [opn, not_or, not_and] at *); omega), fun _ => rfl⟩ | exact ⟨fun h_ => (by cases h_), fun h_ => (h_ (by (try unfold R0 R1 R2 R3 R4 R5 R6 R7); (try unfold R0); (try unfold R1); (try unfold R2); (try unfold R3); (try unfold R4); (try unfold R5); (try unfold R6); (try unfold R7); (try simp only [opn, not_or, not_and] at *); omega)).elim⟩ | (simp only [decide_eq_true_eq, Bool.not_eq_true', decide_eq_false_iff_not]; (try unfold R0 R1 R2 R3 R4 R5 R6 R7); (try unfold R0); (try unfold R1); (try unfold R2); (try unfold R3); (try unfold R4); (try unfold R5); (try unfold R6); (try unfold R7); (try simp only [opn, not_or, not_and] at *); constructor <;> intro h_ <;> omega)), ha.weak (sub_get ⟨rfl, rfl, rfl, rfl, rfl, rfl, trivial⟩), hw.toHq.lookSub (List.Sublist.refl _)⟩
            · (try simp at cq11)
              refine s_no rfl rfl rfl ?_
              refine s_no rfl rfl rfl ?_
              refine s_no rfl rfl rfl ?_
              refine s_y (y_pick_f rfl rfl) rfl rfl rfl rfl ?_
              refine s_y (y_pick_f rfl rfl) rfl rfl rfl rfl ?_
              refine s_nil ?_
              refine g_then ?_
              exact fun act W ha hw => ⟨false, W, (by first | exact ⟨fun _ => (by (try unfold R0 R1 R2 R3 R4 R5 R6 R7); (try unfold R0); (try unfold R1); (try unfold R2); (try unfold R3); (try unfold R4); (try unfold R5); (try unfold R6); (try unfold R7); (try simp only [opn, not_or, not_and] at *); omega), fun _ => rfl⟩ | exact ⟨fun h_ => (by cases h_), fun h_ => (h_ (by (try unfold R0 R1 R2 R3 R4 R5 R6 R7); (try unfold R0); (try unfold R1); (try unfold R2); (try unfold R3); (try unfold R4); (try unfold R5); (try unfold R6); (try unfold R7); (try simp only [opn, not_or, not_and] at *); omega)).elim⟩ | (simp only [decide_eq_true_eq, Bool.not_eq_true', decide_eq_false_iff_not]; (try unfold R0 R1 R2 R3 R4 R5 R6 R7); (try unfold R0); (try unfold R1); (try unfold R2); (try unfold R3); (try unfold R4); (try unfold R5); (try unfold R6); (try unfold R7); (try simp only [opn, not_or, not_and] at *); constructor <;> intro h_ <;> omega)), ha.weak (sub_get ⟨rfl, rfl, rfl, rfl, rfl, rfl, trivial⟩), hw.toHq.lookSub (List.Sublist.refl _)⟩
          · (try simp at cq10)
            refine s_no rfl rfl rfl ?_
            refine s_no rfl rfl rfl ?_
            refine s_no rfl rfl rfl ?_
            refine s_y (y_pick_f rfl rfl) rfl rfl rfl rfl ?_
            refine s_y (y_move rfl) rfl rfl rfl rfl ?_
            refine s_no rfl rfl rfl ?_
            refine s_no rfl rfl rfl ?_
            refine s_no rfl rfl rfl ?_
            refine s_y (y_pick_f rfl rfl) rfl rfl rfl rfl ?_
            refine s_y (y_pick_f rfl rfl) rfl rfl rfl rfl ?_
            refine s_nil ?_
            refine g_then ?_
            exact fun act W ha hw => ⟨false, W, (by first | exact ⟨fun _ => (by (try unfold R0 R1 R2 R3 R4 R5 R6 R7); (try unfold R0); (try unfold R1); (try unfold R2); (try unfold R3); (try unfold R4); (try unfold R5); (try unfold R6); (try unfold R7); (try simp only [opn, not_or, not_and] at *); omega), fun _ => rfl⟩ | exact ⟨fun h_ => (by cases h_), fun h_ => (h_ (by (try unfold R0 R1 R2 R3 R4 R5 R6 R7); (try unfold R0); (try unfold R1); (try unfold R2); (try unfold R3); (try unfold R4); (try unfold R5); (try unfold R6); (try unfold R7); (try simp only [opn, not_or, not_and] at *); omega)).elim⟩ | (simp only [decide_eq_true_eq, Bool.not_eq_true', decide_eq_false_iff_not]; (try unfold R0 R1 R2 R3 R4 R5 R6 R7); (try unfold R0); (try unfold R1); (try unfold R2); (try unfold R3); (try unfold R4); (try unfold R5); (try unfold R6); (try unfold R7); (try simp only [opn, not_or, not_and] at *); constructor <;> intro h_ <;> omega)), ha.weak (sub_get ⟨rfl, rfl, rfl, rfl, rfl, rfl, trivial⟩), hw.toHq.lookSub (List.Sublist.refl _)⟩
      rintro act W ⟨bb2, w1, hb2, ha, hw⟩
      refine g_go ha hw ?_
      clear ha hw act W
      refine g_cond rfl (fun cq12 => ?_) (fun cq12 => ?_)
      · (try simp at cq12)
        have r2 : ¬ R2 g.length (i : Int) (ivI g s (i : Int)) := hb2.1 (by simpa using cq12)
        refine g_seq ?_
        refine g_region ?_
        refine s_y (y_assign rfl) rfl rfl rfl rfl ?_
        refine s_nil ?_
        refine g_then ?_
        refine g_ret ?_
        refine g_thenr ?_
        rw [show brk g s i = 3 from by unfold brk brkI; rw [if_neg (not_not_intro (show R0 (ivI g s (i : Int)) from r0)), if_neg (not_not_intro (show R1 (ivI g s (i : Int)) from r1)), if_pos r2]]
        exact g_end trivial (fun a w ha hq_ => res1 ha rfl rfl  w) (fun w h => ⟨rfl, h.below⟩)
      · (try simp at cq12)
        have r2 : R2 g.length (i : Int) (ivI g s (i : Int)) := Decidable.not_not.1 (fun h_ => by have h2_ := hb2.2 h_; simp_all)
        refine g_skip ?_
        refine g_then ?_
        refine g_seq ?_
        refine g_seq ?_
        refine g_region ?_
        refine s_y (y_move rfl) rfl rfl rfl rfl ?_
        refine s_y (y_eql rfl rfl) rfl rfl rfl rfl ?_
        refine s_nil ?_
        refine g_then ?_
        refine g_cond rfl (fun cq13 => ?_) (fun cq13 => ?_)
        · (try simp at cq13)
          refine g_seq ?_
          refine g_region ?_
          refine s_y (y_assign rfl) rfl rfl rfl rfl ?_
          refine s_nil ?_
          refine g_then ?_
          refine g_ret ?_
          refine g_thenr ?_
          rw [show brk g s i = 0 from by unfold brk brkI; rw [if_neg (not_not_intro (show R0 (ivI g s (i : Int)) from r0)), if_neg (not_not_intro (show R1 (ivI g s (i : Int)) from r1)), if_neg (not_not_intro (show R2 g.length (i : Int) (ivI g s (i : Int)) from r2)), if_neg (not_not_intro (show R3 (i : Int) (mvI s (i : Int)) from by (try unfold R0 R1 R2 R3 R4 R5 R6 R7); (try unfold R0); (try unfold R1); (try unfold R2); (try unfold R3); (try unfold R4); (try unfold R5); (try unfold R6); (try unfold R7); (try simp only [opn, not_or, not_and] at *); omega)), if_neg (not_not_intro (show R4 (i : Int) (ivI g s (i : Int)) (ivI g s ((i : Int) - 1)) (mvI s (i : Int)) from by (try unfold R0 R1 R2 R3 R4 R5 R6 R7); (try unfold R0); (try unfold R1); (try unfold R2); (try unfold R3); (try unfold R4); (try unfold R5); (try unfold R6); (try unfold R7); (try simp only [opn, not_or, not_and] at *); omega)), if_neg (not_not_intro (show R5 (i : Int) (ivI g s (i : Int)) (mvI s (i : Int)) (mvI g (i : Int)) from by (try unfold R0 R1 R2 R3 R4 R5 R6 R7); (try unfold R0); (try unfold R1); (try unfold R2); (try unfold R3); (try unfold R4); (try unfold R5); (try unfold R6); (try unfold R7); (try simp only [opn, not_or, not_and] at *); omega)), if_neg (not_not_intro (show R6 (i : Int) (mvI s ((i : Int) - 1)) (mvI s (i : Int)) from by (try unfold R0 R1 R2 R3 R4 R5 R6 R7); (try unfold R0); (try unfold R1); (try unfold R2); (try unfold R3); (try unfold R4); (try unfold R5); (try unfold R6); (try unfold R7); (try simp only [opn, not_or, not_and] at *); omega)), if_neg (not_not_intro (show R7 (i : Int) (mvI s ((i : Int) - 1)) (mvI s (i : Int)) from by (try unfold R0 R1 R2 R3 R4 R5 R6 R7); (try unfold R0); (try unfold R1); (try unfold R2); (try unfold R3); (try unfold R4); (try unfold R5); (try unfold R6); (try unfold R7); (try simp only [opn, not_or, not_and] at *); omega))]]
          exact g_end trivial (fun a w ha hq_ => res1 ha rfl rfl  w) (fun w h => ⟨rfl, h.below⟩)
        · (try simp at cq13)
          refine g_skip ?_
          refine g_then ?_
          refine g_seq ?_
          refine g_draw 34 (by kernel_rfl) ?_
          refine j_p (i := 0) rfl (y_move rfl) (by kernel_rfl) (by kernel_rfl) (by kernel_rfl) rfl rfl rfl rfl rfl (.inr (fun _ h => h)) ?_
          refine j_p (i := 1) rfl (y_move rfl) (by kernel_rfl) (by kernel_rfl) (by kernel_rfl) rfl rfl rfl rfl rfl (.inr (fun _ h => h)) ?_
          refine j_p (i := 2) rfl (y_idxV (enc := (Value.int .i64)) rfl rfl hs Try.underlying22 size_3 (by omega) (by omega)) (by kernel_rfl) (by kernel_rfl) (by kernel_rfl) rfl rfl rfl rfl rfl (.inr (fun _ h => h)) ?_
          refine j_l (i := 3) rfl (y_ldV (enc := (Value.int .i64)) (xs := s) (fun w h => hs.rdl.below h.below) rfl agg_3 (rdI_at (by omega) (by omega))) (by kernel_rfl) (by kernel_rfl) (by kernel_rfl) (by kernel_rfl) rfl rfl rfl rfl rfl (.inr (fun _ h => h)) ?_
          refine j_p (i := 4) rfl (y_move rfl) (by kernel_rfl) (by kernel_rfl) (by kernel_rfl) rfl rfl rfl rfl rfl (.inr (fun _ h => h)) ?_
          refine j_p (i := 5) rfl (y_move rfl) (by kernel_rfl) (by kernel_rfl) (by kernel_rfl) rfl rfl rfl rfl rfl (.inr (fun _ h => h)) ?_
          refine j_p (i := 6) rfl (y_sub rfl rfl (by omega) (by omega)) (by kernel_rfl) (by kernel_rfl) (by kernel_rfl) rfl rfl rfl rfl rfl (.inr (fun _ h => h)) ?_
          refine j_p (i := 7) rfl (y_idxV (enc := (Value.int .i64)) rfl rfl hs Try.underlying22 size_3 (by omega) (by omega)) (by kernel_rfl) (by kernel_rfl) (by kernel_rfl) rfl rfl rfl rfl rfl (.inr (fun _ h => h)) ?_
          refine j_l (i := 8) rfl (y_ldV (enc := (Value.int .i64)) (xs := s) (fun w h => hs.rdl.below h.below) rfl agg_3 (rdI_at (by omega) (by omega))) (by kernel_rfl) (by kernel_rfl) (by kernel_rfl) (by kernel_rfl) rfl rfl rfl rfl rfl (.inr (fun _ h => h)) ?_
          refine j_p (i := 9) rfl (y_sub rfl rfl (by omega) (by omega)) (by kernel_rfl) (by kernel_rfl) (by kernel_rfl) rfl rfl rfl rfl rfl (.inr (fun _ h => h)) ?_
          refine j_p (i := 10) rfl (y_move rfl) (by kernel_rfl) (by kernel_rfl) (by kernel_rfl) rfl rfl rfl rfl rfl (.inr (fun _ h => h)) ?_
          refine j_p (i := 11) rfl (y_move rfl) (by kernel_rfl) (by kernel_rfl) (by kernel_rfl) rfl rfl rfl rfl rfl (.inr (fun _ h => h)) ?_
          refine j_p (i := 12) rfl (y_idxV (enc := (Value.int .i64)) rfl rfl hg Try.underlying22 size_3 (by omega) (by omega)) (by kernel_rfl) (by kernel_rfl) (by kernel_rfl) rfl rfl rfl rfl rfl (.inr (fun _ h => h)) ?_
          refine j_l (i := 13) rfl (y_ldV (enc := (Value.int .i64)) (xs := g) (fun w h => hg.rdl.below h.below) rfl agg_3 (rdI_at (by omega) (by omega))) (by kernel_rfl) (by kernel_rfl) (by kernel_rfl) (by kernel_rfl) rfl rfl rfl rfl rfl (.inr (fun _ h => h)) ?_
          refine j_p (i := 14) rfl (y_move rfl) (by kernel_rfl) (by kernel_rfl) (by kernel_rfl) rfl rfl rfl rfl rfl (.inr (fun _ h => h)) ?_
          refine j_p (i := 15) rfl (y_move rfl) (by kernel_rfl) (by kernel_rfl) (by kernel_rfl) rfl rfl rfl rfl rfl (.inr (fun _ h => h)) ?_
          refine j_p (i := 16) rfl (y_sub rfl rfl (by omega) (by omega)) (by kernel_rfl) (by kernel_rfl) (by kernel_rfl) rfl rfl rfl rfl rfl (.inr (fun _ h => h)) ?_
          refine j_p (i := 17) rfl (y_idxV (enc := (Value.int .i64)) rfl rfl hg Try.underlying22 size_3 (by omega) (by omega)) (by kernel_rfl) (by kernel_rfl) (by kernel_rfl) rfl rfl rfl rfl rfl (.inr (fun _ h => h)) ?_
          refine j_l (i := 18) rfl (y_ldV (enc := (Value.int .i64)) (xs := g) (fun w h => hg.rdl.below h.below) rfl agg_3 (rdI_at (by omega) (by omega))) (by kernel_rfl) (by kernel_rfl) (by kernel_rfl) (by kernel_rfl) rfl rfl rfl rfl rfl (.inr (fun _ h => h)) ?_
          refine j_p (i := 19) rfl (y_sub rfl rfl (by omega) (by omega)) (by kernel_rfl) (by kernel_rfl) (by kernel_rfl) rfl rfl rfl rfl rfl (.inr (fun _ h => h)) ?_
          refine j_p (i := 20) rfl (y_move rfl) (by kernel_rfl) (by kernel_rfl) (by kernel_rfl) rfl rfl rfl rfl rfl (.inr (fun _ h => h)) ?_
          refine j_p (i := 21) rfl (y_move rfl) (by kernel_rfl) (by kernel_rfl) (by kernel_rfl) rfl rfl rfl rfl rfl (.inr (fun _ h => h)) ?_
          refine j_p (i := 22) rfl (y_sub rfl rfl (by omega) (by omega)) (by kernel_rfl) (by kernel_rfl) (by kernel_rfl) rfl rfl rfl rfl rfl (.inr (fun _ h => h)) ?_
          refine j_p (i := 23) rfl (y_idxV (enc := (Value.int .i64)) rfl rfl hs Try.underlying22 size_3 (by omega) (by omega)) (by kernel_rfl) (by kernel_rfl) (by kernel_rfl) rfl rfl rfl rfl rfl (.inr (fun _ h => h)) ?_
          refine j_l (i := 24) rfl (y_ldV (enc := (Value.int .i64)) (xs := s) (fun w h => hs.rdl.below h.below) rfl agg_3 (rdI_at (by omega) (by omega))) (by kernel_rfl) (by kernel_rfl) (by kernel_rfl) (by kernel_rfl) rfl rfl rfl rfl rfl (.inr (fun _ h => h)) ?_
          refine j_p (i := 25) rfl (y_move rfl) (by kernel_rfl) (by kernel_rfl) (by kernel_rfl) rfl rfl rfl rfl rfl (.inr (fun _ h => h)) ?_
          refine j_p (i := 26) rfl (y_move rfl) (by kernel_rfl) (by kernel_rfl) (by kernel_rfl) rfl rfl rfl rfl rfl (.inr (fun _ h => h)) ?_
          refine j_p (i := 27) rfl (y_sub rfl rfl (by omega) (by omega)) (by kernel_rfl) (by kernel_rfl) (by kernel_rfl) rfl rfl rfl rfl rfl (.inr (fun _ h => h)) ?_
          refine j_p (i := 28) rfl (y_idxV (enc := (Value.int .i64)) rfl rfl hg Try.underlying22 size_3 (by omega) (by omega)) (by kernel_rfl) (by kernel_rfl) (by kernel_rfl) rfl rfl rfl rfl rfl (.inr (fun _ h => h)) ?_
          refine j_l (i := 29) rfl (y_ldV (enc := (Value.int .i64)) (xs := g) (fun w h => hg.rdl.below h.below) rfl agg_3 (rdI_at (by omega) (by omega))) (by kernel_rfl) (by kernel_rfl) (by kernel_rfl) (by kernel_rfl) rfl rfl rfl rfl rfl (.inr (fun _ h => h)) ?_
          refine j_p (i := 30) rfl (y_sub rfl rfl (by omega) (by omega)) (by kernel_rfl) (by kernel_rfl) (by kernel_rfl) rfl rfl rfl rfl rfl (.inr (fun _ h => h)) ?_
          refine j_p (i := 31) rfl (y_assign rfl) (by kernel_rfl) (by kernel_rfl) (by kernel_rfl) rfl rfl rfl rfl rfl (.inr (fun _ h => h)) ?_
          refine j_p (i := 32) rfl (y_assign rfl) (by kernel_rfl) (by kernel_rfl) (by kernel_rfl) rfl rfl rfl rfl rfl (.inr (fun _ h => h)) ?_
          refine j_p (i := 33) rfl (y_assign rfl) (by kernel_rfl) (by kernel_rfl) (by kernel_rfl) rfl rfl rfl rfl rfl (.inr (fun _ h => h)) ?_
          refine j_nil (by kernel_rfl) ?_
          refine g_then ?_
          refine g_seq ?_
          refine g_seam (fun act W => ∃ (bb3 : Bool) (w1 : World), (bb3 = true ↔ ¬ R3 (i : Int) (mvI s (i : Int))) ∧ Has 186 [] [(1, .slice as_ s.length cs), (2, .int .i64 (i : Int)), (6, .int .i64 0), (7, .int .i64 (ivI g s (i : Int))), (8, .int .i64 (mvI s (i : Int))), (9, .int .i64 (mvI g (i : Int))), (10, .int .i64 (ivI g s ((i : Int) - 1))), (104, .bool bb3)] act ∧ Hp w w1 ([]) W) ?_ ?_
          · skip
            refine g_region ?_
            refine s_y (y_move rfl) rfl rfl rfl rfl ?_
            refine s_tr (t_call rfl rfl ent_71 (fun w h => Rabs_any w (mvI s (i : Int)) (by omega) (by omega))) rfl rfl rfl rfl (fun _ _ => ?_)
            refine s_y (y_gtr rfl rfl) rfl rfl rfl rfl ?_
            refine s_y (y_move rfl) rfl rfl rfl rfl ?_
            refine g_bool 100 rfl (fun cq14 => ?_) (fun cq14 => ?_)
            · (try simp at cq14)
              refine s_y (y_move rfl) rfl rfl rfl rfl ?_
              refine s_tr (t_call rfl rfl ent_71 (fun w h => Rabs_any w (mvI s (i : Int)) (by omega) (by omega))) rfl rfl rfl rfl (fun _ _ => ?_)
              refine s_y (y_neq rfl rfl) rfl rfl rfl rfl ?_
              refine s_y (y_pick_t rfl rfl) rfl rfl rfl rfl ?_
              refine s_nil ?_
              refine g_then ?_
              exact fun act W ha hw => ⟨!decide ((aI (mvI s (i : Int))) = 7), W, (by first | exact ⟨fun _ => (by (try unfold R0 R1 R2 R3 R4 R5 R6 R7); (try unfold R0); (try unfold R1); (try unfold R2); (try unfold R3); (try unfold R4); (try unfold R5); (try unfold R6); (try unfold R7); (try simp only [opn, not_or, not_and] at *); omega), fun _ => rfl⟩ | exact ⟨fun h_ => (by cases h_), fun h_ => (h_ (by (try unfold R0 R1 R2 R3 R4 R5 R6 R7); (try unfold R0); (try unfold R1); (try unfold R2); (try unfold R3); (try unfold R4); (try unfold R5); (try unfold R6); (try unfold R7); (try simp only [opn, not_or, not_and] at *); omega)).elim⟩ | (simp only [decide_eq_true_eq, Bool.not_eq_true', decide_eq_false_iff_not]; (try unfold R0 R1 R2 R3 R4 R5 R6 R7); (try unfold R0); (try unfold R1); (try unfold R2); (try unfold R3); (try unfold R4); (try unfold R5); (try unfold R6); (try unfold R7); (try simp only [opn, not_or, not_and] at *); constructor <;> intro h_ <;> omega)), ha.weak (sub_get ⟨rfl, rfl, rfl, rfl, rfl, rfl, rfl, rfl, trivial⟩), hw.toHq.lookSub (List.Sublist.refl _)⟩
            · (try simp at cq14)
              refine s_no rfl rfl rfl ?_
              refine s_no rfl rfl rfl ?_
              refine s_no rfl rfl rfl ?_
              refine s_y (y_pick_f rfl rfl) rfl rfl rfl rfl ?_
              refine s_nil ?_
              refine g_then ?_
              exact fun act W ha hw => ⟨false, W, (by first | exact ⟨fun _ => (by (try unfold R0 R1 R2 R3 R4 R5 R6 R7); (try unfold R0); (try unfold R1); (try unfold R2); (try unfold R3); (try unfold R4); (try unfold R5); (try unfold R6); (try unfold R7); (try simp only [opn, not_or, not_and] at *); omega), fun _ => rfl⟩ | exact ⟨fun h_ => (by cases h_), fun h_ => (h_ (by (try unfold R0 R1 R2 R3 R4 R5 R6 R7); (try unfold R0); (try unfold R1); (try unfold R2); (try unfold R3); (try unfold R4); (try unfold R5); (try unfold R6); (try unfold R7); (try simp only [opn, not_or, not_and] at *); omega)).elim⟩ | (simp only [decide_eq_true_eq, Bool.not_eq_true', decide_eq_false_iff_not]; (try unfold R0 R1 R2 R3 R4 R5 R6 R7); (try unfold R0); (try unfold R1); (try unfold R2); (try unfold R3); (try unfold R4); (try unfold R5); (try unfold R6); (try unfold R7); (try simp only [opn, not_or, not_and] at *); constructor <;> intro h_ <;> omega)), ha.weak (sub_get ⟨rfl, rfl, rfl, rfl, rfl, rfl, rfl, rfl, trivial⟩), hw.toHq.lookSub (List.Sublist.refl _)⟩
          rintro act W ⟨bb3, w1, hb3, ha, hw⟩
          refine g_go ha hw ?_
          clear ha hw act W
          refine g_cond rfl (fun cq15 => ?_) (fun cq15 => ?_)
          · (try simp at cq15)
            have r3 : ¬ R3 (i : Int) (mvI s (i : Int)) := hb3.1 (by simpa using cq15)
            refine g_seq ?_
            refine g_region ?_
            refine s_y (y_assign rfl) rfl rfl rfl rfl ?_
            refine s_nil ?_
            refine g_then ?_
            refine g_ret ?_
            refine g_thenr ?_
            rw [show brk g s i = 4 from by unfold brk brkI; rw [if_neg (not_not_intro (show R0 (ivI g s (i : Int)) from r0)), if_neg (not_not_intro (show R1 (ivI g s (i : Int)) from r1)), if_neg (not_not_intro (show R2 g.length (i : Int) (ivI g s (i : Int)) from r2)), if_pos r3]]
            exact g_end trivial (fun a w ha hq_ => res1 ha rfl rfl  w) (fun w h => ⟨rfl, h.below⟩)
          · (try simp at cq15)
            have r3 : R3 (i : Int) (mvI s (i : Int)) := Decidable.not_not.1 (fun h_ => by have h2_ := hb3.2 h_; simp_all)
            refine g_skip ?_
            refine g_then ?_
            refine g_seq ?_
            refine g_seam (fun act W => ∃ (bb4 : Bool) (w1 : World), (bb4 = true ↔ ¬ R4 (i : Int) (ivI g s (i : Int)) (ivI g s ((i : Int) - 1)) (mvI s (i : Int))) ∧ Has 186 [] [(1, .slice as_ s.length cs), (2, .int .i64 (i : Int)), (6, .int .i64 0), (7, .int .i64 (ivI g s (i : Int))), (8, .int .i64 (mvI s (i : Int))), (9, .int .i64 (mvI g (i : Int))), (121, .bool bb4)] act ∧ Hp w w1 ([]) W) ?_ ?_
            · skip
              refine g_region ?_
              refine s_y (y_move rfl) rfl rfl rfl rfl ?_
              refine s_tr (t_call rfl rfl ent_69 (fun w h => Ropen_any w (ivI g s ((i : Int) - 1)) (by omega) (by omega))) rfl rfl rfl rfl (fun _ _ => ?_)
              refine s_y (y_move rfl) rfl rfl rfl rfl ?_
              refine g_bool 107 rfl (fun cq16 => ?_) (fun cq16 => ?_)
              · (try simp at cq16)
                refine s_y (y_move rfl) rfl rfl rfl rfl ?_
                refine s_tr (t_call rfl rfl ent_69 (fun w h => Ropen_any w (ivI g s (i : Int)) (by omega) (by omega))) rfl rfl rfl rfl (fun _ _ => ?_)
                refine s_y (y_pick_t rfl rfl) rfl rfl rfl rfl ?_
                refine s_y (y_move rfl) rfl rfl rfl rfl ?_
                refine g_bool 111 rfl (fun cq17 => ?_) (fun cq17 => ?_)
                · (try simp at cq17)
                  refine s_y (y_move rfl) rfl rfl rfl rfl ?_
                  refine s_tr (t_call rfl rfl ent_70 (fun w h => sort_any w (ivI g s ((i : Int) - 1)) (by omega) (by omega))) rfl rfl rfl rfl (fun _ _ => ?_)
                  refine s_y (y_move rfl) rfl rfl rfl rfl ?_
                  refine s_tr (t_call rfl rfl ent_70 (fun w h => sort_any w (ivI g s (i : Int)) (by omega) (by omega))) rfl rfl rfl rfl (fun _ _ => ?_)
                  refine s_y (y_eql rfl rfl) rfl rfl rfl rfl ?_
                  refine s_y (y_pick_t rfl rfl) rfl rfl rfl rfl ?_
                  refine s_y (y_move rfl) rfl rfl rfl rfl ?_
                  refine g_bool 118 rfl (fun cq18 => ?_) (fun cq18 => ?_)
                  · (try simp at cq18)
                    refine s_y (y_move rfl) rfl rfl rfl rfl ?_
                    refine s_y (y_neq rfl rfl) rfl rfl rfl rfl ?_
                    refine s_y (y_pick_t rfl rfl) rfl rfl rfl rfl ?_
                    refine s_nil ?_
                    refine g_then ?_
                    exact fun act W ha hw => ⟨!decide ((mvI s (i : Int)) = 0), W, (by first | exact ⟨fun _ => (by (try unfold R0 R1 R2 R3 R4 R5 R6 R7); (try unfold R0); (try unfold R1); (try unfold R2); (try unfold R3); (try unfold R4); (try unfold R5); (try unfold R6); (try unfold R7); (try simp only [opn, not_or, not_and] at *); omega), fun _ => rfl⟩ | exact ⟨fun h_ => (by cases h_), fun h_ => (h_ (by (try unfold R0 R1 R2 R3 R4 R5 R6 R7); (try unfold R0); (try unfold R1); (try unfold R2); (try unfold R3); (try unfold R4); (try unfold R5); (try unfold R6); (try unfold R7); (try simp only [opn, not_or, not_and] at *); omega)).elim⟩ | (simp only [decide_eq_true_eq, Bool.not_eq_true', decide_eq_false_iff_not]; (try unfold R0 R1 R2 R3 R4 R5 R6 R7); (try unfold R0); (try unfold R1); (try unfold R2); (try unfold R3); (try unfold R4); (try unfold R5); (try unfold R6); (try unfold R7); (try simp only [opn, not_or, not_and] at *); constructor <;> intro h_ <;> omega)), ha.weak (sub_get ⟨rfl, rfl, rfl, rfl, rfl, rfl, rfl, trivial⟩), hw.toHq.lookSub (List.Sublist.refl _)⟩
                  · (try simp at cq18)
                    refine s_no rfl rfl rfl ?_
                    refine s_no rfl rfl rfl ?_
                    refine s_y (y_pick_f rfl rfl) rfl rfl rfl rfl ?_
                    refine s_nil ?_
                    refine g_then ?_
                    exact fun act W ha hw => ⟨false, W, (by first | exact ⟨fun _ => (by (try unfold R0 R1 R2 R3 R4 R5 R6 R7); (try unfold R0); (try unfold R1); (try unfold R2); (try unfold R3); (try unfold R4); (try unfold R5); (try unfold R6); (try unfold R7); (try simp only [opn, not_or, not_and] at *); omega), fun _ => rfl⟩ | exact ⟨fun h_ => (by cases h_), fun h_ => (h_ (by (try unfold R0 R1 R2 R3 R4 R5 R6 R7); (try unfold R0); (try unfold R1); (try unfold R2); (try unfold R3); (try unfold R4); (try unfold R5); (try unfold R6); (try unfold R7); (try simp only [opn, not_or, not_and] at *); omega)).elim⟩ | (simp only [decide_eq_true_eq, Bool.not_eq_true', decide_eq_false_iff_not]; (try unfold R0 R1 R2 R3 R4 R5 R6 R7); (try unfold R0); (try unfold R1); (try unfold R2); (try unfold R3); (try unfold R4); (try unfold R5); (try unfold R6); (try unfold R7); (try simp only [opn, not_or, not_and] at *); constructor <;> intro h_ <;> omega)), ha.weak (sub_get ⟨rfl, rfl, rfl, rfl, rfl, rfl, rfl, trivial⟩), hw.toHq.lookSub (List.Sublist.refl _)⟩
                · (try simp at cq17)
                  refine s_no rfl rfl rfl ?_
                  refine s_no rfl rfl rfl ?_
                  refine s_no rfl rfl rfl ?_
                  refine s_no rfl rfl rfl ?_
                  refine s_no rfl rfl rfl ?_
                  refine s_y (y_pick_f rfl rfl) rfl rfl rfl rfl ?_
                  refine s_y (y_move rfl) rfl rfl rfl rfl ?_
                  refine s_no rfl rfl rfl ?_
                  refine s_no rfl rfl rfl ?_
                  refine s_y (y_pick_f rfl rfl) rfl rfl rfl rfl ?_
                  refine s_nil ?_
                  refine g_then ?_
                  exact fun act W ha hw => ⟨false, W, (by first | exact ⟨fun _ => (by (try unfold R0 R1 R2 R3 R4 R5 R6 R7); (try unfold R0); (try unfold R1); (try unfold R2); (try unfold R3); (try unfold R4); (try unfold R5); (try unfold R6); (try unfold R7); (try simp only [opn, not_or, not_and] at *); omega), fun _ => rfl⟩ | exact ⟨fun h_ => (by cases h_), fun h_ => (h_ (by (try unfold R0 R1 R2 R3 R4 R5 R6 R7); (try unfold R0); (try unfold R1); (try unfold R2); (try unfold R3); (try unfold R4); (try unfold R5); (try unfold R6); (try unfold R7); (try simp only [opn, not_or, not_and] at *); omega)).elim⟩ | (simp only [decide_eq_true_eq, Bool.not_eq_true', decide_eq_false_iff_not]; (try unfold R0 R1 R2 R3 R4 R5 R6 R7); (try unfold R0); (try unfold R1); (try unfold R2); (try unfold R3); (try unfold R4); (try unfold R5); (try unfold R6); (try unfold R7); (try simp only [opn, not_or, not_and] at *); constructor <;> intro h_ <;> omega)), ha.weak (sub_get ⟨rfl, rfl, rfl, rfl, rfl, rfl, rfl, trivial⟩), hw.toHq.lookSub (List.Sublist.refl _)⟩
              · (try simp at cq16)
                refine s_no rfl rfl rfl ?_
                refine s_no rfl rfl rfl ?_
                refine s_y (y_pick_f rfl rfl) rfl rfl rfl rfl ?_
                refine s_y (y_move rfl) rfl rfl rfl rfl ?_
                refine s_no rfl rfl rfl ?_
                refine s_no rfl rfl rfl ?_
                refine s_no rfl rfl rfl ?_
                refine s_no rfl rfl rfl ?_
                refine s_no rfl rfl rfl ?_
                refine s_y (y_pick_f rfl rfl) rfl rfl rfl rfl ?_
                refine s_y (y_move rfl) rfl rfl rfl rfl ?_
                refine s_no rfl rfl rfl ?_
                refine s_no rfl rfl rfl ?_
                refine s_y (y_pick_f rfl rfl) rfl rfl rfl rfl ?_
                refine s_nil ?_
                refine g_then ?_
                exact fun act W ha hw => ⟨false, W, (by first | exact ⟨fun _ => (by (try unfold R0 R1 R2 R3 R4 R5 R6 R7); (try unfold R0); (try unfold R1); (try unfold R2); (try unfold R3); (try unfold R4); (try unfold R5); (try unfold R6); (try unfold R7); (try simp only [opn, not_or, not_and] at *); omega), fun _ => rfl⟩ | exact ⟨fun h_ => (by cases h_), fun h_ => (h_ (by (try unfold R0 R1 R2 R3 R4 R5 R6 R7); (try unfold R0); (try unfold R1); (try unfold R2); (try unfold R3); (try unfold R4); (try unfold R5); (try unfold R6); (try unfold R7); (try simp only [opn, not_or, not_and] at *); omega)).elim⟩ | (simp only [decide_eq_true_eq, Bool.not_eq_true', decide_eq_false_iff_not]; (try unfold R0 R1 R2 R3 R4 R5 R6 R7); (try unfold R0); (try unfold R1); (try unfold R2); (try unfold R3); (try unfold R4); (try unfold R5); (try unfold R6); (try unfold R7); (try simp only [opn, not_or, not_and] at *); constructor <;> intro h_ <;> omega)), ha.weak (sub_get ⟨rfl, rfl, rfl, rfl, rfl, rfl, rfl, trivial⟩), hw.toHq.lookSub (List.Sublist.refl _)⟩
            rintro act W ⟨bb4, w1, hb4, ha, hw⟩
            refine g_go ha hw ?_
            clear ha hw act W
            refine g_cond rfl (fun cq19 => ?_) (fun cq19 => ?_)
            · (try simp at cq19)
              have r4 : ¬ R4 (i : Int) (ivI g s (i : Int)) (ivI g s ((i : Int) - 1)) (mvI s (i : Int)) := hb4.1 (by simpa using cq19)
              refine g_seq ?_
              refine g_region ?_
              refine s_y (y_assign rfl) rfl rfl rfl rfl ?_
              refine s_nil ?_
              refine g_then ?_
              refine g_ret ?_
              refine g_thenr ?_
              rw [show brk g s i = 5 from by unfold brk brkI; rw [if_neg (not_not_intro (show R0 (ivI g s (i : Int)) from r0)), if_neg (not_not_intro (show R1 (ivI g s (i : Int)) from r1)), if_neg (not_not_intro (show R2 g.length (i : Int) (ivI g s (i : Int)) from r2)), if_neg (not_not_intro (show R3 (i : Int) (mvI s (i : Int)) from r3)), if_pos r4]]
              exact g_end trivial (fun a w ha hq_ => res1 ha rfl rfl  w) (fun w h => ⟨rfl, h.below⟩)
            · (try simp at cq19)
              have r4 : R4 (i : Int) (ivI g s (i : Int)) (ivI g s ((i : Int) - 1)) (mvI s (i : Int)) := Decidable.not_not.1 (fun h_ => by have h2_ := hb4.2 h_; simp_all)
              refine g_skip ?_
              refine g_then ?_
              refine g_seq ?_
              refine g_seam (fun act W => ∃ (bb5 : Bool) (w1 : World), (bb5 = true ↔ ¬ R5 (i : Int) (ivI g s (i : Int)) (mvI s (i : Int)) (mvI g (i : Int))) ∧ Has 186 [] [(1, .slice as_ s.length cs), (2, .int .i64 (i : Int)), (6, .int .i64 0), (8, .int .i64 (mvI s (i : Int))), (144, .bool bb5)] act ∧ Hp w w1 ([]) W) ?_ ?_
              · skip
                refine g_region ?_
                refine s_y (y_move rfl) rfl rfl rfl rfl ?_
                refine s_tr (t_call rfl rfl ent_69 (fun w h => Ropen_any w (ivI g s (i : Int)) (by omega) (by omega))) rfl rfl rfl rfl (fun _ _ => ?_)
                refine s_y (y_move rfl) rfl rfl rfl rfl ?_
                refine g_bool 124 rfl (fun cq20 => ?_) (fun cq20 => ?_)
                · (try simp at cq20)
                  refine s_y (y_move rfl) rfl rfl rfl rfl ?_
                  refine s_y (y_gtr rfl rfl) rfl rfl rfl rfl ?_
                  refine s_y (y_move rfl) rfl rfl rfl rfl ?_
                  refine g_bool 127 rfl (fun cq21 => ?_) (fun cq21 => ?_)
                  · (try simp at cq21)
                    refine s_y (y_move rfl) rfl rfl rfl rfl ?_
                    refine s_y (y_gtr rfl rfl) rfl rfl rfl rfl ?_
                    refine s_y (y_pick_t rfl rfl) rfl rfl rfl rfl ?_
                    refine s_y (y_move rfl) rfl rfl rfl rfl ?_
                    refine g_bool 131 rfl (fun cq22 => ?_) (fun cq22 => ?_)
                    · (try simp at cq22)
                      refine s_no rfl rfl rfl ?_
                      refine s_no rfl rfl rfl ?_
                      refine s_no rfl rfl rfl ?_
                      refine s_noU rfl rfl rfl rfl rfl ?_
                      refine s_noU rfl rfl rfl rfl rfl ?_
                      refine s_no rfl rfl rfl ?_
                      refine s_y (y_pick_t rfl rfl) rfl rfl rfl rfl ?_
                      refine s_y (y_pick_t rfl rfl) rfl rfl rfl rfl ?_
                      refine s_y (y_move rfl) rfl rfl rfl rfl ?_
                      refine s_y (y_move rfl) rfl rfl rfl rfl ?_
                      refine s_tr (t_call rfl rfl ent_71 (fun w h => Rabs_any w (mvI s (i : Int)) (by omega) (by omega))) rfl rfl rfl rfl (fun _ _ => ?_)
                      refine s_y (y_neq rfl rfl) rfl rfl rfl rfl ?_
                      refine s_y (y_pick_t rfl rfl) rfl rfl rfl rfl ?_
                      refine s_nil ?_
                      refine g_then ?_
                      exact fun act W ha hw => ⟨!decide ((aI (mvI s (i : Int))) = 1), W, (by first | exact ⟨fun _ => (by (try unfold R0 R1 R2 R3 R4 R5 R6 R7); (try unfold R0); (try unfold R1); (try unfold R2); (try unfold R3); (try unfold R4); (try unfold R5); (try unfold R6); (try unfold R7); (try simp only [opn, not_or, not_and] at *); omega), fun _ => rfl⟩ | exact ⟨fun h_ => (by cases h_), fun h_ => (h_ (by (try unfold R0 R1 R2 R3 R4 R5 R6 R7); (try unfold R0); (try unfold R1); (try unfold R2); (try unfold R3); (try unfold R4); (try unfold R5); (try unfold R6); (try unfold R7); (try simp only [opn, not_or, not_and] at *); omega)).elim⟩ | (simp only [decide_eq_true_eq, Bool.not_eq_true', decide_eq_false_iff_not]; (try unfold R0 R1 R2 R3 R4 R5 R6 R7); (try unfold R0); (try unfold R1); (try unfold R2); (try unfold R3); (try unfold R4); (try unfold R5); (try unfold R6); (try unfold R7); (try simp only [opn, not_or, not_and] at *); constructor <;> intro h_ <;> omega)), ha.weak (sub_get ⟨rfl, rfl, rfl, rfl, rfl, trivial⟩), hw.toHq.lookSub (List.Sublist.refl _)⟩
                    · (try simp at cq22)
                      refine s_y (y_move rfl) rfl rfl rfl rfl ?_
                      refine s_y (y_lss rfl rfl) rfl rfl rfl rfl ?_
                      refine s_y (y_move rfl) rfl rfl rfl rfl ?_
                      refine g_bool 134 rfl (fun cq23 => ?_) (fun cq23 => ?_)
                      · (try simp at cq23)
                        refine s_y (y_move rfl) rfl rfl rfl rfl ?_
                        refine s_y (y_lss rfl rfl) rfl rfl rfl rfl ?_
                        refine s_y (y_pick_t rfl rfl) rfl rfl rfl rfl ?_
                        refine s_y (y_pick_f rfl rfl) rfl rfl rfl rfl ?_
                        refine s_y (y_pick_t rfl rfl) rfl rfl rfl rfl ?_
                        refine s_y (y_move rfl) rfl rfl rfl rfl ?_
                        refine g_bool 140 rfl (fun cq24 => ?_) (fun cq24 => ?_)
                        · (try simp at cq24)
                          refine s_y (y_move rfl) rfl rfl rfl rfl ?_
                          refine s_tr (t_call rfl rfl ent_71 (fun w h => Rabs_any w (mvI s (i : Int)) (by omega) (by omega))) rfl rfl rfl rfl (fun _ _ => ?_)
                          refine s_y (y_neq rfl rfl) rfl rfl rfl rfl ?_
                          refine s_y (y_pick_t rfl rfl) rfl rfl rfl rfl ?_
                          refine s_nil ?_
                          refine g_then ?_
                          exact fun act W ha hw => ⟨!decide ((aI (mvI s (i : Int))) = 1), W, (by first | exact ⟨fun _ => (by (try unfold R0 R1 R2 R3 R4 R5 R6 R7); (try unfold R0); (try unfold R1); (try unfold R2); (try unfold R3); (try unfold R4); (try unfold R5); (try unfold R6); (try unfold R7); (try simp only [opn, not_or, not_and] at *); omega), fun _ => rfl⟩ | exact ⟨fun h_ => (by cases h_), fun h_ => (h_ (by (try unfold R0 R1 R2 R3 R4 R5 R6 R7); (try unfold R0); (try unfold R1); (try unfold R2); (try unfold R3); (try unfold R4); (try unfold R5); (try unfold R6); (try unfold R7); (try simp only [opn, not_or, not_and] at *); omega)).elim⟩ | (simp only [decide_eq_true_eq, Bool.not_eq_true', decide_eq_false_iff_not]; (try unfold R0 R1 R2 R3 R4 R5 R6 R7); (try unfold R0); (try unfold R1); (try unfold R2); (try unfold R3); (try unfold R4); (try unfold R5); (try unfold R6); (try unfold R7); (try simp only [opn, not_or, not_and] at *); constructor <;> intro h_ <;> omega)), ha.weak (sub_get ⟨rfl, rfl, rfl, rfl, rfl, trivial⟩), hw.toHq.lookSub (List.Sublist.refl _)⟩
                        · (try simp at cq24)
                          refine s_no rfl rfl rfl ?_
                          refine s_no rfl rfl rfl ?_
                          refine s_no rfl rfl rfl ?_
                          refine s_y (y_pick_f rfl rfl) rfl rfl rfl rfl ?_
                          refine s_nil ?_
                          refine g_then ?_
                          exact fun act W ha hw => ⟨false, W, (by first | exact ⟨fun _ => (by (try unfold R0 R1 R2 R3 R4 R5 R6 R7); (try unfold R0); (try unfold R1); (try unfold R2); (try unfold R3); (try unfold R4); (try unfold R5); (try unfold R6); (try unfold R7); (try simp only [opn, not_or, not_and] at *); omega), fun _ => rfl⟩ | exact ⟨fun h_ => (by cases h_), fun h_ => (h_ (by (try unfold R0 R1 R2 R3 R4 R5 R6 R7); (try unfold R0); (try unfold R1); (try unfold R2); (try unfold R3); (try unfold R4); (try unfold R5); (try unfold R6); (try unfold R7); (try simp only [opn, not_or, not_and] at *); omega)).elim⟩ | (simp only [decide_eq_true_eq, Bool.not_eq_true', decide_eq_false_iff_not]; (try unfold R0 R1 R2 R3 R4 R5 R6 R7); (try unfold R0); (try unfold R1); (try unfold R2); (try unfold R3); (try unfold R4); (try unfold R5); (try unfold R6); (try unfold R7); (try simp only [opn, not_or, not_and] at *); constructor <;> intro h_ <;> omega)), ha.weak (sub_get ⟨rfl, rfl, rfl, rfl, rfl, trivial⟩), hw.toHq.lookSub (List.Sublist.refl _)⟩
                      · (try simp at cq23)
                        refine s_no rfl rfl rfl ?_
                        refine s_no rfl rfl rfl ?_
                        refine s_y (y_pick_f rfl rfl) rfl rfl rfl rfl ?_
                        refine s_y (y_pick_f rfl rfl) rfl rfl rfl rfl ?_
                        refine s_y (y_pick_t rfl rfl) rfl rfl rfl rfl ?_
                        refine s_y (y_move rfl) rfl rfl rfl rfl ?_
                        refine s_no rfl rfl rfl ?_
                        refine s_no rfl rfl rfl ?_
                        refine s_no rfl rfl rfl ?_
                        refine s_y (y_pick_f rfl rfl) rfl rfl rfl rfl ?_
                        refine s_nil ?_
                        refine g_then ?_
                        exact fun act W ha hw => ⟨false, W, (by first | exact ⟨fun _ => (by (try unfold R0 R1 R2 R3 R4 R5 R6 R7); (try unfold R0); (try unfold R1); (try unfold R2); (try unfold R3); (try unfold R4); (try unfold R5); (try unfold R6); (try unfold R7); (try simp only [opn, not_or, not_and] at *); omega), fun _ => rfl⟩ | exact ⟨fun h_ => (by cases h_), fun h_ => (h_ (by (try unfold R0 R1 R2 R3 R4 R5 R6 R7); (try unfold R0); (try unfold R1); (try unfold R2); (try unfold R3); (try unfold R4); (try unfold R5); (try unfold R6); (try unfold R7); (try simp only [opn, not_or, not_and] at *); omega)).elim⟩ | (simp only [decide_eq_true_eq, Bool.not_eq_true', decide_eq_false_iff_not]; (try unfold R0 R1 R2 R3 R4 R5 R6 R7); (try unfold R0); (try unfold R1); (try unfold R2); (try unfold R3); (try unfold R4); (try unfold R5); (try unfold R6); (try unfold R7); (try simp only [opn, not_or, not_and] at *); constructor <;> intro h_ <;> omega)), ha.weak (sub_get ⟨rfl, rfl, rfl, rfl, rfl, trivial⟩), hw.toHq.lookSub (List.Sublist.refl _)⟩
                  · (try simp at cq21)
                    refine s_no rfl rfl rfl ?_
                    refine s_no rfl rfl rfl ?_
                    refine s_y (y_pick_f rfl rfl) rfl rfl rfl rfl ?_
                    refine s_y (y_move rfl) rfl rfl rfl rfl ?_
                    refine s_y (y_move rfl) rfl rfl rfl rfl ?_
                    refine s_y (y_lss rfl rfl) rfl rfl rfl rfl ?_
                    refine s_y (y_move rfl) rfl rfl rfl rfl ?_
                    refine g_bool 134 rfl (fun cq25 => ?_) (fun cq25 => ?_)
                    · (try simp at cq25)
                      refine s_y (y_move rfl) rfl rfl rfl rfl ?_
                      refine s_y (y_lss rfl rfl) rfl rfl rfl rfl ?_
                      refine s_y (y_pick_t rfl rfl) rfl rfl rfl rfl ?_
                      refine s_y (y_pick_f rfl rfl) rfl rfl rfl rfl ?_
                      refine s_y (y_pick_t rfl rfl) rfl rfl rfl rfl ?_
                      refine s_y (y_move rfl) rfl rfl rfl rfl ?_
                      refine g_bool 140 rfl (fun cq26 => ?_) (fun cq26 => ?_)
                      · (try simp at cq26)
                        refine s_y (y_move rfl) rfl rfl rfl rfl ?_
                        refine s_tr (t_call rfl rfl ent_71 (fun w h => Rabs_any w (mvI s (i : Int)) (by omega) (by omega))) rfl rfl rfl rfl (fun _ _ => ?_)
                        refine s_y (y_neq rfl rfl) rfl rfl rfl rfl ?_
                        refine s_y (y_pick_t rfl rfl) rfl rfl rfl rfl ?_
                        refine s_nil ?_
                        refine g_then ?_
                        exact fun act W ha hw => ⟨!decide ((aI (mvI s (i : Int))) = 1), W, (by first | exact ⟨fun _ => (by (try unfold R0 R1 R2 R3 R4 R5 R6 R7); (try unfold R0); (try unfold R1); (try unfold R2); (try unfold R3); (try unfold R4); (try unfold R5); (try unfold R6); (try unfold R7); (try simp only [opn, not_or, not_and] at *); omega), fun _ => rfl⟩ | exact ⟨fun h_ => (by cases h_), fun h_ => (h_ (by (try unfold R0 R1 R2 R3 R4 R5 R6 R7); (try unfold R0); (try unfold R1); (try unfold R2); (try unfold R3); (try unfold R4); (try unfold R5); (try unfold R6); (try unfold R7); (try simp only [opn, not_or, not_and] at *); omega)).elim⟩ | (simp only [decide_eq_true_eq, Bool.not_eq_true', decide_eq_false_iff_not]; (try unfold R0 R1 R2 R3 R4 R5 R6 R7); (try unfold R0); (try unfold R1); (try unfold R2); (try unfold R3); (try unfold R4); (try unfold R5); (try unfold R6); (try unfold R7); (try simp only [opn, not_or, not_and] at *); constructor <;> intro h_ <;> omega)), ha.weak (sub_get ⟨rfl, rfl, rfl, rfl, rfl, trivial⟩), hw.toHq.lookSub (List.Sublist.refl _)⟩
                      · (try simp at cq26)
                        refine s_no rfl rfl rfl ?_
                        refine s_no rfl rfl rfl ?_
                        refine s_no rfl rfl rfl ?_
                        refine s_y (y_pick_f rfl rfl) rfl rfl rfl rfl ?_
                        refine s_nil ?_
                        refine g_then ?_
                        exact fun act W ha hw => ⟨false, W, (by first | exact ⟨fun _ => (by (try unfold R0 R1 R2 R3 R4 R5 R6 R7); (try unfold R0); (try unfold R1); (try unfold R2); (try unfold R3); (try unfold R4); (try unfold R5); (try unfold R6); (try unfold R7); (try simp only [opn, not_or, not_and] at *); omega), fun _ => rfl⟩ | exact ⟨fun h_ => (by cases h_), fun h_ => (h_ (by (try unfold R0 R1 R2 R3 R4 R5 R6 R7); (try unfold R0); (try unfold R1); (try unfold R2); (try unfold R3); (try unfold R4); (try unfold R5); (try unfold R6); (try unfold R7); (try simp only [opn, not_or, not_and] at *); omega)).elim⟩ | (simp only [decide_eq_true_eq, Bool.not_eq_true', decide_eq_false_iff_not]; (try unfold R0 R1 R2 R3 R4 R5 R6 R7); (try unfold R0); (try unfold R1); (try unfold R2); (try unfold R3); (try unfold R4); (try unfold R5); (try unfold R6); (try unfold R7); (try simp only [opn, not_or, not_and] at *); constructor <;> intro h_ <;> omega)), ha.weak (sub_get ⟨rfl, rfl, rfl, rfl, rfl, trivial⟩), hw.toHq.lookSub (List.Sublist.refl _)⟩
                    · (try simp at cq25)
                      refine s_no rfl rfl rfl ?_
                      refine s_no rfl rfl rfl ?_
                      refine s_y (y_pick_f rfl rfl) rfl rfl rfl rfl ?_
                      refine s_y (y_pick_f rfl rfl) rfl rfl rfl rfl ?_
                      refine s_y (y_pick_t rfl rfl) rfl rfl rfl rfl ?_
                      refine s_y (y_move rfl) rfl rfl rfl rfl ?_
                      refine s_no rfl rfl rfl ?_
                      refine s_no rfl rfl rfl ?_
                      refine s_no rfl rfl rfl ?_
                      refine s_y (y_pick_f rfl rfl) rfl rfl rfl rfl ?_
                      refine s_nil ?_
                      refine g_then ?_
                      exact fun act W ha hw => ⟨false, W, (by first | exact ⟨fun _ => (by (try unfold R0 R1 R2 R3 R4 R5 R6 R7); (try unfold R0); (try unfold R1); (try unfold R2); (try unfold R3); (try unfold R4); (try unfold R5); (try unfold R6); (try unfold R7); (try simp only [opn, not_or, not_and] at *); omega), fun _ => rfl⟩ | exact ⟨fun h_ => (by cases h_), fun h_ => (h_ (by (try unfold R0 R1 R2 R3 R4 R5 R6 R7); (try unfold R0); (try unfold R1); (try unfold R2); (try unfold R3); (try unfold R4); (try unfold R5); (try unfold R6); (try unfold R7); (try simp only [opn, not_or, not_and] at *); omega)).elim⟩ | (simp only [decide_eq_true_eq, Bool.not_eq_true', decide_eq_false_iff_not]; (try unfold R0 R1 R2 R3 R4 R5 R6 R7); (try unfold R0); (try unfold R1); (try unfold R2); (try unfold R3); (try unfold R4); (try unfold R5); (try unfold R6); (try unfold R7); (try simp only [opn, not_or, not_and] at *); constructor <;> intro h_ <;> omega)), ha.weak (sub_get ⟨rfl, rfl, rfl, rfl, rfl, trivial⟩), hw.toHq.lookSub (List.Sublist.refl _)⟩
                · (try simp at cq20)
                  refine s_no rfl rfl rfl ?_
                  refine s_no rfl rfl rfl ?_
                  refine s_no rfl rfl rfl ?_
                  refine s_noU rfl rfl rfl rfl rfl ?_
                  refine s_noU rfl rfl rfl rfl rfl ?_
                  refine s_no rfl rfl rfl ?_
                  refine s_no rfl rfl rfl ?_
                  refine s_noU rfl rfl rfl rfl rfl ?_
                  refine s_noU rfl rfl rfl rfl rfl ?_
                  refine s_noU rfl rfl rfl rfl rfl ?_
                  refine s_noU rfl rfl rfl rfl rfl ?_
                  refine s_noU rfl rfl rfl rfl rfl ?_
                  refine s_noU rfl rfl rfl rfl rfl ?_
                  refine s_no rfl rfl rfl ?_
                  refine s_y (y_pick_f rfl rfl) rfl rfl rfl rfl ?_
                  refine s_y (y_move rfl) rfl rfl rfl rfl ?_
                  refine s_no rfl rfl rfl ?_
                  refine s_no rfl rfl rfl ?_
                  refine s_no rfl rfl rfl ?_
                  refine s_y (y_pick_f rfl rfl) rfl rfl rfl rfl ?_
                  refine s_nil ?_
                  refine g_then ?_
                  exact fun act W ha hw => ⟨false, W, (by first | exact ⟨fun _ => (by (try unfold R0 R1 R2 R3 R4 R5 R6 R7); (try unfold R0); (try unfold R1); (try unfold R2); (try unfold R3); (try unfold R4); (try unfold R5); (try unfold R6); (try unfold R7); (try simp only [opn, not_or, not_and] at *); omega), fun _ => rfl⟩ | exact ⟨fun h_ => (by cases h_), fun h_ => (h_ (by (try unfold R0 R1 R2 R3 R4 R5 R6 R7); (try unfold R0); (try unfold R1); (try unfold R2); (try unfold R3); (try unfold R4); (try unfold R5); (try unfold R6); (try unfold R7); (try simp only [opn, not_or, not_and] at *); omega)).elim⟩ | (simp only [decide_eq_true_eq, Bool.not_eq_true', decide_eq_false_iff_not]; (try unfold R0 R1 R2 R3 R4 R5 R6 R7); (try unfold R0); (try unfold R1); (try unfold R2); (try unfold R3); (try unfold R4); (try unfold R5); (try unfold R6); (try unfold R7); (try simp only [opn, not_or, not_and] at *); constructor <;> intro h_ <;> omega)), ha.weak (sub_get ⟨rfl, rfl, rfl, rfl, rfl, trivial⟩), hw.toHq.lookSub (List.Sublist.refl _)⟩
              rintro act W ⟨bb5, w1, hb5, ha, hw⟩
              refine g_go ha hw ?_
              clear ha hw act W
              refine g_cond rfl (fun cq27 => ?_) (fun cq27 => ?_)
              · (try simp at cq27)
                have r5 : ¬ R5 (i : Int) (ivI g s (i : Int)) (mvI s (i : Int)) (mvI g (i : Int)) := hb5.1 (by simpa using cq27)
                refine g_seq ?_
                refine g_region ?_
                refine s_y (y_assign rfl) rfl rfl rfl rfl ?_
                refine s_nil ?_
                refine g_then ?_
                refine g_ret ?_
                refine g_thenr ?_
                rw [show brk g s i = 6 from by unfold brk brkI; rw [if_neg (not_not_intro (show R0 (ivI g s (i : Int)) from r0)), if_neg (not_not_intro (show R1 (ivI g s (i : Int)) from r1)), if_neg (not_not_intro (show R2 g.length (i : Int) (ivI g s (i : Int)) from r2)), if_neg (not_not_intro (show R3 (i : Int) (mvI s (i : Int)) from r3)), if_neg (not_not_intro (show R4 (i : Int) (ivI g s (i : Int)) (ivI g s ((i : Int) - 1)) (mvI s (i : Int)) from r4)), if_pos r5]]
                exact g_end trivial (fun a w ha hq_ => res1 ha rfl rfl  w) (fun w h => ⟨rfl, h.below⟩)
              · (try simp at cq27)
                have r5 : R5 (i : Int) (ivI g s (i : Int)) (mvI s (i : Int)) (mvI g (i : Int)) := Decidable.not_not.1 (fun h_ => by have h2_ := hb5.2 h_; simp_all)
                refine g_skip ?_
                refine g_then ?_
                refine g_seq ?_
                refine g_seq ?_
                refine g_region ?_
                refine s_y (y_move rfl) rfl rfl rfl rfl ?_
                refine s_y (y_eql rfl rfl) rfl rfl rfl rfl ?_
                refine s_nil ?_
                refine g_then ?_
                refine g_cond rfl (fun cq28 => ?_) (fun cq28 => ?_)
                · (try simp at cq28)
                  refine g_seq ?_
                  refine g_region ?_
                  refine s_y (y_assign rfl) rfl rfl rfl rfl ?_
                  refine s_nil ?_
                  refine g_then ?_
                  refine g_ret ?_
                  refine g_thenr ?_
                  rw [show brk g s i = 0 from by unfold brk brkI; rw [if_neg (not_not_intro (show R0 (ivI g s (i : Int)) from r0)), if_neg (not_not_intro (show R1 (ivI g s (i : Int)) from r1)), if_neg (not_not_intro (show R2 g.length (i : Int) (ivI g s (i : Int)) from r2)), if_neg (not_not_intro (show R3 (i : Int) (mvI s (i : Int)) from r3)), if_neg (not_not_intro (show R4 (i : Int) (ivI g s (i : Int)) (ivI g s ((i : Int) - 1)) (mvI s (i : Int)) from r4)), if_neg (not_not_intro (show R5 (i : Int) (ivI g s (i : Int)) (mvI s (i : Int)) (mvI g (i : Int)) from r5)), if_neg (not_not_intro (show R6 (i : Int) (mvI s ((i : Int) - 1)) (mvI s (i : Int)) from by (try unfold R0 R1 R2 R3 R4 R5 R6 R7); (try unfold R0); (try unfold R1); (try unfold R2); (try unfold R3); (try unfold R4); (try unfold R5); (try unfold R6); (try unfold R7); (try simp only [opn, not_or, not_and] at *); omega)), if_neg (not_not_intro (show R7 (i : Int) (mvI s ((i : Int) - 1)) (mvI s (i : Int)) from by (try unfold R0 R1 R2 R3 R4 R5 R6 R7); (try unfold R0); (try unfold R1); (try unfold R2); (try unfold R3); (try unfold R4); (try unfold R5); (try unfold R6); (try unfold R7); (try simp only [opn, not_or, not_and] at *); omega))]]
                  exact g_end trivial (fun a w ha hq_ => res1 ha rfl rfl  w) (fun w h => ⟨rfl, h.below⟩)
                · (try simp at cq28)
                  refine g_skip ?_
                  refine g_then ?_
                  refine g_seq ?_
                  refine g_draw 12 (by kernel_rfl) ?_
                  refine j_p (i := 0) rfl (y_move rfl) (by kernel_rfl) (by kernel_rfl) (by kernel_rfl) rfl rfl rfl rfl rfl (.inr (fun _ h => h)) ?_
                  refine j_p (i := 1) rfl (y_move rfl) (by kernel_rfl) (by kernel_rfl) (by kernel_rfl) rfl rfl rfl rfl rfl (.inr (fun _ h => h)) ?_
                  refine j_p (i := 2) rfl (y_sub rfl rfl (by omega) (by omega)) (by kernel_rfl) (by kernel_rfl) (by kernel_rfl) rfl rfl rfl rfl rfl (.inr (fun _ h => h)) ?_
                  refine j_p (i := 3) rfl (y_idxV (enc := (Value.int .i64)) rfl rfl hs Try.underlying22 size_3 (by omega) (by omega)) (by kernel_rfl) (by kernel_rfl) (by kernel_rfl) rfl rfl rfl rfl rfl (.inr (fun _ h => h)) ?_
                  refine j_l (i := 4) rfl (y_ldV (enc := (Value.int .i64)) (xs := s) (fun w h => hs.rdl.below h.below) rfl agg_3 (rdI_at (by omega) (by omega))) (by kernel_rfl) (by kernel_rfl) (by kernel_rfl) (by kernel_rfl) rfl rfl rfl rfl rfl (.inr (fun _ h => h)) ?_
                  refine j_p (i := 5) rfl (y_move rfl) (by kernel_rfl) (by kernel_rfl) (by kernel_rfl) rfl rfl rfl rfl rfl (.inr (fun _ h => h)) ?_
                  refine j_p (i := 6) rfl (y_move rfl) (by kernel_rfl) (by kernel_rfl) (by kernel_rfl) rfl rfl rfl rfl rfl (.inr (fun _ h => h)) ?_
                  refine j_p (i := 7) rfl (y_sub rfl rfl (by omega) (by omega)) (by kernel_rfl) (by kernel_rfl) (by kernel_rfl) rfl rfl rfl rfl rfl (.inr (fun _ h => h)) ?_
                  refine j_p (i := 8) rfl (y_idxV (enc := (Value.int .i64)) rfl rfl hs Try.underlying22 size_3 (by omega) (by omega)) (by kernel_rfl) (by kernel_rfl) (by kernel_rfl) rfl rfl rfl rfl rfl (.inr (fun _ h => h)) ?_
                  refine j_l (i := 9) rfl (y_ldV (enc := (Value.int .i64)) (xs := s) (fun w h => hs.rdl.below h.below) rfl agg_3 (rdI_at (by omega) (by omega))) (by kernel_rfl) (by kernel_rfl) (by kernel_rfl) (by kernel_rfl) rfl rfl rfl rfl rfl (.inr (fun _ h => h)) ?_
                  rw [show rdI s ((i : Int) - 2) = rdI s ((i : Int) - 1 - 1) from by rw [show (i : Int) - 1 - 1 = (i : Int) - 2 by omega]]
                  refine j_p (i := 10) rfl (y_sub rfl rfl (by omega) (by omega)) (by kernel_rfl) (by kernel_rfl) (by kernel_rfl) rfl rfl rfl rfl rfl (.inr (fun _ h => h)) ?_
                  refine j_p (i := 11) rfl (y_assign rfl) (by kernel_rfl) (by kernel_rfl) (by kernel_rfl) rfl rfl rfl rfl rfl (.inr (fun _ h => h)) ?_
                  refine j_nil (by kernel_rfl) ?_
                  refine g_then ?_
                  refine g_seq ?_
                  refine g_seam (fun act W => ∃ (bb6 : Bool) (w1 : World), (bb6 = true ↔ ¬ R6 (i : Int) (mvI s ((i : Int) - 1)) (mvI s (i : Int))) ∧ Has 186 [] [(6, .int .i64 0), (8, .int .i64 (mvI s (i : Int))), (11, .int .i64 (mvI s ((i : Int) - 1))), (179, .bool bb6)] act ∧ Hp w w1 ([]) W) ?_ ?_
                  · skip
                    refine g_region ?_
                    refine s_y (y_move rfl) rfl rfl rfl rfl ?_
                    refine s_y (y_gtr rfl rfl) rfl rfl rfl rfl ?_
                    refine s_y (y_move rfl) rfl rfl rfl rfl ?_
                    refine g_bool 160 rfl (fun cq29 => ?_) (fun cq29 => ?_)
                    · (try simp at cq29)
                      refine s_y (y_move rfl) rfl rfl rfl rfl ?_
                      refine s_y (y_neq rfl rfl) rfl rfl rfl rfl ?_
                      refine s_y (y_pick_t rfl rfl) rfl rfl rfl rfl ?_
                      refine s_y (y_move rfl) rfl rfl rfl rfl ?_
                      refine g_bool 164 rfl (fun cq30 => ?_) (fun cq30 => ?_)
                      · (try simp at cq30)
                        refine s_y (y_move rfl) rfl rfl rfl rfl ?_
                        refine s_y (y_neq rfl rfl) rfl rfl rfl rfl ?_
                        refine s_y (y_pick_t rfl rfl) rfl rfl rfl rfl ?_
                        refine s_y (y_move rfl) rfl rfl rfl rfl ?_
                        refine g_bool 168 rfl (fun cq31 => ?_) (fun cq31 => ?_)
                        · (try simp at cq31)
                          refine s_no rfl rfl rfl ?_
                          refine s_no rfl rfl rfl ?_
                          refine s_no rfl rfl rfl ?_
                          refine s_noU rfl rfl rfl rfl rfl ?_
                          refine s_noU rfl rfl rfl rfl rfl ?_
                          refine s_no rfl rfl rfl ?_
                          refine s_no rfl rfl rfl ?_
                          refine s_noU rfl rfl rfl rfl rfl ?_
                          refine s_noU rfl rfl rfl rfl rfl ?_
                          refine s_no rfl rfl rfl ?_
                          refine s_y (y_pick_t rfl rfl) rfl rfl rfl rfl ?_
                          refine s_nil ?_
                          refine g_then ?_
                          exact fun act W ha hw => ⟨true, W, (by first | exact ⟨fun _ => (by (try unfold R0 R1 R2 R3 R4 R5 R6 R7); (try unfold R0); (try unfold R1); (try unfold R2); (try unfold R3); (try unfold R4); (try unfold R5); (try unfold R6); (try unfold R7); (try simp only [opn, not_or, not_and] at *); omega), fun _ => rfl⟩ | exact ⟨fun h_ => (by cases h_), fun h_ => (h_ (by (try unfold R0 R1 R2 R3 R4 R5 R6 R7); (try unfold R0); (try unfold R1); (try unfold R2); (try unfold R3); (try unfold R4); (try unfold R5); (try unfold R6); (try unfold R7); (try simp only [opn, not_or, not_and] at *); omega)).elim⟩ | (simp only [decide_eq_true_eq, Bool.not_eq_true', decide_eq_false_iff_not]; (try unfold R0 R1 R2 R3 R4 R5 R6 R7); (try unfold R0); (try unfold R1); (try unfold R2); (try unfold R3); (try unfold R4); (try unfold R5); (try unfold R6); (try unfold R7); (try simp only [opn, not_or, not_and] at *); constructor <;> intro h_ <;> omega)), ha.weak (sub_get ⟨rfl, rfl, rfl, rfl, trivial⟩), hw.toHq.lookSub (List.Sublist.refl _)⟩
                        · (try simp at cq31)
                          refine s_y (y_move rfl) rfl rfl rfl rfl ?_
                          refine s_y (y_lss rfl rfl) rfl rfl rfl rfl ?_
                          refine s_y (y_move rfl) rfl rfl rfl rfl ?_
                          refine g_bool 171 rfl (fun cq32 => ?_) (fun cq32 => ?_)
                          · (try simp at cq32)
                            refine s_y (y_move rfl) rfl rfl rfl rfl ?_
                            refine s_y (y_neq rfl rfl) rfl rfl rfl rfl ?_
                            refine s_y (y_pick_t rfl rfl) rfl rfl rfl rfl ?_
                            refine s_y (y_move rfl) rfl rfl rfl rfl ?_
                            refine g_bool 175 rfl (fun cq33 => ?_) (fun cq33 => ?_)
                            · (try simp at cq33)
                              refine s_y (y_move rfl) rfl rfl rfl rfl ?_
                              refine s_y (y_neq rfl rfl) rfl rfl rfl rfl ?_
                              refine s_y (y_pick_t rfl rfl) rfl rfl rfl rfl ?_
                              refine s_y (y_pick_f rfl rfl) rfl rfl rfl rfl ?_
                              refine s_nil ?_
                              refine g_then ?_
                              exact fun act W ha hw => ⟨!decide ((mvI s (i : Int)) = 2), W, (by first | exact ⟨fun _ => (by (try unfold R0 R1 R2 R3 R4 R5 R6 R7); (try unfold R0); (try unfold R1); (try unfold R2); (try unfold R3); (try unfold R4); (try unfold R5); (try unfold R6); (try unfold R7); (try simp only [opn, not_or, not_and] at *); omega), fun _ => rfl⟩ | exact ⟨fun h_ => (by cases h_), fun h_ => (h_ (by (try unfold R0 R1 R2 R3 R4 R5 R6 R7); (try unfold R0); (try unfold R1); (try unfold R2); (try unfold R3); (try unfold R4); (try unfold R5); (try unfold R6); (try unfold R7); (try simp only [opn, not_or, not_and] at *); omega)).elim⟩ | (simp only [decide_eq_true_eq, Bool.not_eq_true', decide_eq_false_iff_not]; (try unfold R0 R1 R2 R3 R4 R5 R6 R7); (try unfold R0); (try unfold R1); (try unfold R2); (try unfold R3); (try unfold R4); (try unfold R5); (try unfold R6); (try unfold R7); (try simp only [opn, not_or, not_and] at *); constructor <;> intro h_ <;> omega)), ha.weak (sub_get ⟨rfl, rfl, rfl, rfl, trivial⟩), hw.toHq.lookSub (List.Sublist.refl _)⟩
                            · (try simp at cq33)
                              refine s_no rfl rfl rfl ?_
                              refine s_no rfl rfl rfl ?_
                              refine s_y (y_pick_f rfl rfl) rfl rfl rfl rfl ?_
                              refine s_y (y_pick_f rfl rfl) rfl rfl rfl rfl ?_
                              refine s_nil ?_
                              refine g_then ?_
                              exact fun act W ha hw => ⟨false, W, (by first | exact ⟨fun _ => (by (try unfold R0 R1 R2 R3 R4 R5 R6 R7); (try unfold R0); (try unfold R1); (try unfold R2); (try unfold R3); (try unfold R4); (try unfold R5); (try unfold R6); (try unfold R7); (try simp only [opn, not_or, not_and] at *); omega), fun _ => rfl⟩ | exact ⟨fun h_ => (by cases h_), fun h_ => (h_ (by (try unfold R0 R1 R2 R3 R4 R5 R6 R7); (try unfold R0); (try unfold R1); (try unfold R2); (try unfold R3); (try unfold R4); (try unfold R5); (try unfold R6); (try unfold R7); (try simp only [opn, not_or, not_and] at *); omega)).elim⟩ | (simp only [decide_eq_true_eq, Bool.not_eq_true', decide_eq_false_iff_not]; (try unfold R0 R1 R2 R3 R4 R5 R6 R7); (try unfold R0); (try unfold R1); (try unfold R2); (try unfold R3); (try unfold R4); (try unfold R5); (try unfold R6); (try unfold R7); (try simp only [opn, not_or, not_and] at *); constructor <;> intro h_ <;> omega)), ha.weak (sub_get ⟨rfl, rfl, rfl, rfl, trivial⟩), hw.toHq.lookSub (List.Sublist.refl _)⟩
                          · (try simp at cq32)
                            refine s_no rfl rfl rfl ?_
                            refine s_no rfl rfl rfl ?_
                            refine s_y (y_pick_f rfl rfl) rfl rfl rfl rfl ?_
                            refine s_y (y_move rfl) rfl rfl rfl rfl ?_
                            refine s_no rfl rfl rfl ?_
                            refine s_no rfl rfl rfl ?_
                            refine s_y (y_pick_f rfl rfl) rfl rfl rfl rfl ?_
                            refine s_y (y_pick_f rfl rfl) rfl rfl rfl rfl ?_
                            refine s_nil ?_
                            refine g_then ?_
                            exact fun act W ha hw => ⟨false, W, (by first | exact ⟨fun _ => (by (try unfold R0 R1 R2 R3 R4 R5 R6 R7); (try unfold R0); (try unfold R1); (try unfold R2); (try unfold R3); (try unfold R4); (try unfold R5); (try unfold R6); (try unfold R7); (try simp only [opn, not_or, not_and] at *); omega), fun _ => rfl⟩ | exact ⟨fun h_ => (by cases h_), fun h_ => (h_ (by (try unfold R0 R1 R2 R3 R4 R5 R6 R7); (try unfold R0); (try unfold R1); (try unfold R2); (try unfold R3); (try unfold R4); (try unfold R5); (try unfold R6); (try unfold R7); (try simp only [opn, not_or, not_and] at *); omega)).elim⟩ | (simp only [decide_eq_true_eq, Bool.not_eq_true', decide_eq_false_iff_not]; (try unfold R0 R1 R2 R3 R4 R5 R6 R7); (try unfold R0); (try unfold R1); (try unfold R2); (try unfold R3); (try unfold R4); (try unfold R5); (try unfold R6); (try unfold R7); (try simp only [opn, not_or, not_and] at *); constructor <;> intro h_ <;> omega)), ha.weak (sub_get ⟨rfl, rfl, rfl, rfl, trivial⟩), hw.toHq.lookSub (List.Sublist.refl _)⟩
                      · (try simp at cq30)
                        refine s_no rfl rfl rfl ?_
                        refine s_no rfl rfl rfl ?_
                        refine s_y (y_pick_f rfl rfl) rfl rfl rfl rfl ?_
                        refine s_y (y_move rfl) rfl rfl rfl rfl ?_
                        refine s_y (y_move rfl) rfl rfl rfl rfl ?_
                        refine s_y (y_lss rfl rfl) rfl rfl rfl rfl ?_
                        refine s_y (y_move rfl) rfl rfl rfl rfl ?_
                        refine g_bool 171 rfl (fun cq34 => ?_) (fun cq34 => ?_)
                        · (try simp at cq34)
                          refine s_y (y_move rfl) rfl rfl rfl rfl ?_
                          refine s_y (y_neq rfl rfl) rfl rfl rfl rfl ?_
                          refine s_y (y_pick_t rfl rfl) rfl rfl rfl rfl ?_
                          refine s_y (y_move rfl) rfl rfl rfl rfl ?_
                          refine g_bool 175 rfl (fun cq35 => ?_) (fun cq35 => ?_)
                          · (try simp at cq35)
                            refine s_y (y_move rfl) rfl rfl rfl rfl ?_
                            refine s_y (y_neq rfl rfl) rfl rfl rfl rfl ?_
                            refine s_y (y_pick_t rfl rfl) rfl rfl rfl rfl ?_
                            refine s_y (y_pick_f rfl rfl) rfl rfl rfl rfl ?_
                            refine s_nil ?_
                            refine g_then ?_
                            exact fun act W ha hw => ⟨!decide ((mvI s (i : Int)) = 2), W, (by first | exact ⟨fun _ => (by (try unfold R0 R1 R2 R3 R4 R5 R6 R7); (try unfold R0); (try unfold R1); (try unfold R2); (try unfold R3); (try unfold R4); (try unfold R5); (try unfold R6); (try unfold R7); (try simp only [opn, not_or, not_and] at *); omega), fun _ => rfl⟩ | exact ⟨fun h_ => (by cases h_), fun h_ => (h_ (by (try unfold R0 R1 R2 R3 R4 R5 R6 R7); (try unfold R0); (try unfold R1); (try unfold R2); (try unfold R3); (try unfold R4); (try unfold R5); (try unfold R6); (try unfold R7); (try simp only [opn, not_or, not_and] at *); omega)).elim⟩ | (simp only [decide_eq_true_eq, Bool.not_eq_true', decide_eq_false_iff_not]; (try unfold R0 R1 R2 R3 R4 R5 R6 R7); (try unfold R0); (try unfold R1); (try unfold R2); (try unfold R3); (try unfold R4); (try unfold R5); (try unfold R6); (try unfold R7); (try simp only [opn, not_or, not_and] at *); constructor <;> intro h_ <;> omega)), ha.weak (sub_get ⟨rfl, rfl, rfl, rfl, trivial⟩), hw.toHq.lookSub (List.Sublist.refl _)⟩
                          · (try simp at cq35)
                            refine s_no rfl rfl rfl ?_
                            refine s_no rfl rfl rfl ?_
                            refine s_y (y_pick_f rfl rfl) rfl rfl rfl rfl ?_
                            refine s_y (y_pick_f rfl rfl) rfl rfl rfl rfl ?_
                            refine s_nil ?_
                            refine g_then ?_
                            exact fun act W ha hw => ⟨false, W, (by first | exact ⟨fun _ => (by (try unfold R0 R1 R2 R3 R4 R5 R6 R7); (try unfold R0); (try unfold R1); (try unfold R2); (try unfold R3); (try unfold R4); (try unfold R5); (try unfold R6); (try unfold R7); (try simp only [opn, not_or, not_and] at *); omega), fun _ => rfl⟩ | exact ⟨fun h_ => (by cases h_), fun h_ => (h_ (by (try unfold R0 R1 R2 R3 R4 R5 R6 R7); (try unfold R0); (try unfold R1); (try unfold R2); (try unfold R3); (try unfold R4); (try unfold R5); (try unfold R6); (try unfold R7); (try simp only [opn, not_or, not_and] at *); omega)).elim⟩ | (simp only [decide_eq_true_eq, Bool.not_eq_true', decide_eq_false_iff_not]; (try unfold R0 R1 R2 R3 R4 R5 R6 R7); (try unfold R0); (try unfold R1); (try unfold R2); (try unfold R3); (try unfold R4); (try unfold R5); (try unfold R6); (try unfold R7); (try simp only [opn, not_or, not_and] at *); constructor <;> intro h_ <;> omega)), ha.weak (sub_get ⟨rfl, rfl, rfl, rfl, trivial⟩), hw.toHq.lookSub (List.Sublist.refl _)⟩
                        · (try simp at cq34)
                          refine s_no rfl rfl rfl ?_
                          refine s_no rfl rfl rfl ?_
                          refine s_y (y_pick_f rfl rfl) rfl rfl rfl rfl ?_
                          refine s_y (y_move rfl) rfl rfl rfl rfl ?_
                          refine s_no rfl rfl rfl ?_
                          refine s_no rfl rfl rfl ?_
                          refine s_y (y_pick_f rfl rfl) rfl rfl rfl rfl ?_
                          refine s_y (y_pick_f rfl rfl) rfl rfl rfl rfl ?_
                          refine s_nil ?_
                          refine g_then ?_
                          exact fun act W ha hw => ⟨false, W, (by first | exact ⟨fun _ => (by (try unfold R0 R1 R2 R3 R4 R5 R6 R7); (try unfold R0); (try unfold R1); (try unfold R2); (try unfold R3); (try unfold R4); (try unfold R5); (try unfold R6); (try unfold R7); (try simp only [opn, not_or, not_and] at *); omega), fun _ => rfl⟩ | exact ⟨fun h_ => (by cases h_), fun h_ => (h_ (by (try unfold R0 R1 R2 R3 R4 R5 R6 R7); (try unfold R0); (try unfold R1); (try unfold R2); (try unfold R3); (try unfold R4); (try unfold R5); (try unfold R6); (try unfold R7); (try simp only [opn, not_or, not_and] at *); omega)).elim⟩ | (simp only [decide_eq_true_eq, Bool.not_eq_true', decide_eq_false_iff_not]; (try unfold R0 R1 R2 R3 R4 R5 R6 R7); (try unfold R0); (try unfold R1); (try unfold R2); (try unfold R3); (try unfold R4); (try unfold R5); (try unfold R6); (try unfold R7); (try simp only [opn, not_or, not_and] at *); constructor <;> intro h_ <;> omega)), ha.weak (sub_get ⟨rfl, rfl, rfl, rfl, trivial⟩), hw.toHq.lookSub (List.Sublist.refl _)⟩
                    · (try simp at cq29)
                      refine s_no rfl rfl rfl ?_
                      refine s_no rfl rfl rfl ?_
                      refine s_y (y_pick_f rfl rfl) rfl rfl rfl rfl ?_
                      refine s_y (y_move rfl) rfl rfl rfl rfl ?_
                      refine s_no rfl rfl rfl ?_
                      refine s_no rfl rfl rfl ?_
                      refine s_y (y_pick_f rfl rfl) rfl rfl rfl rfl ?_
                      refine s_y (y_move rfl) rfl rfl rfl rfl ?_
                      refine s_y (y_move rfl) rfl rfl rfl rfl ?_
                      refine s_y (y_lss rfl rfl) rfl rfl rfl rfl ?_
                      refine s_y (y_move rfl) rfl rfl rfl rfl ?_
                      refine g_bool 171 rfl (fun cq36 => ?_) (fun cq36 => ?_)
                      · (try simp at cq36)
                        refine s_y (y_move rfl) rfl rfl rfl rfl ?_
                        refine s_y (y_neq rfl rfl) rfl rfl rfl rfl ?_
                        refine s_y (y_pick_t rfl rfl) rfl rfl rfl rfl ?_
                        refine s_y (y_move rfl) rfl rfl rfl rfl ?_
                        refine g_bool 175 rfl (fun cq37 => ?_) (fun cq37 => ?_)
                        · (try simp at cq37)
                          refine s_y (y_move rfl) rfl rfl rfl rfl ?_
                          refine s_y (y_neq rfl rfl) rfl rfl rfl rfl ?_
                          refine s_y (y_pick_t rfl rfl) rfl rfl rfl rfl ?_
                          refine s_y (y_pick_f rfl rfl) rfl rfl rfl rfl ?_
                          refine s_nil ?_
                          refine g_then ?_
                          exact fun act W ha hw => ⟨!decide ((mvI s (i : Int)) = 2), W, (by first | exact ⟨fun _ => (by (try unfold R0 R1 R2 R3 R4 R5 R6 R7); (try unfold R0); (try unfold R1); (try unfold R2); (try unfold R3); (try unfold R4); (try unfold R5); (try unfold R6); (try unfold R7); (try simp only [opn, not_or, not_and] at *); omega), fun _ => rfl⟩ | exact ⟨fun h_ => (by cases h_), fun h_ => (h_ (by (try unfold R0 R1 R2 R3 R4 R5 R6 R7); (try unfold R0); (try unfold R1); (try unfold R2); (try unfold R3); (try unfold R4); (try unfold R5); (try unfold R6); (try unfold R7); (try simp only [opn, not_or, not_and] at *); omega)).elim⟩ | (simp only [decide_eq_true_eq, Bool.not_eq_true', decide_eq_false_iff_not]; (try unfold R0 R1 R2 R3 R4 R5 R6 R7); (try unfold R0); (try unfold R1); (try unfold R2); (try unfold R3); (try unfold R4); (try unfold R5); (try unfold R6); (try unfold R7); (try simp only [opn, not_or, not_and] at *); constructor <;> intro h_ <;> omega)), ha.weak (sub_get ⟨rfl, rfl, rfl, rfl, trivial⟩), hw.toHq.lookSub (List.Sublist.refl _)⟩
                        · (try simp at cq37)
                          refine s_no rfl rfl rfl ?_
                          refine s_no rfl rfl rfl ?_
                          refine s_y (y_pick_f rfl rfl) rfl rfl rfl rfl ?_
                          refine s_y (y_pick_f rfl rfl) rfl rfl rfl rfl ?_
                          refine s_nil ?_
                          refine g_then ?_
                          exact fun act W ha hw => ⟨false, W, (by first | exact ⟨fun _ => (by (try unfold R0 R1 R2 R3 R4 R5 R6 R7); (try unfold R0); (try unfold R1); (try unfold R2); (try unfold R3); (try unfold R4); (try unfold R5); (try unfold R6); (try unfold R7); (try simp only [opn, not_or, not_and] at *); omega), fun _ => rfl⟩ | exact ⟨fun h_ => (by cases h_), fun h_ => (h_ (by (try unfold R0 R1 R2 R3 R4 R5 R6 R7); (try unfold R0); (try unfold R1); (try unfold R2); (try unfold R3); (try unfold R4); (try unfold R5); (try unfold R6); (try unfold R7); (try simp only [opn, not_or, not_and] at *); omega)).elim⟩ | (simp only [decide_eq_true_eq, Bool.not_eq_true', decide_eq_false_iff_not]; (try unfold R0 R1 R2 R3 R4 R5 R6 R7); (try unfold R0); (try unfold R1); (try unfold R2); (try unfold R3); (try unfold R4); (try unfold R5); (try unfold R6); (try unfold R7); (try simp only [opn, not_or, not_and] at *); constructor <;> intro h_ <;> omega)), ha.weak (sub_get ⟨rfl, rfl, rfl, rfl, trivial⟩), hw.toHq.lookSub (List.Sublist.refl _)⟩
                      · (try simp at cq36)
                        refine s_no rfl rfl rfl ?_
                        refine s_no rfl rfl rfl ?_
                        refine s_y (y_pick_f rfl rfl) rfl rfl rfl rfl ?_
                        refine s_y (y_move rfl) rfl rfl rfl rfl ?_
                        refine s_no rfl rfl rfl ?_
                        refine s_no rfl rfl rfl ?_
                        refine s_y (y_pick_f rfl rfl) rfl rfl rfl rfl ?_
                        refine s_y (y_pick_f rfl rfl) rfl rfl rfl rfl ?_
                        refine s_nil ?_
                        refine g_then ?_
                        exact fun act W ha hw => ⟨false, W, (by first | exact ⟨fun _ => (by (try unfold R0 R1 R2 R3 R4 R5 R6 R7); (try unfold R0); (try unfold R1); (try unfold R2); (try unfold R3); (try unfold R4); (try unfold R5); (try unfold R6); (try unfold R7); (try simp only [opn, not_or, not_and] at *); omega), fun _ => rfl⟩ | exact ⟨fun h_ => (by cases h_), fun h_ => (h_ (by (try unfold R0 R1 R2 R3 R4 R5 R6 R7); (try unfold R0); (try unfold R1); (try unfold R2); (try unfold R3); (try unfold R4); (try unfold R5); (try unfold R6); (try unfold R7); (try simp only [opn, not_or, not_and] at *); omega)).elim⟩ | (simp only [decide_eq_true_eq, Bool.not_eq_true', decide_eq_false_iff_not]; (try unfold R0 R1 R2 R3 R4 R5 R6 R7); (try unfold R0); (try unfold R1); (try unfold R2); (try unfold R3); (try unfold R4); (try unfold R5); (try unfold R6); (try unfold R7); (try simp only [opn, not_or, not_and] at *); constructor <;> intro h_ <;> omega)), ha.weak (sub_get ⟨rfl, rfl, rfl, rfl, trivial⟩), hw.toHq.lookSub (List.Sublist.refl _)⟩
                  rintro act W ⟨bb6, w1, hb6, ha, hw⟩
                  refine g_go ha hw ?_
                  clear ha hw act W
                  refine g_cond rfl (fun cq38 => ?_) (fun cq38 => ?_)
                  · (try simp at cq38)
                    have r6 : ¬ R6 (i : Int) (mvI s ((i : Int) - 1)) (mvI s (i : Int)) := hb6.1 (by simpa using cq38)
                    refine g_seq ?_
                    refine g_region ?_
                    refine s_y (y_assign rfl) rfl rfl rfl rfl ?_
                    refine s_nil ?_
                    refine g_then ?_
                    refine g_ret ?_
                    refine g_thenr ?_
                    rw [show brk g s i = 7 from by unfold brk brkI; rw [if_neg (not_not_intro (show R0 (ivI g s (i : Int)) from r0)), if_neg (not_not_intro (show R1 (ivI g s (i : Int)) from r1)), if_neg (not_not_intro (show R2 g.length (i : Int) (ivI g s (i : Int)) from r2)), if_neg (not_not_intro (show R3 (i : Int) (mvI s (i : Int)) from r3)), if_neg (not_not_intro (show R4 (i : Int) (ivI g s (i : Int)) (ivI g s ((i : Int) - 1)) (mvI s (i : Int)) from r4)), if_neg (not_not_intro (show R5 (i : Int) (ivI g s (i : Int)) (mvI s (i : Int)) (mvI g (i : Int)) from r5)), if_pos r6]]
                    exact g_end trivial (fun a w ha hq_ => res1 ha rfl rfl  w) (fun w h => ⟨rfl, h.below⟩)
                  · (try simp at cq38)
                    have r6 : R6 (i : Int) (mvI s ((i : Int) - 1)) (mvI s (i : Int)) := Decidable.not_not.1 (fun h_ => by have h2_ := hb6.2 h_; simp_all)
                    refine g_skip ?_
                    refine g_then ?_
                    refine g_seq ?_
                    refine g_seam (fun act W => ∃ (bb7 : Bool) (w1 : World), (bb7 = true ↔ ¬ R7 (i : Int) (mvI s ((i : Int) - 1)) (mvI s (i : Int))) ∧ Has 186 [] [(6, .int .i64 0), (185, .bool bb7)] act ∧ Hp w w1 ([]) W) ?_ ?_
                    · skip
                      refine g_region ?_
                      refine s_y (y_move rfl) rfl rfl rfl rfl ?_
                      refine s_y (y_eql rfl rfl) rfl rfl rfl rfl ?_
                      refine s_y (y_move rfl) rfl rfl rfl rfl ?_
                      refine g_bool 182 rfl (fun cq39 => ?_) (fun cq39 => ?_)
                      · (try simp at cq39)
                        refine s_y (y_move rfl) rfl rfl rfl rfl ?_
                        refine s_y (y_eql rfl rfl) rfl rfl rfl rfl ?_
                        refine s_y (y_pick_t rfl rfl) rfl rfl rfl rfl ?_
                        refine s_nil ?_
                        refine g_then ?_
                        exact fun act W ha hw => ⟨decide ((mvI s (i : Int)) = 0), W, (by first | exact ⟨fun _ => (by (try unfold R0 R1 R2 R3 R4 R5 R6 R7); (try unfold R0); (try unfold R1); (try unfold R2); (try unfold R3); (try unfold R4); (try unfold R5); (try unfold R6); (try unfold R7); (try simp only [opn, not_or, not_and] at *); omega), fun _ => rfl⟩ | exact ⟨fun h_ => (by cases h_), fun h_ => (h_ (by (try unfold R0 R1 R2 R3 R4 R5 R6 R7); (try unfold R0); (try unfold R1); (try unfold R2); (try unfold R3); (try unfold R4); (try unfold R5); (try unfold R6); (try unfold R7); (try simp only [opn, not_or, not_and] at *); omega)).elim⟩ | (simp only [decide_eq_true_eq, Bool.not_eq_true', decide_eq_false_iff_not]; (try unfold R0 R1 R2 R3 R4 R5 R6 R7); (try unfold R0); (try unfold R1); (try unfold R2); (try unfold R3); (try unfold R4); (try unfold R5); (try unfold R6); (try unfold R7); (try simp only [opn, not_or, not_and] at *); constructor <;> intro h_ <;> omega)), ha.weak (sub_get ⟨rfl, rfl, trivial⟩), hw.toHq.lookSub (List.Sublist.refl _)⟩
                      · (try simp at cq39)
                        refine s_no rfl rfl rfl ?_
                        refine s_no rfl rfl rfl ?_
                        refine s_y (y_pick_f rfl rfl) rfl rfl rfl rfl ?_
                        refine s_nil ?_
                        refine g_then ?_
                        exact fun act W ha hw => ⟨false, W, (by first | exact ⟨fun _ => (by (try unfold R0 R1 R2 R3 R4 R5 R6 R7); (try unfold R0); (try unfold R1); (try unfold R2); (try unfold R3); (try unfold R4); (try unfold R5); (try unfold R6); (try unfold R7); (try simp only [opn, not_or, not_and] at *); omega), fun _ => rfl⟩ | exact ⟨fun h_ => (by cases h_), fun h_ => (h_ (by (try unfold R0 R1 R2 R3 R4 R5 R6 R7); (try unfold R0); (try unfold R1); (try unfold R2); (try unfold R3); (try unfold R4); (try unfold R5); (try unfold R6); (try unfold R7); (try simp only [opn, not_or, not_and] at *); omega)).elim⟩ | (simp only [decide_eq_true_eq, Bool.not_eq_true', decide_eq_false_iff_not]; (try unfold R0 R1 R2 R3 R4 R5 R6 R7); (try unfold R0); (try unfold R1); (try unfold R2); (try unfold R3); (try unfold R4); (try unfold R5); (try unfold R6); (try unfold R7); (try simp only [opn, not_or, not_and] at *); constructor <;> intro h_ <;> omega)), ha.weak (sub_get ⟨rfl, rfl, trivial⟩), hw.toHq.lookSub (List.Sublist.refl _)⟩
                    rintro act W ⟨bb7, w1, hb7, ha, hw⟩
                    refine g_go ha hw ?_
                    clear ha hw act W
                    refine g_cond rfl (fun cq40 => ?_) (fun cq40 => ?_)
                    · (try simp at cq40)
                      have r7 : ¬ R7 (i : Int) (mvI s ((i : Int) - 1)) (mvI s (i : Int)) := hb7.1 (by simpa using cq40)
                      refine g_seq ?_
                      refine g_region ?_
                      refine s_y (y_assign rfl) rfl rfl rfl rfl ?_
                      refine s_nil ?_
                      refine g_then ?_
                      refine g_ret ?_
                      refine g_thenr ?_
                      rw [show brk g s i = 8 from by unfold brk brkI; rw [if_neg (not_not_intro (show R0 (ivI g s (i : Int)) from r0)), if_neg (not_not_intro (show R1 (ivI g s (i : Int)) from r1)), if_neg (not_not_intro (show R2 g.length (i : Int) (ivI g s (i : Int)) from r2)), if_neg (not_not_intro (show R3 (i : Int) (mvI s (i : Int)) from r3)), if_neg (not_not_intro (show R4 (i : Int) (ivI g s (i : Int)) (ivI g s ((i : Int) - 1)) (mvI s (i : Int)) from r4)), if_neg (not_not_intro (show R5 (i : Int) (ivI g s (i : Int)) (mvI s (i : Int)) (mvI g (i : Int)) from r5)), if_neg (not_not_intro (show R6 (i : Int) (mvI s ((i : Int) - 1)) (mvI s (i : Int)) from r6)), if_pos r7]]
                      exact g_end trivial (fun a w ha hq_ => res1 ha rfl rfl  w) (fun w h => ⟨rfl, h.below⟩)
                    · (try simp at cq40)
                      have r7 : R7 (i : Int) (mvI s ((i : Int) - 1)) (mvI s (i : Int)) := Decidable.not_not.1 (fun h_ => by have h2_ := hb7.2 h_; simp_all)
                      refine g_skip ?_
                      refine g_then ?_
                      refine g_seq ?_
                      refine g_region ?_
                      refine s_y (y_assign rfl) rfl rfl rfl rfl ?_
                      refine s_nil ?_
                      refine g_then ?_
                      refine g_ret ?_
                      rw [show brk g s i = 0 from by unfold brk brkI; rw [if_neg (not_not_intro (show R0 (ivI g s (i : Int)) from r0)), if_neg (not_not_intro (show R1 (ivI g s (i : Int)) from r1)), if_neg (not_not_intro (show R2 g.length (i : Int) (ivI g s (i : Int)) from r2)), if_neg (not_not_intro (show R3 (i : Int) (mvI s (i : Int)) from r3)), if_neg (not_not_intro (show R4 (i : Int) (ivI g s (i : Int)) (ivI g s ((i : Int) - 1)) (mvI s (i : Int)) from r4)), if_neg (not_not_intro (show R5 (i : Int) (ivI g s (i : Int)) (mvI s (i : Int)) (mvI g (i : Int)) from r5)), if_neg (not_not_intro (show R6 (i : Int) (mvI s ((i : Int) - 1)) (mvI s (i : Int)) from r6)), if_neg (not_not_intro (show R7 (i : Int) (mvI s ((i : Int) - 1)) (mvI s (i : Int)) from r7))]]
                      exact g_end trivial (fun a w ha hq_ => res1 ha rfl rfl  w) (fun w h => ⟨rfl, h.below⟩)

theorem RBroken_any (w : World) (v v' : Value) (g s : List Int) (hg : RdV (Value.int .i64) w v g) (hs : RdV (Value.int .i64) w v' s) (i : Nat) (hi : i < s.length) (hle : s.length ≤ g.length) (hgl : g.length ≤ 1000) (hgn : ∀ x ∈ g, 0 ≤ x ∧ x ≤ 20) (hsn : ∀ x ∈ s, 0 ≤ x ∧ x ≤ 20) : Calls Try.prog 50 [v, v', .int .i64 (i : Int)].toArray w fun e w' => e = .returned (.int .i64 (brk g s i)) ∧ Below w.heap.size w w' := by
  obtain ⟨ag, cg, rfl, _, _⟩ := id hg
  obtain ⟨as_, cs, rfl, _, _⟩ := id hs
  exact RBroken_lit w ag as_ cg cs g s hg hs i hi hle hgl hgn hsn

theorem RCheck_ok (w : World) (v v' : Value) (g s : List Int) (hg : RdV (Value.int .i64) w v g) (hs : RdV (Value.int .i64) w v' s) (hp : pairB g s = true) :
    Calls Try.prog 23 [v, v'].toArray w fun e w' => e = .returned (.tuple #[.int .i64 (chkD g s).1, .int .i64 (chkD g s).2.1, .int .i64 (chkD g s).2.2]) ∧ Below w.heap.size w w' := by
  obtain ⟨⟨hgl, hgn⟩, hsn, hln⟩ := pair_facts hp
  refine enter (N := 23) Try.func23 rfl rfl rfl ?_
  refine g_seq ?_
  refine g_region ?_
  refine s_y (y_assign rfl) rfl rfl rfl rfl ?_
  refine s_y (y_assign rfl) rfl rfl rfl rfl ?_
  refine s_y (y_assign rfl) rfl rfl rfl rfl ?_
  refine s_nil ?_
  refine g_then ?_
  refine g_seq ?_
  refine g_seq ?_
  refine g_region ?_
  refine s_y (y_move rfl) rfl rfl rfl rfl ?_
  refine s_y (y_lenV (n := g.length) rfl (by obtain ⟨A, c, h1, _⟩ := hg; exact ⟨A, c, h1⟩) sle_22) rfl rfl rfl rfl ?_
  refine s_y (y_move rfl) rfl rfl rfl rfl ?_
  refine s_nil ?_
  refine g_then ?_
  refine g_block ?_
  refine g_loop (fun (i : Nat) act W => i ≤ s.length ∧ ∃ (w1 : World), (frsR g s (s.length - i) i = frs g s) ∧ Has 23 [] [(0, v), (1, v'), (10, .int .i64 (g.length : Nat)), (11, .int .i64 (i : Int))] act ∧ Hp w w1 ([]) W) (fun i => s.length - i) 0 (fun act W ha hw => ⟨by omega, W, (by rfl), ha.weak (sub_get ⟨rfl, rfl, rfl, rfl, trivial⟩), hw.toHq.lookSub (List.Sublist.refl _)⟩) ?_
  intro i act W ⟨hb_i, w1, hf, ha, hw⟩
  refine g_go ha hw ?_
  clear ha hw act W
  refine g_seq ?_
  refine g_region ?_
  refine s_y (y_lss rfl rfl) rfl rfl rfl rfl ?_
  refine s_nil ?_
  refine g_then ?_
  refine g_seq ?_
  refine g_cond rfl (fun cq1 => ?_) (fun cq1 => ?_)
  · (try simp at cq1)
    refine g_skip ?_
    refine g_then ?_
    refine g_seq ?_
    refine g_block ?_
    refine g_seq ?_
    refine g_region ?_
    refine s_y (y_move rfl) rfl rfl rfl rfl ?_
    refine s_y (y_assign rfl) rfl rfl rfl rfl ?_
    refine s_nil ?_
    refine g_then ?_
    refine g_seq ?_
    refine g_region ?_
    refine s_y (y_move rfl) rfl rfl rfl rfl ?_
    refine s_y (y_move rfl) rfl rfl rfl rfl ?_
    refine s_y (y_move rfl) rfl rfl rfl rfl ?_
    refine s_tr (t_call rfl rfl ent_50 (fun w h => RBroken_any w v v' g s (hg.below h.below) (hs.below h.below) i (by omega) (by omega) (by omega) hgn hsn)) rfl rfl rfl rfl (fun _ _ => ?_)
    refine s_y (y_assign rfl) rfl rfl rfl rfl ?_
    refine s_nil ?_
    refine g_then ?_
    refine g_seq ?_
    refine g_region ?_
    refine s_y (y_move rfl) rfl rfl rfl rfl ?_
    refine s_y (y_gtr rfl rfl) rfl rfl rfl rfl ?_
    refine s_nil ?_
    refine g_then ?_
    refine g_cond rfl (fun cq2 => ?_) (fun cq2 => ?_)
    · (try simp at cq2)
      refine g_seq ?_
      refine g_region ?_
      refine s_y (y_move rfl) rfl rfl rfl rfl ?_
      refine s_y (y_move rfl) rfl rfl rfl rfl ?_
      refine s_y (y_assign rfl) rfl rfl rfl rfl ?_
      refine s_y (y_assign rfl) rfl rfl rfl rfl ?_
      refine s_y (y_assign rfl) rfl rfl rfl rfl ?_
      refine s_nil ?_
      refine g_then ?_
      refine g_ret ?_
      refine g_inbr ?_
      refine g_thenr ?_
      refine g_thenr ?_
      refine g_inbr ?_
      refine g_thenr ?_
      have hf0 : frs g s = ((i : Int), brk g s i) := by rw [← hf, frsR_hit' (by omega) (by omega)]
      rw [show chkD g s = ((i : Int), brk g s i, 0) from by unfold chkD; rw [hf0]; exact if_neg (by simp only; omega)]
      exact g_end trivial (fun a w ha hq_ => res3 ha rfl rfl rfl rfl  w) (fun w h => ⟨rfl, h.below⟩)
    · (try simp at cq2)
      refine g_skip ?_
      refine g_inb ?_
      refine g_then ?_
      refine g_region ?_
      refine s_y (y_add rfl rfl (by omega) (by omega)) rfl rfl rfl rfl ?_
      refine s_y (y_move rfl) rfl rfl rfl rfl ?_
      refine s_nil ?_
      refine g_then ?_
      exact fun act W ha hw => ⟨i + 1, by omega, by omega, W, (by exact (frsR_skip' (by omega) (by omega)).symm.trans hf), ha.weak (sub_get ⟨rfl, rfl, rfl, rfl, trivial⟩), hw.toHq.lookSub (List.Sublist.refl _)⟩
  · (try simp at cq1)
    refine g_exit ?_
    refine g_thenx ?_
    refine g_thenx ?_
    refine g_inbx ?_
    refine g_then ?_
    refine g_seq ?_
    refine g_region ?_
    refine s_y (y_assign rfl) rfl rfl rfl rfl ?_
    refine s_y (y_assign rfl) rfl rfl rfl rfl ?_
    refine s_y (y_assign rfl) rfl rfl rfl rfl ?_
    refine s_nil ?_
    refine g_then ?_
    refine g_ret ?_
    have hf0 : frs g s = (0, 0) := by rw [← hf, show s.length - i = 0 by omega]; rfl
    rw [show chkD g s = (0, 0, 4) from if_pos (by rw [hf0])]
    exact g_end trivial (fun a w ha hq_ => res3 ha rfl rfl rfl rfl  w) (fun w h => ⟨rfl, h.below⟩)

def liftL (xs : List Int) (by_ : Int) : List Int := xs.map (· + by_)
theorem liftL_len (xs : List Int) (b : Int) : (liftL xs b).length = xs.length := by simp [liftL]
theorem liftL_take {xs : List Int} {b : Int} {i : Nat} (h : i < xs.length) : liftL (xs.take (i + 1)) b = liftL (xs.take i) b ++ [rdI xs (i : Int) + b] := by
  rw [rdI_take h]; simp [liftL]
theorem notes_part {xs : List Int} (h : 1 ≤ xs.length) : partB xs = notesB xs := by
  unfold partB; rw [decide_eq_true h, Bool.and_true]
def liftOk (xs : List Int) (b : Int) : Bool := decide (-20 ≤ b ∧ b ≤ 20) && notesB (liftL xs b)

theorem lifted_ok (w : World) (v : Value) (xs : List Int) (hv : RdV (Value.int .i64) w v xs) (b : Int) (hp : partB xs = true) (hb : -20 ≤ b ∧ b ≤ 20) :
    Calls Try.prog 51 [v, .int .i64 b].toArray w fun e w' => ∃ x : Value × List (Nat × Obj), (OwnV (Value.int .i64) x.1 (liftL xs b) x.2 ∧ ∃ W : World, ∀ p ∈ x.2, W.heap[p.1]? = some p.2) ∧ e = .returned (.tuple #[x.1, .bool (partB (liftL xs b))]) ∧ Hq w w x.2 w' := by
  obtain ⟨hxl, hn⟩ := partB_true.1 hp
  obtain ⟨ie3, hi3⟩ := inf_3
  refine enter (N := 31) Try.func51 rfl rfl rfl ?_
  refine g_seq ?_
  refine g_region ?_
  refine s_y (y_assign rfl) rfl rfl rfl rfl ?_
  refine s_y (y_assign rfl) rfl rfl rfl rfl ?_
  refine s_nil ?_
  refine g_then ?_
  refine g_seq ?_
  refine g_seq ?_
  refine g_region ?_
  refine s_y (y_move rfl) rfl rfl rfl rfl ?_
  refine s_y (y_lss_f rfl rfl (by omega)) rfl rfl rfl rfl ?_
  refine s_y (y_move rfl) rfl rfl rfl rfl ?_
  refine s_y (y_move rfl) rfl rfl rfl rfl ?_
  refine s_y (y_gtr_f rfl rfl (by omega)) rfl rfl rfl rfl ?_
  refine s_y (y_pick_f rfl rfl) rfl rfl rfl rfl ?_
  refine s_nil ?_
  refine g_then ?_
  refine g_cond_f rfl ?_
  refine g_skip ?_
  refine g_then ?_
  refine g_seq ?_
  refine g_region ?_
  refine s_y (y_assign rfl) rfl rfl rfl rfl ?_
  refine s_nil ?_
  refine g_then ?_
  refine g_seq ?_
  refine g_seq ?_
  refine g_region ?_
  refine s_y (y_move rfl) rfl rfl rfl rfl ?_
  refine s_y (y_lenV (n := xs.length) rfl (by obtain ⟨A, c, h1, _⟩ := hv; exact ⟨A, c, h1⟩) sle_22) rfl rfl rfl rfl ?_
  refine s_y (y_move rfl) rfl rfl rfl rfl ?_
  refine s_nil ?_
  refine g_then ?_
  refine g_block ?_
  refine g_loop (fun (i : Nat) act W => i ≤ xs.length ∧ ∃ (sv : SV) (m : Nat) (zs : List Int) (w1 : World), (sv.ok 1 m (zs.map (Value.int .i64))) ∧ (m ≤ i) ∧ (zs = liftL (xs.take i) b) ∧ Has 31 [] [(1, .int .i64 b), (4, .slice none 0 0), (5, .bool false), (6, sv.val m), (15, v), (16, .int .i64 (xs.length : Nat)), (17, .int .i64 (i : Int))] act ∧ Hp w w1 ((sv.mem 3 (zs.map (Value.int .i64)) ++ ([]))) W) (fun i => xs.length - i) 0 (fun act W ha hw => ⟨by omega, SV.nil, 0, [], W, (by exact ⟨rfl, rfl⟩), (by omega), (by simp [liftL]), ha.weak (sub_get ⟨rfl, rfl, rfl, rfl, rfl, rfl, rfl, trivial⟩), hw.toHq.lookSub (List.Sublist.refl _)⟩) ?_
  intro i act W ⟨hb_i, sv, m, zs, w1, hokz, hmi, hzs, ha, hw⟩
  refine g_go ha hw ?_
  clear ha hw act W
  have hxi : i < xs.length → 0 ≤ rdI xs (i : Int) ∧ rdI xs (i : Int) ≤ 20 := fun h => notes_at hn (by omega) (by omega)
  refine g_seq ?_
  refine g_region ?_
  refine s_y (y_lss rfl rfl) rfl rfl rfl rfl ?_
  refine s_nil ?_
  refine g_then ?_
  refine g_seq ?_
  refine g_cond rfl (fun cq1 => ?_) (fun cq1 => ?_)
  · (try simp at cq1)
    refine g_skip ?_
    refine g_then ?_
    refine g_seq ?_
    refine g_block ?_
    refine g_seq ?_
    refine g_region ?_
    refine s_y (y_idxV (enc := (Value.int .i64)) rfl rfl hv Try.underlying22 size_3 (by omega) (by omega)) rfl rfl rfl rfl ?_
    refine s_y (y_ldV (enc := (Value.int .i64)) (xs := xs) (fun w h => hv.rdl.below h.below) rfl agg_3 (rdI_at (by omega) (by omega))) rfl rfl rfl rfl ?_
    refine s_y (y_assign rfl) rfl rfl rfl rfl ?_
    refine s_nil ?_
    refine g_then ?_
    refine g_region ?_
    refine s_y (y_move rfl) rfl rfl rfl rfl ?_
    refine s_y (y_move rfl) rfl rfl rfl rfl ?_
    refine s_y (y_move rfl) rfl rfl rfl rfl ?_
    refine s_y (y_add rfl rfl (by omega) (by omega)) rfl rfl rfl rfl ?_
    refine s_tr (t_build (vs := [(0, .int .i64 ((rdI xs (i : Int)) + b))]) (cells := [.int .i64 ((rdI xs (i : Int)) + b)]) rfl rfl Try.underlying22 hi3.1 hi3.2.1 (by rw [hi3.2.2.1]; rfl) (by rw [hi3.2.2.1]; rfl) (by rw [hi3.2.2.1]; kernel_rfl)) rfl rfl rfl rfl (fun b2 hb2 => ?_)
    refine s_tr (t_appendL (enc := (Value.int .i64)) (sv := sv) (xs := zs) (n := m) (v := (rdI xs (i : Int)) + b) [_] _ rfl rfl rfl hokz Try.underlying22 hi3.1 hi3.2.1 hi3.2.2.1 hi3.2.2.2 rfl (fun w h => h.toHq.cell (i := 0) rfl rfl) rfl (by omega) (by unfold maxLen; omega)) rfl rfl rfl rfl (fun y6 hy7 => ?_)
    obtain ⟨sv3, gs4⟩ := y6
    obtain ⟨hok5, hok5b, hok5c, hok5j, hok5e⟩ := hy7
    refine s_y (y_assign rfl) rfl rfl rfl rfl ?_
    refine s_nil ?_
    refine g_inb ?_
    refine g_then ?_
    refine g_region ?_
    refine s_y (y_add rfl rfl (by omega) (by omega)) rfl rfl rfl rfl ?_
    refine s_y (y_move rfl) rfl rfl rfl rfl ?_
    refine s_nil ?_
    refine g_then ?_
    exact fun act W ha hw => ⟨i + 1, by omega, by omega, sv3, (m + 1), (zs ++ [(rdI xs (i : Int)) + b]), W, (by exact hok5), (by omega), (by rw [liftL_take (by omega), hzs]), ha.weak (sub_get ⟨rfl, rfl, rfl, rfl, rfl, rfl, rfl, trivial⟩), hw.toHq.lookSub (List.Sublist.cons _ (sub_app (sv3.mem 3 ((zs ++ [(rdI xs (i : Int)) + b]).map (Value.int .i64))) (List.nil_sublist _)))⟩
  · (try simp at cq1)
    refine g_exit ?_
    refine g_thenx ?_
    refine g_thenx ?_
    refine g_inbx ?_
    refine g_then ?_
    refine g_seq ?_
    have hi_ : i = xs.length := by omega
    rw [hi_, List.take_length] at hzs
    have hzl : zs.length = xs.length := by rw [hzs, liftL_len]
    refine g_region ?_
    refine s_y (y_move rfl) rfl rfl rfl rfl ?_
    refine s_y (y_move rfl) rfl rfl rfl rfl ?_
    refine s_tr (t_call rfl rfl ent_46 (fun w h => isPart_any w _ zs (RdV.sv (e := 3) hokz fun p hp => h.at_ p (mem_al (sv.mem 3 (zs.map (Value.int .i64))) hp)) (by omega))) rfl rfl rfl rfl (fun _ _ => ?_)
    refine s_y (y_assign rfl) rfl rfl rfl rfl ?_
    refine s_y (y_assign rfl) rfl rfl rfl rfl ?_
    refine s_nil ?_
    refine g_then ?_
    refine g_ret ?_
    rw [show liftL xs b = zs from hzs.symm]
    exact g_end trivial (fun a w ha hq_ => res2 ha rfl rfl rfl  w) (fun w h => ⟨(_, sv.mem 3 (zs.map (Value.int .i64))), ⟨(OwnV.sv hokz), w, (h.hand (sub_here (sv.mem 3 (zs.map (Value.int .i64))) _)).at_⟩, rfl, h.hand (sub_here (sv.mem 3 (zs.map (Value.int .i64))) _)⟩)

theorem lifted_no (w : World) (v : Value) (xs : List Int) (hv : RdV (Value.int .i64) w v xs) (b : Int) (hp : partB xs = true) (hb : ¬ (-20 ≤ b ∧ b ≤ 20)) :
    Calls Try.prog 51 [v, .int .i64 b].toArray w fun e w' => e = .returned (.tuple #[.slice none 0 0, .bool false]) ∧ Below w.heap.size w w' := by
  refine enter (N := 31) Try.func51 rfl rfl rfl ?_
  refine g_seq ?_
  refine g_region ?_
  refine s_y (y_assign rfl) rfl rfl rfl rfl ?_
  refine s_y (y_assign rfl) rfl rfl rfl rfl ?_
  refine s_nil ?_
  refine g_then ?_
  refine g_seq ?_
  refine g_seq ?_
  refine g_region ?_
  refine s_y (y_move rfl) rfl rfl rfl rfl ?_
  refine s_y (y_lss rfl rfl) rfl rfl rfl rfl ?_
  refine s_y (y_move rfl) rfl rfl rfl rfl ?_
  refine g_bool 11 rfl (fun cq1 => ?_) (fun cq1 => ?_)
  · (try simp at cq1)
    refine s_no rfl rfl rfl ?_
    refine s_no rfl rfl rfl ?_
    refine s_y (y_pick_t rfl rfl) rfl rfl rfl rfl ?_
    refine s_nil ?_
    refine g_then ?_
    refine g_cond_t rfl ?_
    refine g_seq ?_
    refine g_region ?_
    refine s_y (y_assign rfl) rfl rfl rfl rfl ?_
    refine s_y (y_assign rfl) rfl rfl rfl rfl ?_
    refine s_nil ?_
    refine g_then ?_
    refine g_ret ?_
    refine g_thenr ?_
    exact g_end trivial (fun a w ha hq_ => res2 ha rfl rfl rfl  w) (fun w h => ⟨rfl, h.below⟩)
  · (try simp at cq1)
    refine s_y (y_move rfl) rfl rfl rfl rfl ?_
    refine s_y (y_gtr rfl rfl) rfl rfl rfl rfl ?_
    refine s_y (y_pick_f rfl rfl) rfl rfl rfl rfl ?_
    refine s_nil ?_
    refine g_then ?_
    refine g_cond rfl (fun cq2 => ?_) (fun cq2 => ?_)
    · (try simp at cq2)
      refine g_seq ?_
      refine g_region ?_
      refine s_y (y_assign rfl) rfl rfl rfl rfl ?_
      refine s_y (y_assign rfl) rfl rfl rfl rfl ?_
      refine s_nil ?_
      refine g_then ?_
      refine g_ret ?_
      refine g_thenr ?_
      exact g_end trivial (fun a w ha hq_ => res2 ha rfl rfl rfl  w) (fun w h => ⟨rfl, h.below⟩)
    · (try simp at cq2)
      omega

theorem Lift_yes (w : World) (v : Value) (xs : List Int) (hv : RdV (Value.int .i64) w v xs) (b : Int) (hp : partB xs = true) (hb : -20 ≤ b ∧ b ≤ 20) (hq : partB (liftL xs b) = true) :
    Calls Try.prog 24 [v, .int .i64 b].toArray w fun e w' => ∃ x : Value × List (Nat × Obj), (OwnV (Value.int .i64) x.1 (liftL xs b) x.2 ∧ ∃ W : World, ∀ p ∈ x.2, W.heap[p.1]? = some p.2) ∧ e = .returned (.tuple #[x.1, .int .i64 0]) ∧ Hq w w x.2 w' := by
  obtain ⟨hxl, hn⟩ := partB_true.1 hp
  refine enter (N := 20) Try.func24 rfl rfl rfl ?_
  refine g_seq ?_
  refine g_region ?_
  refine s_y (y_assign rfl) rfl rfl rfl rfl ?_
  refine s_y (y_assign rfl) rfl rfl rfl rfl ?_
  refine s_nil ?_
  refine g_then ?_
  refine g_seq ?_
  refine g_seq ?_
  refine g_region ?_
  refine s_y (y_move rfl) rfl rfl rfl rfl ?_
  refine s_tr (t_call rfl rfl ent_46 (fun w h => by have h_ := isPart_any w v xs (hv.below h.below) (by omega); rwa [hp] at h_)) rfl rfl rfl rfl (fun _ _ => ?_)
  refine s_y (y_not_t rfl) rfl rfl rfl rfl ?_
  refine s_nil ?_
  refine g_then ?_
  refine g_cond_f rfl ?_
  refine g_skip ?_
  refine g_then ?_
  refine g_seq ?_
  refine g_region ?_
  refine s_y (y_move rfl) rfl rfl rfl rfl ?_
  refine s_y (y_move rfl) rfl rfl rfl rfl ?_
  refine s_tr (t_callm rfl rfl ent_51 (fun w h => by have h_ := lifted_ok w v xs (hv.below h.below) b hp hb; rw [hq] at h_; exact h_)) rfl rfl rfl rfl (fun x2 hx3 => ?_)
  obtain ⟨vo1, mo1⟩ := x2
  obtain ⟨hOo1, hEo1⟩ := hx3
  refine s_y (y_move rfl) rfl rfl rfl rfl ?_
  refine s_y (y_extract rfl rfl) rfl rfl rfl rfl ?_
  refine s_y (y_extract rfl rfl) rfl rfl rfl rfl ?_
  refine s_y (y_assign rfl) rfl rfl rfl rfl ?_
  refine s_y (y_assign rfl) rfl rfl rfl rfl ?_
  refine s_nil ?_
  refine g_then ?_
  refine g_seq ?_
  refine g_seq ?_
  refine g_region ?_
  refine s_y (y_move rfl) rfl rfl rfl rfl ?_
  refine s_y (y_not_t rfl) rfl rfl rfl rfl ?_
  refine s_nil ?_
  refine g_then ?_
  refine g_cond_f rfl ?_
  refine g_skip ?_
  refine g_then ?_
  refine g_seq ?_
  refine g_region ?_
  refine s_y (y_move rfl) rfl rfl rfl rfl ?_
  refine s_y (y_assign rfl) rfl rfl rfl rfl ?_
  refine s_y (y_assign rfl) rfl rfl rfl rfl ?_
  refine s_nil ?_
  refine g_then ?_
  refine g_ret ?_
  exact g_end trivial (fun a w ha hq_ => res2 ha rfl rfl rfl  w) (fun w h => ⟨(_, mo1), ⟨hOo1, w, (h.hand (sub_here mo1 _)).at_⟩, rfl, h.hand (sub_here mo1 _)⟩)

theorem Lift_none1 (w : World) (v : Value) (xs : List Int) (hv : RdV (Value.int .i64) w v xs) (b : Int) (hp : partB xs = true) (hb : -20 ≤ b ∧ b ≤ 20) (hq : partB (liftL xs b) = false) :
    Calls Try.prog 24 [v, .int .i64 b].toArray w fun e w' => e = .returned (.tuple #[.slice none 0 0, .int .i64 4]) ∧ Below w.heap.size w w' := by
  obtain ⟨hxl, hn⟩ := partB_true.1 hp
  refine enter (N := 20) Try.func24 rfl rfl rfl ?_
  refine g_seq ?_
  refine g_region ?_
  refine s_y (y_assign rfl) rfl rfl rfl rfl ?_
  refine s_y (y_assign rfl) rfl rfl rfl rfl ?_
  refine s_nil ?_
  refine g_then ?_
  refine g_seq ?_
  refine g_seq ?_
  refine g_region ?_
  refine s_y (y_move rfl) rfl rfl rfl rfl ?_
  refine s_tr (t_call rfl rfl ent_46 (fun w h => by have h_ := isPart_any w v xs (hv.below h.below) (by omega); rwa [hp] at h_)) rfl rfl rfl rfl (fun _ _ => ?_)
  refine s_y (y_not_t rfl) rfl rfl rfl rfl ?_
  refine s_nil ?_
  refine g_then ?_
  refine g_cond_f rfl ?_
  refine g_skip ?_
  refine g_then ?_
  refine g_seq ?_
  refine g_region ?_
  refine s_y (y_move rfl) rfl rfl rfl rfl ?_
  refine s_y (y_move rfl) rfl rfl rfl rfl ?_
  refine s_tr (t_callm rfl rfl ent_51 (fun w h => by have h_ := lifted_ok w v xs (hv.below h.below) b hp hb; rw [hq] at h_; exact h_)) rfl rfl rfl rfl (fun x2 hx3 => ?_)
  obtain ⟨vo1, mo1⟩ := x2
  obtain ⟨hOo1, hEo1⟩ := hx3
  refine s_y (y_move rfl) rfl rfl rfl rfl ?_
  refine s_y (y_extract rfl rfl) rfl rfl rfl rfl ?_
  refine s_y (y_extract rfl rfl) rfl rfl rfl rfl ?_
  refine s_y (y_assign rfl) rfl rfl rfl rfl ?_
  refine s_y (y_assign rfl) rfl rfl rfl rfl ?_
  refine s_nil ?_
  refine g_then ?_
  refine g_seq ?_
  refine g_seq ?_
  refine g_region ?_
  refine s_y (y_move rfl) rfl rfl rfl rfl ?_
  refine s_y (y_not_f rfl) rfl rfl rfl rfl ?_
  refine s_nil ?_
  refine g_then ?_
  refine g_cond_t rfl ?_
  refine g_seq ?_
  refine g_region ?_
  refine s_y (y_assign rfl) rfl rfl rfl rfl ?_
  refine s_y (y_assign rfl) rfl rfl rfl rfl ?_
  refine s_nil ?_
  refine g_then ?_
  refine g_ret ?_
  refine g_thenr ?_
  exact g_end trivial (fun a w ha hq_ => res2 ha rfl rfl rfl  w) (fun w h => ⟨rfl, h.below⟩)

theorem Lift_none2 (w : World) (v : Value) (xs : List Int) (hv : RdV (Value.int .i64) w v xs) (b : Int) (hp : partB xs = true) (hb : ¬ (-20 ≤ b ∧ b ≤ 20)) :
    Calls Try.prog 24 [v, .int .i64 b].toArray w fun e w' => e = .returned (.tuple #[.slice none 0 0, .int .i64 4]) ∧ Below w.heap.size w w' := by
  obtain ⟨hxl, hn⟩ := partB_true.1 hp
  refine enter (N := 20) Try.func24 rfl rfl rfl ?_
  refine g_seq ?_
  refine g_region ?_
  refine s_y (y_assign rfl) rfl rfl rfl rfl ?_
  refine s_y (y_assign rfl) rfl rfl rfl rfl ?_
  refine s_nil ?_
  refine g_then ?_
  refine g_seq ?_
  refine g_seq ?_
  refine g_region ?_
  refine s_y (y_move rfl) rfl rfl rfl rfl ?_
  refine s_tr (t_call rfl rfl ent_46 (fun w h => by have h_ := isPart_any w v xs (hv.below h.below) (by omega); rwa [hp] at h_)) rfl rfl rfl rfl (fun _ _ => ?_)
  refine s_y (y_not_t rfl) rfl rfl rfl rfl ?_
  refine s_nil ?_
  refine g_then ?_
  refine g_cond_f rfl ?_
  refine g_skip ?_
  refine g_then ?_
  refine g_seq ?_
  refine g_region ?_
  refine s_y (y_move rfl) rfl rfl rfl rfl ?_
  refine s_y (y_move rfl) rfl rfl rfl rfl ?_
  refine s_tr (t_call rfl rfl ent_51 (fun w h => lifted_no w v xs (hv.below h.below) b hp hb)) rfl rfl rfl rfl (fun _ _ => ?_)
  refine s_y (y_move rfl) rfl rfl rfl rfl ?_
  refine s_y (y_extract rfl rfl) rfl rfl rfl rfl ?_
  refine s_y (y_extract rfl rfl) rfl rfl rfl rfl ?_
  refine s_y (y_assign rfl) rfl rfl rfl rfl ?_
  refine s_y (y_assign rfl) rfl rfl rfl rfl ?_
  refine s_nil ?_
  refine g_then ?_
  refine g_seq ?_
  refine g_seq ?_
  refine g_region ?_
  refine s_y (y_move rfl) rfl rfl rfl rfl ?_
  refine s_y (y_not_f rfl) rfl rfl rfl rfl ?_
  refine s_nil ?_
  refine g_then ?_
  refine g_cond_t rfl ?_
  refine g_seq ?_
  refine g_region ?_
  refine s_y (y_assign rfl) rfl rfl rfl rfl ?_
  refine s_y (y_assign rfl) rfl rfl rfl rfl ?_
  refine s_nil ?_
  refine g_then ?_
  refine g_ret ?_
  refine g_thenr ?_
  exact g_end trivial (fun a w ha hq_ => res2 ha rfl rfl rfl  w) (fun w h => ⟨rfl, h.below⟩)

theorem Lift_bad (w : World) (v : Value) (xs : List Int) (hv : RdV (Value.int .i64) w v xs) (b : Int) (hl : xs.length ≤ 9223372036854775807) (hp : partB xs = false) :
    Calls Try.prog 24 [v, .int .i64 b].toArray w fun e w' => e = .returned (.tuple #[.slice none 0 0, .int .i64 2]) ∧ Below w.heap.size w w' := by
  refine enter (N := 20) Try.func24 rfl rfl rfl ?_
  refine g_seq ?_
  refine g_region ?_
  refine s_y (y_assign rfl) rfl rfl rfl rfl ?_
  refine s_y (y_assign rfl) rfl rfl rfl rfl ?_
  refine s_nil ?_
  refine g_then ?_
  refine g_seq ?_
  refine g_seq ?_
  refine g_region ?_
  refine s_y (y_move rfl) rfl rfl rfl rfl ?_
  refine s_tr (t_call rfl rfl ent_46 (fun w h => by have h_ := isPart_any w v xs (hv.below h.below) hl; rwa [hp] at h_)) rfl rfl rfl rfl (fun _ _ => ?_)
  refine s_y (y_not_f rfl) rfl rfl rfl rfl ?_
  refine s_nil ?_
  refine g_then ?_
  refine g_cond_t rfl ?_
  refine g_seq ?_
  refine g_region ?_
  refine s_y (y_assign rfl) rfl rfl rfl rfl ?_
  refine s_y (y_assign rfl) rfl rfl rfl rfl ?_
  refine s_nil ?_
  refine g_then ?_
  refine g_ret ?_
  refine g_thenr ?_
  exact g_end trivial (fun a w ha hq_ => res2 ha rfl rfl rfl  w) (fun w h => ⟨rfl, h.below⟩)

theorem RLift_yes (w : World) (v : Value) (xs : List Int) (hv : RdV (Value.int .i64) w v xs) (b : Int) (hp : partB xs = true) (hb : -20 ≤ b ∧ b ≤ 20) (hq : notesB (liftL xs b) = true) :
    Calls Try.prog 25 [v, .int .i64 b].toArray w fun e w' => ∃ x : Value × List (Nat × Obj), (OwnV (Value.int .i64) x.1 (liftL xs b) x.2 ∧ ∃ W : World, ∀ p ∈ x.2, W.heap[p.1]? = some p.2) ∧ e = .returned (.tuple #[x.1, .int .i64 0]) ∧ Hq w w x.2 w' := by
  obtain ⟨hxl, hn⟩ := partB_true.1 hp
  obtain ⟨ie3, hi3⟩ := inf_3
  refine enter (N := 32) Try.func25 rfl rfl rfl ?_
  refine g_seq ?_
  refine g_region ?_
  refine s_y (y_assign rfl) rfl rfl rfl rfl ?_
  refine s_y (y_assign rfl) rfl rfl rfl rfl ?_
  refine s_nil ?_
  refine g_then ?_
  refine g_seq ?_
  refine g_seq ?_
  refine g_region ?_
  refine s_y (y_move rfl) rfl rfl rfl rfl ?_
  refine s_y (y_lss_f rfl rfl (by omega)) rfl rfl rfl rfl ?_
  refine s_y (y_move rfl) rfl rfl rfl rfl ?_
  refine s_y (y_move rfl) rfl rfl rfl rfl ?_
  refine s_y (y_gtr_f rfl rfl (by omega)) rfl rfl rfl rfl ?_
  refine s_y (y_pick_f rfl rfl) rfl rfl rfl rfl ?_
  refine s_nil ?_
  refine g_then ?_
  refine g_cond_f rfl ?_
  refine g_skip ?_
  refine g_then ?_
  refine g_seq ?_
  refine g_region ?_
  refine s_y (y_assign rfl) rfl rfl rfl rfl ?_
  refine s_nil ?_
  refine g_then ?_
  refine g_seq ?_
  refine g_seq ?_
  refine g_region ?_
  refine s_y (y_move rfl) rfl rfl rfl rfl ?_
  refine s_y (y_lenV (n := xs.length) rfl (by obtain ⟨A, c, h1, _⟩ := hv; exact ⟨A, c, h1⟩) sle_22) rfl rfl rfl rfl ?_
  refine s_y (y_move rfl) rfl rfl rfl rfl ?_
  refine s_nil ?_
  refine g_then ?_
  refine g_block ?_
  refine g_loop (fun (i : Nat) act W => i ≤ xs.length ∧ ∃ (sv : SV) (m : Nat) (zs : List Int) (w1 : World), (sv.ok 1 m (zs.map (Value.int .i64))) ∧ (m ≤ i) ∧ (zs = liftL (xs.take i) b) ∧ Has 32 [] [(1, .int .i64 b), (4, .slice none 0 0), (5, .int .i64 0), (6, sv.val m), (15, v), (16, .int .i64 (xs.length : Nat)), (17, .int .i64 (i : Int))] act ∧ Hp w w1 ((sv.mem 3 (zs.map (Value.int .i64)) ++ ([]))) W) (fun i => xs.length - i) 0 (fun act W ha hw => ⟨by omega, SV.nil, 0, [], W, (by exact ⟨rfl, rfl⟩), (by omega), (by simp [liftL]), ha.weak (sub_get ⟨rfl, rfl, rfl, rfl, rfl, rfl, rfl, trivial⟩), hw.toHq.lookSub (List.Sublist.refl _)⟩) ?_
  intro i act W ⟨hb_i, sv, m, zs, w1, hokz, hmi, hzs, ha, hw⟩
  refine g_go ha hw ?_
  clear ha hw act W
  have hxi : i < xs.length → 0 ≤ rdI xs (i : Int) ∧ rdI xs (i : Int) ≤ 20 := fun h => notes_at hn (by omega) (by omega)
  refine g_seq ?_
  refine g_region ?_
  refine s_y (y_lss rfl rfl) rfl rfl rfl rfl ?_
  refine s_nil ?_
  refine g_then ?_
  refine g_seq ?_
  refine g_cond rfl (fun cq1 => ?_) (fun cq1 => ?_)
  · (try simp at cq1)
    refine g_skip ?_
    refine g_then ?_
    refine g_seq ?_
    refine g_block ?_
    refine g_seq ?_
    refine g_region ?_
    refine s_y (y_idxV (enc := (Value.int .i64)) rfl rfl hv Try.underlying22 size_3 (by omega) (by omega)) rfl rfl rfl rfl ?_
    refine s_y (y_ldV (enc := (Value.int .i64)) (xs := xs) (fun w h => hv.rdl.below h.below) rfl agg_3 (rdI_at (by omega) (by omega))) rfl rfl rfl rfl ?_
    refine s_y (y_assign rfl) rfl rfl rfl rfl ?_
    refine s_nil ?_
    refine g_then ?_
    refine g_region ?_
    refine s_y (y_move rfl) rfl rfl rfl rfl ?_
    refine s_y (y_move rfl) rfl rfl rfl rfl ?_
    refine s_y (y_move rfl) rfl rfl rfl rfl ?_
    refine s_y (y_add rfl rfl (by omega) (by omega)) rfl rfl rfl rfl ?_
    refine s_tr (t_build (vs := [(0, .int .i64 ((rdI xs (i : Int)) + b))]) (cells := [.int .i64 ((rdI xs (i : Int)) + b)]) rfl rfl Try.underlying22 hi3.1 hi3.2.1 (by rw [hi3.2.2.1]; rfl) (by rw [hi3.2.2.1]; rfl) (by rw [hi3.2.2.1]; kernel_rfl)) rfl rfl rfl rfl (fun b2 hb2 => ?_)
    refine s_tr (t_appendL (enc := (Value.int .i64)) (sv := sv) (xs := zs) (n := m) (v := (rdI xs (i : Int)) + b) [_] _ rfl rfl rfl hokz Try.underlying22 hi3.1 hi3.2.1 hi3.2.2.1 hi3.2.2.2 rfl (fun w h => h.toHq.cell (i := 0) rfl rfl) rfl (by omega) (by unfold maxLen; omega)) rfl rfl rfl rfl (fun y6 hy7 => ?_)
    obtain ⟨sv3, gs4⟩ := y6
    obtain ⟨hok5, hok5b, hok5c, hok5j, hok5e⟩ := hy7
    refine s_y (y_assign rfl) rfl rfl rfl rfl ?_
    refine s_nil ?_
    refine g_inb ?_
    refine g_then ?_
    refine g_region ?_
    refine s_y (y_add rfl rfl (by omega) (by omega)) rfl rfl rfl rfl ?_
    refine s_y (y_move rfl) rfl rfl rfl rfl ?_
    refine s_nil ?_
    refine g_then ?_
    exact fun act W ha hw => ⟨i + 1, by omega, by omega, sv3, (m + 1), (zs ++ [(rdI xs (i : Int)) + b]), W, (by exact hok5), (by omega), (by rw [liftL_take (by omega), hzs]), ha.weak (sub_get ⟨rfl, rfl, rfl, rfl, rfl, rfl, rfl, trivial⟩), hw.toHq.lookSub (List.Sublist.cons _ (sub_app (sv3.mem 3 ((zs ++ [(rdI xs (i : Int)) + b]).map (Value.int .i64))) (List.nil_sublist _)))⟩
  · (try simp at cq1)
    refine g_exit ?_
    refine g_thenx ?_
    refine g_thenx ?_
    refine g_inbx ?_
    refine g_then ?_
    refine g_seq ?_
    refine g_seq ?_
    have hi_ : i = xs.length := by omega
    rw [hi_, List.take_length] at hzs
    have hzl : zs.length = xs.length := by rw [hzs, liftL_len]
    refine g_region ?_
    refine s_y (y_move rfl) rfl rfl rfl rfl ?_
    refine s_tr (t_call rfl rfl ent_37 (fun w h => by have h_ := Notes_any w _ zs (RdV.sv (e := 3) hokz fun p hp => h.at_ p (mem_al (sv.mem 3 (zs.map (Value.int .i64))) hp)) (by omega); rw [hzs, hq] at h_; exact h_)) rfl rfl rfl rfl (fun _ _ => ?_)
    refine s_y (y_not_t rfl) rfl rfl rfl rfl ?_
    refine s_nil ?_
    refine g_then ?_
    refine g_cond_f rfl ?_
    refine g_skip ?_
    refine g_then ?_
    refine g_seq ?_
    refine g_region ?_
    refine s_y (y_move rfl) rfl rfl rfl rfl ?_
    refine s_y (y_assign rfl) rfl rfl rfl rfl ?_
    refine s_y (y_assign rfl) rfl rfl rfl rfl ?_
    refine s_nil ?_
    refine g_then ?_
    refine g_ret ?_
    rw [show liftL xs b = zs from hzs.symm]
    exact g_end trivial (fun a w ha hq_ => res2 ha rfl rfl rfl  w) (fun w h => ⟨(_, sv.mem 3 (zs.map (Value.int .i64))), ⟨(OwnV.sv hokz), w, (h.hand (sub_here (sv.mem 3 (zs.map (Value.int .i64))) _)).at_⟩, rfl, h.hand (sub_here (sv.mem 3 (zs.map (Value.int .i64))) _)⟩)

theorem RLift_none1 (w : World) (v : Value) (xs : List Int) (hv : RdV (Value.int .i64) w v xs) (b : Int) (hp : partB xs = true) (hb : -20 ≤ b ∧ b ≤ 20) (hq : notesB (liftL xs b) = false) :
    Calls Try.prog 25 [v, .int .i64 b].toArray w fun e w' => e = .returned (.tuple #[.slice none 0 0, .int .i64 4]) ∧ Below w.heap.size w w' := by
  obtain ⟨hxl, hn⟩ := partB_true.1 hp
  obtain ⟨ie3, hi3⟩ := inf_3
  refine enter (N := 32) Try.func25 rfl rfl rfl ?_
  refine g_seq ?_
  refine g_region ?_
  refine s_y (y_assign rfl) rfl rfl rfl rfl ?_
  refine s_y (y_assign rfl) rfl rfl rfl rfl ?_
  refine s_nil ?_
  refine g_then ?_
  refine g_seq ?_
  refine g_seq ?_
  refine g_region ?_
  refine s_y (y_move rfl) rfl rfl rfl rfl ?_
  refine s_y (y_lss_f rfl rfl (by omega)) rfl rfl rfl rfl ?_
  refine s_y (y_move rfl) rfl rfl rfl rfl ?_
  refine s_y (y_move rfl) rfl rfl rfl rfl ?_
  refine s_y (y_gtr_f rfl rfl (by omega)) rfl rfl rfl rfl ?_
  refine s_y (y_pick_f rfl rfl) rfl rfl rfl rfl ?_
  refine s_nil ?_
  refine g_then ?_
  refine g_cond_f rfl ?_
  refine g_skip ?_
  refine g_then ?_
  refine g_seq ?_
  refine g_region ?_
  refine s_y (y_assign rfl) rfl rfl rfl rfl ?_
  refine s_nil ?_
  refine g_then ?_
  refine g_seq ?_
  refine g_seq ?_
  refine g_region ?_
  refine s_y (y_move rfl) rfl rfl rfl rfl ?_
  refine s_y (y_lenV (n := xs.length) rfl (by obtain ⟨A, c, h1, _⟩ := hv; exact ⟨A, c, h1⟩) sle_22) rfl rfl rfl rfl ?_
  refine s_y (y_move rfl) rfl rfl rfl rfl ?_
  refine s_nil ?_
  refine g_then ?_
  refine g_block ?_
  refine g_loop (fun (i : Nat) act W => i ≤ xs.length ∧ ∃ (sv : SV) (m : Nat) (zs : List Int) (w1 : World), (sv.ok 1 m (zs.map (Value.int .i64))) ∧ (m ≤ i) ∧ (zs = liftL (xs.take i) b) ∧ Has 32 [] [(1, .int .i64 b), (4, .slice none 0 0), (5, .int .i64 0), (6, sv.val m), (15, v), (16, .int .i64 (xs.length : Nat)), (17, .int .i64 (i : Int))] act ∧ Hp w w1 ((sv.mem 3 (zs.map (Value.int .i64)) ++ ([]))) W) (fun i => xs.length - i) 0 (fun act W ha hw => ⟨by omega, SV.nil, 0, [], W, (by exact ⟨rfl, rfl⟩), (by omega), (by simp [liftL]), ha.weak (sub_get ⟨rfl, rfl, rfl, rfl, rfl, rfl, rfl, trivial⟩), hw.toHq.lookSub (List.Sublist.refl _)⟩) ?_
  intro i act W ⟨hb_i, sv, m, zs, w1, hokz, hmi, hzs, ha, hw⟩
  refine g_go ha hw ?_
  clear ha hw act W
  have hxi : i < xs.length → 0 ≤ rdI xs (i : Int) ∧ rdI xs (i : Int) ≤ 20 := fun h => notes_at hn (by omega) (by omega)
  refine g_seq ?_
  refine g_region ?_
  refine s_y (y_lss rfl rfl) rfl rfl rfl rfl ?_
  refine s_nil ?_
  refine g_then ?_
  refine g_seq ?_
  refine g_cond rfl (fun cq1 => ?_) (fun cq1 => ?_)
  · (try simp at cq1)
    refine g_skip ?_
    refine g_then ?_
    refine g_seq ?_
    refine g_block ?_
    refine g_seq ?_
    refine g_region ?_
    refine s_y (y_idxV (enc := (Value.int .i64)) rfl rfl hv Try.underlying22 size_3 (by omega) (by omega)) rfl rfl rfl rfl ?_
    refine s_y (y_ldV (enc := (Value.int .i64)) (xs := xs) (fun w h => hv.rdl.below h.below) rfl agg_3 (rdI_at (by omega) (by omega))) rfl rfl rfl rfl ?_
    refine s_y (y_assign rfl) rfl rfl rfl rfl ?_
    refine s_nil ?_
    refine g_then ?_
    refine g_region ?_
    refine s_y (y_move rfl) rfl rfl rfl rfl ?_
    refine s_y (y_move rfl) rfl rfl rfl rfl ?_
    refine s_y (y_move rfl) rfl rfl rfl rfl ?_
    refine s_y (y_add rfl rfl (by omega) (by omega)) rfl rfl rfl rfl ?_
    refine s_tr (t_build (vs := [(0, .int .i64 ((rdI xs (i : Int)) + b))]) (cells := [.int .i64 ((rdI xs (i : Int)) + b)]) rfl rfl Try.underlying22 hi3.1 hi3.2.1 (by rw [hi3.2.2.1]; rfl) (by rw [hi3.2.2.1]; rfl) (by rw [hi3.2.2.1]; kernel_rfl)) rfl rfl rfl rfl (fun b2 hb2 => ?_)
    refine s_tr (t_appendL (enc := (Value.int .i64)) (sv := sv) (xs := zs) (n := m) (v := (rdI xs (i : Int)) + b) [_] _ rfl rfl rfl hokz Try.underlying22 hi3.1 hi3.2.1 hi3.2.2.1 hi3.2.2.2 rfl (fun w h => h.toHq.cell (i := 0) rfl rfl) rfl (by omega) (by unfold maxLen; omega)) rfl rfl rfl rfl (fun y6 hy7 => ?_)
    obtain ⟨sv3, gs4⟩ := y6
    obtain ⟨hok5, hok5b, hok5c, hok5j, hok5e⟩ := hy7
    refine s_y (y_assign rfl) rfl rfl rfl rfl ?_
    refine s_nil ?_
    refine g_inb ?_
    refine g_then ?_
    refine g_region ?_
    refine s_y (y_add rfl rfl (by omega) (by omega)) rfl rfl rfl rfl ?_
    refine s_y (y_move rfl) rfl rfl rfl rfl ?_
    refine s_nil ?_
    refine g_then ?_
    exact fun act W ha hw => ⟨i + 1, by omega, by omega, sv3, (m + 1), (zs ++ [(rdI xs (i : Int)) + b]), W, (by exact hok5), (by omega), (by rw [liftL_take (by omega), hzs]), ha.weak (sub_get ⟨rfl, rfl, rfl, rfl, rfl, rfl, rfl, trivial⟩), hw.toHq.lookSub (List.Sublist.cons _ (sub_app (sv3.mem 3 ((zs ++ [(rdI xs (i : Int)) + b]).map (Value.int .i64))) (List.nil_sublist _)))⟩
  · (try simp at cq1)
    refine g_exit ?_
    refine g_thenx ?_
    refine g_thenx ?_
    refine g_inbx ?_
    refine g_then ?_
    refine g_seq ?_
    refine g_seq ?_
    have hi_ : i = xs.length := by omega
    rw [hi_, List.take_length] at hzs
    have hzl : zs.length = xs.length := by rw [hzs, liftL_len]
    refine g_region ?_
    refine s_y (y_move rfl) rfl rfl rfl rfl ?_
    refine s_tr (t_call rfl rfl ent_37 (fun w h => by have h_ := Notes_any w _ zs (RdV.sv (e := 3) hokz fun p hp => h.at_ p (mem_al (sv.mem 3 (zs.map (Value.int .i64))) hp)) (by omega); rw [hzs, hq] at h_; exact h_)) rfl rfl rfl rfl (fun _ _ => ?_)
    refine s_y (y_not_f rfl) rfl rfl rfl rfl ?_
    refine s_nil ?_
    refine g_then ?_
    refine g_cond_t rfl ?_
    refine g_seq ?_
    refine g_region ?_
    refine s_y (y_assign rfl) rfl rfl rfl rfl ?_
    refine s_y (y_assign rfl) rfl rfl rfl rfl ?_
    refine s_nil ?_
    refine g_then ?_
    refine g_ret ?_
    refine g_thenr ?_
    exact g_end trivial (fun a w ha hq_ => res2 ha rfl rfl rfl  w) (fun w h => ⟨rfl, h.below⟩)

theorem RLift_none2 (w : World) (v : Value) (xs : List Int) (hv : RdV (Value.int .i64) w v xs) (b : Int) (hp : partB xs = true) (hb : ¬ (-20 ≤ b ∧ b ≤ 20)) :
    Calls Try.prog 25 [v, .int .i64 b].toArray w fun e w' => e = .returned (.tuple #[.slice none 0 0, .int .i64 4]) ∧ Below w.heap.size w w' := by
  obtain ⟨hxl, hn⟩ := partB_true.1 hp
  refine enter (N := 32) Try.func25 rfl rfl rfl ?_
  refine g_seq ?_
  refine g_region ?_
  refine s_y (y_assign rfl) rfl rfl rfl rfl ?_
  refine s_y (y_assign rfl) rfl rfl rfl rfl ?_
  refine s_nil ?_
  refine g_then ?_
  refine g_seq ?_
  refine g_seq ?_
  refine g_region ?_
  refine s_y (y_move rfl) rfl rfl rfl rfl ?_
  refine s_y (y_lss rfl rfl) rfl rfl rfl rfl ?_
  refine s_y (y_move rfl) rfl rfl rfl rfl ?_
  refine g_bool 11 rfl (fun cq1 => ?_) (fun cq1 => ?_)
  · (try simp at cq1)
    refine s_no rfl rfl rfl ?_
    refine s_no rfl rfl rfl ?_
    refine s_y (y_pick_t rfl rfl) rfl rfl rfl rfl ?_
    refine s_nil ?_
    refine g_then ?_
    refine g_cond_t rfl ?_
    refine g_seq ?_
    refine g_region ?_
    refine s_y (y_assign rfl) rfl rfl rfl rfl ?_
    refine s_y (y_assign rfl) rfl rfl rfl rfl ?_
    refine s_nil ?_
    refine g_then ?_
    refine g_ret ?_
    refine g_thenr ?_
    exact g_end trivial (fun a w ha hq_ => res2 ha rfl rfl rfl  w) (fun w h => ⟨rfl, h.below⟩)
  · (try simp at cq1)
    refine s_y (y_move rfl) rfl rfl rfl rfl ?_
    refine s_y (y_gtr rfl rfl) rfl rfl rfl rfl ?_
    refine s_y (y_pick_f rfl rfl) rfl rfl rfl rfl ?_
    refine s_nil ?_
    refine g_then ?_
    refine g_cond rfl (fun cq2 => ?_) (fun cq2 => ?_)
    · (try simp at cq2)
      refine g_seq ?_
      refine g_region ?_
      refine s_y (y_assign rfl) rfl rfl rfl rfl ?_
      refine s_y (y_assign rfl) rfl rfl rfl rfl ?_
      refine s_nil ?_
      refine g_then ?_
      refine g_ret ?_
      refine g_thenr ?_
      exact g_end trivial (fun a w ha hq_ => res2 ha rfl rfl rfl  w) (fun w h => ⟨rfl, h.below⟩)
    · (try simp at cq2)
      omega

end Go.Proofs.Ytolalckejnijkaa
