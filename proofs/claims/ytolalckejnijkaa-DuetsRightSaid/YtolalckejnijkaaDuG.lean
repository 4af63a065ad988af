/- duets: worth, Worth, Swap; the reference's; right. -/
import Derived.Test.YtolalckejnijkaaDuL1
namespace Go.Proofs.Ytolalckejnijkaa
open Go.RowKit Go.Sx 
set_option linter.unusedVariables false
set_option linter.unusedSimpArgs false
set_option maxRecDepth 100000
set_option maxHeartbeats 4000000

private theorem fld_48_1 (b off : Nat) (w : World) : (Instr.fieldAt 48 (.pointer (some ⟨b, off, none⟩)) 1).run Try.prog w = .ok (.pointer (some ⟨b, off + 1, none⟩)) w := by kernel_rfl
private theorem agg_22 : isAggB Try.prog 22 = some false := by kernel_rfl
private theorem ent_73 : Enters Try.prog 73 := enters_of Try.func73 (by kernel_rfl) rfl
private theorem fld_48_0 (b off : Nat) (w : World) : (Instr.fieldAt 48 (.pointer (some ⟨b, off, none⟩)) 0).run Try.prog w = .ok (.pointer (some ⟨b, off, none⟩)) w := by kernel_rfl
private theorem ent_74 : Enters Try.prog 74 := enters_of Try.func74 (by kernel_rfl) rfl
private theorem ent_48 : Enters Try.prog 48 := enters_of Try.func48 (by kernel_rfl) rfl
private theorem zero_48 : (Try.prog.info? 48).bind (·.zero) = some (.agg #[(.slice none 0 0), (.slice none 0 0)]) := by kernel_rfl
private theorem size_48 : (Try.prog.info? 48).map (·.size) = some 2 := by kernel_rfl
private theorem agg_48 : isAggB Try.prog 48 = some true := by kernel_rfl
private theorem ent_49 : Enters Try.prog 49 := enters_of Try.func49 (by kernel_rfl) rfl
private theorem sle_22 : Try.prog.underlying 22 = some (.slice (Try.prog.elem 22)) := by kernel_rfl
private theorem ent_61 : Enters Try.prog 61 := enters_of Try.func61 (by kernel_rfl) rfl
private theorem size_3 : (Try.prog.info? 3).map (·.size) = some 1 := by kernel_rfl
private theorem agg_3 : isAggB Try.prog 3 = some false := by kernel_rfl
private theorem ent_71 : Enters Try.prog 71 := enters_of Try.func71 (by kernel_rfl) rfl
private theorem ent_23 : Enters Try.prog 23 := enters_of Try.func23 (by kernel_rfl) rfl
private theorem ent_63 : Enters Try.prog 63 := enters_of Try.func63 (by kernel_rfl) rfl
private theorem ent_58 : Enters Try.prog 58 := enters_of Try.func58 (by kernel_rfl) rfl
private theorem ent_51 : Enters Try.prog 51 := enters_of Try.func51 (by kernel_rfl) rfl
private theorem ent_44 : Enters Try.prog 44 := enters_of Try.func44 (by kernel_rfl) rfl
private theorem ent_25 : Enters Try.prog 25 := enters_of Try.func25 (by kernel_rfl) rfl
private theorem inf_3 : ∃ ie, Try.prog.info? 3 = some ie ∧ ie.zero = some (.int .i64 0) ∧ ie.size = 1 ∧ ie.bytes = 8 := info_of (by kernel_rfl) (by kernel_rfl)
private theorem ent_17 : Enters Try.prog 17 := enters_of Try.func17 (by kernel_rfl) rfl
private theorem ent_21 : Enters Try.prog 21 := enters_of Try.func21 (by kernel_rfl) rfl

/-- What the move to an index is worth. -/
def wI (m q : Int) : Int := (if (m > 0 ∧ q < 0) ∨ (m < 0 ∧ q > 0) then 3 else 0) + (if m = 1 ∨ m = -1 then 1 else if m = 0 then -1 else 0)
def wrt (g s : List Int) (i : Nat) : Int := if i = 0 then 0 else wI (mvI s i) (mvI g i)
theorem wI_range (m q : Int) : -1 ≤ wI m q ∧ wI m q ≤ 4 := by unfold wI; (repeat' split) <;> omega
theorem wrt_range (g s : List Int) (i : Nat) : -1 ≤ wrt g s i ∧ wrt g s i ≤ 4 := by
  unfold wrt; split
  · omega
  · exact wI_range _ _
def wsum (g s : List Int) : Nat → Int
  | 0 => 0
  | i + 1 => wsum g s i + wrt g s i
theorem wsum_range (g s : List Int) : ∀ i : Nat, -(i : Int) ≤ wsum g s i ∧ wsum g s i ≤ 4 * i
  | 0 => by simp [wsum]
  | i + 1 => by
    have h1 := wsum_range g s i
    have h2 := wrt_range g s i
    unfold wsum
    omega
def wthD (g s : List Int) : Int × Int := if (frs g s).2 = 0 then (wsum g s s.length, 0) else (0, 4)
theorem wrt_at {g s : List Int} {i : Nat} {m q o : Int} (hm : m = mvI s i ∨ i = 0) (hq : q = mvI g i ∨ i = 0) (h : i = 0 ∧ o = 0 ∨ i ≠ 0 ∧ o = wI m q) : wrt g s i = o := by
  unfold wrt
  rcases h with ⟨h, rfl⟩ | ⟨h, rfl⟩
  · rw [if_pos h]
  · rw [if_neg h]
    rcases hm with rfl | hm
    · rcases hq with rfl | hq
      · rfl
      · omega
    · omega

theorem worth_any (w : World) (ag as_ : Option Addr) (cg cs : Nat) (g s : List Int) (hg : RdV (Value.int .i64) w (.slice ag g.length cg) g) (hs : RdV (Value.int .i64) w (.slice as_ s.length cs) s) (i : Nat) (hi : i < s.length) (hle : s.length ≤ g.length) (hgl : g.length ≤ 1000) (hgn : ∀ x ∈ g, 0 ≤ x ∧ x ≤ 20) (hsn : ∀ x ∈ s, 0 ≤ x ∧ x ≤ 20) :
    Calls Try.prog 61 [.agg #[.slice ag g.length cg, .slice as_ s.length cs], .int .i64 (i : Int)].toArray w fun e w' => e = .returned (.int .i64 (wrt g s i)) ∧ Below w.heap.size w w' := by
  have hsp := mvP_spec hsn (i := (i : Int)) (by omega) (by omega)
  have hgp := mvP_spec hgn (i := (i : Int)) (by omega) (by omega)
  have hmb := mul_bounds hsp.2.2 hgp.2.2
  have ha1 := aI_spec (mvP s (i : Int))
  refine enter (N := 35) Try.func61 rfl rfl rfl ?_
  refine g_seq ?_
  refine g_region ?_
  refine s_tr (t_box rfl rfl) rfl rfl rfl rfl (fun bd hbd => ?_)
  refine s_y (y_assign rfl) rfl rfl rfl rfl ?_
  refine s_nil ?_
  refine g_then ?_
  refine g_seq ?_
  refine g_region ?_
  refine s_y (y_fld rfl (fun w => fld_48_1 _ _ w)) rfl rfl rfl rfl ?_
  refine s_y (y_ld1 0 rfl rfl agg_22 rfl) rfl rfl rfl rfl ?_
  refine s_y (y_move rfl) rfl rfl rfl rfl ?_
  refine s_tr (t_call rfl rfl ent_73 (fun w h => move_any w _ s (hs.below h.below) hsn (i : Int) (by omega) (by omega) (by omega))) rfl rfl rfl rfl (fun _ _ => ?_)
  refine s_y (y_assign rfl) rfl rfl rfl rfl ?_
  refine s_nil ?_
  refine g_then ?_
  refine g_seq ?_
  refine g_region ?_
  refine s_y (y_assign rfl) rfl rfl rfl rfl ?_
  refine s_nil ?_
  refine g_then ?_
  refine g_seq ?_
  refine g_seq ?_
  refine g_region ?_
  refine s_y (y_move rfl) rfl rfl rfl rfl ?_
  refine s_y (y_fld rfl (fun w => fld_48_0 _ _ w)) rfl rfl rfl rfl ?_
  refine s_y (y_ld1 0 rfl rfl agg_22 rfl) rfl rfl rfl rfl ?_
  refine s_y (y_move rfl) rfl rfl rfl rfl ?_
  refine s_tr (t_call rfl rfl ent_73 (fun w h => move_any w _ g (hg.below h.below) hgn (i : Int) (by omega) (by omega) (by omega))) rfl rfl rfl rfl (fun _ _ => ?_)
  refine s_y (y_mul rfl rfl (by omega) (by omega)) rfl rfl rfl rfl ?_
  refine s_y (y_lss rfl rfl) rfl rfl rfl rfl ?_
  refine s_nil ?_
  refine g_then ?_
  refine g_cond rfl (fun cq1 => ?_) (fun cq1 => ?_)
  · (try simp at cq1)
    have hc := (mul_neg_iff' (a := mvP s (i : Int)) (b := mvP g (i : Int))).1 (by simpa using cq1)
    refine g_region ?_
    refine s_y (y_move rfl) rfl rfl rfl rfl ?_
    refine s_y (y_add rfl rfl (by omega) (by omega)) rfl rfl rfl rfl ?_
    refine s_y (y_assign rfl) rfl rfl rfl rfl ?_
    refine s_nil ?_
    refine g_then ?_
    refine g_seq ?_
    refine g_block ?_
    refine g_seq ?_
    refine g_region ?_
    refine s_y (y_move rfl) rfl rfl rfl rfl ?_
    refine s_y (y_eql rfl rfl) rfl rfl rfl rfl ?_
    refine s_y (y_assign rfl) rfl rfl rfl rfl ?_
    refine s_nil ?_
    refine g_then ?_
    refine g_cond rfl (fun cq2 => ?_) (fun cq2 => ?_)
    · (try simp at cq2)
      refine g_seq ?_
      refine g_region ?_
      refine s_y (y_assign rfl) rfl rfl rfl rfl ?_
      refine s_nil ?_
      refine g_then ?_
      refine g_ret ?_
      refine g_inbr ?_
      refine g_thenr ?_
      rw [show wrt g s i = 0 from wrt_at (m := mvP s (i : Int)) (q := mvP g (i : Int)) (by first | exact .inr (by omega) | exact .inl (hsp.2.1 (by omega))) (by first | exact .inr (by omega) | exact .inl (hgp.2.1 (by omega))) (by first | exact .inl ⟨by omega, by rfl⟩ | exact .inr ⟨by omega, by unfold wI; (repeat' split) <;> omega⟩)]
      exact g_end trivial (fun a w ha hq_ => res1 ha rfl rfl  w) (fun w h => ⟨rfl, h.below⟩)
    · (try simp at cq2)
      refine g_seq ?_
      refine g_region ?_
      refine s_y (y_move rfl) rfl rfl rfl rfl ?_
      refine s_tr (t_call rfl rfl ent_74 (fun w h => abs_any w (mvP s (i : Int)) (by omega) (by omega))) rfl rfl rfl rfl (fun _ _ => ?_)
      refine s_y (y_eql rfl rfl) rfl rfl rfl rfl ?_
      refine s_y (y_assign rfl) rfl rfl rfl rfl ?_
      refine s_nil ?_
      refine g_then ?_
      refine g_cond rfl (fun cq3 => ?_) (fun cq3 => ?_)
      · (try simp at cq3)
        refine g_region ?_
        refine s_y (y_move rfl) rfl rfl rfl rfl ?_
        refine s_y (y_add rfl rfl (by omega) (by omega)) rfl rfl rfl rfl ?_
        refine s_y (y_assign rfl) rfl rfl rfl rfl ?_
        refine s_nil ?_
        refine g_inb ?_
        refine g_then ?_
        refine g_seq ?_
        refine g_region ?_
        refine s_y (y_move rfl) rfl rfl rfl rfl ?_
        refine s_y (y_assign rfl) rfl rfl rfl rfl ?_
        refine s_nil ?_
        refine g_then ?_
        refine g_ret ?_
        rw [show wrt g s i = ((0 + 3) + 1) from wrt_at (m := mvP s (i : Int)) (q := mvP g (i : Int)) (by first | exact .inr (by omega) | exact .inl (hsp.2.1 (by omega))) (by first | exact .inr (by omega) | exact .inl (hgp.2.1 (by omega))) (by first | exact .inl ⟨by omega, by rfl⟩ | exact .inr ⟨by omega, by unfold wI; (repeat' split) <;> omega⟩)]
        exact g_end trivial (fun a w ha hq_ => res1 ha rfl rfl  w) (fun w h => ⟨rfl, h.below⟩)
      · (try simp at cq3)
        refine g_seq ?_
        refine g_region ?_
        refine s_y (y_move rfl) rfl rfl rfl rfl ?_
        refine s_y (y_eql rfl rfl) rfl rfl rfl rfl ?_
        refine s_y (y_assign rfl) rfl rfl rfl rfl ?_
        refine s_nil ?_
        refine g_then ?_
        refine g_cond rfl (fun cq4 => ?_) (fun cq4 => ?_)
        · (try simp at cq4)
          refine g_region ?_
          refine s_y (y_move rfl) rfl rfl rfl rfl ?_
          refine s_y (y_sub rfl rfl (by omega) (by omega)) rfl rfl rfl rfl ?_
          refine s_y (y_assign rfl) rfl rfl rfl rfl ?_
          refine s_nil ?_
          refine g_inb ?_
          refine g_then ?_
          refine g_seq ?_
          refine g_region ?_
          refine s_y (y_move rfl) rfl rfl rfl rfl ?_
          refine s_y (y_assign rfl) rfl rfl rfl rfl ?_
          refine s_nil ?_
          refine g_then ?_
          refine g_ret ?_
          rw [show wrt g s i = ((0 + 3) - 1) from wrt_at (m := mvP s (i : Int)) (q := mvP g (i : Int)) (by first | exact .inr (by omega) | exact .inl (hsp.2.1 (by omega))) (by first | exact .inr (by omega) | exact .inl (hgp.2.1 (by omega))) (by first | exact .inl ⟨by omega, by rfl⟩ | exact .inr ⟨by omega, by unfold wI; (repeat' split) <;> omega⟩)]
          exact g_end trivial (fun a w ha hq_ => res1 ha rfl rfl  w) (fun w h => ⟨rfl, h.below⟩)
        · (try simp at cq4)
          refine g_skip ?_
          refine g_inb ?_
          refine g_then ?_
          refine g_seq ?_
          refine g_region ?_
          refine s_y (y_move rfl) rfl rfl rfl rfl ?_
          refine s_y (y_assign rfl) rfl rfl rfl rfl ?_
          refine s_nil ?_
          refine g_then ?_
          refine g_ret ?_
          rw [show wrt g s i = (0 + 3) from wrt_at (m := mvP s (i : Int)) (q := mvP g (i : Int)) (by first | exact .inr (by omega) | exact .inl (hsp.2.1 (by omega))) (by first | exact .inr (by omega) | exact .inl (hgp.2.1 (by omega))) (by first | exact .inl ⟨by omega, by rfl⟩ | exact .inr ⟨by omega, by unfold wI; (repeat' split) <;> omega⟩)]
          exact g_end trivial (fun a w ha hq_ => res1 ha rfl rfl  w) (fun w h => ⟨rfl, h.below⟩)
  · (try simp at cq1)
    have hc : ¬ ((mvP s (i : Int) > 0 ∧ mvP g (i : Int) < 0) ∨ (mvP s (i : Int) < 0 ∧ mvP g (i : Int) > 0)) := fun h_ => absurd (mul_neg_iff'.2 h_) (by simpa using cq1)
    refine g_skip ?_
    refine g_then ?_
    refine g_seq ?_
    refine g_block ?_
    refine g_seq ?_
    refine g_region ?_
    refine s_y (y_move rfl) rfl rfl rfl rfl ?_
    refine s_y (y_eql rfl rfl) rfl rfl rfl rfl ?_
    refine s_y (y_assign rfl) rfl rfl rfl rfl ?_
    refine s_nil ?_
    refine g_then ?_
    refine g_cond rfl (fun cq5 => ?_) (fun cq5 => ?_)
    · (try simp at cq5)
      refine g_seq ?_
      refine g_region ?_
      refine s_y (y_assign rfl) rfl rfl rfl rfl ?_
      refine s_nil ?_
      refine g_then ?_
      refine g_ret ?_
      refine g_inbr ?_
      refine g_thenr ?_
      rw [show wrt g s i = 0 from wrt_at (m := mvP s (i : Int)) (q := mvP g (i : Int)) (by first | exact .inr (by omega) | exact .inl (hsp.2.1 (by omega))) (by first | exact .inr (by omega) | exact .inl (hgp.2.1 (by omega))) (by first | exact .inl ⟨by omega, by rfl⟩ | exact .inr ⟨by omega, by unfold wI; (repeat' split) <;> omega⟩)]
      exact g_end trivial (fun a w ha hq_ => res1 ha rfl rfl  w) (fun w h => ⟨rfl, h.below⟩)
    · (try simp at cq5)
      refine g_seq ?_
      refine g_region ?_
      refine s_y (y_move rfl) rfl rfl rfl rfl ?_
      refine s_tr (t_call rfl rfl ent_74 (fun w h => abs_any w (mvP s (i : Int)) (by omega) (by omega))) rfl rfl rfl rfl (fun _ _ => ?_)
      refine s_y (y_eql rfl rfl) rfl rfl rfl rfl ?_
      refine s_y (y_assign rfl) rfl rfl rfl rfl ?_
      refine s_nil ?_
      refine g_then ?_
      refine g_cond rfl (fun cq6 => ?_) (fun cq6 => ?_)
      · (try simp at cq6)
        refine g_region ?_
        refine s_y (y_move rfl) rfl rfl rfl rfl ?_
        refine s_y (y_add rfl rfl (by omega) (by omega)) rfl rfl rfl rfl ?_
        refine s_y (y_assign rfl) rfl rfl rfl rfl ?_
        refine s_nil ?_
        refine g_inb ?_
        refine g_then ?_
        refine g_seq ?_
        refine g_region ?_
        refine s_y (y_move rfl) rfl rfl rfl rfl ?_
        refine s_y (y_assign rfl) rfl rfl rfl rfl ?_
        refine s_nil ?_
        refine g_then ?_
        refine g_ret ?_
        rw [show wrt g s i = (0 + 1) from wrt_at (m := mvP s (i : Int)) (q := mvP g (i : Int)) (by first | exact .inr (by omega) | exact .inl (hsp.2.1 (by omega))) (by first | exact .inr (by omega) | exact .inl (hgp.2.1 (by omega))) (by first | exact .inl ⟨by omega, by rfl⟩ | exact .inr ⟨by omega, by unfold wI; (repeat' split) <;> omega⟩)]
        exact g_end trivial (fun a w ha hq_ => res1 ha rfl rfl  w) (fun w h => ⟨rfl, h.below⟩)
      · (try simp at cq6)
        refine g_seq ?_
        refine g_region ?_
        refine s_y (y_move rfl) rfl rfl rfl rfl ?_
        refine s_y (y_eql rfl rfl) rfl rfl rfl rfl ?_
        refine s_y (y_assign rfl) rfl rfl rfl rfl ?_
        refine s_nil ?_
        refine g_then ?_
        refine g_cond rfl (fun cq7 => ?_) (fun cq7 => ?_)
        · (try simp at cq7)
          refine g_region ?_
          refine s_y (y_move rfl) rfl rfl rfl rfl ?_
          refine s_y (y_sub rfl rfl (by omega) (by omega)) rfl rfl rfl rfl ?_
          refine s_y (y_assign rfl) rfl rfl rfl rfl ?_
          refine s_nil ?_
          refine g_inb ?_
          refine g_then ?_
          refine g_seq ?_
          refine g_region ?_
          refine s_y (y_move rfl) rfl rfl rfl rfl ?_
          refine s_y (y_assign rfl) rfl rfl rfl rfl ?_
          refine s_nil ?_
          refine g_then ?_
          refine g_ret ?_
          rw [show wrt g s i = (0 - 1) from wrt_at (m := mvP s (i : Int)) (q := mvP g (i : Int)) (by first | exact .inr (by omega) | exact .inl (hsp.2.1 (by omega))) (by first | exact .inr (by omega) | exact .inl (hgp.2.1 (by omega))) (by first | exact .inl ⟨by omega, by rfl⟩ | exact .inr ⟨by omega, by unfold wI; (repeat' split) <;> omega⟩)]
          exact g_end trivial (fun a w ha hq_ => res1 ha rfl rfl  w) (fun w h => ⟨rfl, h.below⟩)
        · (try simp at cq7)
          refine g_skip ?_
          refine g_inb ?_
          refine g_then ?_
          refine g_seq ?_
          refine g_region ?_
          refine s_y (y_move rfl) rfl rfl rfl rfl ?_
          refine s_y (y_assign rfl) rfl rfl rfl rfl ?_
          refine s_nil ?_
          refine g_then ?_
          refine g_ret ?_
          rw [show wrt g s i = 0 from wrt_at (m := mvP s (i : Int)) (q := mvP g (i : Int)) (by first | exact .inr (by omega) | exact .inl (hsp.2.1 (by omega))) (by first | exact .inr (by omega) | exact .inl (hgp.2.1 (by omega))) (by first | exact .inl ⟨by omega, by rfl⟩ | exact .inr ⟨by omega, by unfold wI; (repeat' split) <;> omega⟩)]
          exact g_end trivial (fun a w ha hq_ => res1 ha rfl rfl  w) (fun w h => ⟨rfl, h.below⟩)

theorem Worth_lit (w : World) (ag as_ : Option Addr) (cg cs : Nat) (g s : List Int) (hg : RdV (Value.int .i64) w (.slice ag g.length cg) g) (hs : RdV (Value.int .i64) w (.slice as_ s.length cs) s) (hp : pairB g s = true) :
    Calls Try.prog 40 [.slice ag g.length cg, .slice as_ s.length cs].toArray w fun e w' => e = .returned (.tuple #[.int .i64 (wthD g s).1, .int .i64 (wthD g s).2]) ∧ Below w.heap.size w w' := by
  obtain ⟨⟨hgl, hgn⟩, hsn, hln⟩ := pair_facts hp
  refine enter (N := 39) Try.func40 rfl rfl rfl ?_
  refine g_seq ?_
  refine g_region ?_
  refine s_y (y_assign rfl) rfl rfl rfl rfl ?_
  refine s_y (y_assign rfl) rfl rfl rfl rfl ?_
  refine s_nil ?_
  refine g_then ?_
  refine g_seq ?_
  refine g_region ?_
  refine s_y (y_move rfl) rfl rfl rfl rfl ?_
  refine s_y (y_move rfl) rfl rfl rfl rfl ?_
  refine s_tr (t_call rfl rfl ent_48 (fun w h => by have h_ := read_any w ag as_ cg cs g s (hg.below h.below) (hs.below h.below) (by omega) (by omega); rw [hp] at h_; exact h_)) rfl rfl rfl rfl (fun _ _ => ?_)
  refine s_y (y_move rfl) rfl rfl rfl rfl ?_
  refine s_y (y_extract rfl rfl) rfl rfl rfl rfl ?_
  refine s_y (y_extract rfl rfl) rfl rfl rfl rfl ?_
  refine s_tr (t_alloc zero_48 rfl) rfl rfl rfl rfl (fun bd hbd => ?_)
  refine s_tr0 (t_store 0 rfl rfl rfl rfl size_48 rfl rfl) rfl rfl rfl (fun _ _ => ?_)
  refine s_y (y_assign rfl) rfl rfl rfl rfl ?_
  refine s_nil ?_
  refine g_then ?_
  refine g_seq ?_
  refine g_seq ?_
  refine g_region ?_
  refine s_y (y_move rfl) rfl rfl rfl rfl ?_
  refine s_y (y_not_t rfl) rfl rfl rfl rfl ?_
  refine s_nil ?_
  refine g_then ?_
  refine g_cond_f rfl ?_
  refine g_skip ?_
  refine g_then ?_
  refine g_seq ?_
  refine g_seq ?_
  refine g_region ?_
  refine s_y (y_ldn 0 rfl rfl agg_48 size_48 rfl rfl) rfl rfl rfl rfl ?_
  refine s_tr (t_call rfl rfl ent_49 (fun w h => first_any w ag as_ cg cs g s (hg.below h.below) (hs.below h.below) (by omega) (by omega) hgn hsn)) rfl rfl rfl rfl (fun _ _ => ?_)
  refine s_y (y_move rfl) rfl rfl rfl rfl ?_
  refine s_y (y_extract rfl rfl) rfl rfl rfl rfl ?_
  refine s_y (y_extract rfl rfl) rfl rfl rfl rfl ?_
  refine s_y (y_assign rfl) rfl rfl rfl rfl ?_
  refine s_y (y_assign rfl) rfl rfl rfl rfl ?_
  refine s_nil ?_
  refine g_then ?_
  refine g_seq ?_
  refine g_region ?_
  refine s_y (y_move rfl) rfl rfl rfl rfl ?_
  refine s_y (y_gtr rfl rfl) rfl rfl rfl rfl ?_
  refine s_nil ?_
  refine g_then ?_
  refine g_cond rfl (fun cq1 => ?_) (fun cq1 => ?_)
  · (try simp at cq1)
    have hne : ¬ (frs g s).2 = 0 := fun h_ => by rw [h_] at cq1; omega
    refine g_seq ?_
    refine g_region ?_
    refine s_y (y_assign rfl) rfl rfl rfl rfl ?_
    refine s_y (y_assign rfl) rfl rfl rfl rfl ?_
    refine s_nil ?_
    refine g_then ?_
    refine g_ret ?_
    refine g_thenr ?_
    rw [show wthD g s = (0, 4) from if_neg hne]
    exact g_end trivial (fun a w ha hq_ => res2 ha rfl rfl rfl  w) (fun w h => ⟨rfl, h.below⟩)
  · (try simp at cq1)
    have hz : (frs g s).2 = 0 := by have h_ := frsR_range g s s.length 0; have h2_ : frs g s = frsR g s s.length 0 := rfl; rw [← h2_] at h_; omega
    refine g_skip ?_
    refine g_then ?_
    refine g_seq ?_
    refine g_region ?_
    refine s_y (y_assign rfl) rfl rfl rfl rfl ?_
    refine s_nil ?_
    refine g_then ?_
    refine g_seq ?_
    refine g_seq ?_
    refine g_region ?_
    refine s_y (y_move rfl) rfl rfl rfl rfl ?_
    refine s_y (y_lenV (n := s.length) rfl (by obtain ⟨A, c, h1, _⟩ := hs; exact ⟨A, c, h1⟩) sle_22) rfl rfl rfl rfl ?_
    refine s_y (y_move rfl) rfl rfl rfl rfl ?_
    refine s_nil ?_
    refine g_then ?_
    refine g_block ?_
    refine g_loop (fun (i : Nat) act W => i ≤ s.length ∧ ∃ (out : Int) (w1 : World), (out = wsum g s i) ∧ Has 39 [] [(4, .int .i64 0), (5, .int .i64 0), (6, .pointer (some ⟨bd, 0, none⟩)), (10, .int .i64 out), (28, .int .i64 (s.length : Nat)), (29, .int .i64 (i : Int))] act ∧ Hp w w1 ((bd, .cells [.slice ag g.length cg, .slice as_ s.length cs].toArray 48 (0, 0)) :: []) W) (fun i => s.length - i) 0 (fun act W ha hw => ⟨by omega, 0, W, (by rfl), ha.weak (sub_get ⟨rfl, rfl, rfl, rfl, rfl, rfl, trivial⟩), hw.toHq.lookSub (List.Sublist.refl _)⟩) ?_
    intro i act W ⟨hb_i, out, w1, ho, ha, hw⟩
    refine g_go ha hw ?_
    clear ha hw act W
    have hw1 := wsum_range g s i
    have hw2 := wrt_range g s i
    rw [← ho] at hw1
    refine g_seq ?_
    refine g_region ?_
    refine s_y (y_lss rfl rfl) rfl rfl rfl rfl ?_
    refine s_nil ?_
    refine g_then ?_
    refine g_seq ?_
    refine g_cond rfl (fun cq2 => ?_) (fun cq2 => ?_)
    · (try simp at cq2)
      refine g_skip ?_
      refine g_then ?_
      refine g_seq ?_
      refine g_block ?_
      refine g_seq ?_
      refine g_region ?_
      refine s_y (y_move rfl) rfl rfl rfl rfl ?_
      refine s_y (y_assign rfl) rfl rfl rfl rfl ?_
      refine s_nil ?_
      refine g_then ?_
      refine g_region ?_
      refine s_y (y_move rfl) rfl rfl rfl rfl ?_
      refine s_y (y_ldn 0 rfl rfl agg_48 size_48 rfl rfl) rfl rfl rfl rfl ?_
      refine s_y (y_move rfl) rfl rfl rfl rfl ?_
      refine s_tr (t_call rfl rfl ent_61 (fun w h => worth_any w ag as_ cg cs g s (hg.below h.below) (hs.below h.below) i (by omega) (by omega) (by omega) hgn hsn)) rfl rfl rfl rfl (fun _ _ => ?_)
      refine s_y (y_add rfl rfl (by omega) (by omega)) rfl rfl rfl rfl ?_
      refine s_y (y_assign rfl) rfl rfl rfl rfl ?_
      refine s_nil ?_
      refine g_inb ?_
      refine g_then ?_
      refine g_region ?_
      refine s_y (y_add rfl rfl (by omega) (by omega)) rfl rfl rfl rfl ?_
      refine s_y (y_move rfl) rfl rfl rfl rfl ?_
      refine s_nil ?_
      refine g_then ?_
      exact fun act W ha hw => ⟨i + 1, by omega, by omega, (out + (wrt g s i)), W, (by rw [ho]; rfl), ha.weak (sub_get ⟨rfl, rfl, rfl, rfl, rfl, rfl, trivial⟩), hw.toHq.lookSub (List.Sublist.refl _)⟩
    · (try simp at cq2)
      refine g_exit ?_
      refine g_thenx ?_
      refine g_thenx ?_
      refine g_inbx ?_
      refine g_then ?_
      refine g_seq ?_
      refine g_region ?_
      refine s_y (y_move rfl) rfl rfl rfl rfl ?_
      refine s_y (y_assign rfl) rfl rfl rfl rfl ?_
      refine s_y (y_assign rfl) rfl rfl rfl rfl ?_
      refine s_nil ?_
      refine g_then ?_
      refine g_ret ?_
      have hi_ : i = s.length := by omega
      subst hi_
      rw [show wthD g s = (wsum g s s.length, 0) from if_pos hz, ← ho]
      exact g_end trivial (fun a w ha hq_ => res2 ha rfl rfl rfl  w) (fun w h => ⟨rfl, h.below⟩)

theorem Worth_litno (w : World) (ag as_ : Option Addr) (cg cs : Nat) (g s : List Int) (hg : RdV (Value.int .i64) w (.slice ag g.length cg) g) (hs : RdV (Value.int .i64) w (.slice as_ s.length cs) s) (hgl : g.length ≤ 9223372036854775807) (hsl : s.length ≤ 9223372036854775807) (hp : pairB g s = false) :
    Calls Try.prog 40 [.slice ag g.length cg, .slice as_ s.length cs].toArray w fun e w' => e = .returned (.tuple #[.int .i64 0, .int .i64 2]) ∧ Below w.heap.size w w' := by
  refine enter (N := 39) Try.func40 rfl rfl rfl ?_
  refine g_seq ?_
  refine g_region ?_
  refine s_y (y_assign rfl) rfl rfl rfl rfl ?_
  refine s_y (y_assign rfl) rfl rfl rfl rfl ?_
  refine s_nil ?_
  refine g_then ?_
  refine g_seq ?_
  refine g_region ?_
  refine s_y (y_move rfl) rfl rfl rfl rfl ?_
  refine s_y (y_move rfl) rfl rfl rfl rfl ?_
  refine s_tr (t_call rfl rfl ent_48 (fun w h => by have h_ := read_any w ag as_ cg cs g s (hg.below h.below) (hs.below h.below) (by omega) (by omega); rw [hp] at h_; exact h_)) rfl rfl rfl rfl (fun _ _ => ?_)
  refine s_y (y_move rfl) rfl rfl rfl rfl ?_
  refine s_y (y_extract rfl rfl) rfl rfl rfl rfl ?_
  refine s_y (y_extract rfl rfl) rfl rfl rfl rfl ?_
  refine s_tr (t_alloc zero_48 rfl) rfl rfl rfl rfl (fun bd hbd => ?_)
  refine s_tr0 (t_store 0 rfl rfl rfl rfl size_48 rfl rfl) rfl rfl rfl (fun _ _ => ?_)
  refine s_y (y_assign rfl) rfl rfl rfl rfl ?_
  refine s_nil ?_
  refine g_then ?_
  refine g_seq ?_
  refine g_seq ?_
  refine g_region ?_
  refine s_y (y_move rfl) rfl rfl rfl rfl ?_
  refine s_y (y_not_f rfl) rfl rfl rfl rfl ?_
  refine s_nil ?_
  refine g_then ?_
  refine g_cond_t rfl ?_
  refine g_seq ?_
  refine g_region ?_
  refine s_y (y_assign rfl) rfl rfl rfl rfl ?_
  refine s_y (y_assign rfl) rfl rfl rfl rfl ?_
  refine s_nil ?_
  refine g_then ?_
  refine g_ret ?_
  refine g_thenr ?_
  exact g_end trivial (fun a w ha hq_ => res2 ha rfl rfl rfl  w) (fun w h => ⟨rfl, h.below⟩)

theorem Worth_ok (w : World) (v v' : Value) (g s : List Int) (hg : RdV (Value.int .i64) w v g) (hs : RdV (Value.int .i64) w v' s) (hp : pairB g s = true) : Calls Try.prog 40 [v, v'].toArray w fun e w' => e = .returned (.tuple #[.int .i64 (wthD g s).1, .int .i64 (wthD g s).2]) ∧ Below w.heap.size w w' := by
  obtain ⟨ag, cg, rfl, _, _⟩ := id hg
  obtain ⟨as_, cs, rfl, _, _⟩ := id hs
  exact Worth_lit w ag as_ cg cs g s hg hs hp
theorem Worth_no (w : World) (v v' : Value) (g s : List Int) (hg : RdV (Value.int .i64) w v g) (hs : RdV (Value.int .i64) w v' s) (hgl : g.length ≤ 9223372036854775807) (hsl : s.length ≤ 9223372036854775807) (hp : pairB g s = false) : Calls Try.prog 40 [v, v'].toArray w fun e w' => e = .returned (.tuple #[.int .i64 0, .int .i64 2]) ∧ Below w.heap.size w w' := by
  obtain ⟨ag, cg, rfl, _, _⟩ := id hg
  obtain ⟨as_, cs, rfl, _, _⟩ := id hs
  exact Worth_litno w ag as_ cg cs g s hg hs hgl hsl hp

theorem Rworth_any (w : World) (v v' : Value) (g s : List Int) (hg : RdV (Value.int .i64) w v g) (hs : RdV (Value.int .i64) w v' s) (hp : pairB g s = true) :
    Calls Try.prog 63 [v, v'].toArray w fun e w' => e = .returned (.int .i64 (wsum g s s.length)) ∧ Below w.heap.size w w' := by
  obtain ⟨⟨hgl, hgn⟩, hsn, hln⟩ := pair_facts hp
  refine enter (N := 61) Try.func63 rfl rfl rfl ?_
  refine g_seq ?_
  refine g_region ?_
  refine s_y (y_assign rfl) rfl rfl rfl rfl ?_
  refine s_nil ?_
  refine g_then ?_
  refine g_seq ?_
  refine g_region ?_
  refine s_y (y_assign rfl) rfl rfl rfl rfl ?_
  refine s_nil ?_
  refine g_then ?_
  refine g_seq ?_
  refine g_seq ?_
  refine g_region ?_
  refine s_y (y_assign rfl) rfl rfl rfl rfl ?_
  refine s_nil ?_
  refine g_then ?_
  refine g_block ?_
  refine g_loop (fun (i : Nat) act W => (1 ≤ i ∧ i ≤ g.length) ∧ ∃ (out : Int) (w1 : World), (out = wsum g s i) ∧ Has 61 [] [(0, v), (1, v'), (4, .int .i64 0), (5, .int .i64 out), (6, .int .i64 (i : Int))] act ∧ Hp w w1 ([]) W) (fun i => g.length - i) 1 (fun act W ha hw => ⟨by omega, 0, W, (by rfl), ha.weak (sub_get ⟨rfl, rfl, rfl, rfl, rfl, trivial⟩), hw.toHq.lookSub (List.Sublist.refl _)⟩) ?_
  intro i act W ⟨hb_i, out, w1, ho, ha, hw⟩
  refine g_go ha hw ?_
  clear ha hw act W
  have hw1 := wsum_range g s i
  rw [← ho] at hw1
  refine g_seq ?_
  refine g_seq ?_
  refine g_region ?_
  refine s_y (y_move rfl) rfl rfl rfl rfl ?_
  refine s_y (y_move rfl) rfl rfl rfl rfl ?_
  refine s_y (y_lenV (n := g.length) rfl (by obtain ⟨A, c, h1, _⟩ := hg; exact ⟨A, c, h1⟩) sle_22) rfl rfl rfl rfl ?_
  refine s_y (y_lss rfl rfl) rfl rfl rfl rfl ?_
  refine s_nil ?_
  refine g_then ?_
  refine g_cond rfl (fun cq1 => ?_) (fun cq1 => ?_)
  · (try simp at cq1)
    refine g_skip ?_
    refine g_then ?_
    refine g_seq ?_
    refine g_block ?_
    refine g_seq ?_
    have g0 := notes_at hgn (i := (i : Int)) (by omega) (by omega)
    have s0 := notes_at hsn (i := (i : Int)) (by omega) (by omega)
    have g1 := notes_at hgn (i := (i : Int) - 1) (by omega) (by omega)
    have s1 := notes_at hsn (i := (i : Int) - 1) (by omega) (by omega)
    have ha1 := aI_spec (rdI s (i : Int) - rdI s ((i : Int) - 1))
    refine g_draw 22 (by kernel_rfl) ?_
    refine j_p (i := 0) rfl (y_move rfl) (by kernel_rfl) (by kernel_rfl) (by kernel_rfl) rfl rfl rfl rfl rfl (.inr (fun _ h => h)) ?_
    refine j_p (i := 1) rfl (y_move rfl) (by kernel_rfl) (by kernel_rfl) (by kernel_rfl) rfl rfl rfl rfl rfl (.inr (fun _ h => h)) ?_
    refine j_p (i := 2) rfl (y_idxV (enc := (Value.int .i64)) rfl rfl hs Try.underlying22 size_3 (by omega) (by omega)) (by kernel_rfl) (by kernel_rfl) (by kernel_rfl) rfl rfl rfl rfl rfl (.inr (fun _ h => h)) ?_
    refine j_l (i := 3) rfl (y_ldV (enc := (Value.int .i64)) (xs := s) (fun w h => hs.rdl.below h.below) rfl agg_3 (rdI_at (by omega) (by omega))) (by kernel_rfl) (by kernel_rfl) (by kernel_rfl) (by kernel_rfl) rfl rfl rfl rfl rfl (.inr (fun _ h => h)) ?_
    refine j_p (i := 4) rfl (y_move rfl) (by kernel_rfl) (by kernel_rfl) (by kernel_rfl) rfl rfl rfl rfl rfl (.inr (fun _ h => h)) ?_
    refine j_p (i := 5) rfl (y_move rfl) (by kernel_rfl) (by kernel_rfl) (by kernel_rfl) rfl rfl rfl rfl rfl (.inr (fun _ h => h)) ?_
    refine j_p (i := 6) rfl (y_sub rfl rfl (by omega) (by omega)) (by kernel_rfl) (by kernel_rfl) (by kernel_rfl) rfl rfl rfl rfl rfl (.inr (fun _ h => h)) ?_
    refine j_p (i := 7) rfl (y_idxV (enc := (Value.int .i64)) rfl rfl hs Try.underlying22 size_3 (by omega) (by omega)) (by kernel_rfl) (by kernel_rfl) (by kernel_rfl) rfl rfl rfl rfl rfl (.inr (fun _ h => h)) ?_
    refine j_l (i := 8) rfl (y_ldV (enc := (Value.int .i64)) (xs := s) (fun w h => hs.rdl.below h.below) rfl agg_3 (rdI_at (by omega) (by omega))) (by kernel_rfl) (by kernel_rfl) (by kernel_rfl) (by kernel_rfl) rfl rfl rfl rfl rfl (.inr (fun _ h => h)) ?_
    refine j_p (i := 9) rfl (y_sub rfl rfl (by omega) (by omega)) (by kernel_rfl) (by kernel_rfl) (by kernel_rfl) rfl rfl rfl rfl rfl (.inr (fun _ h => h)) ?_
    refine j_p (i := 10) rfl (y_move rfl) (by kernel_rfl) (by kernel_rfl) (by kernel_rfl) rfl rfl rfl rfl rfl (.inr (fun _ h => h)) ?_
    refine j_p (i := 11) rfl (y_move rfl) (by kernel_rfl) (by kernel_rfl) (by kernel_rfl) rfl rfl rfl rfl rfl (.inr (fun _ h => h)) ?_
    refine j_p (i := 12) rfl (y_idxV (enc := (Value.int .i64)) rfl rfl hg Try.underlying22 size_3 (by omega) (by omega)) (by kernel_rfl) (by kernel_rfl) (by kernel_rfl) rfl rfl rfl rfl rfl (.inr (fun _ h => h)) ?_
    refine j_l (i := 13) rfl (y_ldV (enc := (Value.int .i64)) (xs := g) (fun w h => hg.rdl.below h.below) rfl agg_3 (rdI_at (by omega) (by omega))) (by kernel_rfl) (by kernel_rfl) (by kernel_rfl) (by kernel_rfl) rfl rfl rfl rfl rfl (.inr (fun _ h => h)) ?_
    refine j_p (i := 14) rfl (y_move rfl) (by kernel_rfl) (by kernel_rfl) (by kernel_rfl) rfl rfl rfl rfl rfl (.inr (fun _ h => h)) ?_
    refine j_p (i := 15) rfl (y_move rfl) (by kernel_rfl) (by kernel_rfl) (by kernel_rfl) rfl rfl rfl rfl rfl (.inr (fun _ h => h)) ?_
    refine j_p (i := 16) rfl (y_sub rfl rfl (by omega) (by omega)) (by kernel_rfl) (by kernel_rfl) (by kernel_rfl) rfl rfl rfl rfl rfl (.inr (fun _ h => h)) ?_
    refine j_p (i := 17) rfl (y_idxV (enc := (Value.int .i64)) rfl rfl hg Try.underlying22 size_3 (by omega) (by omega)) (by kernel_rfl) (by kernel_rfl) (by kernel_rfl) rfl rfl rfl rfl rfl (.inr (fun _ h => h)) ?_
    refine j_l (i := 18) rfl (y_ldV (enc := (Value.int .i64)) (xs := g) (fun w h => hg.rdl.below h.below) rfl agg_3 (rdI_at (by omega) (by omega))) (by kernel_rfl) (by kernel_rfl) (by kernel_rfl) (by kernel_rfl) rfl rfl rfl rfl rfl (.inr (fun _ h => h)) ?_
    refine j_p (i := 19) rfl (y_sub rfl rfl (by omega) (by omega)) (by kernel_rfl) (by kernel_rfl) (by kernel_rfl) rfl rfl rfl rfl rfl (.inr (fun _ h => h)) ?_
    refine j_p (i := 20) rfl (y_assign rfl) (by kernel_rfl) (by kernel_rfl) (by kernel_rfl) rfl rfl rfl rfl rfl (.inr (fun _ h => h)) ?_
    refine j_p (i := 21) rfl (y_assign rfl) (by kernel_rfl) (by kernel_rfl) (by kernel_rfl) rfl rfl rfl rfl rfl (.inr (fun _ h => h)) ?_
    refine j_nil (by kernel_rfl) ?_
    refine g_then ?_
    refine g_seq ?_
    refine g_seq ?_
    refine g_region ?_
    refine s_y (y_move rfl) rfl rfl rfl rfl ?_
    refine s_y (y_gtr rfl rfl) rfl rfl rfl rfl ?_
    refine s_y (y_move rfl) rfl rfl rfl rfl ?_
    refine g_bool 37 rfl (fun cq2 => ?_) (fun cq2 => ?_)
    · (try simp at cq2)
      refine s_y (y_move rfl) rfl rfl rfl rfl ?_
      refine s_y (y_lss rfl rfl) rfl rfl rfl rfl ?_
      refine s_y (y_pick_t rfl rfl) rfl rfl rfl rfl ?_
      refine s_y (y_move rfl) rfl rfl rfl rfl ?_
      refine g_bool 41 rfl (fun cq3 => ?_) (fun cq3 => ?_)
      · (try simp at cq3)
        refine s_no rfl rfl rfl ?_
        refine s_no rfl rfl rfl ?_
        refine s_no rfl rfl rfl ?_
        refine s_noU rfl rfl rfl rfl rfl ?_
        refine s_noU rfl rfl rfl rfl rfl ?_
        refine s_no rfl rfl rfl ?_
        refine s_y (y_pick_t rfl rfl) rfl rfl rfl rfl ?_
        refine s_nil ?_
        refine g_then ?_
        refine g_cond_t rfl ?_
        refine g_region ?_
        refine s_y (y_move rfl) rfl rfl rfl rfl ?_
        refine s_y (y_add rfl rfl (by omega) (by omega)) rfl rfl rfl rfl ?_
        refine s_y (y_assign rfl) rfl rfl rfl rfl ?_
        refine s_nil ?_
        refine g_then ?_
        refine g_seq ?_
        refine g_seq ?_
        refine g_region ?_
        refine s_y (y_move rfl) rfl rfl rfl rfl ?_
        refine s_tr (t_call rfl rfl ent_71 (fun w h => Rabs_any w ((rdI s (i : Int)) - (rdI s ((i : Int) - 1))) (by omega) (by omega))) rfl rfl rfl rfl (fun _ _ => ?_)
        refine s_y (y_eql rfl rfl) rfl rfl rfl rfl ?_
        refine s_nil ?_
        refine g_then ?_
        refine g_cond rfl (fun cq4 => ?_) (fun cq4 => ?_)
        · (try simp at cq4)
          refine g_region ?_
          refine s_y (y_move rfl) rfl rfl rfl rfl ?_
          refine s_y (y_add rfl rfl (by omega) (by omega)) rfl rfl rfl rfl ?_
          refine s_y (y_assign rfl) rfl rfl rfl rfl ?_
          refine s_nil ?_
          refine g_then ?_
          refine g_seq ?_
          refine g_region ?_
          refine s_y (y_move rfl) rfl rfl rfl rfl ?_
          refine s_y (y_eql rfl rfl) rfl rfl rfl rfl ?_
          refine s_nil ?_
          refine g_then ?_
          refine g_cond rfl (fun cq5 => ?_) (fun cq5 => ?_)
          · (try simp at cq5)
            refine g_region ?_
            refine s_y (y_move rfl) rfl rfl rfl rfl ?_
            refine s_y (y_sub rfl rfl (by omega) (by omega)) rfl rfl rfl rfl ?_
            refine s_y (y_assign rfl) rfl rfl rfl rfl ?_
            refine s_nil ?_
            refine g_inb ?_
            refine g_then ?_
            refine g_region ?_
            refine s_y (y_move rfl) rfl rfl rfl rfl ?_
            refine s_y (y_add rfl rfl (by omega) (by omega)) rfl rfl rfl rfl ?_
            refine s_y (y_assign rfl) rfl rfl rfl rfl ?_
            refine s_nil ?_
            refine g_then ?_
            exact fun act W ha hw => ⟨i + 1, by omega, by omega, (((out + 3) + 1) - 1), W, (by rw [show wsum g s (i + 1) = wsum g s i + wrt g s i from rfl, show wrt g s i = wI (mvI s (i : Int)) (mvI g (i : Int)) from if_neg (by omega), ho]; have q1 : mvI s (i : Int) = rdI s (i : Int) - rdI s ((i : Int) - 1) := rfl; have q2 : mvI g (i : Int) = rdI g (i : Int) - rdI g ((i : Int) - 1) := rfl; rw [q1, q2]; unfold wI; (repeat' split) <;> omega), ha.weak (sub_get ⟨rfl, rfl, rfl, rfl, rfl, trivial⟩), hw.toHq.lookSub (List.Sublist.refl _)⟩
          · (try simp at cq5)
            refine g_skip ?_
            refine g_inb ?_
            refine g_then ?_
            refine g_region ?_
            refine s_y (y_move rfl) rfl rfl rfl rfl ?_
            refine s_y (y_add rfl rfl (by omega) (by omega)) rfl rfl rfl rfl ?_
            refine s_y (y_assign rfl) rfl rfl rfl rfl ?_
            refine s_nil ?_
            refine g_then ?_
            exact fun act W ha hw => ⟨i + 1, by omega, by omega, ((out + 3) + 1), W, (by rw [show wsum g s (i + 1) = wsum g s i + wrt g s i from rfl, show wrt g s i = wI (mvI s (i : Int)) (mvI g (i : Int)) from if_neg (by omega), ho]; have q1 : mvI s (i : Int) = rdI s (i : Int) - rdI s ((i : Int) - 1) := rfl; have q2 : mvI g (i : Int) = rdI g (i : Int) - rdI g ((i : Int) - 1) := rfl; rw [q1, q2]; unfold wI; (repeat' split) <;> omega), ha.weak (sub_get ⟨rfl, rfl, rfl, rfl, rfl, trivial⟩), hw.toHq.lookSub (List.Sublist.refl _)⟩
        · (try simp at cq4)
          refine g_skip ?_
          refine g_then ?_
          refine g_seq ?_
          refine g_region ?_
          refine s_y (y_move rfl) rfl rfl rfl rfl ?_
          refine s_y (y_eql rfl rfl) rfl rfl rfl rfl ?_
          refine s_nil ?_
          refine g_then ?_
          refine g_cond rfl (fun cq6 => ?_) (fun cq6 => ?_)
          · (try simp at cq6)
            refine g_region ?_
            refine s_y (y_move rfl) rfl rfl rfl rfl ?_
            refine s_y (y_sub rfl rfl (by omega) (by omega)) rfl rfl rfl rfl ?_
            refine s_y (y_assign rfl) rfl rfl rfl rfl ?_
            refine s_nil ?_
            refine g_inb ?_
            refine g_then ?_
            refine g_region ?_
            refine s_y (y_move rfl) rfl rfl rfl rfl ?_
            refine s_y (y_add rfl rfl (by omega) (by omega)) rfl rfl rfl rfl ?_
            refine s_y (y_assign rfl) rfl rfl rfl rfl ?_
            refine s_nil ?_
            refine g_then ?_
            exact fun act W ha hw => ⟨i + 1, by omega, by omega, ((out + 3) - 1), W, (by rw [show wsum g s (i + 1) = wsum g s i + wrt g s i from rfl, show wrt g s i = wI (mvI s (i : Int)) (mvI g (i : Int)) from if_neg (by omega), ho]; have q1 : mvI s (i : Int) = rdI s (i : Int) - rdI s ((i : Int) - 1) := rfl; have q2 : mvI g (i : Int) = rdI g (i : Int) - rdI g ((i : Int) - 1) := rfl; rw [q1, q2]; unfold wI; (repeat' split) <;> omega), ha.weak (sub_get ⟨rfl, rfl, rfl, rfl, rfl, trivial⟩), hw.toHq.lookSub (List.Sublist.refl _)⟩
          · (try simp at cq6)
            refine g_skip ?_
            refine g_inb ?_
            refine g_then ?_
            refine g_region ?_
            refine s_y (y_move rfl) rfl rfl rfl rfl ?_
            refine s_y (y_add rfl rfl (by omega) (by omega)) rfl rfl rfl rfl ?_
            refine s_y (y_assign rfl) rfl rfl rfl rfl ?_
            refine s_nil ?_
            refine g_then ?_
            exact fun act W ha hw => ⟨i + 1, by omega, by omega, (out + 3), W, (by rw [show wsum g s (i + 1) = wsum g s i + wrt g s i from rfl, show wrt g s i = wI (mvI s (i : Int)) (mvI g (i : Int)) from if_neg (by omega), ho]; have q1 : mvI s (i : Int) = rdI s (i : Int) - rdI s ((i : Int) - 1) := rfl; have q2 : mvI g (i : Int) = rdI g (i : Int) - rdI g ((i : Int) - 1) := rfl; rw [q1, q2]; unfold wI; (repeat' split) <;> omega), ha.weak (sub_get ⟨rfl, rfl, rfl, rfl, rfl, trivial⟩), hw.toHq.lookSub (List.Sublist.refl _)⟩
      · (try simp at cq3)
        refine s_y (y_move rfl) rfl rfl rfl rfl ?_
        refine s_y (y_lss rfl rfl) rfl rfl rfl rfl ?_
        refine s_y (y_move rfl) rfl rfl rfl rfl ?_
        refine g_bool 44 rfl (fun cq7 => ?_) (fun cq7 => ?_)
        · (try simp at cq7)
          refine s_y (y_move rfl) rfl rfl rfl rfl ?_
          refine s_y (y_gtr rfl rfl) rfl rfl rfl rfl ?_
          refine s_y (y_pick_t rfl rfl) rfl rfl rfl rfl ?_
          refine s_y (y_pick_f rfl rfl) rfl rfl rfl rfl ?_
          refine s_nil ?_
          refine g_then ?_
          refine g_cond rfl (fun cq8 => ?_) (fun cq8 => ?_)
          · (try simp at cq8)
            refine g_region ?_
            refine s_y (y_move rfl) rfl rfl rfl rfl ?_
            refine s_y (y_add rfl rfl (by omega) (by omega)) rfl rfl rfl rfl ?_
            refine s_y (y_assign rfl) rfl rfl rfl rfl ?_
            refine s_nil ?_
            refine g_then ?_
            refine g_seq ?_
            refine g_seq ?_
            refine g_region ?_
            refine s_y (y_move rfl) rfl rfl rfl rfl ?_
            refine s_tr (t_call rfl rfl ent_71 (fun w h => Rabs_any w ((rdI s (i : Int)) - (rdI s ((i : Int) - 1))) (by omega) (by omega))) rfl rfl rfl rfl (fun _ _ => ?_)
            refine s_y (y_eql rfl rfl) rfl rfl rfl rfl ?_
            refine s_nil ?_
            refine g_then ?_
            refine g_cond rfl (fun cq9 => ?_) (fun cq9 => ?_)
            · (try simp at cq9)
              refine g_region ?_
              refine s_y (y_move rfl) rfl rfl rfl rfl ?_
              refine s_y (y_add rfl rfl (by omega) (by omega)) rfl rfl rfl rfl ?_
              refine s_y (y_assign rfl) rfl rfl rfl rfl ?_
              refine s_nil ?_
              refine g_then ?_
              refine g_seq ?_
              refine g_region ?_
              refine s_y (y_move rfl) rfl rfl rfl rfl ?_
              refine s_y (y_eql rfl rfl) rfl rfl rfl rfl ?_
              refine s_nil ?_
              refine g_then ?_
              refine g_cond rfl (fun cq10 => ?_) (fun cq10 => ?_)
              · (try simp at cq10)
                refine g_region ?_
                refine s_y (y_move rfl) rfl rfl rfl rfl ?_
                refine s_y (y_sub rfl rfl (by omega) (by omega)) rfl rfl rfl rfl ?_
                refine s_y (y_assign rfl) rfl rfl rfl rfl ?_
                refine s_nil ?_
                refine g_inb ?_
                refine g_then ?_
                refine g_region ?_
                refine s_y (y_move rfl) rfl rfl rfl rfl ?_
                refine s_y (y_add rfl rfl (by omega) (by omega)) rfl rfl rfl rfl ?_
                refine s_y (y_assign rfl) rfl rfl rfl rfl ?_
                refine s_nil ?_
                refine g_then ?_
                exact fun act W ha hw => ⟨i + 1, by omega, by omega, (((out + 3) + 1) - 1), W, (by rw [show wsum g s (i + 1) = wsum g s i + wrt g s i from rfl, show wrt g s i = wI (mvI s (i : Int)) (mvI g (i : Int)) from if_neg (by omega), ho]; have q1 : mvI s (i : Int) = rdI s (i : Int) - rdI s ((i : Int) - 1) := rfl; have q2 : mvI g (i : Int) = rdI g (i : Int) - rdI g ((i : Int) - 1) := rfl; rw [q1, q2]; unfold wI; (repeat' split) <;> omega), ha.weak (sub_get ⟨rfl, rfl, rfl, rfl, rfl, trivial⟩), hw.toHq.lookSub (List.Sublist.refl _)⟩
              · (try simp at cq10)
                refine g_skip ?_
                refine g_inb ?_
                refine g_then ?_
                refine g_region ?_
                refine s_y (y_move rfl) rfl rfl rfl rfl ?_
                refine s_y (y_add rfl rfl (by omega) (by omega)) rfl rfl rfl rfl ?_
                refine s_y (y_assign rfl) rfl rfl rfl rfl ?_
                refine s_nil ?_
                refine g_then ?_
                exact fun act W ha hw => ⟨i + 1, by omega, by omega, ((out + 3) + 1), W, (by rw [show wsum g s (i + 1) = wsum g s i + wrt g s i from rfl, show wrt g s i = wI (mvI s (i : Int)) (mvI g (i : Int)) from if_neg (by omega), ho]; have q1 : mvI s (i : Int) = rdI s (i : Int) - rdI s ((i : Int) - 1) := rfl; have q2 : mvI g (i : Int) = rdI g (i : Int) - rdI g ((i : Int) - 1) := rfl; rw [q1, q2]; unfold wI; (repeat' split) <;> omega), ha.weak (sub_get ⟨rfl, rfl, rfl, rfl, rfl, trivial⟩), hw.toHq.lookSub (List.Sublist.refl _)⟩
            · (try simp at cq9)
              refine g_skip ?_
              refine g_then ?_
              refine g_seq ?_
              refine g_region ?_
              refine s_y (y_move rfl) rfl rfl rfl rfl ?_
              refine s_y (y_eql rfl rfl) rfl rfl rfl rfl ?_
              refine s_nil ?_
              refine g_then ?_
              refine g_cond rfl (fun cq11 => ?_) (fun cq11 => ?_)
              · (try simp at cq11)
                refine g_region ?_
                refine s_y (y_move rfl) rfl rfl rfl rfl ?_
                refine s_y (y_sub rfl rfl (by omega) (by omega)) rfl rfl rfl rfl ?_
                refine s_y (y_assign rfl) rfl rfl rfl rfl ?_
                refine s_nil ?_
                refine g_inb ?_
                refine g_then ?_
                refine g_region ?_
                refine s_y (y_move rfl) rfl rfl rfl rfl ?_
                refine s_y (y_add rfl rfl (by omega) (by omega)) rfl rfl rfl rfl ?_
                refine s_y (y_assign rfl) rfl rfl rfl rfl ?_
                refine s_nil ?_
                refine g_then ?_
                exact fun act W ha hw => ⟨i + 1, by omega, by omega, ((out + 3) - 1), W, (by rw [show wsum g s (i + 1) = wsum g s i + wrt g s i from rfl, show wrt g s i = wI (mvI s (i : Int)) (mvI g (i : Int)) from if_neg (by omega), ho]; have q1 : mvI s (i : Int) = rdI s (i : Int) - rdI s ((i : Int) - 1) := rfl; have q2 : mvI g (i : Int) = rdI g (i : Int) - rdI g ((i : Int) - 1) := rfl; rw [q1, q2]; unfold wI; (repeat' split) <;> omega), ha.weak (sub_get ⟨rfl, rfl, rfl, rfl, rfl, trivial⟩), hw.toHq.lookSub (List.Sublist.refl _)⟩
              · (try simp at cq11)
                refine g_skip ?_
                refine g_inb ?_
                refine g_then ?_
                refine g_region ?_
                refine s_y (y_move rfl) rfl rfl rfl rfl ?_
                refine s_y (y_add rfl rfl (by omega) (by omega)) rfl rfl rfl rfl ?_
                refine s_y (y_assign rfl) rfl rfl rfl rfl ?_
                refine s_nil ?_
                refine g_then ?_
                exact fun act W ha hw => ⟨i + 1, by omega, by omega, (out + 3), W, (by rw [show wsum g s (i + 1) = wsum g s i + wrt g s i from rfl, show wrt g s i = wI (mvI s (i : Int)) (mvI g (i : Int)) from if_neg (by omega), ho]; have q1 : mvI s (i : Int) = rdI s (i : Int) - rdI s ((i : Int) - 1) := rfl; have q2 : mvI g (i : Int) = rdI g (i : Int) - rdI g ((i : Int) - 1) := rfl; rw [q1, q2]; unfold wI; (repeat' split) <;> omega), ha.weak (sub_get ⟨rfl, rfl, rfl, rfl, rfl, trivial⟩), hw.toHq.lookSub (List.Sublist.refl _)⟩
          · (try simp at cq8)
            refine g_skip ?_
            refine g_then ?_
            refine g_seq ?_
            refine g_seq ?_
            refine g_region ?_
            refine s_y (y_move rfl) rfl rfl rfl rfl ?_
            refine s_tr (t_call rfl rfl ent_71 (fun w h => Rabs_any w ((rdI s (i : Int)) - (rdI s ((i : Int) - 1))) (by omega) (by omega))) rfl rfl rfl rfl (fun _ _ => ?_)
            refine s_y (y_eql rfl rfl) rfl rfl rfl rfl ?_
            refine s_nil ?_
            refine g_then ?_
            refine g_cond rfl (fun cq12 => ?_) (fun cq12 => ?_)
            · (try simp at cq12)
              refine g_region ?_
              refine s_y (y_move rfl) rfl rfl rfl rfl ?_
              refine s_y (y_add rfl rfl (by omega) (by omega)) rfl rfl rfl rfl ?_
              refine s_y (y_assign rfl) rfl rfl rfl rfl ?_
              refine s_nil ?_
              refine g_then ?_
              refine g_seq ?_
              refine g_region ?_
              refine s_y (y_move rfl) rfl rfl rfl rfl ?_
              refine s_y (y_eql rfl rfl) rfl rfl rfl rfl ?_
              refine s_nil ?_
              refine g_then ?_
              refine g_cond rfl (fun cq13 => ?_) (fun cq13 => ?_)
              · (try simp at cq13)
                refine g_region ?_
                refine s_y (y_move rfl) rfl rfl rfl rfl ?_
                refine s_y (y_sub rfl rfl (by omega) (by omega)) rfl rfl rfl rfl ?_
                refine s_y (y_assign rfl) rfl rfl rfl rfl ?_
                refine s_nil ?_
                refine g_inb ?_
                refine g_then ?_
                refine g_region ?_
                refine s_y (y_move rfl) rfl rfl rfl rfl ?_
                refine s_y (y_add rfl rfl (by omega) (by omega)) rfl rfl rfl rfl ?_
                refine s_y (y_assign rfl) rfl rfl rfl rfl ?_
                refine s_nil ?_
                refine g_then ?_
                exact fun act W ha hw => ⟨i + 1, by omega, by omega, ((out + 1) - 1), W, (by rw [show wsum g s (i + 1) = wsum g s i + wrt g s i from rfl, show wrt g s i = wI (mvI s (i : Int)) (mvI g (i : Int)) from if_neg (by omega), ho]; have q1 : mvI s (i : Int) = rdI s (i : Int) - rdI s ((i : Int) - 1) := rfl; have q2 : mvI g (i : Int) = rdI g (i : Int) - rdI g ((i : Int) - 1) := rfl; rw [q1, q2]; unfold wI; (repeat' split) <;> omega), ha.weak (sub_get ⟨rfl, rfl, rfl, rfl, rfl, trivial⟩), hw.toHq.lookSub (List.Sublist.refl _)⟩
              · (try simp at cq13)
                refine g_skip ?_
                refine g_inb ?_
                refine g_then ?_
                refine g_region ?_
                refine s_y (y_move rfl) rfl rfl rfl rfl ?_
                refine s_y (y_add rfl rfl (by omega) (by omega)) rfl rfl rfl rfl ?_
                refine s_y (y_assign rfl) rfl rfl rfl rfl ?_
                refine s_nil ?_
                refine g_then ?_
                exact fun act W ha hw => ⟨i + 1, by omega, by omega, (out + 1), W, (by rw [show wsum g s (i + 1) = wsum g s i + wrt g s i from rfl, show wrt g s i = wI (mvI s (i : Int)) (mvI g (i : Int)) from if_neg (by omega), ho]; have q1 : mvI s (i : Int) = rdI s (i : Int) - rdI s ((i : Int) - 1) := rfl; have q2 : mvI g (i : Int) = rdI g (i : Int) - rdI g ((i : Int) - 1) := rfl; rw [q1, q2]; unfold wI; (repeat' split) <;> omega), ha.weak (sub_get ⟨rfl, rfl, rfl, rfl, rfl, trivial⟩), hw.toHq.lookSub (List.Sublist.refl _)⟩
            · (try simp at cq12)
              refine g_skip ?_
              refine g_then ?_
              refine g_seq ?_
              refine g_region ?_
              refine s_y (y_move rfl) rfl rfl rfl rfl ?_
              refine s_y (y_eql rfl rfl) rfl rfl rfl rfl ?_
              refine s_nil ?_
              refine g_then ?_
              refine g_cond rfl (fun cq14 => ?_) (fun cq14 => ?_)
              · (try simp at cq14)
                refine g_region ?_
                refine s_y (y_move rfl) rfl rfl rfl rfl ?_
                refine s_y (y_sub rfl rfl (by omega) (by omega)) rfl rfl rfl rfl ?_
                refine s_y (y_assign rfl) rfl rfl rfl rfl ?_
                refine s_nil ?_
                refine g_inb ?_
                refine g_then ?_
                refine g_region ?_
                refine s_y (y_move rfl) rfl rfl rfl rfl ?_
                refine s_y (y_add rfl rfl (by omega) (by omega)) rfl rfl rfl rfl ?_
                refine s_y (y_assign rfl) rfl rfl rfl rfl ?_
                refine s_nil ?_
                refine g_then ?_
                exact fun act W ha hw => ⟨i + 1, by omega, by omega, (out - 1), W, (by rw [show wsum g s (i + 1) = wsum g s i + wrt g s i from rfl, show wrt g s i = wI (mvI s (i : Int)) (mvI g (i : Int)) from if_neg (by omega), ho]; have q1 : mvI s (i : Int) = rdI s (i : Int) - rdI s ((i : Int) - 1) := rfl; have q2 : mvI g (i : Int) = rdI g (i : Int) - rdI g ((i : Int) - 1) := rfl; rw [q1, q2]; unfold wI; (repeat' split) <;> omega), ha.weak (sub_get ⟨rfl, rfl, rfl, rfl, rfl, trivial⟩), hw.toHq.lookSub (List.Sublist.refl _)⟩
              · (try simp at cq14)
                refine g_skip ?_
                refine g_inb ?_
                refine g_then ?_
                refine g_region ?_
                refine s_y (y_move rfl) rfl rfl rfl rfl ?_
                refine s_y (y_add rfl rfl (by omega) (by omega)) rfl rfl rfl rfl ?_
                refine s_y (y_assign rfl) rfl rfl rfl rfl ?_
                refine s_nil ?_
                refine g_then ?_
                exact fun act W ha hw => ⟨i + 1, by omega, by omega, out, W, (by rw [show wsum g s (i + 1) = wsum g s i + wrt g s i from rfl, show wrt g s i = wI (mvI s (i : Int)) (mvI g (i : Int)) from if_neg (by omega), ho]; have q1 : mvI s (i : Int) = rdI s (i : Int) - rdI s ((i : Int) - 1) := rfl; have q2 : mvI g (i : Int) = rdI g (i : Int) - rdI g ((i : Int) - 1) := rfl; rw [q1, q2]; unfold wI; (repeat' split) <;> omega), ha.weak (sub_get ⟨rfl, rfl, rfl, rfl, rfl, trivial⟩), hw.toHq.lookSub (List.Sublist.refl _)⟩
        · (try simp at cq7)
          refine s_no rfl rfl rfl ?_
          refine s_no rfl rfl rfl ?_
          refine s_y (y_pick_f rfl rfl) rfl rfl rfl rfl ?_
          refine s_y (y_pick_f rfl rfl) rfl rfl rfl rfl ?_
          refine s_nil ?_
          refine g_then ?_
          refine g_cond_f rfl ?_
          refine g_skip ?_
          refine g_then ?_
          refine g_seq ?_
          refine g_seq ?_
          refine g_region ?_
          refine s_y (y_move rfl) rfl rfl rfl rfl ?_
          refine s_tr (t_call rfl rfl ent_71 (fun w h => Rabs_any w ((rdI s (i : Int)) - (rdI s ((i : Int) - 1))) (by omega) (by omega))) rfl rfl rfl rfl (fun _ _ => ?_)
          refine s_y (y_eql rfl rfl) rfl rfl rfl rfl ?_
          refine s_nil ?_
          refine g_then ?_
          refine g_cond rfl (fun cq15 => ?_) (fun cq15 => ?_)
          · (try simp at cq15)
            refine g_region ?_
            refine s_y (y_move rfl) rfl rfl rfl rfl ?_
            refine s_y (y_add rfl rfl (by omega) (by omega)) rfl rfl rfl rfl ?_
            refine s_y (y_assign rfl) rfl rfl rfl rfl ?_
            refine s_nil ?_
            refine g_then ?_
            refine g_seq ?_
            refine g_region ?_
            refine s_y (y_move rfl) rfl rfl rfl rfl ?_
            refine s_y (y_eql rfl rfl) rfl rfl rfl rfl ?_
            refine s_nil ?_
            refine g_then ?_
            refine g_cond rfl (fun cq16 => ?_) (fun cq16 => ?_)
            · (try simp at cq16)
              refine g_region ?_
              refine s_y (y_move rfl) rfl rfl rfl rfl ?_
              refine s_y (y_sub rfl rfl (by omega) (by omega)) rfl rfl rfl rfl ?_
              refine s_y (y_assign rfl) rfl rfl rfl rfl ?_
              refine s_nil ?_
              refine g_inb ?_
              refine g_then ?_
              refine g_region ?_
              refine s_y (y_move rfl) rfl rfl rfl rfl ?_
              refine s_y (y_add rfl rfl (by omega) (by omega)) rfl rfl rfl rfl ?_
              refine s_y (y_assign rfl) rfl rfl rfl rfl ?_
              refine s_nil ?_
              refine g_then ?_
              exact fun act W ha hw => ⟨i + 1, by omega, by omega, ((out + 1) - 1), W, (by rw [show wsum g s (i + 1) = wsum g s i + wrt g s i from rfl, show wrt g s i = wI (mvI s (i : Int)) (mvI g (i : Int)) from if_neg (by omega), ho]; have q1 : mvI s (i : Int) = rdI s (i : Int) - rdI s ((i : Int) - 1) := rfl; have q2 : mvI g (i : Int) = rdI g (i : Int) - rdI g ((i : Int) - 1) := rfl; rw [q1, q2]; unfold wI; (repeat' split) <;> omega), ha.weak (sub_get ⟨rfl, rfl, rfl, rfl, rfl, trivial⟩), hw.toHq.lookSub (List.Sublist.refl _)⟩
            · (try simp at cq16)
              refine g_skip ?_
              refine g_inb ?_
              refine g_then ?_
              refine g_region ?_
              refine s_y (y_move rfl) rfl rfl rfl rfl ?_
              refine s_y (y_add rfl rfl (by omega) (by omega)) rfl rfl rfl rfl ?_
              refine s_y (y_assign rfl) rfl rfl rfl rfl ?_
              refine s_nil ?_
              refine g_then ?_
              exact fun act W ha hw => ⟨i + 1, by omega, by omega, (out + 1), W, (by rw [show wsum g s (i + 1) = wsum g s i + wrt g s i from rfl, show wrt g s i = wI (mvI s (i : Int)) (mvI g (i : Int)) from if_neg (by omega), ho]; have q1 : mvI s (i : Int) = rdI s (i : Int) - rdI s ((i : Int) - 1) := rfl; have q2 : mvI g (i : Int) = rdI g (i : Int) - rdI g ((i : Int) - 1) := rfl; rw [q1, q2]; unfold wI; (repeat' split) <;> omega), ha.weak (sub_get ⟨rfl, rfl, rfl, rfl, rfl, trivial⟩), hw.toHq.lookSub (List.Sublist.refl _)⟩
          · (try simp at cq15)
            refine g_skip ?_
            refine g_then ?_
            refine g_seq ?_
            refine g_region ?_
            refine s_y (y_move rfl) rfl rfl rfl rfl ?_
            refine s_y (y_eql rfl rfl) rfl rfl rfl rfl ?_
            refine s_nil ?_
            refine g_then ?_
            refine g_cond rfl (fun cq17 => ?_) (fun cq17 => ?_)
            · (try simp at cq17)
              refine g_region ?_
              refine s_y (y_move rfl) rfl rfl rfl rfl ?_
              refine s_y (y_sub rfl rfl (by omega) (by omega)) rfl rfl rfl rfl ?_
              refine s_y (y_assign rfl) rfl rfl rfl rfl ?_
              refine s_nil ?_
              refine g_inb ?_
              refine g_then ?_
              refine g_region ?_
              refine s_y (y_move rfl) rfl rfl rfl rfl ?_
              refine s_y (y_add rfl rfl (by omega) (by omega)) rfl rfl rfl rfl ?_
              refine s_y (y_assign rfl) rfl rfl rfl rfl ?_
              refine s_nil ?_
              refine g_then ?_
              exact fun act W ha hw => ⟨i + 1, by omega, by omega, (out - 1), W, (by rw [show wsum g s (i + 1) = wsum g s i + wrt g s i from rfl, show wrt g s i = wI (mvI s (i : Int)) (mvI g (i : Int)) from if_neg (by omega), ho]; have q1 : mvI s (i : Int) = rdI s (i : Int) - rdI s ((i : Int) - 1) := rfl; have q2 : mvI g (i : Int) = rdI g (i : Int) - rdI g ((i : Int) - 1) := rfl; rw [q1, q2]; unfold wI; (repeat' split) <;> omega), ha.weak (sub_get ⟨rfl, rfl, rfl, rfl, rfl, trivial⟩), hw.toHq.lookSub (List.Sublist.refl _)⟩
            · (try simp at cq17)
              refine g_skip ?_
              refine g_inb ?_
              refine g_then ?_
              refine g_region ?_
              refine s_y (y_move rfl) rfl rfl rfl rfl ?_
              refine s_y (y_add rfl rfl (by omega) (by omega)) rfl rfl rfl rfl ?_
              refine s_y (y_assign rfl) rfl rfl rfl rfl ?_
              refine s_nil ?_
              refine g_then ?_
              exact fun act W ha hw => ⟨i + 1, by omega, by omega, out, W, (by rw [show wsum g s (i + 1) = wsum g s i + wrt g s i from rfl, show wrt g s i = wI (mvI s (i : Int)) (mvI g (i : Int)) from if_neg (by omega), ho]; have q1 : mvI s (i : Int) = rdI s (i : Int) - rdI s ((i : Int) - 1) := rfl; have q2 : mvI g (i : Int) = rdI g (i : Int) - rdI g ((i : Int) - 1) := rfl; rw [q1, q2]; unfold wI; (repeat' split) <;> omega), ha.weak (sub_get ⟨rfl, rfl, rfl, rfl, rfl, trivial⟩), hw.toHq.lookSub (List.Sublist.refl _)⟩
    · (try simp at cq2)
      refine s_no rfl rfl rfl ?_
      refine s_no rfl rfl rfl ?_
      refine s_y (y_pick_f rfl rfl) rfl rfl rfl rfl ?_
      refine s_y (y_move rfl) rfl rfl rfl rfl ?_
      refine s_y (y_move rfl) rfl rfl rfl rfl ?_
      refine s_y (y_lss rfl rfl) rfl rfl rfl rfl ?_
      refine s_y (y_move rfl) rfl rfl rfl rfl ?_
      refine g_bool 44 rfl (fun cq18 => ?_) (fun cq18 => ?_)
      · (try simp at cq18)
        refine s_y (y_move rfl) rfl rfl rfl rfl ?_
        refine s_y (y_gtr rfl rfl) rfl rfl rfl rfl ?_
        refine s_y (y_pick_t rfl rfl) rfl rfl rfl rfl ?_
        refine s_y (y_pick_f rfl rfl) rfl rfl rfl rfl ?_
        refine s_nil ?_
        refine g_then ?_
        refine g_cond rfl (fun cq19 => ?_) (fun cq19 => ?_)
        · (try simp at cq19)
          refine g_region ?_
          refine s_y (y_move rfl) rfl rfl rfl rfl ?_
          refine s_y (y_add rfl rfl (by omega) (by omega)) rfl rfl rfl rfl ?_
          refine s_y (y_assign rfl) rfl rfl rfl rfl ?_
          refine s_nil ?_
          refine g_then ?_
          refine g_seq ?_
          refine g_seq ?_
          refine g_region ?_
          refine s_y (y_move rfl) rfl rfl rfl rfl ?_
          refine s_tr (t_call rfl rfl ent_71 (fun w h => Rabs_any w ((rdI s (i : Int)) - (rdI s ((i : Int) - 1))) (by omega) (by omega))) rfl rfl rfl rfl (fun _ _ => ?_)
          refine s_y (y_eql rfl rfl) rfl rfl rfl rfl ?_
          refine s_nil ?_
          refine g_then ?_
          refine g_cond rfl (fun cq20 => ?_) (fun cq20 => ?_)
          · (try simp at cq20)
            refine g_region ?_
            refine s_y (y_move rfl) rfl rfl rfl rfl ?_
            refine s_y (y_add rfl rfl (by omega) (by omega)) rfl rfl rfl rfl ?_
            refine s_y (y_assign rfl) rfl rfl rfl rfl ?_
            refine s_nil ?_
            refine g_then ?_
            refine g_seq ?_
            refine g_region ?_
            refine s_y (y_move rfl) rfl rfl rfl rfl ?_
            refine s_y (y_eql rfl rfl) rfl rfl rfl rfl ?_
            refine s_nil ?_
            refine g_then ?_
            refine g_cond rfl (fun cq21 => ?_) (fun cq21 => ?_)
            · (try simp at cq21)
              refine g_region ?_
              refine s_y (y_move rfl) rfl rfl rfl rfl ?_
              refine s_y (y_sub rfl rfl (by omega) (by omega)) rfl rfl rfl rfl ?_
              refine s_y (y_assign rfl) rfl rfl rfl rfl ?_
              refine s_nil ?_
              refine g_inb ?_
              refine g_then ?_
              refine g_region ?_
              refine s_y (y_move rfl) rfl rfl rfl rfl ?_
              refine s_y (y_add rfl rfl (by omega) (by omega)) rfl rfl rfl rfl ?_
              refine s_y (y_assign rfl) rfl rfl rfl rfl ?_
              refine s_nil ?_
              refine g_then ?_
              exact fun act W ha hw => ⟨i + 1, by omega, by omega, (((out + 3) + 1) - 1), W, (by rw [show wsum g s (i + 1) = wsum g s i + wrt g s i from rfl, show wrt g s i = wI (mvI s (i : Int)) (mvI g (i : Int)) from if_neg (by omega), ho]; have q1 : mvI s (i : Int) = rdI s (i : Int) - rdI s ((i : Int) - 1) := rfl; have q2 : mvI g (i : Int) = rdI g (i : Int) - rdI g ((i : Int) - 1) := rfl; rw [q1, q2]; unfold wI; (repeat' split) <;> omega), ha.weak (sub_get ⟨rfl, rfl, rfl, rfl, rfl, trivial⟩), hw.toHq.lookSub (List.Sublist.refl _)⟩
            · (try simp at cq21)
              refine g_skip ?_
              refine g_inb ?_
              refine g_then ?_
              refine g_region ?_
              refine s_y (y_move rfl) rfl rfl rfl rfl ?_
              refine s_y (y_add rfl rfl (by omega) (by omega)) rfl rfl rfl rfl ?_
              refine s_y (y_assign rfl) rfl rfl rfl rfl ?_
              refine s_nil ?_
              refine g_then ?_
              exact fun act W ha hw => ⟨i + 1, by omega, by omega, ((out + 3) + 1), W, (by rw [show wsum g s (i + 1) = wsum g s i + wrt g s i from rfl, show wrt g s i = wI (mvI s (i : Int)) (mvI g (i : Int)) from if_neg (by omega), ho]; have q1 : mvI s (i : Int) = rdI s (i : Int) - rdI s ((i : Int) - 1) := rfl; have q2 : mvI g (i : Int) = rdI g (i : Int) - rdI g ((i : Int) - 1) := rfl; rw [q1, q2]; unfold wI; (repeat' split) <;> omega), ha.weak (sub_get ⟨rfl, rfl, rfl, rfl, rfl, trivial⟩), hw.toHq.lookSub (List.Sublist.refl _)⟩
          · (try simp at cq20)
            refine g_skip ?_
            refine g_then ?_
            refine g_seq ?_
            refine g_region ?_
            refine s_y (y_move rfl) rfl rfl rfl rfl ?_
            refine s_y (y_eql rfl rfl) rfl rfl rfl rfl ?_
            refine s_nil ?_
            refine g_then ?_
            refine g_cond rfl (fun cq22 => ?_) (fun cq22 => ?_)
            · (try simp at cq22)
              refine g_region ?_
              refine s_y (y_move rfl) rfl rfl rfl rfl ?_
              refine s_y (y_sub rfl rfl (by omega) (by omega)) rfl rfl rfl rfl ?_
              refine s_y (y_assign rfl) rfl rfl rfl rfl ?_
              refine s_nil ?_
              refine g_inb ?_
              refine g_then ?_
              refine g_region ?_
              refine s_y (y_move rfl) rfl rfl rfl rfl ?_
              refine s_y (y_add rfl rfl (by omega) (by omega)) rfl rfl rfl rfl ?_
              refine s_y (y_assign rfl) rfl rfl rfl rfl ?_
              refine s_nil ?_
              refine g_then ?_
              exact fun act W ha hw => ⟨i + 1, by omega, by omega, ((out + 3) - 1), W, (by rw [show wsum g s (i + 1) = wsum g s i + wrt g s i from rfl, show wrt g s i = wI (mvI s (i : Int)) (mvI g (i : Int)) from if_neg (by omega), ho]; have q1 : mvI s (i : Int) = rdI s (i : Int) - rdI s ((i : Int) - 1) := rfl; have q2 : mvI g (i : Int) = rdI g (i : Int) - rdI g ((i : Int) - 1) := rfl; rw [q1, q2]; unfold wI; (repeat' split) <;> omega), ha.weak (sub_get ⟨rfl, rfl, rfl, rfl, rfl, trivial⟩), hw.toHq.lookSub (List.Sublist.refl _)⟩
            · (try simp at cq22)
              refine g_skip ?_
              refine g_inb ?_
              refine g_then ?_
              refine g_region ?_
              refine s_y (y_move rfl) rfl rfl rfl rfl ?_
              refine s_y (y_add rfl rfl (by omega) (by omega)) rfl rfl rfl rfl ?_
              refine s_y (y_assign rfl) rfl rfl rfl rfl ?_
              refine s_nil ?_
              refine g_then ?_
              exact fun act W ha hw => ⟨i + 1, by omega, by omega, (out + 3), W, (by rw [show wsum g s (i + 1) = wsum g s i + wrt g s i from rfl, show wrt g s i = wI (mvI s (i : Int)) (mvI g (i : Int)) from if_neg (by omega), ho]; have q1 : mvI s (i : Int) = rdI s (i : Int) - rdI s ((i : Int) - 1) := rfl; have q2 : mvI g (i : Int) = rdI g (i : Int) - rdI g ((i : Int) - 1) := rfl; rw [q1, q2]; unfold wI; (repeat' split) <;> omega), ha.weak (sub_get ⟨rfl, rfl, rfl, rfl, rfl, trivial⟩), hw.toHq.lookSub (List.Sublist.refl _)⟩
        · (try simp at cq19)
          refine g_skip ?_
          refine g_then ?_
          refine g_seq ?_
          refine g_seq ?_
          refine g_region ?_
          refine s_y (y_move rfl) rfl rfl rfl rfl ?_
          refine s_tr (t_call rfl rfl ent_71 (fun w h => Rabs_any w ((rdI s (i : Int)) - (rdI s ((i : Int) - 1))) (by omega) (by omega))) rfl rfl rfl rfl (fun _ _ => ?_)
          refine s_y (y_eql rfl rfl) rfl rfl rfl rfl ?_
          refine s_nil ?_
          refine g_then ?_
          refine g_cond rfl (fun cq23 => ?_) (fun cq23 => ?_)
          · (try simp at cq23)
            refine g_region ?_
            refine s_y (y_move rfl) rfl rfl rfl rfl ?_
            refine s_y (y_add rfl rfl (by omega) (by omega)) rfl rfl rfl rfl ?_
            refine s_y (y_assign rfl) rfl rfl rfl rfl ?_
            refine s_nil ?_
            refine g_then ?_
            refine g_seq ?_
            refine g_region ?_
            refine s_y (y_move rfl) rfl rfl rfl rfl ?_
            refine s_y (y_eql rfl rfl) rfl rfl rfl rfl ?_
            refine s_nil ?_
            refine g_then ?_
            refine g_cond rfl (fun cq24 => ?_) (fun cq24 => ?_)
            · (try simp at cq24)
              refine g_region ?_
              refine s_y (y_move rfl) rfl rfl rfl rfl ?_
              refine s_y (y_sub rfl rfl (by omega) (by omega)) rfl rfl rfl rfl ?_
              refine s_y (y_assign rfl) rfl rfl rfl rfl ?_
              refine s_nil ?_
              refine g_inb ?_
              refine g_then ?_
              refine g_region ?_
              refine s_y (y_move rfl) rfl rfl rfl rfl ?_
              refine s_y (y_add rfl rfl (by omega) (by omega)) rfl rfl rfl rfl ?_
              refine s_y (y_assign rfl) rfl rfl rfl rfl ?_
              refine s_nil ?_
              refine g_then ?_
              exact fun act W ha hw => ⟨i + 1, by omega, by omega, ((out + 1) - 1), W, (by rw [show wsum g s (i + 1) = wsum g s i + wrt g s i from rfl, show wrt g s i = wI (mvI s (i : Int)) (mvI g (i : Int)) from if_neg (by omega), ho]; have q1 : mvI s (i : Int) = rdI s (i : Int) - rdI s ((i : Int) - 1) := rfl; have q2 : mvI g (i : Int) = rdI g (i : Int) - rdI g ((i : Int) - 1) := rfl; rw [q1, q2]; unfold wI; (repeat' split) <;> omega), ha.weak (sub_get ⟨rfl, rfl, rfl, rfl, rfl, trivial⟩), hw.toHq.lookSub (List.Sublist.refl _)⟩
            · (try simp at cq24)
              refine g_skip ?_
              refine g_inb ?_
              refine g_then ?_
              refine g_region ?_
              refine s_y (y_move rfl) rfl rfl rfl rfl ?_
              refine s_y (y_add rfl rfl (by omega) (by omega)) rfl rfl rfl rfl ?_
              refine s_y (y_assign rfl) rfl rfl rfl rfl ?_
              refine s_nil ?_
              refine g_then ?_
              exact fun act W ha hw => ⟨i + 1, by omega, by omega, (out + 1), W, (by rw [show wsum g s (i + 1) = wsum g s i + wrt g s i from rfl, show wrt g s i = wI (mvI s (i : Int)) (mvI g (i : Int)) from if_neg (by omega), ho]; have q1 : mvI s (i : Int) = rdI s (i : Int) - rdI s ((i : Int) - 1) := rfl; have q2 : mvI g (i : Int) = rdI g (i : Int) - rdI g ((i : Int) - 1) := rfl; rw [q1, q2]; unfold wI; (repeat' split) <;> omega), ha.weak (sub_get ⟨rfl, rfl, rfl, rfl, rfl, trivial⟩), hw.toHq.lookSub (List.Sublist.refl _)⟩
          · (try simp at cq23)
            refine g_skip ?_
            refine g_then ?_
            refine g_seq ?_
            refine g_region ?_
            refine s_y (y_move rfl) rfl rfl rfl rfl ?_
            refine s_y (y_eql rfl rfl) rfl rfl rfl rfl ?_
            refine s_nil ?_
            refine g_then ?_
            refine g_cond rfl (fun cq25 => ?_) (fun cq25 => ?_)
            · (try simp at cq25)
              refine g_region ?_
              refine s_y (y_move rfl) rfl rfl rfl rfl ?_
              refine s_y (y_sub rfl rfl (by omega) (by omega)) rfl rfl rfl rfl ?_
              refine s_y (y_assign rfl) rfl rfl rfl rfl ?_
              refine s_nil ?_
              refine g_inb ?_
              refine g_then ?_
              refine g_region ?_
              refine s_y (y_move rfl) rfl rfl rfl rfl ?_
              refine s_y (y_add rfl rfl (by omega) (by omega)) rfl rfl rfl rfl ?_
              refine s_y (y_assign rfl) rfl rfl rfl rfl ?_
              refine s_nil ?_
              refine g_then ?_
              exact fun act W ha hw => ⟨i + 1, by omega, by omega, (out - 1), W, (by rw [show wsum g s (i + 1) = wsum g s i + wrt g s i from rfl, show wrt g s i = wI (mvI s (i : Int)) (mvI g (i : Int)) from if_neg (by omega), ho]; have q1 : mvI s (i : Int) = rdI s (i : Int) - rdI s ((i : Int) - 1) := rfl; have q2 : mvI g (i : Int) = rdI g (i : Int) - rdI g ((i : Int) - 1) := rfl; rw [q1, q2]; unfold wI; (repeat' split) <;> omega), ha.weak (sub_get ⟨rfl, rfl, rfl, rfl, rfl, trivial⟩), hw.toHq.lookSub (List.Sublist.refl _)⟩
            · (try simp at cq25)
              refine g_skip ?_
              refine g_inb ?_
              refine g_then ?_
              refine g_region ?_
              refine s_y (y_move rfl) rfl rfl rfl rfl ?_
              refine s_y (y_add rfl rfl (by omega) (by omega)) rfl rfl rfl rfl ?_
              refine s_y (y_assign rfl) rfl rfl rfl rfl ?_
              refine s_nil ?_
              refine g_then ?_
              exact fun act W ha hw => ⟨i + 1, by omega, by omega, out, W, (by rw [show wsum g s (i + 1) = wsum g s i + wrt g s i from rfl, show wrt g s i = wI (mvI s (i : Int)) (mvI g (i : Int)) from if_neg (by omega), ho]; have q1 : mvI s (i : Int) = rdI s (i : Int) - rdI s ((i : Int) - 1) := rfl; have q2 : mvI g (i : Int) = rdI g (i : Int) - rdI g ((i : Int) - 1) := rfl; rw [q1, q2]; unfold wI; (repeat' split) <;> omega), ha.weak (sub_get ⟨rfl, rfl, rfl, rfl, rfl, trivial⟩), hw.toHq.lookSub (List.Sublist.refl _)⟩
      · (try simp at cq18)
        refine s_no rfl rfl rfl ?_
        refine s_no rfl rfl rfl ?_
        refine s_y (y_pick_f rfl rfl) rfl rfl rfl rfl ?_
        refine s_y (y_pick_f rfl rfl) rfl rfl rfl rfl ?_
        refine s_nil ?_
        refine g_then ?_
        refine g_cond_f rfl ?_
        refine g_skip ?_
        refine g_then ?_
        refine g_seq ?_
        refine g_seq ?_
        refine g_region ?_
        refine s_y (y_move rfl) rfl rfl rfl rfl ?_
        refine s_tr (t_call rfl rfl ent_71 (fun w h => Rabs_any w ((rdI s (i : Int)) - (rdI s ((i : Int) - 1))) (by omega) (by omega))) rfl rfl rfl rfl (fun _ _ => ?_)
        refine s_y (y_eql rfl rfl) rfl rfl rfl rfl ?_
        refine s_nil ?_
        refine g_then ?_
        refine g_cond rfl (fun cq26 => ?_) (fun cq26 => ?_)
        · (try simp at cq26)
          refine g_region ?_
          refine s_y (y_move rfl) rfl rfl rfl rfl ?_
          refine s_y (y_add rfl rfl (by omega) (by omega)) rfl rfl rfl rfl ?_
          refine s_y (y_assign rfl) rfl rfl rfl rfl ?_
          refine s_nil ?_
          refine g_then ?_
          refine g_seq ?_
          refine g_region ?_
          refine s_y (y_move rfl) rfl rfl rfl rfl ?_
          refine s_y (y_eql rfl rfl) rfl rfl rfl rfl ?_
          refine s_nil ?_
          refine g_then ?_
          refine g_cond rfl (fun cq27 => ?_) (fun cq27 => ?_)
          · (try simp at cq27)
            refine g_region ?_
            refine s_y (y_move rfl) rfl rfl rfl rfl ?_
            refine s_y (y_sub rfl rfl (by omega) (by omega)) rfl rfl rfl rfl ?_
            refine s_y (y_assign rfl) rfl rfl rfl rfl ?_
            refine s_nil ?_
            refine g_inb ?_
            refine g_then ?_
            refine g_region ?_
            refine s_y (y_move rfl) rfl rfl rfl rfl ?_
            refine s_y (y_add rfl rfl (by omega) (by omega)) rfl rfl rfl rfl ?_
            refine s_y (y_assign rfl) rfl rfl rfl rfl ?_
            refine s_nil ?_
            refine g_then ?_
            exact fun act W ha hw => ⟨i + 1, by omega, by omega, ((out + 1) - 1), W, (by rw [show wsum g s (i + 1) = wsum g s i + wrt g s i from rfl, show wrt g s i = wI (mvI s (i : Int)) (mvI g (i : Int)) from if_neg (by omega), ho]; have q1 : mvI s (i : Int) = rdI s (i : Int) - rdI s ((i : Int) - 1) := rfl; have q2 : mvI g (i : Int) = rdI g (i : Int) - rdI g ((i : Int) - 1) := rfl; rw [q1, q2]; unfold wI; (repeat' split) <;> omega), ha.weak (sub_get ⟨rfl, rfl, rfl, rfl, rfl, trivial⟩), hw.toHq.lookSub (List.Sublist.refl _)⟩
          · (try simp at cq27)
            refine g_skip ?_
            refine g_inb ?_
            refine g_then ?_
            refine g_region ?_
            refine s_y (y_move rfl) rfl rfl rfl rfl ?_
            refine s_y (y_add rfl rfl (by omega) (by omega)) rfl rfl rfl rfl ?_
            refine s_y (y_assign rfl) rfl rfl rfl rfl ?_
            refine s_nil ?_
            refine g_then ?_
            exact fun act W ha hw => ⟨i + 1, by omega, by omega, (out + 1), W, (by rw [show wsum g s (i + 1) = wsum g s i + wrt g s i from rfl, show wrt g s i = wI (mvI s (i : Int)) (mvI g (i : Int)) from if_neg (by omega), ho]; have q1 : mvI s (i : Int) = rdI s (i : Int) - rdI s ((i : Int) - 1) := rfl; have q2 : mvI g (i : Int) = rdI g (i : Int) - rdI g ((i : Int) - 1) := rfl; rw [q1, q2]; unfold wI; (repeat' split) <;> omega), ha.weak (sub_get ⟨rfl, rfl, rfl, rfl, rfl, trivial⟩), hw.toHq.lookSub (List.Sublist.refl _)⟩
        · (try simp at cq26)
          refine g_skip ?_
          refine g_then ?_
          refine g_seq ?_
          refine g_region ?_
          refine s_y (y_move rfl) rfl rfl rfl rfl ?_
          refine s_y (y_eql rfl rfl) rfl rfl rfl rfl ?_
          refine s_nil ?_
          refine g_then ?_
          refine g_cond rfl (fun cq28 => ?_) (fun cq28 => ?_)
          · (try simp at cq28)
            refine g_region ?_
            refine s_y (y_move rfl) rfl rfl rfl rfl ?_
            refine s_y (y_sub rfl rfl (by omega) (by omega)) rfl rfl rfl rfl ?_
            refine s_y (y_assign rfl) rfl rfl rfl rfl ?_
            refine s_nil ?_
            refine g_inb ?_
            refine g_then ?_
            refine g_region ?_
            refine s_y (y_move rfl) rfl rfl rfl rfl ?_
            refine s_y (y_add rfl rfl (by omega) (by omega)) rfl rfl rfl rfl ?_
            refine s_y (y_assign rfl) rfl rfl rfl rfl ?_
            refine s_nil ?_
            refine g_then ?_
            exact fun act W ha hw => ⟨i + 1, by omega, by omega, (out - 1), W, (by rw [show wsum g s (i + 1) = wsum g s i + wrt g s i from rfl, show wrt g s i = wI (mvI s (i : Int)) (mvI g (i : Int)) from if_neg (by omega), ho]; have q1 : mvI s (i : Int) = rdI s (i : Int) - rdI s ((i : Int) - 1) := rfl; have q2 : mvI g (i : Int) = rdI g (i : Int) - rdI g ((i : Int) - 1) := rfl; rw [q1, q2]; unfold wI; (repeat' split) <;> omega), ha.weak (sub_get ⟨rfl, rfl, rfl, rfl, rfl, trivial⟩), hw.toHq.lookSub (List.Sublist.refl _)⟩
          · (try simp at cq28)
            refine g_skip ?_
            refine g_inb ?_
            refine g_then ?_
            refine g_region ?_
            refine s_y (y_move rfl) rfl rfl rfl rfl ?_
            refine s_y (y_add rfl rfl (by omega) (by omega)) rfl rfl rfl rfl ?_
            refine s_y (y_assign rfl) rfl rfl rfl rfl ?_
            refine s_nil ?_
            refine g_then ?_
            exact fun act W ha hw => ⟨i + 1, by omega, by omega, out, W, (by rw [show wsum g s (i + 1) = wsum g s i + wrt g s i from rfl, show wrt g s i = wI (mvI s (i : Int)) (mvI g (i : Int)) from if_neg (by omega), ho]; have q1 : mvI s (i : Int) = rdI s (i : Int) - rdI s ((i : Int) - 1) := rfl; have q2 : mvI g (i : Int) = rdI g (i : Int) - rdI g ((i : Int) - 1) := rfl; rw [q1, q2]; unfold wI; (repeat' split) <;> omega), ha.weak (sub_get ⟨rfl, rfl, rfl, rfl, rfl, trivial⟩), hw.toHq.lookSub (List.Sublist.refl _)⟩
  · (try simp at cq1)
    refine g_exit ?_
    refine g_thenx ?_
    refine g_thenx ?_
    refine g_inbx ?_
    refine g_then ?_
    refine g_seq ?_
    refine g_region ?_
    refine s_y (y_move rfl) rfl rfl rfl rfl ?_
    refine s_y (y_assign rfl) rfl rfl rfl rfl ?_
    refine s_nil ?_
    refine g_then ?_
    refine g_ret ?_
    have hi_ : i = g.length := by omega
    subst hi_
    rw [show wsum g s s.length = out from by rw [ho, hln]]
    exact g_end trivial (fun a w ha hq_ => res1 ha rfl rfl  w) (fun w h => ⟨rfl, h.below⟩)

theorem RWorth_ok (w : World) (v v' : Value) (g s : List Int) (hg : RdV (Value.int .i64) w v g) (hs : RdV (Value.int .i64) w v' s) (hp : pairB g s = true) :
    Calls Try.prog 43 [v, v'].toArray w fun e w' => e = .returned (.tuple #[.int .i64 (wthD g s).1, .int .i64 (wthD g s).2]) ∧ Below w.heap.size w w' := by
  obtain ⟨⟨hgl, hgn⟩, hsn, hln⟩ := pair_facts hp
  refine enter (N := 21) Try.func43 rfl rfl rfl ?_
  refine g_seq ?_
  refine g_region ?_
  refine s_y (y_assign rfl) rfl rfl rfl rfl ?_
  refine s_y (y_assign rfl) rfl rfl rfl rfl ?_
  refine s_nil ?_
  refine g_then ?_
  refine g_seq ?_
  refine g_seq ?_
  refine g_region ?_
  refine s_y (y_move rfl) rfl rfl rfl rfl ?_
  refine s_y (y_move rfl) rfl rfl rfl rfl ?_
  refine s_tr (t_call rfl rfl ent_23 (fun w h => RCheck_ok w _ _ g s (hg.below h.below) (hs.below h.below) hp)) rfl rfl rfl rfl (fun _ _ => ?_)
  refine s_y (y_move rfl) rfl rfl rfl rfl ?_
  refine s_y (y_extract rfl rfl) rfl rfl rfl rfl ?_
  refine s_y (y_extract rfl rfl) rfl rfl rfl rfl ?_
  refine s_y (y_extract rfl rfl) rfl rfl rfl rfl ?_
  refine s_y (y_assign rfl) rfl rfl rfl rfl ?_
  refine s_y (y_assign rfl) rfl rfl rfl rfl ?_
  refine s_y (y_assign rfl) rfl rfl rfl rfl ?_
  refine s_nil ?_
  refine g_then ?_
  refine g_seq ?_
  refine g_region ?_
  refine s_y (y_move rfl) rfl rfl rfl rfl ?_
  refine s_y (y_eql rfl rfl) rfl rfl rfl rfl ?_
  refine s_nil ?_
  refine g_then ?_
  refine g_cond rfl (fun cq1 => ?_) (fun cq1 => ?_)
  · (try simp at cq1)
    have hne : ¬ (frs g s).2 = 0 := fun h_ => by rw [chkD_none h_] at cq1; simp at cq1
    refine g_seq ?_
    refine g_region ?_
    refine s_y (y_assign rfl) rfl rfl rfl rfl ?_
    refine s_y (y_assign rfl) rfl rfl rfl rfl ?_
    refine s_nil ?_
    refine g_then ?_
    refine g_ret ?_
    refine g_thenr ?_
    rw [show wthD g s = (0, 4) from if_neg hne]
    exact g_end trivial (fun a w ha hq_ => res2 ha rfl rfl rfl  w) (fun w h => ⟨rfl, h.below⟩)
  · (try simp at cq1)
    have hz : (frs g s).2 = 0 := Classical.byContradiction fun h_ => by rw [chkD_some h_] at cq1; simp at cq1
    refine g_skip ?_
    refine g_then ?_
    refine g_seq ?_
    refine g_region ?_
    refine s_y (y_move rfl) rfl rfl rfl rfl ?_
    refine s_y (y_move rfl) rfl rfl rfl rfl ?_
    refine s_tr (t_call rfl rfl ent_63 (fun w h => Rworth_any w _ _ g s (hg.below h.below) (hs.below h.below) hp)) rfl rfl rfl rfl (fun _ _ => ?_)
    refine s_y (y_assign rfl) rfl rfl rfl rfl ?_
    refine s_y (y_assign rfl) rfl rfl rfl rfl ?_
    refine s_nil ?_
    refine g_then ?_
    refine g_ret ?_
    rw [show wthD g s = (wsum g s s.length, 0) from if_pos hz]
    exact g_end trivial (fun a w ha hq_ => res2 ha rfl rfl rfl  w) (fun w h => ⟨rfl, h.below⟩)

def SwOk (g s : List Int) : Prop := (frs g s).2 = 0 ∧ (∀ i : Nat, i < s.length → ivI g s (i : Int) ≤ 7) ∧ partB (liftL g 7) = true
theorem t_callm2 {N : Nat} {ds : List Deferred} {l : List (Nat × Value)} {w0 w1 : World} {m : List (Nat × Obj)} {P : Program} {ro : Option Nat} {dst : Option Tmp} {ty : TypeId} {pos : String} {aft : Array Edge} {gd : Option (Nat × Bool)} {ι : Type} {A : ι → Prop} {vf : ι → Value} {mm1 mm2 : ι → List (Nat × Obj)} {fn fid xs ts vs} (hf : ev l fn = some (.func (.func fid) #[] #[])) (hx : evs l xs = some vs) (he : Enters P fid)
    (hc : ∀ w, Hp w0 w1 m w → Calls P fid vs.toArray w fun e w' => ∃ x, A x ∧ e = .returned (vf x) ∧ Hq w w (mm1 x ++ mm2 x) w') :
    Tr (ι := ι) P ro N ds l w0 w1 m ⟨dst, .call ⟨.value fn, xs.toArray, ts⟩, ty, pos, aft, gd⟩ A vf (fun _ => w1) (fun x => mm1 x ++ (mm2 x ++ m)) := by
  have h := t_callm (ro := ro) (N := N) (ds := ds) (dst := dst) (ty := ty) (pos := pos) (aft := aft) (gd := gd) (ts := ts) (mm := fun x => mm1 x ++ mm2 x) hf hx he hc
  simpa only [List.append_assoc] using h

theorem Swap_lit (w : World) (ag as_ : Option Addr) (cg cs : Nat) (g s : List Int) (hg : RdV (Value.int .i64) w (.slice ag g.length cg) g) (hs : RdV (Value.int .i64) w (.slice as_ s.length cs) s) (hp : pairB g s = true) (hsw : SwOk g s) :
    Calls Try.prog 33 [.slice ag g.length cg, .slice as_ s.length cs].toArray w fun e w' => ∃ x : (Value × List (Nat × Obj)) × (Value × List (Nat × Obj)), ((OwnV (Value.int .i64) x.1.1 s x.1.2 ∧ ∃ W : World, ∀ p ∈ x.1.2, W.heap[p.1]? = some p.2) ∧ (OwnV (Value.int .i64) x.2.1 (liftL g 7) x.2.2 ∧ ∃ W : World, ∀ p ∈ x.2.2, W.heap[p.1]? = some p.2)) ∧ e = .returned (.tuple #[x.1.1, x.2.1, .int .i64 0]) ∧ Hq w w (x.1.2 ++ x.2.2) w' := by
  obtain ⟨⟨hgl, hgn⟩, hsn, hln⟩ := pair_facts hp
  have hpg : partB g = true := partB_true.2 ⟨hgl, hgn⟩
  refine enter (N := 47) Try.func33 rfl rfl rfl ?_
  refine g_seq ?_
  refine g_region ?_
  refine s_y (y_assign rfl) rfl rfl rfl rfl ?_
  refine s_y (y_assign rfl) rfl rfl rfl rfl ?_
  refine s_y (y_assign rfl) rfl rfl rfl rfl ?_
  refine s_nil ?_
  refine g_then ?_
  refine g_seq ?_
  refine g_region ?_
  refine s_y (y_move rfl) rfl rfl rfl rfl ?_
  refine s_y (y_move rfl) rfl rfl rfl rfl ?_
  refine s_tr (t_call rfl rfl ent_48 (fun w h => by have h_ := read_any w ag as_ cg cs g s (hg.below h.below) (hs.below h.below) (by omega) (by omega); rw [hp] at h_; exact h_)) rfl rfl rfl rfl (fun _ _ => ?_)
  refine s_y (y_move rfl) rfl rfl rfl rfl ?_
  refine s_y (y_extract rfl rfl) rfl rfl rfl rfl ?_
  refine s_y (y_extract rfl rfl) rfl rfl rfl rfl ?_
  refine s_tr (t_alloc zero_48 rfl) rfl rfl rfl rfl (fun bd hbd => ?_)
  refine s_tr0 (t_store 0 rfl rfl rfl rfl size_48 rfl rfl) rfl rfl rfl (fun _ _ => ?_)
  refine s_y (y_assign rfl) rfl rfl rfl rfl ?_
  refine s_nil ?_
  refine g_then ?_
  refine g_seq ?_
  refine g_seq ?_
  refine g_region ?_
  refine s_y (y_move rfl) rfl rfl rfl rfl ?_
  refine s_y (y_not_t rfl) rfl rfl rfl rfl ?_
  refine s_nil ?_
  refine g_then ?_
  refine g_cond_f rfl ?_
  refine g_skip ?_
  refine g_then ?_
  refine g_seq ?_
  refine g_seq ?_
  refine g_region ?_
  refine s_y (y_ldn 0 rfl rfl agg_48 size_48 rfl rfl) rfl rfl rfl rfl ?_
  refine s_tr (t_call rfl rfl ent_49 (fun w h => first_any w ag as_ cg cs g s (hg.below h.below) (hs.below h.below) (by omega) (by omega) hgn hsn)) rfl rfl rfl rfl (fun _ _ => ?_)
  refine s_y (y_move rfl) rfl rfl rfl rfl ?_
  refine s_y (y_extract rfl rfl) rfl rfl rfl rfl ?_
  refine s_y (y_extract rfl rfl) rfl rfl rfl rfl ?_
  refine s_y (y_assign rfl) rfl rfl rfl rfl ?_
  refine s_y (y_assign rfl) rfl rfl rfl rfl ?_
  refine s_nil ?_
  refine g_then ?_
  refine g_seq ?_
  refine g_region ?_
  refine s_y (y_move rfl) rfl rfl rfl rfl ?_
  refine s_y (y_gtr rfl rfl) rfl rfl rfl rfl ?_
  refine s_nil ?_
  refine g_then ?_
  refine g_cond rfl (fun cq1 => ?_) (fun cq1 => ?_)
  · (try simp at cq1)
    exact absurd hsw.1 (by omega)
  · (try simp at cq1)
    refine g_skip ?_
    refine g_then ?_
    refine g_seq ?_
    refine g_seq ?_
    refine g_region ?_
    refine s_y (y_move rfl) rfl rfl rfl rfl ?_
    refine s_y (y_lenV (n := s.length) rfl (by obtain ⟨A, c, h1, _⟩ := hs; exact ⟨A, c, h1⟩) sle_22) rfl rfl rfl rfl ?_
    refine s_y (y_move rfl) rfl rfl rfl rfl ?_
    refine s_nil ?_
    refine g_then ?_
    refine g_block ?_
    refine g_loop (fun (i : Nat) act W => i ≤ s.length ∧ ∃ (w1 : World), Has 47 [] [(0, .slice ag g.length cg), (1, .slice as_ s.length cs), (7, .pointer (some ⟨bd, 0, none⟩)), (8, .bool true), (28, .int .i64 (s.length : Nat)), (29, .int .i64 (i : Int))] act ∧ Hp w w1 ((bd, .cells [.slice ag g.length cg, .slice as_ s.length cs].toArray 48 (0, 0)) :: []) W) (fun i => s.length - i) 0 (fun act W ha hw => ⟨by omega, W, ha.weak (sub_get ⟨rfl, rfl, rfl, rfl, rfl, rfl, trivial⟩), hw.toHq.lookSub (List.Sublist.refl _)⟩) ?_
    intro i act W ⟨hb_i, w1, ha, hw⟩
    refine g_go ha hw ?_
    clear ha hw act W
    refine g_seq ?_
    refine g_region ?_
    refine s_y (y_lss rfl rfl) rfl rfl rfl rfl ?_
    refine s_nil ?_
    refine g_then ?_
    refine g_seq ?_
    refine g_cond rfl (fun cq2 => ?_) (fun cq2 => ?_)
    · (try simp at cq2)
      refine g_skip ?_
      refine g_then ?_
      refine g_seq ?_
      refine g_block ?_
      refine g_seq ?_
      refine g_region ?_
      refine s_y (y_move rfl) rfl rfl rfl rfl ?_
      refine s_y (y_assign rfl) rfl rfl rfl rfl ?_
      refine s_nil ?_
      refine g_then ?_
      refine g_seq ?_
      refine g_region ?_
      refine s_y (y_ldn 0 rfl rfl agg_48 size_48 rfl rfl) rfl rfl rfl rfl ?_
      refine s_y (y_move rfl) rfl rfl rfl rfl ?_
      refine s_tr (t_call rfl rfl ent_58 (fun w h => interval_any w ag as_ cg cs g s (hg.below h.below) (hs.below h.below) (i : Int) (by omega) (by omega) (by omega) hgn hsn)) rfl rfl rfl rfl (fun _ _ => ?_)
      refine s_y (y_gtr rfl rfl) rfl rfl rfl rfl ?_
      refine s_nil ?_
      refine g_then ?_
      refine g_cond rfl (fun cq3 => ?_) (fun cq3 => ?_)
      · (try simp at cq3)
        exact absurd (hsw.2.1 i (by omega)) (by omega)
      · (try simp at cq3)
        refine g_skip ?_
        refine g_inb ?_
        refine g_then ?_
        refine g_region ?_
        refine s_y (y_add rfl rfl (by omega) (by omega)) rfl rfl rfl rfl ?_
        refine s_y (y_move rfl) rfl rfl rfl rfl ?_
        refine s_nil ?_
        refine g_then ?_
        exact fun act W ha hw => ⟨i + 1, by omega, by omega, W, ha.weak (sub_get ⟨rfl, rfl, rfl, rfl, rfl, rfl, trivial⟩), hw.toHq.lookSub (List.Sublist.refl _)⟩
    · (try simp at cq2)
      refine g_exit ?_
      refine g_thenx ?_
      refine g_thenx ?_
      refine g_inbx ?_
      refine g_then ?_
      refine g_seq ?_
      refine g_region ?_
      refine s_y (y_move rfl) rfl rfl rfl rfl ?_
      refine s_tr (t_callm rfl rfl ent_51 (fun w h => by have h_ := lifted_ok w _ g (hg.below h.below) 7 hpg (by omega); rw [hsw.2.2] at h_; exact h_)) rfl rfl rfl rfl (fun x5 hx6 => ?_)
      obtain ⟨vo4, mo4⟩ := x5
      obtain ⟨hOo4, hEo4⟩ := hx6
      refine s_y (y_move rfl) rfl rfl rfl rfl ?_
      refine s_y (y_extract rfl rfl) rfl rfl rfl rfl ?_
      refine s_y (y_extract rfl rfl) rfl rfl rfl rfl ?_
      refine s_y (y_assign rfl) rfl rfl rfl rfl ?_
      refine s_y (y_assign rfl) rfl rfl rfl rfl ?_
      refine s_nil ?_
      refine g_then ?_
      refine g_seq ?_
      refine g_seq ?_
      refine g_region ?_
      refine s_y (y_move rfl) rfl rfl rfl rfl ?_
      refine s_y (y_not_t rfl) rfl rfl rfl rfl ?_
      refine s_nil ?_
      refine g_then ?_
      refine g_cond_f rfl ?_
      refine g_skip ?_
      refine g_then ?_
      refine g_seq ?_
      refine g_region ?_
      refine s_y (y_move rfl) rfl rfl rfl rfl ?_
      refine s_tr (t_callm rfl rfl ent_44 (fun w h => Clone_any w _ s (hs.below h.below) (by omega))) rfl rfl rfl rfl (fun x8 hx9 => ?_)
      obtain ⟨vo7, mo7⟩ := x8
      obtain ⟨hOo7, hEo7⟩ := hx9
      refine s_y (y_move rfl) rfl rfl rfl rfl ?_
      refine s_y (y_assign rfl) rfl rfl rfl rfl ?_
      refine s_y (y_assign rfl) rfl rfl rfl rfl ?_
      refine s_y (y_assign rfl) rfl rfl rfl rfl ?_
      refine s_nil ?_
      refine g_then ?_
      refine g_ret ?_
      exact g_end trivial (fun a w ha hq_ => res3 ha rfl rfl rfl rfl  w) (fun w3 h => (have h2_ : Hq w w (mo7 ++ mo4) w3 := (by have h_ : Hq w w (mo7 ++ (mo4 ++ [])) w3 := h.hand (sub_app mo7 (sub_app mo4 (List.nil_sublist _))); rw [List.append_nil] at h_; exact h_); ⟨((_, mo7), (_, mo4)), ⟨⟨hOo7, w3, fun p hp => h2_.at_ p (List.mem_append_left _ hp)⟩, ⟨hOo4, w3, fun p hp => h2_.at_ p (List.mem_append_right _ hp)⟩⟩, rfl, h2_⟩))

theorem Swap_litnone (w : World) (ag as_ : Option Addr) (cg cs : Nat) (g s : List Int) (hg : RdV (Value.int .i64) w (.slice ag g.length cg) g) (hs : RdV (Value.int .i64) w (.slice as_ s.length cs) s) (hp : pairB g s = true) (hsw : ¬ SwOk g s) :
    Calls Try.prog 33 [.slice ag g.length cg, .slice as_ s.length cs].toArray w fun e w' => e = .returned (.tuple #[.slice none 0 0, .slice none 0 0, .int .i64 4]) ∧ Below w.heap.size w w' := by
  obtain ⟨⟨hgl, hgn⟩, hsn, hln⟩ := pair_facts hp
  have hpg : partB g = true := partB_true.2 ⟨hgl, hgn⟩
  refine enter (N := 47) Try.func33 rfl rfl rfl ?_
  refine g_seq ?_
  refine g_region ?_
  refine s_y (y_assign rfl) rfl rfl rfl rfl ?_
  refine s_y (y_assign rfl) rfl rfl rfl rfl ?_
  refine s_y (y_assign rfl) rfl rfl rfl rfl ?_
  refine s_nil ?_
  refine g_then ?_
  refine g_seq ?_
  refine g_region ?_
  refine s_y (y_move rfl) rfl rfl rfl rfl ?_
  refine s_y (y_move rfl) rfl rfl rfl rfl ?_
  refine s_tr (t_call rfl rfl ent_48 (fun w h => by have h_ := read_any w ag as_ cg cs g s (hg.below h.below) (hs.below h.below) (by omega) (by omega); rw [hp] at h_; exact h_)) rfl rfl rfl rfl (fun _ _ => ?_)
  refine s_y (y_move rfl) rfl rfl rfl rfl ?_
  refine s_y (y_extract rfl rfl) rfl rfl rfl rfl ?_
  refine s_y (y_extract rfl rfl) rfl rfl rfl rfl ?_
  refine s_tr (t_alloc zero_48 rfl) rfl rfl rfl rfl (fun bd hbd => ?_)
  refine s_tr0 (t_store 0 rfl rfl rfl rfl size_48 rfl rfl) rfl rfl rfl (fun _ _ => ?_)
  refine s_y (y_assign rfl) rfl rfl rfl rfl ?_
  refine s_nil ?_
  refine g_then ?_
  refine g_seq ?_
  refine g_seq ?_
  refine g_region ?_
  refine s_y (y_move rfl) rfl rfl rfl rfl ?_
  refine s_y (y_not_t rfl) rfl rfl rfl rfl ?_
  refine s_nil ?_
  refine g_then ?_
  refine g_cond_f rfl ?_
  refine g_skip ?_
  refine g_then ?_
  refine g_seq ?_
  refine g_seq ?_
  refine g_region ?_
  refine s_y (y_ldn 0 rfl rfl agg_48 size_48 rfl rfl) rfl rfl rfl rfl ?_
  refine s_tr (t_call rfl rfl ent_49 (fun w h => first_any w ag as_ cg cs g s (hg.below h.below) (hs.below h.below) (by omega) (by omega) hgn hsn)) rfl rfl rfl rfl (fun _ _ => ?_)
  refine s_y (y_move rfl) rfl rfl rfl rfl ?_
  refine s_y (y_extract rfl rfl) rfl rfl rfl rfl ?_
  refine s_y (y_extract rfl rfl) rfl rfl rfl rfl ?_
  refine s_y (y_assign rfl) rfl rfl rfl rfl ?_
  refine s_y (y_assign rfl) rfl rfl rfl rfl ?_
  refine s_nil ?_
  refine g_then ?_
  refine g_seq ?_
  refine g_region ?_
  refine s_y (y_move rfl) rfl rfl rfl rfl ?_
  refine s_y (y_gtr rfl rfl) rfl rfl rfl rfl ?_
  refine s_nil ?_
  refine g_then ?_
  refine g_cond rfl (fun cq1 => ?_) (fun cq1 => ?_)
  · (try simp at cq1)
    refine g_seq ?_
    refine g_region ?_
    refine s_y (y_assign rfl) rfl rfl rfl rfl ?_
    refine s_y (y_assign rfl) rfl rfl rfl rfl ?_
    refine s_y (y_assign rfl) rfl rfl rfl rfl ?_
    refine s_nil ?_
    refine g_then ?_
    refine g_ret ?_
    refine g_thenr ?_
    exact g_end trivial (fun a w ha hq_ => res3 ha rfl rfl rfl rfl  w) (fun w h => ⟨rfl, h.below⟩)
  · (try simp at cq1)
    have hz : (frs g s).2 = 0 := by have h_ := frsR_range g s s.length 0; have h2_ : frs g s = frsR g s s.length 0 := rfl; rw [← h2_] at h_; omega
    refine g_skip ?_
    refine g_then ?_
    refine g_seq ?_
    refine g_seq ?_
    refine g_region ?_
    refine s_y (y_move rfl) rfl rfl rfl rfl ?_
    refine s_y (y_lenV (n := s.length) rfl (by obtain ⟨A, c, h1, _⟩ := hs; exact ⟨A, c, h1⟩) sle_22) rfl rfl rfl rfl ?_
    refine s_y (y_move rfl) rfl rfl rfl rfl ?_
    refine s_nil ?_
    refine g_then ?_
    refine g_block ?_
    refine g_loop (fun (i : Nat) act W => i ≤ s.length ∧ ∃ (w1 : World), (∀ j : Nat, j < i → ivI g s (j : Int) ≤ 7) ∧ Has 47 [] [(0, .slice ag g.length cg), (1, .slice as_ s.length cs), (7, .pointer (some ⟨bd, 0, none⟩)), (8, .bool true), (28, .int .i64 (s.length : Nat)), (29, .int .i64 (i : Int))] act ∧ Hp w w1 ((bd, .cells [.slice ag g.length cg, .slice as_ s.length cs].toArray 48 (0, 0)) :: []) W) (fun i => s.length - i) 0 (fun act W ha hw => ⟨by omega, W, (by intro j hj; omega), ha.weak (sub_get ⟨rfl, rfl, rfl, rfl, rfl, rfl, trivial⟩), hw.toHq.lookSub (List.Sublist.refl _)⟩) ?_
    intro i act W ⟨hb_i, w1, hall, ha, hw⟩
    refine g_go ha hw ?_
    clear ha hw act W
    refine g_seq ?_
    refine g_region ?_
    refine s_y (y_lss rfl rfl) rfl rfl rfl rfl ?_
    refine s_nil ?_
    refine g_then ?_
    refine g_seq ?_
    refine g_cond rfl (fun cq2 => ?_) (fun cq2 => ?_)
    · (try simp at cq2)
      refine g_skip ?_
      refine g_then ?_
      refine g_seq ?_
      refine g_block ?_
      refine g_seq ?_
      refine g_region ?_
      refine s_y (y_move rfl) rfl rfl rfl rfl ?_
      refine s_y (y_assign rfl) rfl rfl rfl rfl ?_
      refine s_nil ?_
      refine g_then ?_
      refine g_seq ?_
      refine g_region ?_
      refine s_y (y_ldn 0 rfl rfl agg_48 size_48 rfl rfl) rfl rfl rfl rfl ?_
      refine s_y (y_move rfl) rfl rfl rfl rfl ?_
      refine s_tr (t_call rfl rfl ent_58 (fun w h => interval_any w ag as_ cg cs g s (hg.below h.below) (hs.below h.below) (i : Int) (by omega) (by omega) (by omega) hgn hsn)) rfl rfl rfl rfl (fun _ _ => ?_)
      refine s_y (y_gtr rfl rfl) rfl rfl rfl rfl ?_
      refine s_nil ?_
      refine g_then ?_
      refine g_cond rfl (fun cq3 => ?_) (fun cq3 => ?_)
      · (try simp at cq3)
        refine g_seq ?_
        refine g_region ?_
        refine s_y (y_assign rfl) rfl rfl rfl rfl ?_
        refine s_y (y_assign rfl) rfl rfl rfl rfl ?_
        refine s_y (y_assign rfl) rfl rfl rfl rfl ?_
        refine s_nil ?_
        refine g_then ?_
        refine g_ret ?_
        refine g_inbr ?_
        refine g_thenr ?_
        refine g_thenr ?_
        refine g_inbr ?_
        refine g_thenr ?_
        exact g_end trivial (fun a w ha hq_ => res3 ha rfl rfl rfl rfl  w) (fun w h => ⟨rfl, h.below⟩)
      · (try simp at cq3)
        refine g_skip ?_
        refine g_inb ?_
        refine g_then ?_
        refine g_region ?_
        refine s_y (y_add rfl rfl (by omega) (by omega)) rfl rfl rfl rfl ?_
        refine s_y (y_move rfl) rfl rfl rfl rfl ?_
        refine s_nil ?_
        refine g_then ?_
        exact fun act W ha hw => ⟨i + 1, by omega, by omega, W, (by intro j hj; rcases Nat.lt_or_ge j i with c_ | c_; exact hall j c_; (have e_ : j = i := (by omega)); subst e_; omega), ha.weak (sub_get ⟨rfl, rfl, rfl, rfl, rfl, rfl, trivial⟩), hw.toHq.lookSub (List.Sublist.refl _)⟩
    · (try simp at cq2)
      refine g_exit ?_
      refine g_thenx ?_
      refine g_thenx ?_
      refine g_inbx ?_
      refine g_then ?_
      refine g_seq ?_
      refine g_region ?_
      refine s_y (y_move rfl) rfl rfl rfl rfl ?_
      refine s_tr (t_callm rfl rfl ent_51 (fun w h => lifted_ok w _ g (hg.below h.below) 7 hpg (by omega))) rfl rfl rfl rfl (fun x5 hx6 => ?_)
      obtain ⟨vo4, mo4⟩ := x5
      obtain ⟨hOo4, hEo4⟩ := hx6
      refine s_y (y_move rfl) rfl rfl rfl rfl ?_
      refine s_y (y_extract rfl rfl) rfl rfl rfl rfl ?_
      refine s_y (y_extract rfl rfl) rfl rfl rfl rfl ?_
      refine s_y (y_assign rfl) rfl rfl rfl rfl ?_
      refine s_y (y_assign rfl) rfl rfl rfl rfl ?_
      refine s_nil ?_
      refine g_then ?_
      refine g_seq ?_
      refine g_seq ?_
      refine g_region ?_
      refine s_y (y_move rfl) rfl rfl rfl rfl ?_
      refine s_y (y_not rfl) rfl rfl rfl rfl ?_
      refine s_nil ?_
      refine g_then ?_
      refine g_cond rfl (fun cq7 => ?_) (fun cq7 => ?_)
      · (try simp at cq7)
        refine g_seq ?_
        refine g_region ?_
        refine s_y (y_assign rfl) rfl rfl rfl rfl ?_
        refine s_y (y_assign rfl) rfl rfl rfl rfl ?_
        refine s_y (y_assign rfl) rfl rfl rfl rfl ?_
        refine s_nil ?_
        refine g_then ?_
        refine g_ret ?_
        refine g_thenr ?_
        exact g_end trivial (fun a w ha hq_ => res3 ha rfl rfl rfl rfl  w) (fun w h => ⟨rfl, h.below⟩)
      · (try simp at cq7)
        exact absurd ⟨hz, fun j hj => hall j (by omega), by simpa using cq7⟩ hsw

theorem Swap_litno (w : World) (ag as_ : Option Addr) (cg cs : Nat) (g s : List Int) (hg : RdV (Value.int .i64) w (.slice ag g.length cg) g) (hs : RdV (Value.int .i64) w (.slice as_ s.length cs) s) (hgl : g.length ≤ 9223372036854775807) (hsl : s.length ≤ 9223372036854775807) (hp : pairB g s = false) :
    Calls Try.prog 33 [.slice ag g.length cg, .slice as_ s.length cs].toArray w fun e w' => e = .returned (.tuple #[.slice none 0 0, .slice none 0 0, .int .i64 2]) ∧ Below w.heap.size w w' := by
  refine enter (N := 47) Try.func33 rfl rfl rfl ?_
  refine g_seq ?_
  refine g_region ?_
  refine s_y (y_assign rfl) rfl rfl rfl rfl ?_
  refine s_y (y_assign rfl) rfl rfl rfl rfl ?_
  refine s_y (y_assign rfl) rfl rfl rfl rfl ?_
  refine s_nil ?_
  refine g_then ?_
  refine g_seq ?_
  refine g_region ?_
  refine s_y (y_move rfl) rfl rfl rfl rfl ?_
  refine s_y (y_move rfl) rfl rfl rfl rfl ?_
  refine s_tr (t_call rfl rfl ent_48 (fun w h => by have h_ := read_any w ag as_ cg cs g s (hg.below h.below) (hs.below h.below) (by omega) (by omega); rw [hp] at h_; exact h_)) rfl rfl rfl rfl (fun _ _ => ?_)
  refine s_y (y_move rfl) rfl rfl rfl rfl ?_
  refine s_y (y_extract rfl rfl) rfl rfl rfl rfl ?_
  refine s_y (y_extract rfl rfl) rfl rfl rfl rfl ?_
  refine s_tr (t_alloc zero_48 rfl) rfl rfl rfl rfl (fun bd hbd => ?_)
  refine s_tr0 (t_store 0 rfl rfl rfl rfl size_48 rfl rfl) rfl rfl rfl (fun _ _ => ?_)
  refine s_y (y_assign rfl) rfl rfl rfl rfl ?_
  refine s_nil ?_
  refine g_then ?_
  refine g_seq ?_
  refine g_seq ?_
  refine g_region ?_
  refine s_y (y_move rfl) rfl rfl rfl rfl ?_
  refine s_y (y_not_f rfl) rfl rfl rfl rfl ?_
  refine s_nil ?_
  refine g_then ?_
  refine g_cond_t rfl ?_
  refine g_seq ?_
  refine g_region ?_
  refine s_y (y_assign rfl) rfl rfl rfl rfl ?_
  refine s_y (y_assign rfl) rfl rfl rfl rfl ?_
  refine s_y (y_assign rfl) rfl rfl rfl rfl ?_
  refine s_nil ?_
  refine g_then ?_
  refine g_ret ?_
  refine g_thenr ?_
  exact g_end trivial (fun a w ha hq_ => res3 ha rfl rfl rfl rfl  w) (fun w h => ⟨rfl, h.below⟩)

theorem Swap_yes (w : World) (v v' : Value) (g s : List Int) (hg : RdV (Value.int .i64) w v g) (hs : RdV (Value.int .i64) w v' s) (hp : pairB g s = true) (hsw : SwOk g s) : Calls Try.prog 33 [v, v'].toArray w fun e w' => ∃ x : (Value × List (Nat × Obj)) × (Value × List (Nat × Obj)), ((OwnV (Value.int .i64) x.1.1 s x.1.2 ∧ ∃ W : World, ∀ p ∈ x.1.2, W.heap[p.1]? = some p.2) ∧ (OwnV (Value.int .i64) x.2.1 (liftL g 7) x.2.2 ∧ ∃ W : World, ∀ p ∈ x.2.2, W.heap[p.1]? = some p.2)) ∧ e = .returned (.tuple #[x.1.1, x.2.1, .int .i64 0]) ∧ Hq w w (x.1.2 ++ x.2.2) w' := by
  obtain ⟨ag, cg, rfl, _, _⟩ := id hg
  obtain ⟨as_, cs, rfl, _, _⟩ := id hs
  exact Swap_lit w ag as_ cg cs g s hg hs hp hsw

theorem Swap_none (w : World) (v v' : Value) (g s : List Int) (hg : RdV (Value.int .i64) w v g) (hs : RdV (Value.int .i64) w v' s) (hp : pairB g s = true) (hsw : ¬ SwOk g s) : Calls Try.prog 33 [v, v'].toArray w fun e w' => e = .returned (.tuple #[.slice none 0 0, .slice none 0 0, .int .i64 4]) ∧ Below w.heap.size w w' := by
  obtain ⟨ag, cg, rfl, _, _⟩ := id hg
  obtain ⟨as_, cs, rfl, _, _⟩ := id hs
  exact Swap_litnone w ag as_ cg cs g s hg hs hp hsw

theorem Swap_no (w : World) (v v' : Value) (g s : List Int) (hg : RdV (Value.int .i64) w v g) (hs : RdV (Value.int .i64) w v' s) (hgl : g.length ≤ 9223372036854775807) (hsl : s.length ≤ 9223372036854775807) (hp : pairB g s = false) : Calls Try.prog 33 [v, v'].toArray w fun e w' => e = .returned (.tuple #[.slice none 0 0, .slice none 0 0, .int .i64 2]) ∧ Below w.heap.size w w' := by
  obtain ⟨ag, cg, rfl, _, _⟩ := id hg
  obtain ⟨as_, cs, rfl, _, _⟩ := id hs
  exact Swap_litno w ag as_ cg cs g s hg hs hgl hsl hp

theorem RSwap_yes (w : World) (v v' : Value) (g s : List Int) (hg : RdV (Value.int .i64) w v g) (hs : RdV (Value.int .i64) w v' s) (hp : pairB g s = true) (hsw : SwOk g s) :
    Calls Try.prog 34 [v, v'].toArray w fun e w' => ∃ x : (Value × List (Nat × Obj)) × (Value × List (Nat × Obj)), ((OwnV (Value.int .i64) x.1.1 s x.1.2 ∧ ∃ W : World, ∀ p ∈ x.1.2, W.heap[p.1]? = some p.2) ∧ (OwnV (Value.int .i64) x.2.1 (liftL g 7) x.2.2 ∧ ∃ W : World, ∀ p ∈ x.2.2, W.heap[p.1]? = some p.2)) ∧ e = .returned (.tuple #[x.1.1, x.2.1, .int .i64 0]) ∧ Hq w w (x.1.2 ++ x.2.2) w' := by
  obtain ⟨⟨hgl, hgn⟩, hsn, hln⟩ := pair_facts hp
  have hpg : partB g = true := partB_true.2 ⟨hgl, hgn⟩
  have hnq : partB (liftL g 7) = notesB (liftL g 7) := notes_part (by rw [liftL_len]; omega)
  obtain ⟨ie3, hi3⟩ := inf_3
  refine enter (N := 50) Try.func34 rfl rfl rfl ?_
  refine g_seq ?_
  refine g_region ?_
  refine s_y (y_assign rfl) rfl rfl rfl rfl ?_
  refine s_y (y_assign rfl) rfl rfl rfl rfl ?_
  refine s_y (y_assign rfl) rfl rfl rfl rfl ?_
  refine s_nil ?_
  refine g_then ?_
  refine g_seq ?_
  refine g_seq ?_
  refine g_region ?_
  refine s_y (y_move rfl) rfl rfl rfl rfl ?_
  refine s_y (y_move rfl) rfl rfl rfl rfl ?_
  refine s_tr (t_call rfl rfl ent_23 (fun w h => RCheck_ok w _ _ g s (hg.below h.below) (hs.below h.below) hp)) rfl rfl rfl rfl (fun _ _ => ?_)
  refine s_y (y_move rfl) rfl rfl rfl rfl ?_
  refine s_y (y_extract rfl rfl) rfl rfl rfl rfl ?_
  refine s_y (y_extract rfl rfl) rfl rfl rfl rfl ?_
  refine s_y (y_extract rfl rfl) rfl rfl rfl rfl ?_
  refine s_y (y_assign rfl) rfl rfl rfl rfl ?_
  refine s_y (y_assign rfl) rfl rfl rfl rfl ?_
  refine s_y (y_assign rfl) rfl rfl rfl rfl ?_
  refine s_nil ?_
  refine g_then ?_
  refine g_seq ?_
  refine g_region ?_
  refine s_y (y_move rfl) rfl rfl rfl rfl ?_
  refine s_y (y_eql rfl rfl) rfl rfl rfl rfl ?_
  refine s_nil ?_
  refine g_then ?_
  refine g_cond rfl (fun cq1 => ?_) (fun cq1 => ?_)
  · (try simp at cq1)
    exact absurd hsw.1 (fun h_ => by rw [chkD_none h_] at cq1; simp at cq1)
  · (try simp at cq1)
    have hz : (frs g s).2 = 0 := Classical.byContradiction fun h_ => by rw [chkD_some h_] at cq1; simp at cq1
    refine g_skip ?_
    refine g_then ?_
    refine g_seq ?_
    refine g_seq ?_
    refine g_region ?_
    refine s_y (y_move rfl) rfl rfl rfl rfl ?_
    refine s_y (y_lenV (n := g.length) rfl (by obtain ⟨A, c, h1, _⟩ := hg; exact ⟨A, c, h1⟩) sle_22) rfl rfl rfl rfl ?_
    refine s_y (y_move rfl) rfl rfl rfl rfl ?_
    refine s_nil ?_
    refine g_then ?_
    refine g_block ?_
    refine g_loop (fun (i : Nat) act W => i ≤ g.length ∧ ∃ (w1 : World), Has 50 [] [(0, v), (1, v'), (23, v), (24, .int .i64 (g.length : Nat)), (25, .int .i64 (i : Int))] act ∧ Hp w w1 ([]) W) (fun i => g.length - i) 0 (fun act W ha hw => ⟨by omega, W, ha.weak (sub_get ⟨rfl, rfl, rfl, rfl, rfl, trivial⟩), hw.toHq.lookSub (List.Sublist.refl _)⟩) ?_
    intro i act W ⟨hb_i, w1, ha, hw⟩
    refine g_go ha hw ?_
    clear ha hw act W
    refine g_seq ?_
    refine g_region ?_
    refine s_y (y_lss rfl rfl) rfl rfl rfl rfl ?_
    refine s_nil ?_
    refine g_then ?_
    refine g_seq ?_
    refine g_cond rfl (fun cq2 => ?_) (fun cq2 => ?_)
    · (try simp at cq2)
      refine g_skip ?_
      refine g_then ?_
      refine g_seq ?_
      refine g_block ?_
      refine g_seq ?_
      have g0 := notes_at hgn (i := (i : Int)) (by omega) (by omega)
      have s0 := notes_at hsn (i := (i : Int)) (by omega) (by omega)
      have q0 : ivI g s (i : Int) = rdI s (i : Int) - rdI g (i : Int) := rfl
      refine g_region ?_
      refine s_y (y_move rfl) rfl rfl rfl rfl ?_
      refine s_y (y_idxV (enc := (Value.int .i64)) rfl rfl hg Try.underlying22 size_3 (by omega) (by omega)) rfl rfl rfl rfl ?_
      refine s_y (y_ldV (enc := (Value.int .i64)) (xs := g) (fun w h => hg.rdl.below h.below) rfl agg_3 (rdI_at (by omega) (by omega))) rfl rfl rfl rfl ?_
      refine s_y (y_assign rfl) rfl rfl rfl rfl ?_
      refine s_y (y_assign rfl) rfl rfl rfl rfl ?_
      refine s_nil ?_
      refine g_then ?_
      refine g_seq ?_
      refine g_region ?_
      refine s_y (y_move rfl) rfl rfl rfl rfl ?_
      refine s_y (y_move rfl) rfl rfl rfl rfl ?_
      refine s_y (y_idxV (enc := (Value.int .i64)) rfl rfl hs Try.underlying22 size_3 (by omega) (by omega)) rfl rfl rfl rfl ?_
      refine s_y (y_ldV (enc := (Value.int .i64)) (xs := s) (fun w h => hs.rdl.below h.below) rfl agg_3 (rdI_at (by omega) (by omega))) rfl rfl rfl rfl ?_
      refine s_y (y_move rfl) rfl rfl rfl rfl ?_
      refine s_y (y_sub rfl rfl (by omega) (by omega)) rfl rfl rfl rfl ?_
      refine s_y (y_gtr rfl rfl) rfl rfl rfl rfl ?_
      refine s_nil ?_
      refine g_then ?_
      refine g_cond rfl (fun cq3 => ?_) (fun cq3 => ?_)
      · (try simp at cq3)
        exact absurd (hsw.2.1 i (by omega)) (by omega)
      · (try simp at cq3)
        refine g_skip ?_
        refine g_inb ?_
        refine g_then ?_
        refine g_region ?_
        refine s_y (y_add rfl rfl (by omega) (by omega)) rfl rfl rfl rfl ?_
        refine s_y (y_move rfl) rfl rfl rfl rfl ?_
        refine s_nil ?_
        refine g_then ?_
        exact fun act W ha hw => ⟨i + 1, by omega, by omega, W, ha.weak (sub_get ⟨rfl, rfl, rfl, rfl, rfl, trivial⟩), hw.toHq.lookSub (List.Sublist.refl _)⟩
    · (try simp at cq2)
      refine g_exit ?_
      refine g_thenx ?_
      refine g_thenx ?_
      refine g_inbx ?_
      refine g_then ?_
      refine g_seq ?_
      refine g_region ?_
      refine s_y (y_move rfl) rfl rfl rfl rfl ?_
      refine s_tr (t_callm rfl rfl ent_25 (fun w h => RLift_yes w _ g (hg.below h.below) 7 hpg (by omega) (hnq ▸ hsw.2.2))) rfl rfl rfl rfl (fun x5 hx6 => ?_)
      obtain ⟨vo4, mo4⟩ := x5
      obtain ⟨hOo4, hEo4⟩ := hx6
      refine s_y (y_move rfl) rfl rfl rfl rfl ?_
      refine s_y (y_extract rfl rfl) rfl rfl rfl rfl ?_
      refine s_y (y_extract rfl rfl) rfl rfl rfl rfl ?_
      refine s_y (y_assign rfl) rfl rfl rfl rfl ?_
      refine s_y (y_assign rfl) rfl rfl rfl rfl ?_
      refine s_nil ?_
      refine g_then ?_
      refine g_seq ?_
      refine g_seq ?_
      refine g_region ?_
      refine s_y (y_move rfl) rfl rfl rfl rfl ?_
      refine s_y (y_neq_f rfl rfl (by decide)) rfl rfl rfl rfl ?_
      refine s_nil ?_
      refine g_then ?_
      refine g_cond_f rfl ?_
      refine g_skip ?_
      refine g_then ?_
      refine g_seq ?_
      refine g_region ?_
      refine s_tr (t_build0 (enc := (Value.int .i64)) Try.underlying22 hi3.1) rfl rfl rfl rfl (fun b7 hb7 => ?_)
      have hok8 : (SV.own b7 0 []).ok 1 0 (List.map (Value.int .i64) []) := ⟨Nat.le_refl _, Nat.zero_le _, rfl, rfl⟩
      refine s_y (y_move rfl) rfl rfl rfl rfl ?_
      refine s_tr (t_appendR0 (enc := (Value.int .i64)) (sv := (SV.own b7 0 [])) (xs := []) (ys := s) (n := 0)  _ rfl rfl rfl hok8 Try.underlying22 hi3.1 hi3.2.1 hi3.2.2.1 hi3.2.2.2 rfl (fun w h => (hs.below h.below)) (fun _ => rfl) (by omega) (by unfold maxLen; omega)) rfl rfl rfl rfl (fun y12 hok11 => ?_)
      obtain ⟨sv9, gs10⟩ := y12
      refine s_y (y_move rfl) rfl rfl rfl rfl ?_
      refine s_y (y_assign rfl) rfl rfl rfl rfl ?_
      refine s_y (y_assign rfl) rfl rfl rfl rfl ?_
      refine s_y (y_assign rfl) rfl rfl rfl rfl ?_
      refine s_nil ?_
      refine g_then ?_
      refine g_ret ?_
      exact g_end trivial (fun a w ha hq_ => res3 ha rfl rfl rfl rfl  w) (fun w3 h => (have h2_ : Hq w w (sv9.mem 3 ((([]) ++ s).map (Value.int .i64)) ++ mo4) w3 := (by have h_ : Hq w w (sv9.mem 3 ((([]) ++ s).map (Value.int .i64)) ++ (mo4 ++ [])) w3 := h.hand (sub_app (sv9.mem 3 ((([]) ++ s).map (Value.int .i64))) (sub_skip gs10 (List.Sublist.refl _))); rw [List.append_nil] at h_; exact h_); ⟨((_, sv9.mem 3 ((([]) ++ s).map (Value.int .i64))), (_, mo4)), ⟨⟨(OwnV.sv hok11), w3, fun p hp => h2_.at_ p (List.mem_append_left _ hp)⟩, ⟨hOo4, w3, fun p hp => h2_.at_ p (List.mem_append_right _ hp)⟩⟩, rfl, h2_⟩))

theorem RSwap_noneA (w : World) (v v' : Value) (g s : List Int) (hg : RdV (Value.int .i64) w v g) (hs : RdV (Value.int .i64) w v' s) (hp : pairB g s = true) (hsw : ¬ SwOk g s) (hq : notesB (liftL g 7) = false) :
    Calls Try.prog 34 [v, v'].toArray w fun e w' => e = .returned (.tuple #[.slice none 0 0, .slice none 0 0, .int .i64 4]) ∧ Below w.heap.size w w' := by
  obtain ⟨⟨hgl, hgn⟩, hsn, hln⟩ := pair_facts hp
  have hpg : partB g = true := partB_true.2 ⟨hgl, hgn⟩
  have hnq : partB (liftL g 7) = notesB (liftL g 7) := notes_part (by rw [liftL_len]; omega)
  refine enter (N := 50) Try.func34 rfl rfl rfl ?_
  refine g_seq ?_
  refine g_region ?_
  refine s_y (y_assign rfl) rfl rfl rfl rfl ?_
  refine s_y (y_assign rfl) rfl rfl rfl rfl ?_
  refine s_y (y_assign rfl) rfl rfl rfl rfl ?_
  refine s_nil ?_
  refine g_then ?_
  refine g_seq ?_
  refine g_seq ?_
  refine g_region ?_
  refine s_y (y_move rfl) rfl rfl rfl rfl ?_
  refine s_y (y_move rfl) rfl rfl rfl rfl ?_
  refine s_tr (t_call rfl rfl ent_23 (fun w h => RCheck_ok w _ _ g s (hg.below h.below) (hs.below h.below) hp)) rfl rfl rfl rfl (fun _ _ => ?_)
  refine s_y (y_move rfl) rfl rfl rfl rfl ?_
  refine s_y (y_extract rfl rfl) rfl rfl rfl rfl ?_
  refine s_y (y_extract rfl rfl) rfl rfl rfl rfl ?_
  refine s_y (y_extract rfl rfl) rfl rfl rfl rfl ?_
  refine s_y (y_assign rfl) rfl rfl rfl rfl ?_
  refine s_y (y_assign rfl) rfl rfl rfl rfl ?_
  refine s_y (y_assign rfl) rfl rfl rfl rfl ?_
  refine s_nil ?_
  refine g_then ?_
  refine g_seq ?_
  refine g_region ?_
  refine s_y (y_move rfl) rfl rfl rfl rfl ?_
  refine s_y (y_eql rfl rfl) rfl rfl rfl rfl ?_
  refine s_nil ?_
  refine g_then ?_
  refine g_cond rfl (fun cq1 => ?_) (fun cq1 => ?_)
  · (try simp at cq1)
    have hne : ¬ (frs g s).2 = 0 := fun h_ => by rw [chkD_none h_] at cq1; simp at cq1
    refine g_seq ?_
    refine g_region ?_
    refine s_y (y_assign rfl) rfl rfl rfl rfl ?_
    refine s_y (y_assign rfl) rfl rfl rfl rfl ?_
    refine s_y (y_assign rfl) rfl rfl rfl rfl ?_
    refine s_nil ?_
    refine g_then ?_
    refine g_ret ?_
    refine g_thenr ?_
    exact g_end trivial (fun a w ha hq_ => res3 ha rfl rfl rfl rfl  w) (fun w h => ⟨rfl, h.below⟩)
  · (try simp at cq1)
    have hz : (frs g s).2 = 0 := Classical.byContradiction fun h_ => by rw [chkD_some h_] at cq1; simp at cq1
    refine g_skip ?_
    refine g_then ?_
    refine g_seq ?_
    refine g_seq ?_
    refine g_region ?_
    refine s_y (y_move rfl) rfl rfl rfl rfl ?_
    refine s_y (y_lenV (n := g.length) rfl (by obtain ⟨A, c, h1, _⟩ := hg; exact ⟨A, c, h1⟩) sle_22) rfl rfl rfl rfl ?_
    refine s_y (y_move rfl) rfl rfl rfl rfl ?_
    refine s_nil ?_
    refine g_then ?_
    refine g_block ?_
    refine g_loop (fun (i : Nat) act W => i ≤ g.length ∧ ∃ (w1 : World), (∀ j : Nat, j < i → ivI g s (j : Int) ≤ 7) ∧ Has 50 [] [(0, v), (1, v'), (23, v), (24, .int .i64 (g.length : Nat)), (25, .int .i64 (i : Int))] act ∧ Hp w w1 ([]) W) (fun i => g.length - i) 0 (fun act W ha hw => ⟨by omega, W, (by intro j hj; omega), ha.weak (sub_get ⟨rfl, rfl, rfl, rfl, rfl, trivial⟩), hw.toHq.lookSub (List.Sublist.refl _)⟩) ?_
    intro i act W ⟨hb_i, w1, hall, ha, hw⟩
    refine g_go ha hw ?_
    clear ha hw act W
    refine g_seq ?_
    refine g_region ?_
    refine s_y (y_lss rfl rfl) rfl rfl rfl rfl ?_
    refine s_nil ?_
    refine g_then ?_
    refine g_seq ?_
    refine g_cond rfl (fun cq2 => ?_) (fun cq2 => ?_)
    · (try simp at cq2)
      refine g_skip ?_
      refine g_then ?_
      refine g_seq ?_
      refine g_block ?_
      refine g_seq ?_
      have g0 := notes_at hgn (i := (i : Int)) (by omega) (by omega)
      have s0 := notes_at hsn (i := (i : Int)) (by omega) (by omega)
      have q0 : ivI g s (i : Int) = rdI s (i : Int) - rdI g (i : Int) := rfl
      refine g_region ?_
      refine s_y (y_move rfl) rfl rfl rfl rfl ?_
      refine s_y (y_idxV (enc := (Value.int .i64)) rfl rfl hg Try.underlying22 size_3 (by omega) (by omega)) rfl rfl rfl rfl ?_
      refine s_y (y_ldV (enc := (Value.int .i64)) (xs := g) (fun w h => hg.rdl.below h.below) rfl agg_3 (rdI_at (by omega) (by omega))) rfl rfl rfl rfl ?_
      refine s_y (y_assign rfl) rfl rfl rfl rfl ?_
      refine s_y (y_assign rfl) rfl rfl rfl rfl ?_
      refine s_nil ?_
      refine g_then ?_
      refine g_seq ?_
      refine g_region ?_
      refine s_y (y_move rfl) rfl rfl rfl rfl ?_
      refine s_y (y_move rfl) rfl rfl rfl rfl ?_
      refine s_y (y_idxV (enc := (Value.int .i64)) rfl rfl hs Try.underlying22 size_3 (by omega) (by omega)) rfl rfl rfl rfl ?_
      refine s_y (y_ldV (enc := (Value.int .i64)) (xs := s) (fun w h => hs.rdl.below h.below) rfl agg_3 (rdI_at (by omega) (by omega))) rfl rfl rfl rfl ?_
      refine s_y (y_move rfl) rfl rfl rfl rfl ?_
      refine s_y (y_sub rfl rfl (by omega) (by omega)) rfl rfl rfl rfl ?_
      refine s_y (y_gtr rfl rfl) rfl rfl rfl rfl ?_
      refine s_nil ?_
      refine g_then ?_
      refine g_cond rfl (fun cq3 => ?_) (fun cq3 => ?_)
      · (try simp at cq3)
        refine g_seq ?_
        refine g_region ?_
        refine s_y (y_assign rfl) rfl rfl rfl rfl ?_
        refine s_y (y_assign rfl) rfl rfl rfl rfl ?_
        refine s_y (y_assign rfl) rfl rfl rfl rfl ?_
        refine s_nil ?_
        refine g_then ?_
        refine g_ret ?_
        refine g_inbr ?_
        refine g_thenr ?_
        refine g_thenr ?_
        refine g_inbr ?_
        refine g_thenr ?_
        exact g_end trivial (fun a w ha hq_ => res3 ha rfl rfl rfl rfl  w) (fun w h => ⟨rfl, h.below⟩)
      · (try simp at cq3)
        refine g_skip ?_
        refine g_inb ?_
        refine g_then ?_
        refine g_region ?_
        refine s_y (y_add rfl rfl (by omega) (by omega)) rfl rfl rfl rfl ?_
        refine s_y (y_move rfl) rfl rfl rfl rfl ?_
        refine s_nil ?_
        refine g_then ?_
        exact fun act W ha hw => ⟨i + 1, by omega, by omega, W, (by intro j hj; rcases Nat.lt_or_ge j i with c_ | c_; exact hall j c_; (have e_ : j = i := (by omega)); subst e_; omega), ha.weak (sub_get ⟨rfl, rfl, rfl, rfl, rfl, trivial⟩), hw.toHq.lookSub (List.Sublist.refl _)⟩
    · (try simp at cq2)
      refine g_exit ?_
      refine g_thenx ?_
      refine g_thenx ?_
      refine g_inbx ?_
      refine g_then ?_
      refine g_seq ?_
      refine g_region ?_
      refine s_y (y_move rfl) rfl rfl rfl rfl ?_
      refine s_tr (t_call rfl rfl ent_25 (fun w h => RLift_none1 w _ g (hg.below h.below) 7 hpg (by omega) hq)) rfl rfl rfl rfl (fun _ _ => ?_)
      refine s_y (y_move rfl) rfl rfl rfl rfl ?_
      refine s_y (y_extract rfl rfl) rfl rfl rfl rfl ?_
      refine s_y (y_extract rfl rfl) rfl rfl rfl rfl ?_
      refine s_y (y_assign rfl) rfl rfl rfl rfl ?_
      refine s_y (y_assign rfl) rfl rfl rfl rfl ?_
      refine s_nil ?_
      refine g_then ?_
      refine g_seq ?_
      refine g_seq ?_
      refine g_region ?_
      refine s_y (y_move rfl) rfl rfl rfl rfl ?_
      refine s_y (y_neq_t rfl rfl (by decide)) rfl rfl rfl rfl ?_
      refine s_nil ?_
      refine g_then ?_
      refine g_cond_t rfl ?_
      refine g_seq ?_
      refine g_region ?_
      refine s_y (y_move rfl) rfl rfl rfl rfl ?_
      refine s_y (y_assign rfl) rfl rfl rfl rfl ?_
      refine s_y (y_assign rfl) rfl rfl rfl rfl ?_
      refine s_y (y_assign rfl) rfl rfl rfl rfl ?_
      refine s_nil ?_
      refine g_then ?_
      refine g_ret ?_
      refine g_thenr ?_
      exact g_end trivial (fun a w ha hq_ => res3 ha rfl rfl rfl rfl  w) (fun w h => ⟨rfl, h.below⟩)

theorem RSwap_noneB (w : World) (v v' : Value) (g s : List Int) (hg : RdV (Value.int .i64) w v g) (hs : RdV (Value.int .i64) w v' s) (hp : pairB g s = true) (hsw : ¬ SwOk g s) (hq : notesB (liftL g 7) = true) :
    Calls Try.prog 34 [v, v'].toArray w fun e w' => e = .returned (.tuple #[.slice none 0 0, .slice none 0 0, .int .i64 4]) ∧ Below w.heap.size w w' := by
  obtain ⟨⟨hgl, hgn⟩, hsn, hln⟩ := pair_facts hp
  have hpg : partB g = true := partB_true.2 ⟨hgl, hgn⟩
  have hnq : partB (liftL g 7) = notesB (liftL g 7) := notes_part (by rw [liftL_len]; omega)
  refine enter (N := 50) Try.func34 rfl rfl rfl ?_
  refine g_seq ?_
  refine g_region ?_
  refine s_y (y_assign rfl) rfl rfl rfl rfl ?_
  refine s_y (y_assign rfl) rfl rfl rfl rfl ?_
  refine s_y (y_assign rfl) rfl rfl rfl rfl ?_
  refine s_nil ?_
  refine g_then ?_
  refine g_seq ?_
  refine g_seq ?_
  refine g_region ?_
  refine s_y (y_move rfl) rfl rfl rfl rfl ?_
  refine s_y (y_move rfl) rfl rfl rfl rfl ?_
  refine s_tr (t_call rfl rfl ent_23 (fun w h => RCheck_ok w _ _ g s (hg.below h.below) (hs.below h.below) hp)) rfl rfl rfl rfl (fun _ _ => ?_)
  refine s_y (y_move rfl) rfl rfl rfl rfl ?_
  refine s_y (y_extract rfl rfl) rfl rfl rfl rfl ?_
  refine s_y (y_extract rfl rfl) rfl rfl rfl rfl ?_
  refine s_y (y_extract rfl rfl) rfl rfl rfl rfl ?_
  refine s_y (y_assign rfl) rfl rfl rfl rfl ?_
  refine s_y (y_assign rfl) rfl rfl rfl rfl ?_
  refine s_y (y_assign rfl) rfl rfl rfl rfl ?_
  refine s_nil ?_
  refine g_then ?_
  refine g_seq ?_
  refine g_region ?_
  refine s_y (y_move rfl) rfl rfl rfl rfl ?_
  refine s_y (y_eql rfl rfl) rfl rfl rfl rfl ?_
  refine s_nil ?_
  refine g_then ?_
  refine g_cond rfl (fun cq1 => ?_) (fun cq1 => ?_)
  · (try simp at cq1)
    have hne : ¬ (frs g s).2 = 0 := fun h_ => by rw [chkD_none h_] at cq1; simp at cq1
    refine g_seq ?_
    refine g_region ?_
    refine s_y (y_assign rfl) rfl rfl rfl rfl ?_
    refine s_y (y_assign rfl) rfl rfl rfl rfl ?_
    refine s_y (y_assign rfl) rfl rfl rfl rfl ?_
    refine s_nil ?_
    refine g_then ?_
    refine g_ret ?_
    refine g_thenr ?_
    exact g_end trivial (fun a w ha hq_ => res3 ha rfl rfl rfl rfl  w) (fun w h => ⟨rfl, h.below⟩)
  · (try simp at cq1)
    have hz : (frs g s).2 = 0 := Classical.byContradiction fun h_ => by rw [chkD_some h_] at cq1; simp at cq1
    refine g_skip ?_
    refine g_then ?_
    refine g_seq ?_
    refine g_seq ?_
    refine g_region ?_
    refine s_y (y_move rfl) rfl rfl rfl rfl ?_
    refine s_y (y_lenV (n := g.length) rfl (by obtain ⟨A, c, h1, _⟩ := hg; exact ⟨A, c, h1⟩) sle_22) rfl rfl rfl rfl ?_
    refine s_y (y_move rfl) rfl rfl rfl rfl ?_
    refine s_nil ?_
    refine g_then ?_
    refine g_block ?_
    refine g_loop (fun (i : Nat) act W => i ≤ g.length ∧ ∃ (w1 : World), (∀ j : Nat, j < i → ivI g s (j : Int) ≤ 7) ∧ Has 50 [] [(0, v), (1, v'), (23, v), (24, .int .i64 (g.length : Nat)), (25, .int .i64 (i : Int))] act ∧ Hp w w1 ([]) W) (fun i => g.length - i) 0 (fun act W ha hw => ⟨by omega, W, (by intro j hj; omega), ha.weak (sub_get ⟨rfl, rfl, rfl, rfl, rfl, trivial⟩), hw.toHq.lookSub (List.Sublist.refl _)⟩) ?_
    intro i act W ⟨hb_i, w1, hall, ha, hw⟩
    refine g_go ha hw ?_
    clear ha hw act W
    refine g_seq ?_
    refine g_region ?_
    refine s_y (y_lss rfl rfl) rfl rfl rfl rfl ?_
    refine s_nil ?_
    refine g_then ?_
    refine g_seq ?_
    refine g_cond rfl (fun cq2 => ?_) (fun cq2 => ?_)
    · (try simp at cq2)
      refine g_skip ?_
      refine g_then ?_
      refine g_seq ?_
      refine g_block ?_
      refine g_seq ?_
      have g0 := notes_at hgn (i := (i : Int)) (by omega) (by omega)
      have s0 := notes_at hsn (i := (i : Int)) (by omega) (by omega)
      have q0 : ivI g s (i : Int) = rdI s (i : Int) - rdI g (i : Int) := rfl
      refine g_region ?_
      refine s_y (y_move rfl) rfl rfl rfl rfl ?_
      refine s_y (y_idxV (enc := (Value.int .i64)) rfl rfl hg Try.underlying22 size_3 (by omega) (by omega)) rfl rfl rfl rfl ?_
      refine s_y (y_ldV (enc := (Value.int .i64)) (xs := g) (fun w h => hg.rdl.below h.below) rfl agg_3 (rdI_at (by omega) (by omega))) rfl rfl rfl rfl ?_
      refine s_y (y_assign rfl) rfl rfl rfl rfl ?_
      refine s_y (y_assign rfl) rfl rfl rfl rfl ?_
      refine s_nil ?_
      refine g_then ?_
      refine g_seq ?_
      refine g_region ?_
      refine s_y (y_move rfl) rfl rfl rfl rfl ?_
      refine s_y (y_move rfl) rfl rfl rfl rfl ?_
      refine s_y (y_idxV (enc := (Value.int .i64)) rfl rfl hs Try.underlying22 size_3 (by omega) (by omega)) rfl rfl rfl rfl ?_
      refine s_y (y_ldV (enc := (Value.int .i64)) (xs := s) (fun w h => hs.rdl.below h.below) rfl agg_3 (rdI_at (by omega) (by omega))) rfl rfl rfl rfl ?_
      refine s_y (y_move rfl) rfl rfl rfl rfl ?_
      refine s_y (y_sub rfl rfl (by omega) (by omega)) rfl rfl rfl rfl ?_
      refine s_y (y_gtr rfl rfl) rfl rfl rfl rfl ?_
      refine s_nil ?_
      refine g_then ?_
      refine g_cond rfl (fun cq3 => ?_) (fun cq3 => ?_)
      · (try simp at cq3)
        refine g_seq ?_
        refine g_region ?_
        refine s_y (y_assign rfl) rfl rfl rfl rfl ?_
        refine s_y (y_assign rfl) rfl rfl rfl rfl ?_
        refine s_y (y_assign rfl) rfl rfl rfl rfl ?_
        refine s_nil ?_
        refine g_then ?_
        refine g_ret ?_
        refine g_inbr ?_
        refine g_thenr ?_
        refine g_thenr ?_
        refine g_inbr ?_
        refine g_thenr ?_
        exact g_end trivial (fun a w ha hq_ => res3 ha rfl rfl rfl rfl  w) (fun w h => ⟨rfl, h.below⟩)
      · (try simp at cq3)
        refine g_skip ?_
        refine g_inb ?_
        refine g_then ?_
        refine g_region ?_
        refine s_y (y_add rfl rfl (by omega) (by omega)) rfl rfl rfl rfl ?_
        refine s_y (y_move rfl) rfl rfl rfl rfl ?_
        refine s_nil ?_
        refine g_then ?_
        exact fun act W ha hw => ⟨i + 1, by omega, by omega, W, (by intro j hj; rcases Nat.lt_or_ge j i with c_ | c_; exact hall j c_; (have e_ : j = i := (by omega)); subst e_; omega), ha.weak (sub_get ⟨rfl, rfl, rfl, rfl, rfl, trivial⟩), hw.toHq.lookSub (List.Sublist.refl _)⟩
    · (try simp at cq2)
      refine g_exit ?_
      refine g_thenx ?_
      refine g_thenx ?_
      refine g_inbx ?_
      refine g_then ?_
      refine g_seq ?_
      refine g_region ?_
      refine s_y (y_move rfl) rfl rfl rfl rfl ?_
      refine s_tr (t_callm rfl rfl ent_25 (fun w h => RLift_yes w _ g (hg.below h.below) 7 hpg (by omega) hq)) rfl rfl rfl rfl (fun x5 hx6 => ?_)
      obtain ⟨vo4, mo4⟩ := x5
      obtain ⟨hOo4, hEo4⟩ := hx6
      refine s_y (y_move rfl) rfl rfl rfl rfl ?_
      refine s_y (y_extract rfl rfl) rfl rfl rfl rfl ?_
      refine s_y (y_extract rfl rfl) rfl rfl rfl rfl ?_
      refine s_y (y_assign rfl) rfl rfl rfl rfl ?_
      refine s_y (y_assign rfl) rfl rfl rfl rfl ?_
      refine s_nil ?_
      refine g_then ?_
      refine g_seq ?_
      refine g_seq ?_
      refine g_region ?_
      refine s_y (y_move rfl) rfl rfl rfl rfl ?_
      refine s_y (y_neq_f rfl rfl (by decide)) rfl rfl rfl rfl ?_
      refine s_nil ?_
      refine g_then ?_
      refine g_cond_f rfl ?_
      refine g_skip ?_
      refine g_then ?_
      refine g_seq ?_
      exact absurd ⟨hz, fun j hj => hall j (by omega), hnq.trans hq⟩ hsw

theorem RSwap_none (w : World) (v v' : Value) (g s : List Int) (hg : RdV (Value.int .i64) w v g) (hs : RdV (Value.int .i64) w v' s) (hp : pairB g s = true) (hsw : ¬ SwOk g s) : Calls Try.prog 34 [v, v'].toArray w fun e w' => e = .returned (.tuple #[.slice none 0 0, .slice none 0 0, .int .i64 4]) ∧ Below w.heap.size w w' := by
  cases hq : notesB (liftL g 7) with
  | false => exact RSwap_noneA w v v' g s hg hs hp hsw hq
  | true => exact RSwap_noneB w v v' g s hg hs hp hsw hq

theorem Check_none (w : World) (v v' : Value) (g s : List Int) (hg : RdV (Value.int .i64) w v g) (hs : RdV (Value.int .i64) w v' s) (hp : pairB g s = true) (hz : (frs g s).2 = 0) : Calls Try.prog 21 [v, v'].toArray w fun e w' => e = .returned (.tuple #[.int .i64 0, .int .i64 0, .int .i64 4]) ∧ Below w.heap.size w w' := by
  have h_ := Check_ok w v v' g s hg hs hp
  rw [chkD_none hz] at h_; exact h_
theorem Check_some (w : World) (v v' : Value) (g s : List Int) (hg : RdV (Value.int .i64) w v g) (hs : RdV (Value.int .i64) w v' s) (hp : pairB g s = true) (hz : ¬ (frs g s).2 = 0) : Calls Try.prog 21 [v, v'].toArray w fun e w' => e = .returned (.tuple #[.int .i64 (frs g s).1, .int .i64 (frs g s).2, .int .i64 0]) ∧ Below w.heap.size w w' := by
  have h_ := Check_ok w v v' g s hg hs hp
  rw [chkD_some hz] at h_; exact h_

def rgtB (g s : List Int) : Bool := decide (pairB g s = true ∧ (frs g s).2 = 0)

theorem right_t (w : World) (v v' : Value) (g s : List Int) (hg : RdV (Value.int .i64) w v g) (hs : RdV (Value.int .i64) w v' s) (hp : pairB g s = true) (hz : (frs g s).2 = 0) :
    Calls Try.prog 39 [v, v'].toArray w fun e w' => e = .returned (.bool (true)) ∧ Below w.heap.size w w' := by
  obtain ⟨⟨hgl, hgn⟩, hsn, hln⟩ := pair_facts hp
  refine enter (N := 27) Try.func39 rfl rfl rfl ?_
  refine g_seq ?_
  refine g_region ?_
  refine s_y (y_assign rfl) rfl rfl rfl rfl ?_
  refine s_nil ?_
  refine g_then ?_
  refine g_seq ?_
  refine g_region ?_
  refine s_y (y_move rfl) rfl rfl rfl rfl ?_
  refine s_tr (t_callm rfl rfl ent_17 (fun w h => by have h_ := list_any w _ g (hg.below h.below); rw [List.take_of_length_le (by omega)] at h_; exact h_)) rfl rfl rfl rfl (fun x2 hx3 => ?_)
  obtain ⟨vo1, mo1⟩ := x2
  obtain ⟨hOo1, hEo1⟩ := hx3
  refine s_y (y_move rfl) rfl rfl rfl rfl ?_
  refine s_tr (t_callm rfl rfl ent_17 (fun w h => by have h_ := list_any w _ s (hs.below h.below); rw [List.take_of_length_le (by omega)] at h_; exact h_)) rfl rfl rfl rfl (fun x5 hx6 => ?_)
  obtain ⟨vo4, mo4⟩ := x5
  obtain ⟨hOo4, hEo4⟩ := hx6
  refine s_tr (t_call rfl rfl ent_21 (fun w h => Check_none w _ _ g s (hOo1.rd fun p hp => h.at_ p (mem_ar mo4 (mem_al mo1 hp))) (hOo4.rd fun p hp => h.at_ p (mem_al mo4 hp)) hp hz)) rfl rfl rfl rfl (fun _ _ => ?_)
  refine s_y (y_move rfl) rfl rfl rfl rfl ?_
  refine s_y (y_extract rfl rfl) rfl rfl rfl rfl ?_
  refine s_y (y_extract rfl rfl) rfl rfl rfl rfl ?_
  refine s_y (y_extract rfl rfl) rfl rfl rfl rfl ?_
  refine s_y (y_assign rfl) rfl rfl rfl rfl ?_
  refine s_y (y_assign rfl) rfl rfl rfl rfl ?_
  refine s_y (y_assign rfl) rfl rfl rfl rfl ?_
  refine s_nil ?_
  refine g_then ?_
  refine g_seq ?_
  refine g_region ?_
  refine s_y (y_move rfl) rfl rfl rfl rfl ?_
  refine s_y (y_eql_t rfl rfl (by decide)) rfl rfl rfl rfl ?_
  refine s_y (y_move rfl) rfl rfl rfl rfl ?_
  refine s_y (y_move rfl) rfl rfl rfl rfl ?_
  refine s_y (y_eql_t rfl rfl (by decide)) rfl rfl rfl rfl ?_
  refine s_y (y_pick_t rfl rfl) rfl rfl rfl rfl ?_
  refine s_y (y_move rfl) rfl rfl rfl rfl ?_
  refine s_y (y_move rfl) rfl rfl rfl rfl ?_
  refine s_y (y_eql_t rfl rfl (by decide)) rfl rfl rfl rfl ?_
  refine s_y (y_pick_t rfl rfl) rfl rfl rfl rfl ?_
  refine s_y (y_assign rfl) rfl rfl rfl rfl ?_
  refine s_nil ?_
  refine g_then ?_
  refine g_ret ?_
  exact g_end trivial (fun a w ha hq_ => res1 ha rfl rfl  w) (fun w h => ⟨rfl, h.below⟩)

theorem right_f (w : World) (v v' : Value) (g s : List Int) (hg : RdV (Value.int .i64) w v g) (hs : RdV (Value.int .i64) w v' s) (hp : pairB g s = true) (hz : ¬ (frs g s).2 = 0) :
    Calls Try.prog 39 [v, v'].toArray w fun e w' => e = .returned (.bool (false)) ∧ Below w.heap.size w w' := by
  obtain ⟨⟨hgl, hgn⟩, hsn, hln⟩ := pair_facts hp
  refine enter (N := 27) Try.func39 rfl rfl rfl ?_
  refine g_seq ?_
  refine g_region ?_
  refine s_y (y_assign rfl) rfl rfl rfl rfl ?_
  refine s_nil ?_
  refine g_then ?_
  refine g_seq ?_
  refine g_region ?_
  refine s_y (y_move rfl) rfl rfl rfl rfl ?_
  refine s_tr (t_callm rfl rfl ent_17 (fun w h => by have h_ := list_any w _ g (hg.below h.below); rw [List.take_of_length_le (by omega)] at h_; exact h_)) rfl rfl rfl rfl (fun x2 hx3 => ?_)
  obtain ⟨vo1, mo1⟩ := x2
  obtain ⟨hOo1, hEo1⟩ := hx3
  refine s_y (y_move rfl) rfl rfl rfl rfl ?_
  refine s_tr (t_callm rfl rfl ent_17 (fun w h => by have h_ := list_any w _ s (hs.below h.below); rw [List.take_of_length_le (by omega)] at h_; exact h_)) rfl rfl rfl rfl (fun x5 hx6 => ?_)
  obtain ⟨vo4, mo4⟩ := x5
  obtain ⟨hOo4, hEo4⟩ := hx6
  refine s_tr (t_call rfl rfl ent_21 (fun w h => Check_some w _ _ g s (hOo1.rd fun p hp => h.at_ p (mem_ar mo4 (mem_al mo1 hp))) (hOo4.rd fun p hp => h.at_ p (mem_al mo4 hp)) hp hz)) rfl rfl rfl rfl (fun _ _ => ?_)
  refine s_y (y_move rfl) rfl rfl rfl rfl ?_
  refine s_y (y_extract rfl rfl) rfl rfl rfl rfl ?_
  refine s_y (y_extract rfl rfl) rfl rfl rfl rfl ?_
  refine s_y (y_extract rfl rfl) rfl rfl rfl rfl ?_
  refine s_y (y_assign rfl) rfl rfl rfl rfl ?_
  refine s_y (y_assign rfl) rfl rfl rfl rfl ?_
  refine s_y (y_assign rfl) rfl rfl rfl rfl ?_
  refine s_nil ?_
  refine g_then ?_
  refine g_seq ?_
  refine g_region ?_
  refine s_y (y_move rfl) rfl rfl rfl rfl ?_
  refine s_y (y_eql_f rfl rfl (by decide)) rfl rfl rfl rfl ?_
  refine s_y (y_move rfl) rfl rfl rfl rfl ?_
  refine s_no rfl rfl rfl ?_
  refine s_no rfl rfl rfl ?_
  refine s_y (y_pick_f rfl rfl) rfl rfl rfl rfl ?_
  refine s_y (y_move rfl) rfl rfl rfl rfl ?_
  refine s_no rfl rfl rfl ?_
  refine s_no rfl rfl rfl ?_
  refine s_y (y_pick_f rfl rfl) rfl rfl rfl rfl ?_
  refine s_y (y_assign rfl) rfl rfl rfl rfl ?_
  refine s_nil ?_
  refine g_then ?_
  refine g_ret ?_
  exact g_end trivial (fun a w ha hq_ => res1 ha rfl rfl  w) (fun w h => ⟨rfl, h.below⟩)

theorem right_no (w : World) (v v' : Value) (g s : List Int) (hg : RdV (Value.int .i64) w v g) (hs : RdV (Value.int .i64) w v' s) (hgl : g.length ≤ 9223372036854775807) (hsl : s.length ≤ 9223372036854775807) (hp : pairB (g.take 11) (s.take 11) = false) :
    Calls Try.prog 39 [v, v'].toArray w fun e w' => e = .returned (.bool (false)) ∧ Below w.heap.size w w' := by
  refine enter (N := 27) Try.func39 rfl rfl rfl ?_
  refine g_seq ?_
  refine g_region ?_
  refine s_y (y_assign rfl) rfl rfl rfl rfl ?_
  refine s_nil ?_
  refine g_then ?_
  refine g_seq ?_
  refine g_region ?_
  refine s_y (y_move rfl) rfl rfl rfl rfl ?_
  refine s_tr (t_callm rfl rfl ent_17 (fun w h => list_any w _ g (hg.below h.below))) rfl rfl rfl rfl (fun x2 hx3 => ?_)
  obtain ⟨vo1, mo1⟩ := x2
  obtain ⟨hOo1, hEo1⟩ := hx3
  refine s_y (y_move rfl) rfl rfl rfl rfl ?_
  refine s_tr (t_callm rfl rfl ent_17 (fun w h => list_any w _ s (hs.below h.below))) rfl rfl rfl rfl (fun x5 hx6 => ?_)
  obtain ⟨vo4, mo4⟩ := x5
  obtain ⟨hOo4, hEo4⟩ := hx6
  refine s_tr (t_call rfl rfl ent_21 (fun w h => Check_no w _ _ (g.take 11) (s.take 11) (hOo1.rd fun p hp => h.at_ p (mem_ar mo4 (mem_al mo1 hp))) (hOo4.rd fun p hp => h.at_ p (mem_al mo4 hp)) (by rw [List.length_take]; omega) (by rw [List.length_take]; omega) hp)) rfl rfl rfl rfl (fun _ _ => ?_)
  refine s_y (y_move rfl) rfl rfl rfl rfl ?_
  refine s_y (y_extract rfl rfl) rfl rfl rfl rfl ?_
  refine s_y (y_extract rfl rfl) rfl rfl rfl rfl ?_
  refine s_y (y_extract rfl rfl) rfl rfl rfl rfl ?_
  refine s_y (y_assign rfl) rfl rfl rfl rfl ?_
  refine s_y (y_assign rfl) rfl rfl rfl rfl ?_
  refine s_y (y_assign rfl) rfl rfl rfl rfl ?_
  refine s_nil ?_
  refine g_then ?_
  refine g_seq ?_
  refine g_region ?_
  refine s_y (y_move rfl) rfl rfl rfl rfl ?_
  refine s_y (y_eql_f rfl rfl (by decide)) rfl rfl rfl rfl ?_
  refine s_y (y_move rfl) rfl rfl rfl rfl ?_
  refine s_no rfl rfl rfl ?_
  refine s_no rfl rfl rfl ?_
  refine s_y (y_pick_f rfl rfl) rfl rfl rfl rfl ?_
  refine s_y (y_move rfl) rfl rfl rfl rfl ?_
  refine s_no rfl rfl rfl ?_
  refine s_no rfl rfl rfl ?_
  refine s_y (y_pick_f rfl rfl) rfl rfl rfl rfl ?_
  refine s_y (y_assign rfl) rfl rfl rfl rfl ?_
  refine s_nil ?_
  refine g_then ?_
  refine g_ret ?_
  exact g_end trivial (fun a w ha hq_ => res1 ha rfl rfl  w) (fun w h => ⟨rfl, h.below⟩)

end Go.Proofs.Ytolalckejnijkaa
