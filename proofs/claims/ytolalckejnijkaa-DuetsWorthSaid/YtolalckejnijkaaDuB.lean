/- duets: the rules, broken, first, read. -/
import Derived.Test.YtolalckejnijkaaDuA
namespace Go.Proofs.Ytolalckejnijkaa
open Go.RowKit Go.Sx 
set_option linter.unusedVariables false
set_option linter.unusedSimpArgs false
set_option maxRecDepth 100000
set_option maxHeartbeats 4000000

private theorem fld_48_1 (b off : Nat) (w : World) : (Instr.fieldAt 48 (.pointer (some ⟨b, off, none⟩)) 1).run Try.prog w = .ok (.pointer (some ⟨b, off + 1, none⟩)) w := by kernel_rfl
private theorem agg_22 : isAggB Try.prog 22 = some false := by kernel_rfl
private theorem size_3 : (Try.prog.info? 3).map (·.size) = some 1 := by kernel_rfl
private theorem agg_3 : isAggB Try.prog 3 = some false := by kernel_rfl
private theorem fld_48_0 (b off : Nat) (w : World) : (Instr.fieldAt 48 (.pointer (some ⟨b, off, none⟩)) 0).run Try.prog w = .ok (.pointer (some ⟨b, off, none⟩)) w := by kernel_rfl
private theorem agg_48 : isAggB Try.prog 48 = some true := by kernel_rfl
private theorem size_48 : (Try.prog.info? 48).map (·.size) = some 2 := by kernel_rfl
private theorem ent_58 : Enters Try.prog 58 := enters_of Try.func58 (by kernel_rfl) rfl
private theorem ent_84 : Enters Try.prog 84 := enters_of Try.func84 (by kernel_rfl) rfl
private theorem ent_85 : Enters Try.prog 85 := enters_of Try.func85 (by kernel_rfl) rfl
private theorem ent_73 : Enters Try.prog 73 := enters_of Try.func73 (by kernel_rfl) rfl
private theorem ent_74 : Enters Try.prog 74 := enters_of Try.func74 (by kernel_rfl) rfl
private theorem inf_3 : ∃ ie, Try.prog.info? 3 = some ie ∧ ie.zero = some (.int .i64 0) ∧ ie.size = 1 ∧ ie.bytes = 8 := info_of (by kernel_rfl) (by kernel_rfl)
private theorem sle_22 : Try.prog.underlying 22 = some (.slice (Try.prog.elem 22)) := by kernel_rfl
private theorem ent_32 : Enters Try.prog 32 := enters_of Try.func32 (by kernel_rfl) rfl
private theorem inf_79 : ∃ ie, Try.prog.info? 79 = some ie ∧ ie.zero = some .nilFunc ∧ ie.size = 1 ∧ ie.bytes = 8 := info_of (by kernel_rfl) (by kernel_rfl)
private theorem ent_75 : Enters Try.prog 75 := enters_of Try.func75 (by kernel_rfl) rfl
private theorem sle_77 : Try.prog.underlying 77 = some (.slice (Try.prog.elem 77)) := by kernel_rfl
private theorem size_79 : (Try.prog.info? 79).map (·.size) = some 1 := by kernel_rfl
private theorem agg_79 : isAggB Try.prog 79 = some false := by kernel_rfl
private theorem ent_76 : Enters Try.prog 76 := enters_of Try.func76 (by kernel_rfl) rfl
private theorem ent_77 : Enters Try.prog 77 := enters_of Try.func77 (by kernel_rfl) rfl
private theorem ent_78 : Enters Try.prog 78 := enters_of Try.func78 (by kernel_rfl) rfl
private theorem ent_79 : Enters Try.prog 79 := enters_of Try.func79 (by kernel_rfl) rfl
private theorem ent_80 : Enters Try.prog 80 := enters_of Try.func80 (by kernel_rfl) rfl
private theorem ent_81 : Enters Try.prog 81 := enters_of Try.func81 (by kernel_rfl) rfl
private theorem ent_82 : Enters Try.prog 82 := enters_of Try.func82 (by kernel_rfl) rfl
private theorem ent_83 : Enters Try.prog 83 := enters_of Try.func83 (by kernel_rfl) rfl
private theorem ent_68 : Enters Try.prog 68 := enters_of Try.func68 (by kernel_rfl) rfl
private theorem zero_48 : (Try.prog.info? 48).bind (·.zero) = some (.agg #[(.slice none 0 0), (.slice none 0 0)]) := by kernel_rfl
private theorem bld_48_0_1 (x0a : Option Addr) (x0n x0c : Nat) (x1a : Option Addr) (x1n x1c : Nat) (w : World) : (Instr.build 48 #[(0, (.slice x0a x0n x0c)), (1, (.slice x1a x1n x1c))]).run Try.prog w = .ok (.agg #[(.slice x0a x0n x0c), (.slice x1a x1n x1c)]) w := by kernel_rfl
private theorem ent_46 : Enters Try.prog 46 := enters_of Try.func46 (by kernel_rfl) rfl

def aI (x : Int) : Int := if 0 - x > x then 0 - x else x
theorem aI_spec (x : Int) : (aI x = x ∨ aI x = -x) ∧ 0 ≤ aI x := by unfold aI; split <;> omega
def mvP (xs : List Int) (i : Int) : Int := if i < 1 then 0 else mvI xs i
theorem mvP_spec {xs : List Int} (h : ∀ x ∈ xs, 0 ≤ x ∧ x ≤ 20) {i : Int} (h0 : 0 ≤ i) (h1 : i < xs.length) : (i < 1 → mvP xs i = 0) ∧ (1 ≤ i → mvP xs i = mvI xs i) ∧ (-20 ≤ mvP xs i ∧ mvP xs i ≤ 20) := by
  unfold mvP mvI
  split
  · omega
  · have a1 := notes_at h h0 h1
    have a2 := notes_at h (i := i - 1) (by omega) (by omega)
    omega
theorem ivI_range {g s : List Int} (hgn : ∀ x ∈ g, 0 ≤ x ∧ x ≤ 20) (hsn : ∀ x ∈ s, 0 ≤ x ∧ x ≤ 20) {i : Int} (h0 : 0 ≤ i) (h1 : i < s.length) (h2 : s.length ≤ g.length) : -20 ≤ ivI g s i ∧ ivI g s i ≤ 20 := by
  have a1 := notes_at hgn h0 (by omega)
  have a2 := notes_at hsn h0 h1
  unfold ivI; omega
theorem frsR_skip' {g s : List Int} {i : Nat} (hi : i < s.length) (h : ¬ brk g s i > 0) : frsR g s (s.length - i) i = frsR g s (s.length - (i + 1)) (i + 1) := by
  obtain ⟨k, hk⟩ : ∃ k, s.length - i = k + 1 := ⟨s.length - i - 1, by omega⟩
  rw [hk, frsR_skip h, show s.length - (i + 1) = k by omega]
theorem frsR_hit' {g s : List Int} {i : Nat} (hi : i < s.length) (h : brk g s i > 0) : frsR g s (s.length - i) i = ((i : Int), brk g s i) := by
  obtain ⟨k, hk⟩ : ∃ k, s.length - i = k + 1 := ⟨s.length - i - 1, by omega⟩
  rw [hk, frsR_hit h]

theorem interval_any (w : World) (ag as_ : Option Addr) (cg cs : Nat) (g s : List Int) (hg : RdV (Value.int .i64) w (.slice ag g.length cg) g) (hs : RdV (Value.int .i64) w (.slice as_ s.length cs) s) (i : Int) (h0 : 0 ≤ i) (h1 : i < s.length) (hle : s.length ≤ g.length) (hgn : ∀ x ∈ g, 0 ≤ x ∧ x ≤ 20) (hsn : ∀ x ∈ s, 0 ≤ x ∧ x ≤ 20) :
    Calls Try.prog 58 [.agg #[.slice ag g.length cg, .slice as_ s.length cs], .int .i64 i].toArray w fun e w' => e = .returned (.int .i64 (ivI g s i)) ∧ Below w.heap.size w w' := by
  have a1 := notes_at hgn h0 (by omega)
  have a2 := notes_at hsn h0 h1
  refine enter (N := 16) Try.func58 rfl rfl rfl ?_
  refine g_seq ?_
  refine g_region ?_
  refine s_tr (t_box rfl rfl) rfl rfl rfl rfl (fun bd hbd => ?_)
  refine s_y (y_assign rfl) rfl rfl rfl rfl ?_
  refine s_nil ?_
  refine g_then ?_
  refine g_seq ?_
  refine g_draw 12 (by kernel_rfl) ?_
  refine j_p (i := 0) rfl (y_fld rfl (fun w => fld_48_1 _ _ w)) (by kernel_rfl) (by kernel_rfl) (by kernel_rfl) rfl rfl rfl rfl rfl (.inr (fun _ h => h)) ?_
  refine j_l (i := 1) rfl (y_ld1 0 rfl rfl agg_22 rfl) (by kernel_rfl) (by kernel_rfl) (by kernel_rfl) (by kernel_rfl) rfl rfl rfl rfl rfl (.inr (fun _ h => h)) ?_
  refine j_p (i := 2) rfl (y_move rfl) (by kernel_rfl) (by kernel_rfl) (by kernel_rfl) rfl rfl rfl rfl rfl (.inr (fun _ h => h)) ?_
  refine j_p (i := 3) rfl (y_idxV (enc := (Value.int .i64)) rfl rfl hs Try.underlying22 size_3 (by omega) (by omega)) (by kernel_rfl) (by kernel_rfl) (by kernel_rfl) rfl rfl rfl rfl rfl (.inr (fun _ h => h)) ?_
  refine j_l (i := 4) rfl (y_ldV (enc := (Value.int .i64)) (xs := s) (fun w h => hs.rdl.below h.below) rfl agg_3 (rdI_at (by omega) (by omega))) (by kernel_rfl) (by kernel_rfl) (by kernel_rfl) (by kernel_rfl) rfl rfl rfl rfl rfl (.inr (fun _ h => h)) ?_
  refine j_p (i := 5) rfl (y_fld rfl (fun w => fld_48_0 _ _ w)) (by kernel_rfl) (by kernel_rfl) (by kernel_rfl) rfl rfl rfl rfl rfl (.inr (fun _ h => h)) ?_
  refine j_l (i := 6) rfl (y_ld1 0 rfl rfl agg_22 rfl) (by kernel_rfl) (by kernel_rfl) (by kernel_rfl) (by kernel_rfl) rfl rfl rfl rfl rfl (.inr (fun _ h => h)) ?_
  refine j_p (i := 7) rfl (y_move rfl) (by kernel_rfl) (by kernel_rfl) (by kernel_rfl) rfl rfl rfl rfl rfl (.inr (fun _ h => h)) ?_
  refine j_p (i := 8) rfl (y_idxV (enc := (Value.int .i64)) rfl rfl hg Try.underlying22 size_3 (by omega) (by omega)) (by kernel_rfl) (by kernel_rfl) (by kernel_rfl) rfl rfl rfl rfl rfl (.inr (fun _ h => h)) ?_
  refine j_l (i := 9) rfl (y_ldV (enc := (Value.int .i64)) (xs := g) (fun w h => hg.rdl.below h.below) rfl agg_3 (rdI_at (by omega) (by omega))) (by kernel_rfl) (by kernel_rfl) (by kernel_rfl) (by kernel_rfl) rfl rfl rfl rfl rfl (.inr (fun _ h => h)) ?_
  refine j_p (i := 10) rfl (y_sub rfl rfl (by omega) (by omega)) (by kernel_rfl) (by kernel_rfl) (by kernel_rfl) rfl rfl rfl rfl rfl (.inr (fun _ h => h)) ?_
  refine j_p (i := 11) rfl (y_assign rfl) (by kernel_rfl) (by kernel_rfl) (by kernel_rfl) rfl rfl rfl rfl rfl (.inr (fun _ h => h)) ?_
  refine j_nil (by kernel_rfl) ?_
  refine g_then ?_
  refine g_ret ?_
  exact g_end trivial (fun a w ha hq_ => res1 ha rfl rfl  w) (fun w h => ⟨rfl, h.below⟩)

theorem open_any (w : World) (x : Int) (h0 : 0 ≤ x) :
    Calls Try.prog 84 [.int .i64 x].toArray w fun e w' => e = .returned (.bool (decide (opn x))) ∧ Below w.heap.size w w' := by
  refine enter (N := 11) Try.func84 rfl rfl rfl ?_
  refine g_seq ?_
  refine g_region ?_
  refine s_y (y_assign rfl) rfl rfl rfl rfl ?_
  refine s_nil ?_
  refine g_then ?_
  refine g_seq ?_
  refine g_region ?_
  refine s_y (y_move rfl) rfl rfl rfl rfl ?_
  refine s_y (y_rem rfl rfl (by omega) (by omega)) rfl rfl rfl rfl ?_
  refine s_y (y_eql rfl rfl) rfl rfl rfl rfl ?_
  refine s_y (y_move rfl) rfl rfl rfl rfl ?_
  refine g_bool 6 rfl (fun cq1 => ?_) (fun cq1 => ?_)
  · (try simp at cq1)
    refine s_no rfl rfl rfl ?_
    refine s_no rfl rfl rfl ?_
    refine s_no rfl rfl rfl ?_
    refine s_y (y_pick_t rfl rfl) rfl rfl rfl rfl ?_
    refine s_y (y_assign rfl) rfl rfl rfl rfl ?_
    refine s_nil ?_
    refine g_then ?_
    refine g_ret ?_
    rw [show decide (opn x) = true from by first | exact decide_eq_true (by unfold opn; omega) | exact decide_eq_false (by unfold opn; omega) | exact decide_eq_decide.2 (by unfold opn; constructor <;> intro h_ <;> omega) | (rw [← decide_not]; exact decide_eq_decide.2 (by unfold opn; constructor <;> intro h_ <;> omega))]
    exact g_end trivial (fun a w ha hq_ => res1 ha rfl rfl  w) (fun w h => ⟨rfl, h.below⟩)
  · (try simp at cq1)
    refine s_y (y_move rfl) rfl rfl rfl rfl ?_
    refine s_y (y_rem rfl rfl (by omega) (by omega)) rfl rfl rfl rfl ?_
    refine s_y (y_eql rfl rfl) rfl rfl rfl rfl ?_
    refine s_y (y_pick_f rfl rfl) rfl rfl rfl rfl ?_
    refine s_y (y_assign rfl) rfl rfl rfl rfl ?_
    refine s_nil ?_
    refine g_then ?_
    refine g_ret ?_
    rw [show decide (opn x) = decide ((x % 7) = 4) from by first | exact decide_eq_true (by unfold opn; omega) | exact decide_eq_false (by unfold opn; omega) | exact decide_eq_decide.2 (by unfold opn; constructor <;> intro h_ <;> omega) | (rw [← decide_not]; exact decide_eq_decide.2 (by unfold opn; constructor <;> intro h_ <;> omega))]
    exact g_end trivial (fun a w ha hq_ => res1 ha rfl rfl  w) (fun w h => ⟨rfl, h.below⟩)

theorem sweet_any (w : World) (x : Int) (h0 : 0 ≤ x) :
    Calls Try.prog 85 [.int .i64 x].toArray w fun e w' => e = .returned (.bool (decide (x % 7 = 2 ∨ x % 7 = 5))) ∧ Below w.heap.size w w' := by
  refine enter (N := 11) Try.func85 rfl rfl rfl ?_
  refine g_seq ?_
  refine g_region ?_
  refine s_y (y_assign rfl) rfl rfl rfl rfl ?_
  refine s_nil ?_
  refine g_then ?_
  refine g_seq ?_
  refine g_region ?_
  refine s_y (y_move rfl) rfl rfl rfl rfl ?_
  refine s_y (y_rem rfl rfl (by omega) (by omega)) rfl rfl rfl rfl ?_
  refine s_y (y_eql rfl rfl) rfl rfl rfl rfl ?_
  refine s_y (y_move rfl) rfl rfl rfl rfl ?_
  refine g_bool 6 rfl (fun cq1 => ?_) (fun cq1 => ?_)
  · (try simp at cq1)
    refine s_no rfl rfl rfl ?_
    refine s_no rfl rfl rfl ?_
    refine s_no rfl rfl rfl ?_
    refine s_y (y_pick_t rfl rfl) rfl rfl rfl rfl ?_
    refine s_y (y_assign rfl) rfl rfl rfl rfl ?_
    refine s_nil ?_
    refine g_then ?_
    refine g_ret ?_
    rw [show decide (x % 7 = 2 ∨ x % 7 = 5) = true from by first | exact decide_eq_true (by skip; omega) | exact decide_eq_false (by skip; omega) | exact decide_eq_decide.2 (by skip; constructor <;> intro h_ <;> omega) | (rw [← decide_not]; exact decide_eq_decide.2 (by skip; constructor <;> intro h_ <;> omega))]
    exact g_end trivial (fun a w ha hq_ => res1 ha rfl rfl  w) (fun w h => ⟨rfl, h.below⟩)
  · (try simp at cq1)
    refine s_y (y_move rfl) rfl rfl rfl rfl ?_
    refine s_y (y_rem rfl rfl (by omega) (by omega)) rfl rfl rfl rfl ?_
    refine s_y (y_eql rfl rfl) rfl rfl rfl rfl ?_
    refine s_y (y_pick_f rfl rfl) rfl rfl rfl rfl ?_
    refine s_y (y_assign rfl) rfl rfl rfl rfl ?_
    refine s_nil ?_
    refine g_then ?_
    refine g_ret ?_
    rw [show decide (x % 7 = 2 ∨ x % 7 = 5) = decide ((x % 7) = 5) from by first | exact decide_eq_true (by skip; omega) | exact decide_eq_false (by skip; omega) | exact decide_eq_decide.2 (by skip; constructor <;> intro h_ <;> omega) | (rw [← decide_not]; exact decide_eq_decide.2 (by skip; constructor <;> intro h_ <;> omega))]
    exact g_end trivial (fun a w ha hq_ => res1 ha rfl rfl  w) (fun w h => ⟨rfl, h.below⟩)

theorem abs_any (w : World) (x : Int) (h0 : -1000 ≤ x) (h1 : x ≤ 1000) :
    Calls Try.prog 74 [.int .i64 x].toArray w fun e w' => e = .returned (.int .i64 (aI x)) ∧ Below w.heap.size w w' := by
  refine enter (N := 7) Try.func74 rfl rfl rfl ?_
  refine g_seq ?_
  refine g_region ?_
  refine s_y (y_assign rfl) rfl rfl rfl rfl ?_
  refine s_nil ?_
  refine g_then ?_
  refine g_seq ?_
  refine g_region ?_
  refine s_y (y_move rfl) rfl rfl rfl rfl ?_
  refine s_y (y_move rfl) rfl rfl rfl rfl ?_
  refine s_y (y_neg rfl (by omega) (by omega)) rfl rfl rfl rfl ?_
  refine s_y (y_max rfl rfl) rfl rfl rfl rfl ?_
  refine s_y (y_assign rfl) rfl rfl rfl rfl ?_
  refine s_nil ?_
  refine g_then ?_
  refine g_ret ?_
  exact g_end trivial (fun a w ha hq_ => res1 ha rfl rfl  w) (fun w h => ⟨rfl, h.below⟩)

theorem move_any (w : World) (v : Value) (xs : List Int) (hv : RdV (Value.int .i64) w v xs) (hn : ∀ x ∈ xs, 0 ≤ x ∧ x ≤ 20) (i : Int) (h0 : 0 ≤ i) (h1 : i < xs.length) (hl : xs.length ≤ 1000) :
    Calls Try.prog 73 [v, .int .i64 i].toArray w fun e w' => e = .returned (.int .i64 (mvP xs i)) ∧ Below w.heap.size w w' := by
  refine enter (N := 17) Try.func73 rfl rfl rfl ?_
  refine g_seq ?_
  refine g_region ?_
  refine s_y (y_assign rfl) rfl rfl rfl rfl ?_
  refine s_nil ?_
  refine g_then ?_
  refine g_seq ?_
  refine g_seq ?_
  refine g_region ?_
  refine s_y (y_move rfl) rfl rfl rfl rfl ?_
  refine s_y (y_lss rfl rfl) rfl rfl rfl rfl ?_
  refine s_nil ?_
  refine g_then ?_
  refine g_cond rfl (fun cq1 => ?_) (fun cq1 => ?_)
  · (try simp at cq1)
    rw [show mvP xs i = 0 from if_pos (by omega)]
    refine g_seq ?_
    refine g_region ?_
    refine s_y (y_assign rfl) rfl rfl rfl rfl ?_
    refine s_nil ?_
    refine g_then ?_
    refine g_ret ?_
    refine g_thenr ?_
    exact g_end trivial (fun a w ha hq_ => res1 ha rfl rfl  w) (fun w h => ⟨rfl, h.below⟩)
  · (try simp at cq1)
    rw [show mvP xs i = rdI xs i - rdI xs (i - 1) from if_neg (by omega)]
    have a1 := notes_at hn h0 h1
    have a2 := notes_at hn (i := i - 1) (by omega) (by omega)
    refine g_skip ?_
    refine g_then ?_
    refine g_seq ?_
    refine g_draw 11 (by kernel_rfl) ?_
    refine j_p (i := 0) rfl (y_move rfl) (by kernel_rfl) (by kernel_rfl) (by kernel_rfl) rfl rfl rfl rfl rfl (.inr (fun _ h => h)) ?_
    refine j_p (i := 1) rfl (y_move rfl) (by kernel_rfl) (by kernel_rfl) (by kernel_rfl) rfl rfl rfl rfl rfl (.inr (fun _ h => h)) ?_
    refine j_p (i := 2) rfl (y_idxV (enc := (Value.int .i64)) rfl rfl hv Try.underlying22 size_3 (by omega) (by omega)) (by kernel_rfl) (by kernel_rfl) (by kernel_rfl) rfl rfl rfl rfl rfl (.inr (fun _ h => h)) ?_
    refine j_l (i := 3) rfl (y_ldV (enc := (Value.int .i64)) (xs := xs) (fun w h => hv.rdl.below h.below) rfl agg_3 (rdI_at (by omega) (by omega))) (by kernel_rfl) (by kernel_rfl) (by kernel_rfl) (by kernel_rfl) rfl rfl rfl rfl rfl (.inr (fun _ h => h)) ?_
    refine j_p (i := 4) rfl (y_move rfl) (by kernel_rfl) (by kernel_rfl) (by kernel_rfl) rfl rfl rfl rfl rfl (.inr (fun _ h => h)) ?_
    refine j_p (i := 5) rfl (y_move rfl) (by kernel_rfl) (by kernel_rfl) (by kernel_rfl) rfl rfl rfl rfl rfl (.inr (fun _ h => h)) ?_
    refine j_p (i := 6) rfl (y_sub rfl rfl (by omega) (by omega)) (by kernel_rfl) (by kernel_rfl) (by kernel_rfl) rfl rfl rfl rfl rfl (.inr (fun _ h => h)) ?_
    refine j_p (i := 7) rfl (y_idxV (enc := (Value.int .i64)) rfl rfl hv Try.underlying22 size_3 (by omega) (by omega)) (by kernel_rfl) (by kernel_rfl) (by kernel_rfl) rfl rfl rfl rfl rfl (.inr (fun _ h => h)) ?_
    refine j_l (i := 8) rfl (y_ldV (enc := (Value.int .i64)) (xs := xs) (fun w h => hv.rdl.below h.below) rfl agg_3 (rdI_at (by omega) (by omega))) (by kernel_rfl) (by kernel_rfl) (by kernel_rfl) (by kernel_rfl) rfl rfl rfl rfl rfl (.inr (fun _ h => h)) ?_
    refine j_p (i := 9) rfl (y_sub rfl rfl (by omega) (by omega)) (by kernel_rfl) (by kernel_rfl) (by kernel_rfl) rfl rfl rfl rfl rfl (.inr (fun _ h => h)) ?_
    refine j_p (i := 10) rfl (y_assign rfl) (by kernel_rfl) (by kernel_rfl) (by kernel_rfl) rfl rfl rfl rfl rfl (.inr (fun _ h => h)) ?_
    refine j_nil (by kernel_rfl) ?_
    refine g_then ?_
    refine g_ret ?_
    exact g_end trivial (fun a w ha hq_ => res1 ha rfl rfl  w) (fun w h => ⟨rfl, h.below⟩)

theorem rule0 (w : World) (ag as_ : Option Addr) (cg cs : Nat) (g s : List Int) (hg : RdV (Value.int .i64) w (.slice ag g.length cg) g) (hs : RdV (Value.int .i64) w (.slice as_ s.length cs) s) (i : Nat) (hi : i < s.length) (hle : s.length ≤ g.length) (hgl : g.length ≤ 1000) (hgn : ∀ x ∈ g, 0 ≤ x ∧ x ≤ 20) (hsn : ∀ x ∈ s, 0 ≤ x ∧ x ≤ 20) :
    Calls Try.prog 76 [.agg #[.slice ag g.length cg, .slice as_ s.length cs], .int .i64 (i : Int)].toArray w fun e w' => e = .returned (.bool (decide (R0 (ivI g s (i : Int))))) ∧ Below w.heap.size w w' := by
  have hms := mvP_spec hsn (i := (i : Int)) (by omega) (by omega)
  have hmg := mvP_spec hgn (i := (i : Int)) (by omega) (by omega)
  have ha1 := aI_spec (mvP s (i : Int))
  have hir := ivI_range hgn hsn (i := (i : Int)) (by omega) (by omega) hle
  refine enter (N := 15) Try.func76 rfl rfl rfl ?_
  refine g_seq ?_
  refine g_region ?_
  refine s_tr (t_box rfl rfl) rfl rfl rfl rfl (fun bd hbd => ?_)
  refine s_y (y_assign rfl) rfl rfl rfl rfl ?_
  refine s_nil ?_
  refine g_then ?_
  refine g_seq ?_
  refine g_region ?_
  refine s_y (y_ldn 0 rfl rfl agg_48 size_48 rfl rfl) rfl rfl rfl rfl ?_
  refine s_y (y_move rfl) rfl rfl rfl rfl ?_
  refine s_tr (t_call rfl rfl ent_58 (fun w h => interval_any w ag as_ cg cs g s (hg.below h.below) (hs.below h.below) (i : Int) (by omega) (by omega) hle hgn hsn)) rfl rfl rfl rfl (fun _ _ => ?_)
  refine s_y (y_geq rfl rfl) rfl rfl rfl rfl ?_
  refine s_y (y_move rfl) rfl rfl rfl rfl ?_
  refine g_bool 9 rfl (fun cq1 => ?_) (fun cq1 => ?_)
  · (try simp at cq1)
    refine s_y (y_ldn 0 rfl rfl agg_48 size_48 rfl rfl) rfl rfl rfl rfl ?_
    refine s_y (y_move rfl) rfl rfl rfl rfl ?_
    refine s_tr (t_call rfl rfl ent_58 (fun w h => interval_any w ag as_ cg cs g s (hg.below h.below) (hs.below h.below) (i : Int) (by omega) (by omega) hle hgn hsn)) rfl rfl rfl rfl (fun _ _ => ?_)
    refine s_y (y_leq rfl rfl) rfl rfl rfl rfl ?_
    refine s_y (y_pick_t rfl rfl) rfl rfl rfl rfl ?_
    refine s_y (y_assign rfl) rfl rfl rfl rfl ?_
    refine s_nil ?_
    refine g_then ?_
    refine g_ret ?_
    rw [show decide (R0 (ivI g s (i : Int))) = decide ((ivI g s (i : Int)) ≤ 14) from by first | exact decide_eq_true (by (try unfold R0); (try simp only [opn, not_or, not_and] at *); omega) | exact decide_eq_false (by (try unfold R0); (try simp only [opn, not_or, not_and] at *); omega) | exact decide_eq_decide.2 (by (try unfold R0); (try simp only [opn, not_or, not_and] at *); constructor <;> intro h_ <;> omega) | (rw [← decide_not]; exact decide_eq_decide.2 (by (try unfold R0); (try simp only [opn, not_or, not_and] at *); constructor <;> intro h_ <;> omega))]
    exact g_end trivial (fun a w ha hq_ => res1 ha rfl rfl  w) (fun w h => ⟨rfl, h.below⟩)
  · (try simp at cq1)
    refine s_no rfl rfl rfl ?_
    refine s_no rfl rfl rfl ?_
    refine s_no rfl rfl rfl ?_
    refine s_no rfl rfl rfl ?_
    refine s_y (y_pick_f rfl rfl) rfl rfl rfl rfl ?_
    refine s_y (y_assign rfl) rfl rfl rfl rfl ?_
    refine s_nil ?_
    refine g_then ?_
    refine g_ret ?_
    rw [show decide (R0 (ivI g s (i : Int))) = false from by first | exact decide_eq_true (by (try unfold R0); (try simp only [opn, not_or, not_and] at *); omega) | exact decide_eq_false (by (try unfold R0); (try simp only [opn, not_or, not_and] at *); omega) | exact decide_eq_decide.2 (by (try unfold R0); (try simp only [opn, not_or, not_and] at *); constructor <;> intro h_ <;> omega) | (rw [← decide_not]; exact decide_eq_decide.2 (by (try unfold R0); (try simp only [opn, not_or, not_and] at *); constructor <;> intro h_ <;> omega))]
    exact g_end trivial (fun a w ha hq_ => res1 ha rfl rfl  w) (fun w h => ⟨rfl, h.below⟩)

theorem rule1 (w : World) (ag as_ : Option Addr) (cg cs : Nat) (g s : List Int) (hg : RdV (Value.int .i64) w (.slice ag g.length cg) g) (hs : RdV (Value.int .i64) w (.slice as_ s.length cs) s) (i : Nat) (hi : i < s.length) (hle : s.length ≤ g.length) (hgl : g.length ≤ 1000) (hgn : ∀ x ∈ g, 0 ≤ x ∧ x ≤ 20) (hsn : ∀ x ∈ s, 0 ≤ x ∧ x ≤ 20) (h0 : R0 (ivI g s (i : Int))) :
    Calls Try.prog 77 [.agg #[.slice ag g.length cg, .slice as_ s.length cs], .int .i64 (i : Int)].toArray w fun e w' => e = .returned (.bool (decide (R1 (ivI g s (i : Int))))) ∧ Below w.heap.size w w' := by
  have hms := mvP_spec hsn (i := (i : Int)) (by omega) (by omega)
  have hmg := mvP_spec hgn (i := (i : Int)) (by omega) (by omega)
  have ha1 := aI_spec (mvP s (i : Int))
  have hir := ivI_range hgn hsn (i := (i : Int)) (by omega) (by omega) hle
  have h0' : 0 ≤ ivI g s (i : Int) ∧ ivI g s (i : Int) ≤ 14 := h0
  refine enter (N := 15) Try.func77 rfl rfl rfl ?_
  refine g_seq ?_
  refine g_region ?_
  refine s_tr (t_box rfl rfl) rfl rfl rfl rfl (fun bd hbd => ?_)
  refine s_y (y_assign rfl) rfl rfl rfl rfl ?_
  refine s_nil ?_
  refine g_then ?_
  refine g_seq ?_
  refine g_region ?_
  refine s_y (y_ldn 0 rfl rfl agg_48 size_48 rfl rfl) rfl rfl rfl rfl ?_
  refine s_y (y_move rfl) rfl rfl rfl rfl ?_
  refine s_tr (t_call rfl rfl ent_58 (fun w h => interval_any w ag as_ cg cs g s (hg.below h.below) (hs.below h.below) (i : Int) (by omega) (by omega) hle hgn hsn)) rfl rfl rfl rfl (fun _ _ => ?_)
  refine s_tr (t_call rfl rfl ent_84 (fun w h => open_any w (ivI g s (i : Int)) (by omega))) rfl rfl rfl rfl (fun _ _ => ?_)
  refine s_y (y_move rfl) rfl rfl rfl rfl ?_
  refine g_bool 9 rfl (fun cq1 => ?_) (fun cq1 => ?_)
  · (try simp at cq1)
    refine s_no rfl rfl rfl ?_
    refine s_no rfl rfl rfl ?_
    refine s_no rfl rfl rfl ?_
    refine s_no rfl rfl rfl ?_
    refine s_y (y_pick_t rfl rfl) rfl rfl rfl rfl ?_
    refine s_y (y_assign rfl) rfl rfl rfl rfl ?_
    refine s_nil ?_
    refine g_then ?_
    refine g_ret ?_
    rw [show decide (R1 (ivI g s (i : Int))) = true from by first | exact decide_eq_true (by (try unfold R1); (try simp only [opn, not_or, not_and] at *); omega) | exact decide_eq_false (by (try unfold R1); (try simp only [opn, not_or, not_and] at *); omega) | exact decide_eq_decide.2 (by (try unfold R1); (try simp only [opn, not_or, not_and] at *); constructor <;> intro h_ <;> omega) | (rw [← decide_not]; exact decide_eq_decide.2 (by (try unfold R1); (try simp only [opn, not_or, not_and] at *); constructor <;> intro h_ <;> omega))]
    exact g_end trivial (fun a w ha hq_ => res1 ha rfl rfl  w) (fun w h => ⟨rfl, h.below⟩)
  · (try simp at cq1)
    refine s_y (y_ldn 0 rfl rfl agg_48 size_48 rfl rfl) rfl rfl rfl rfl ?_
    refine s_y (y_move rfl) rfl rfl rfl rfl ?_
    refine s_tr (t_call rfl rfl ent_58 (fun w h => interval_any w ag as_ cg cs g s (hg.below h.below) (hs.below h.below) (i : Int) (by omega) (by omega) hle hgn hsn)) rfl rfl rfl rfl (fun _ _ => ?_)
    refine s_tr (t_call rfl rfl ent_85 (fun w h => sweet_any w (ivI g s (i : Int)) (by omega))) rfl rfl rfl rfl (fun _ _ => ?_)
    refine s_y (y_pick_f rfl rfl) rfl rfl rfl rfl ?_
    refine s_y (y_assign rfl) rfl rfl rfl rfl ?_
    refine s_nil ?_
    refine g_then ?_
    refine g_ret ?_
    rw [show decide (R1 (ivI g s (i : Int))) = decide ((ivI g s (i : Int)) % 7 = 2 ∨ (ivI g s (i : Int)) % 7 = 5) from by first | exact decide_eq_true (by (try unfold R1); (try simp only [opn, not_or, not_and] at *); omega) | exact decide_eq_false (by (try unfold R1); (try simp only [opn, not_or, not_and] at *); omega) | exact decide_eq_decide.2 (by (try unfold R1); (try simp only [opn, not_or, not_and] at *); constructor <;> intro h_ <;> omega) | (rw [← decide_not]; exact decide_eq_decide.2 (by (try unfold R1); (try simp only [opn, not_or, not_and] at *); constructor <;> intro h_ <;> omega))]
    exact g_end trivial (fun a w ha hq_ => res1 ha rfl rfl  w) (fun w h => ⟨rfl, h.below⟩)

theorem rule3 (w : World) (ag as_ : Option Addr) (cg cs : Nat) (g s : List Int) (hg : RdV (Value.int .i64) w (.slice ag g.length cg) g) (hs : RdV (Value.int .i64) w (.slice as_ s.length cs) s) (i : Nat) (hi : i < s.length) (hle : s.length ≤ g.length) (hgl : g.length ≤ 1000) (hgn : ∀ x ∈ g, 0 ≤ x ∧ x ≤ 20) (hsn : ∀ x ∈ s, 0 ≤ x ∧ x ≤ 20) :
    Calls Try.prog 79 [.agg #[.slice ag g.length cg, .slice as_ s.length cs], .int .i64 (i : Int)].toArray w fun e w' => e = .returned (.bool (decide (R3 (i : Int) (mvI s (i : Int))))) ∧ Below w.heap.size w w' := by
  have hms := mvP_spec hsn (i := (i : Int)) (by omega) (by omega)
  have hmg := mvP_spec hgn (i := (i : Int)) (by omega) (by omega)
  have ha1 := aI_spec (mvP s (i : Int))
  have hir := ivI_range hgn hsn (i := (i : Int)) (by omega) (by omega) hle
  refine enter (N := 19) Try.func79 rfl rfl rfl ?_
  refine g_seq ?_
  refine g_region ?_
  refine s_tr (t_box rfl rfl) rfl rfl rfl rfl (fun bd hbd => ?_)
  refine s_y (y_assign rfl) rfl rfl rfl rfl ?_
  refine s_nil ?_
  refine g_then ?_
  refine g_seq ?_
  refine g_region ?_
  refine s_y (y_fld rfl (fun w => fld_48_1 _ _ w)) rfl rfl rfl rfl ?_
  refine s_y (y_ld1 0 rfl rfl agg_22 rfl) rfl rfl rfl rfl ?_
  refine s_y (y_move rfl) rfl rfl rfl rfl ?_
  refine s_tr (t_call rfl rfl ent_73 (fun w h => move_any w _ s (hs.below h.below) hsn (i : Int) (by omega) (by omega) (by omega))) rfl rfl rfl rfl (fun _ _ => ?_)
  refine s_tr (t_call rfl rfl ent_74 (fun w h => abs_any w (mvP s (i : Int)) (by omega) (by omega))) rfl rfl rfl rfl (fun _ _ => ?_)
  refine s_y (y_leq rfl rfl) rfl rfl rfl rfl ?_
  refine s_y (y_move rfl) rfl rfl rfl rfl ?_
  refine g_bool 11 rfl (fun cq1 => ?_) (fun cq1 => ?_)
  · (try simp at cq1)
    refine s_no rfl rfl rfl ?_
    refine s_no rfl rfl rfl ?_
    refine s_no rfl rfl rfl ?_
    refine s_no rfl rfl rfl ?_
    refine s_no rfl rfl rfl ?_
    refine s_no rfl rfl rfl ?_
    refine s_y (y_pick_t rfl rfl) rfl rfl rfl rfl ?_
    refine s_y (y_assign rfl) rfl rfl rfl rfl ?_
    refine s_nil ?_
    refine g_then ?_
    refine g_ret ?_
    rw [show decide (R3 (i : Int) (mvI s (i : Int))) = true from by first | exact decide_eq_true (by (try unfold R3); (try simp only [opn, not_or, not_and] at *); omega) | exact decide_eq_false (by (try unfold R3); (try simp only [opn, not_or, not_and] at *); omega) | exact decide_eq_decide.2 (by (try unfold R3); (try simp only [opn, not_or, not_and] at *); constructor <;> intro h_ <;> omega) | (rw [← decide_not]; exact decide_eq_decide.2 (by (try unfold R3); (try simp only [opn, not_or, not_and] at *); constructor <;> intro h_ <;> omega))]
    exact g_end trivial (fun a w ha hq_ => res1 ha rfl rfl  w) (fun w h => ⟨rfl, h.below⟩)
  · (try simp at cq1)
    refine s_y (y_fld rfl (fun w => fld_48_1 _ _ w)) rfl rfl rfl rfl ?_
    refine s_y (y_ld1 0 rfl rfl agg_22 rfl) rfl rfl rfl rfl ?_
    refine s_y (y_move rfl) rfl rfl rfl rfl ?_
    refine s_tr (t_call rfl rfl ent_73 (fun w h => move_any w _ s (hs.below h.below) hsn (i : Int) (by omega) (by omega) (by omega))) rfl rfl rfl rfl (fun _ _ => ?_)
    refine s_tr (t_call rfl rfl ent_74 (fun w h => abs_any w (mvP s (i : Int)) (by omega) (by omega))) rfl rfl rfl rfl (fun _ _ => ?_)
    refine s_y (y_eql rfl rfl) rfl rfl rfl rfl ?_
    refine s_y (y_pick_f rfl rfl) rfl rfl rfl rfl ?_
    refine s_y (y_assign rfl) rfl rfl rfl rfl ?_
    refine s_nil ?_
    refine g_then ?_
    refine g_ret ?_
    rw [show decide (R3 (i : Int) (mvI s (i : Int))) = decide ((aI (mvP s (i : Int))) = 7) from by first | exact decide_eq_true (by (try unfold R3); (try simp only [opn, not_or, not_and] at *); omega) | exact decide_eq_false (by (try unfold R3); (try simp only [opn, not_or, not_and] at *); omega) | exact decide_eq_decide.2 (by (try unfold R3); (try simp only [opn, not_or, not_and] at *); constructor <;> intro h_ <;> omega) | (rw [← decide_not]; exact decide_eq_decide.2 (by (try unfold R3); (try simp only [opn, not_or, not_and] at *); constructor <;> intro h_ <;> omega))]
    exact g_end trivial (fun a w ha hq_ => res1 ha rfl rfl  w) (fun w h => ⟨rfl, h.below⟩)

theorem rule4 (w : World) (ag as_ : Option Addr) (cg cs : Nat) (g s : List Int) (hg : RdV (Value.int .i64) w (.slice ag g.length cg) g) (hs : RdV (Value.int .i64) w (.slice as_ s.length cs) s) (i : Nat) (hi : i < s.length) (hle : s.length ≤ g.length) (hgl : g.length ≤ 1000) (hgn : ∀ x ∈ g, 0 ≤ x ∧ x ≤ 20) (hsn : ∀ x ∈ s, 0 ≤ x ∧ x ≤ 20) (h0 : R0 (ivI g s (i : Int))) :
    Calls Try.prog 80 [.agg #[.slice ag g.length cg, .slice as_ s.length cs], .int .i64 (i : Int)].toArray w fun e w' => e = .returned (.bool (decide (R4 (i : Int) (ivI g s (i : Int)) (ivI g s ((i : Int) - 1)) (mvI s (i : Int))))) ∧ Below w.heap.size w w' := by
  have hms := mvP_spec hsn (i := (i : Int)) (by omega) (by omega)
  have hmg := mvP_spec hgn (i := (i : Int)) (by omega) (by omega)
  have ha1 := aI_spec (mvP s (i : Int))
  have hir := ivI_range hgn hsn (i := (i : Int)) (by omega) (by omega) hle
  have h0' : 0 ≤ ivI g s (i : Int) ∧ ivI g s (i : Int) ≤ 14 := h0
  have htm := tmod7_zero (x := ivI g s (i : Int) - ivI g s ((i : Int) - 1))
  have hir1 : 1 ≤ (i : Int) → -20 ≤ ivI g s ((i : Int) - 1) ∧ ivI g s ((i : Int) - 1) ≤ 20 := fun h => ivI_range hgn hsn (by omega) (by omega) hle
  refine enter (N := 31) Try.func80 rfl rfl rfl ?_
  refine g_seq ?_
  refine g_region ?_
  refine s_tr (t_box rfl rfl) rfl rfl rfl rfl (fun bd hbd => ?_)
  refine s_y (y_assign rfl) rfl rfl rfl rfl ?_
  refine s_nil ?_
  refine g_then ?_
  refine g_seq ?_
  refine g_seq ?_
  refine g_draw 21 (by kernel_rfl) ?_
  refine j_p (i := 0) rfl (y_move rfl) (by kernel_rfl) (by kernel_rfl) (by kernel_rfl) rfl rfl rfl rfl rfl (.inr (fun _ h => h)) ?_
  refine j_p (i := 1) rfl (y_eql rfl rfl) (by kernel_rfl) (by kernel_rfl) (by kernel_rfl) rfl rfl rfl rfl rfl (.inr (fun _ h => h)) ?_
  refine j_p (i := 2) rfl (y_move rfl) (by kernel_rfl) (by kernel_rfl) (by kernel_rfl) rfl rfl rfl rfl rfl (.inr (fun _ h => h)) ?_
  refine g_bool 7 rfl (fun cq1 => ?_) (fun cq1 => ?_)
  · (try simp at cq1)
    refine j_no (i := 3) rfl (by kernel_rfl) (by kernel_rfl) (by kernel_rfl) rfl rfl rfl rfl rfl (.inr (fun _ h => h)) ?_
    refine j_no (i := 4) rfl (by kernel_rfl) (by kernel_rfl) (by kernel_rfl) rfl rfl rfl rfl rfl (.inr (fun _ h => h)) ?_
    refine j_no (i := 5) rfl (by kernel_rfl) (by kernel_rfl) (by kernel_rfl) rfl rfl rfl rfl rfl (.inr (fun _ h => h)) ?_
    refine j_no (i := 6) rfl (by kernel_rfl) (by kernel_rfl) (by kernel_rfl) rfl rfl rfl rfl rfl (.inr (fun _ h => h)) ?_
    refine j_no (i := 7) rfl (by kernel_rfl) (by kernel_rfl) (by kernel_rfl) rfl rfl rfl rfl rfl (.inr (fun _ h => h)) ?_
    refine j_p (i := 8) rfl (y_pick_t rfl rfl) (by kernel_rfl) (by kernel_rfl) (by kernel_rfl) rfl rfl rfl rfl rfl (.inr (fun _ h => h)) ?_
    refine j_p (i := 9) rfl (y_move rfl) (by kernel_rfl) (by kernel_rfl) (by kernel_rfl) rfl rfl rfl rfl rfl (.inr (fun _ h => h)) ?_
    refine j_no (i := 10) rfl (by kernel_rfl) (by kernel_rfl) (by kernel_rfl) rfl rfl rfl rfl rfl (.inr (fun _ h => h)) ?_
    refine j_no (i := 11) rfl (by kernel_rfl) (by kernel_rfl) (by kernel_rfl) rfl rfl rfl rfl rfl (.inr (fun _ h => h)) ?_
    refine j_no (i := 12) rfl (by kernel_rfl) (by kernel_rfl) (by kernel_rfl) rfl rfl rfl rfl rfl (.inr (fun _ h => h)) ?_
    refine j_no (i := 13) rfl (by kernel_rfl) (by kernel_rfl) (by kernel_rfl) rfl rfl rfl rfl rfl (.inr (fun _ h => h)) ?_
    refine j_no (i := 14) rfl (by kernel_rfl) (by kernel_rfl) (by kernel_rfl) rfl rfl rfl rfl rfl (.inr (fun _ h => h)) ?_
    refine j_no (i := 15) rfl (by kernel_rfl) (by kernel_rfl) (by kernel_rfl) rfl rfl rfl rfl rfl (.inr (fun _ h => h)) ?_
    refine j_no (i := 16) rfl (by kernel_rfl) (by kernel_rfl) (by kernel_rfl) rfl rfl rfl rfl rfl (.inr (fun _ h => h)) ?_
    refine j_no (i := 17) rfl (by kernel_rfl) (by kernel_rfl) (by kernel_rfl) rfl rfl rfl rfl rfl (.inr (fun _ h => h)) ?_
    refine j_no (i := 18) rfl (by kernel_rfl) (by kernel_rfl) (by kernel_rfl) rfl rfl rfl rfl rfl (.inr (fun _ h => h)) ?_
    refine j_no (i := 19) rfl (by kernel_rfl) (by kernel_rfl) (by kernel_rfl) rfl rfl rfl rfl rfl (.inr (fun _ h => h)) ?_
    refine j_p (i := 20) rfl (y_pick_t rfl rfl) (by kernel_rfl) (by kernel_rfl) (by kernel_rfl) rfl rfl rfl rfl rfl (.inr (fun _ h => h)) ?_
    refine j_nil (by kernel_rfl) ?_
    refine g_then ?_
    refine g_cond_t rfl ?_
    refine g_seq ?_
    refine g_region ?_
    refine s_y (y_assign rfl) rfl rfl rfl rfl ?_
    refine s_nil ?_
    refine g_then ?_
    refine g_ret ?_
    refine g_thenr ?_
    rw [show decide (R4 (i : Int) (ivI g s (i : Int)) (ivI g s ((i : Int) - 1)) (mvI s (i : Int))) = true from by first | exact decide_eq_true (by (try unfold R4); (try simp only [opn, not_or, not_and] at *); omega) | exact decide_eq_false (by (try unfold R4); (try simp only [opn, not_or, not_and] at *); omega) | exact decide_eq_decide.2 (by (try unfold R4); (try simp only [opn, not_or, not_and] at *); constructor <;> intro h_ <;> omega) | (rw [← decide_not]; exact decide_eq_decide.2 (by (try unfold R4); (try simp only [opn, not_or, not_and] at *); constructor <;> intro h_ <;> omega))]
    exact g_end trivial (fun a w ha hq_ => res1 ha rfl rfl  w) (fun w h => ⟨rfl, h.below⟩)
  · (try simp at cq1)
    refine j_l (i := 3) rfl (y_ldn 0 rfl rfl agg_48 size_48 rfl rfl) (by kernel_rfl) (by kernel_rfl) (by kernel_rfl) (by kernel_rfl) rfl rfl rfl rfl rfl (.inr (fun _ h => h)) ?_
    refine j_p (i := 4) rfl (y_move rfl) (by kernel_rfl) (by kernel_rfl) (by kernel_rfl) rfl rfl rfl rfl rfl (.inr (fun _ h => h)) ?_
    refine j_tr (i := 5) rfl (t_call rfl rfl ent_58 (fun w h => interval_any w ag as_ cg cs g s (hg.below h.below) (hs.below h.below) (i : Int) (by omega) (by omega) hle hgn hsn)) (by kernel_rfl) rfl rfl rfl rfl (.inr (fun x w hb h => h)) (fun _ _ => ?_)
    refine j_tr (i := 6) rfl (t_call rfl rfl ent_84 (fun w h => open_any w (ivI g s (i : Int)) (by omega))) (by kernel_rfl) rfl rfl rfl rfl (.inr (fun x w hb h => h)) (fun _ _ => ?_)
    refine j_p (i := 7) rfl (y_not rfl) (by kernel_rfl) (by kernel_rfl) (by kernel_rfl) rfl rfl rfl rfl rfl (.inr (fun _ h => h)) ?_
    refine j_p (i := 8) rfl (y_pick_f rfl rfl) (by kernel_rfl) (by kernel_rfl) (by kernel_rfl) rfl rfl rfl rfl rfl (.inr (fun _ h => h)) ?_
    refine j_p (i := 9) rfl (y_move rfl) (by kernel_rfl) (by kernel_rfl) (by kernel_rfl) rfl rfl rfl rfl rfl (.inr (fun _ h => h)) ?_
    refine g_bool 14 rfl (fun cq2 => ?_) (fun cq2 => ?_)
    · (try simp at cq2)
      refine j_no (i := 10) rfl (by kernel_rfl) (by kernel_rfl) (by kernel_rfl) rfl rfl rfl rfl rfl (.inr (fun _ h => h)) ?_
      refine j_no (i := 11) rfl (by kernel_rfl) (by kernel_rfl) (by kernel_rfl) rfl rfl rfl rfl rfl (.inr (fun _ h => h)) ?_
      refine j_no (i := 12) rfl (by kernel_rfl) (by kernel_rfl) (by kernel_rfl) rfl rfl rfl rfl rfl (.inr (fun _ h => h)) ?_
      refine j_no (i := 13) rfl (by kernel_rfl) (by kernel_rfl) (by kernel_rfl) rfl rfl rfl rfl rfl (.inr (fun _ h => h)) ?_
      refine j_no (i := 14) rfl (by kernel_rfl) (by kernel_rfl) (by kernel_rfl) rfl rfl rfl rfl rfl (.inr (fun _ h => h)) ?_
      refine j_no (i := 15) rfl (by kernel_rfl) (by kernel_rfl) (by kernel_rfl) rfl rfl rfl rfl rfl (.inr (fun _ h => h)) ?_
      refine j_no (i := 16) rfl (by kernel_rfl) (by kernel_rfl) (by kernel_rfl) rfl rfl rfl rfl rfl (.inr (fun _ h => h)) ?_
      refine j_no (i := 17) rfl (by kernel_rfl) (by kernel_rfl) (by kernel_rfl) rfl rfl rfl rfl rfl (.inr (fun _ h => h)) ?_
      refine j_no (i := 18) rfl (by kernel_rfl) (by kernel_rfl) (by kernel_rfl) rfl rfl rfl rfl rfl (.inr (fun _ h => h)) ?_
      refine j_no (i := 19) rfl (by kernel_rfl) (by kernel_rfl) (by kernel_rfl) rfl rfl rfl rfl rfl (.inr (fun _ h => h)) ?_
      refine j_p (i := 20) rfl (y_pick_t rfl rfl) (by kernel_rfl) (by kernel_rfl) (by kernel_rfl) rfl rfl rfl rfl rfl (.inr (fun _ h => h)) ?_
      refine j_nil (by kernel_rfl) ?_
      refine g_then ?_
      refine g_cond_t rfl ?_
      refine g_seq ?_
      refine g_region ?_
      refine s_y (y_assign rfl) rfl rfl rfl rfl ?_
      refine s_nil ?_
      refine g_then ?_
      refine g_ret ?_
      refine g_thenr ?_
      rw [show decide (R4 (i : Int) (ivI g s (i : Int)) (ivI g s ((i : Int) - 1)) (mvI s (i : Int))) = true from by first | exact decide_eq_true (by (try unfold R4); (try simp only [opn, not_or, not_and] at *); omega) | exact decide_eq_false (by (try unfold R4); (try simp only [opn, not_or, not_and] at *); omega) | exact decide_eq_decide.2 (by (try unfold R4); (try simp only [opn, not_or, not_and] at *); constructor <;> intro h_ <;> omega) | (rw [← decide_not]; exact decide_eq_decide.2 (by (try unfold R4); (try simp only [opn, not_or, not_and] at *); constructor <;> intro h_ <;> omega))]
      exact g_end trivial (fun a w ha hq_ => res1 ha rfl rfl  w) (fun w h => ⟨rfl, h.below⟩)
    · (try simp at cq2)
      refine j_l (i := 10) rfl (y_ldn 0 rfl rfl agg_48 size_48 rfl rfl) (by kernel_rfl) (by kernel_rfl) (by kernel_rfl) (by kernel_rfl) rfl rfl rfl rfl rfl (.inr (fun _ h => h)) ?_
      refine j_p (i := 11) rfl (y_move rfl) (by kernel_rfl) (by kernel_rfl) (by kernel_rfl) rfl rfl rfl rfl rfl (.inr (fun _ h => h)) ?_
      refine j_l (i := 13) rfl (y_ldn 0 rfl rfl agg_48 size_48 rfl rfl) (by kernel_rfl) (by kernel_rfl) (by kernel_rfl) (by kernel_rfl) rfl rfl rfl rfl rfl (.inr (fun _ h => h)) ?_
      refine j_p (i := 14) rfl (y_move rfl) (by kernel_rfl) (by kernel_rfl) (by kernel_rfl) rfl rfl rfl rfl rfl (.inr (fun _ h => h)) ?_
      refine j_p (i := 15) rfl (y_sub rfl rfl (by omega) (by omega)) (by kernel_rfl) (by kernel_rfl) (by kernel_rfl) rfl rfl rfl rfl rfl (.inr (fun _ h => h)) ?_
      refine j_tr (i := 12) rfl (t_call rfl rfl ent_58 (fun w h => interval_any w ag as_ cg cs g s (hg.below h.below) (hs.below h.below) (i : Int) (by omega) (by omega) hle hgn hsn)) (by kernel_rfl) rfl rfl rfl rfl (.inr (fun x w hb h => h)) (fun _ _ => ?_)
      refine j_tr (i := 16) rfl (t_call rfl rfl ent_58 (fun w h => interval_any w ag as_ cg cs g s (hg.below h.below) (hs.below h.below) ((i : Int) - 1) (by omega) (by omega) hle hgn hsn)) (by kernel_rfl) rfl rfl rfl rfl (.inr (fun x w hb h => h)) (fun _ _ => ?_)
      refine j_p (i := 17) rfl (y_sub rfl rfl (by omega) (by omega)) (by kernel_rfl) (by kernel_rfl) (by kernel_rfl) rfl rfl rfl rfl rfl (.inr (fun _ h => h)) ?_
      refine j_p (i := 18) rfl (y_remt rfl rfl (by omega)) (by kernel_rfl) (by kernel_rfl) (by kernel_rfl) rfl rfl rfl rfl rfl (.inr (fun _ h => h)) ?_
      refine j_p (i := 19) rfl (y_neq rfl rfl) (by kernel_rfl) (by kernel_rfl) (by kernel_rfl) rfl rfl rfl rfl rfl (.inr (fun _ h => h)) ?_
      refine j_p (i := 20) rfl (y_pick_f rfl rfl) (by kernel_rfl) (by kernel_rfl) (by kernel_rfl) rfl rfl rfl rfl rfl (.inr (fun _ h => h)) ?_
      refine j_nil (by kernel_rfl) ?_
      refine g_then ?_
      refine g_cond rfl (fun cq3 => ?_) (fun cq3 => ?_)
      · (try simp at cq3)
        refine g_seq ?_
        refine g_region ?_
        refine s_y (y_assign rfl) rfl rfl rfl rfl ?_
        refine s_nil ?_
        refine g_then ?_
        refine g_ret ?_
        refine g_thenr ?_
        rw [show decide (R4 (i : Int) (ivI g s (i : Int)) (ivI g s ((i : Int) - 1)) (mvI s (i : Int))) = true from by first | exact decide_eq_true (by (try unfold R4); (try simp only [opn, not_or, not_and] at *); omega) | exact decide_eq_false (by (try unfold R4); (try simp only [opn, not_or, not_and] at *); omega) | exact decide_eq_decide.2 (by (try unfold R4); (try simp only [opn, not_or, not_and] at *); constructor <;> intro h_ <;> omega) | (rw [← decide_not]; exact decide_eq_decide.2 (by (try unfold R4); (try simp only [opn, not_or, not_and] at *); constructor <;> intro h_ <;> omega))]
        exact g_end trivial (fun a w ha hq_ => res1 ha rfl rfl  w) (fun w h => ⟨rfl, h.below⟩)
      · (try simp at cq3)
        refine g_skip ?_
        refine g_then ?_
        refine g_seq ?_
        refine g_region ?_
        refine s_y (y_fld rfl (fun w => fld_48_1 _ _ w)) rfl rfl rfl rfl ?_
        refine s_y (y_ld1 0 rfl rfl agg_22 rfl) rfl rfl rfl rfl ?_
        refine s_y (y_move rfl) rfl rfl rfl rfl ?_
        refine s_tr (t_call rfl rfl ent_73 (fun w h => move_any w _ s (hs.below h.below) hsn (i : Int) (by omega) (by omega) (by omega))) rfl rfl rfl rfl (fun _ _ => ?_)
        refine s_y (y_eql rfl rfl) rfl rfl rfl rfl ?_
        refine s_y (y_assign rfl) rfl rfl rfl rfl ?_
        refine s_nil ?_
        refine g_then ?_
        refine g_ret ?_
        rw [show decide (R4 (i : Int) (ivI g s (i : Int)) (ivI g s ((i : Int) - 1)) (mvI s (i : Int))) = decide ((mvP s (i : Int)) = 0) from by first | exact decide_eq_true (by (try unfold R4); (try simp only [opn, not_or, not_and] at *); omega) | exact decide_eq_false (by (try unfold R4); (try simp only [opn, not_or, not_and] at *); omega) | exact decide_eq_decide.2 (by (try unfold R4); (try simp only [opn, not_or, not_and] at *); constructor <;> intro h_ <;> omega) | (rw [← decide_not]; exact decide_eq_decide.2 (by (try unfold R4); (try simp only [opn, not_or, not_and] at *); constructor <;> intro h_ <;> omega))]
        exact g_end trivial (fun a w ha hq_ => res1 ha rfl rfl  w) (fun w h => ⟨rfl, h.below⟩)

theorem rule5 (w : World) (ag as_ : Option Addr) (cg cs : Nat) (g s : List Int) (hg : RdV (Value.int .i64) w (.slice ag g.length cg) g) (hs : RdV (Value.int .i64) w (.slice as_ s.length cs) s) (i : Nat) (hi : i < s.length) (hle : s.length ≤ g.length) (hgl : g.length ≤ 1000) (hgn : ∀ x ∈ g, 0 ≤ x ∧ x ≤ 20) (hsn : ∀ x ∈ s, 0 ≤ x ∧ x ≤ 20) (h0 : R0 (ivI g s (i : Int))) :
    Calls Try.prog 81 [.agg #[.slice ag g.length cg, .slice as_ s.length cs], .int .i64 (i : Int)].toArray w fun e w' => e = .returned (.bool (decide (R5 (i : Int) (ivI g s (i : Int)) (mvI s (i : Int)) (mvI g (i : Int))))) ∧ Below w.heap.size w w' := by
  have hms := mvP_spec hsn (i := (i : Int)) (by omega) (by omega)
  have hmg := mvP_spec hgn (i := (i : Int)) (by omega) (by omega)
  have ha1 := aI_spec (mvP s (i : Int))
  have hir := ivI_range hgn hsn (i := (i : Int)) (by omega) (by omega) hle
  have h0' : 0 ≤ ivI g s (i : Int) ∧ ivI g s (i : Int) ≤ 14 := h0
  have hmul := mul_pos_iff (a := mvP s (i : Int)) (b := mvP g (i : Int))
  refine enter (N := 29) Try.func81 rfl rfl rfl ?_
  refine g_seq ?_
  refine g_region ?_
  refine s_tr (t_box rfl rfl) rfl rfl rfl rfl (fun bd hbd => ?_)
  refine s_y (y_assign rfl) rfl rfl rfl rfl ?_
  refine s_nil ?_
  refine g_then ?_
  refine g_seq ?_
  refine g_region ?_
  refine s_y (y_fld rfl (fun w => fld_48_1 _ _ w)) rfl rfl rfl rfl ?_
  refine s_y (y_ld1 0 rfl rfl agg_22 rfl) rfl rfl rfl rfl ?_
  refine s_y (y_move rfl) rfl rfl rfl rfl ?_
  refine s_tr (t_call rfl rfl ent_73 (fun w h => move_any w _ s (hs.below h.below) hsn (i : Int) (by omega) (by omega) (by omega))) rfl rfl rfl rfl (fun _ _ => ?_)
  refine s_y (y_assign rfl) rfl rfl rfl rfl ?_
  refine s_nil ?_
  refine g_then ?_
  refine g_seq ?_
  refine g_region ?_
  refine s_y (y_ldn 0 rfl rfl agg_48 size_48 rfl rfl) rfl rfl rfl rfl ?_
  refine s_y (y_move rfl) rfl rfl rfl rfl ?_
  refine s_tr (t_call rfl rfl ent_58 (fun w h => interval_any w ag as_ cg cs g s (hg.below h.below) (hs.below h.below) (i : Int) (by omega) (by omega) hle hgn hsn)) rfl rfl rfl rfl (fun _ _ => ?_)
  refine s_tr (t_call rfl rfl ent_84 (fun w h => open_any w (ivI g s (i : Int)) (by omega))) rfl rfl rfl rfl (fun _ _ => ?_)
  refine s_y (y_not rfl) rfl rfl rfl rfl ?_
  refine s_y (y_move rfl) rfl rfl rfl rfl ?_
  refine g_bool 15 rfl (fun cq1 => ?_) (fun cq1 => ?_)
  · (try simp at cq1)
    refine s_no rfl rfl rfl ?_
    refine s_no rfl rfl rfl ?_
    refine s_no rfl rfl rfl ?_
    refine s_no rfl rfl rfl ?_
    refine s_no rfl rfl rfl ?_
    refine s_no rfl rfl rfl ?_
    refine s_no rfl rfl rfl ?_
    refine s_y (y_pick_t rfl rfl) rfl rfl rfl rfl ?_
    refine s_y (y_move rfl) rfl rfl rfl rfl ?_
    refine s_no rfl rfl rfl ?_
    refine s_no rfl rfl rfl ?_
    refine s_no rfl rfl rfl ?_
    refine s_y (y_pick_t rfl rfl) rfl rfl rfl rfl ?_
    refine s_y (y_assign rfl) rfl rfl rfl rfl ?_
    refine s_nil ?_
    refine g_then ?_
    refine g_ret ?_
    rw [show decide (R5 (i : Int) (ivI g s (i : Int)) (mvI s (i : Int)) (mvI g (i : Int))) = true from by first | exact decide_eq_true (by (try unfold R5); (try simp only [opn, not_or, not_and] at *); omega) | exact decide_eq_false (by (try unfold R5); (try simp only [opn, not_or, not_and] at *); omega) | exact decide_eq_decide.2 (by (try unfold R5); (try simp only [opn, not_or, not_and] at *); constructor <;> intro h_ <;> omega) | (rw [← decide_not]; exact decide_eq_decide.2 (by (try unfold R5); (try simp only [opn, not_or, not_and] at *); constructor <;> intro h_ <;> omega))]
    exact g_end trivial (fun a w ha hq_ => res1 ha rfl rfl  w) (fun w h => ⟨rfl, h.below⟩)
  · (try simp at cq1)
    refine s_y (y_move rfl) rfl rfl rfl rfl ?_
    refine s_y (y_fld rfl (fun w => fld_48_0 _ _ w)) rfl rfl rfl rfl ?_
    refine s_y (y_ld1 0 rfl rfl agg_22 rfl) rfl rfl rfl rfl ?_
    refine s_y (y_move rfl) rfl rfl rfl rfl ?_
    refine s_tr (t_call rfl rfl ent_73 (fun w h => move_any w _ g (hg.below h.below) hgn (i : Int) (by omega) (by omega) (by omega))) rfl rfl rfl rfl (fun _ _ => ?_)
    refine s_y (y_mul rfl rfl (by have h_ := mul_bounds (a := mvP s (i : Int)) (b := mvP g (i : Int)) (by omega) (by omega); omega) (by have h_ := mul_bounds (a := mvP s (i : Int)) (b := mvP g (i : Int)) (by omega) (by omega); omega)) rfl rfl rfl rfl ?_
    refine s_y (y_leq rfl rfl) rfl rfl rfl rfl ?_
    refine s_y (y_pick_f rfl rfl) rfl rfl rfl rfl ?_
    refine s_y (y_move rfl) rfl rfl rfl rfl ?_
    refine g_bool 24 rfl (fun cq2 => ?_) (fun cq2 => ?_)
    · (try simp at cq2)
      refine s_no rfl rfl rfl ?_
      refine s_no rfl rfl rfl ?_
      refine s_no rfl rfl rfl ?_
      refine s_y (y_pick_t rfl rfl) rfl rfl rfl rfl ?_
      refine s_y (y_assign rfl) rfl rfl rfl rfl ?_
      refine s_nil ?_
      refine g_then ?_
      refine g_ret ?_
      rw [show decide (R5 (i : Int) (ivI g s (i : Int)) (mvI s (i : Int)) (mvI g (i : Int))) = true from by first | exact decide_eq_true (by (try unfold R5); (try simp only [opn, not_or, not_and] at *); omega) | exact decide_eq_false (by (try unfold R5); (try simp only [opn, not_or, not_and] at *); omega) | exact decide_eq_decide.2 (by (try unfold R5); (try simp only [opn, not_or, not_and] at *); constructor <;> intro h_ <;> omega) | (rw [← decide_not]; exact decide_eq_decide.2 (by (try unfold R5); (try simp only [opn, not_or, not_and] at *); constructor <;> intro h_ <;> omega))]
      exact g_end trivial (fun a w ha hq_ => res1 ha rfl rfl  w) (fun w h => ⟨rfl, h.below⟩)
    · (try simp at cq2)
      refine s_y (y_move rfl) rfl rfl rfl rfl ?_
      refine s_tr (t_call rfl rfl ent_74 (fun w h => abs_any w (mvP s (i : Int)) (by omega) (by omega))) rfl rfl rfl rfl (fun _ _ => ?_)
      refine s_y (y_eql rfl rfl) rfl rfl rfl rfl ?_
      refine s_y (y_pick_f rfl rfl) rfl rfl rfl rfl ?_
      refine s_y (y_assign rfl) rfl rfl rfl rfl ?_
      refine s_nil ?_
      refine g_then ?_
      refine g_ret ?_
      rw [show decide (R5 (i : Int) (ivI g s (i : Int)) (mvI s (i : Int)) (mvI g (i : Int))) = decide ((aI (mvP s (i : Int))) = 1) from by first | exact decide_eq_true (by (try unfold R5); (try simp only [opn, not_or, not_and] at *); omega) | exact decide_eq_false (by (try unfold R5); (try simp only [opn, not_or, not_and] at *); omega) | exact decide_eq_decide.2 (by (try unfold R5); (try simp only [opn, not_or, not_and] at *); constructor <;> intro h_ <;> omega) | (rw [← decide_not]; exact decide_eq_decide.2 (by (try unfold R5); (try simp only [opn, not_or, not_and] at *); constructor <;> intro h_ <;> omega))]
      exact g_end trivial (fun a w ha hq_ => res1 ha rfl rfl  w) (fun w h => ⟨rfl, h.below⟩)

theorem rule6 (w : World) (ag as_ : Option Addr) (cg cs : Nat) (g s : List Int) (hg : RdV (Value.int .i64) w (.slice ag g.length cg) g) (hs : RdV (Value.int .i64) w (.slice as_ s.length cs) s) (i : Nat) (hi : i < s.length) (hle : s.length ≤ g.length) (hgl : g.length ≤ 1000) (hgn : ∀ x ∈ g, 0 ≤ x ∧ x ≤ 20) (hsn : ∀ x ∈ s, 0 ≤ x ∧ x ≤ 20) :
    Calls Try.prog 82 [.agg #[.slice ag g.length cg, .slice as_ s.length cs], .int .i64 (i : Int)].toArray w fun e w' => e = .returned (.bool (decide (R6 (i : Int) (mvI s ((i : Int) - 1)) (mvI s (i : Int))))) ∧ Below w.heap.size w w' := by
  have hms := mvP_spec hsn (i := (i : Int)) (by omega) (by omega)
  have hmg := mvP_spec hgn (i := (i : Int)) (by omega) (by omega)
  have ha1 := aI_spec (mvP s (i : Int))
  have hir := ivI_range hgn hsn (i := (i : Int)) (by omega) (by omega) hle
  have ha2 := aI_spec (mvP s ((i : Int) - 1))
  have hmb : 1 ≤ (i : Int) → ((i : Int) - 1 < 1 → mvP s ((i : Int) - 1) = 0) ∧ (1 ≤ (i : Int) - 1 → mvP s ((i : Int) - 1) = mvI s ((i : Int) - 1)) ∧ (-20 ≤ mvP s ((i : Int) - 1) ∧ mvP s ((i : Int) - 1) ≤ 20) := fun h => mvP_spec hsn (by omega) (by omega)
  have hmul := mul_neg_iff' (a := mvP s ((i : Int) - 1)) (b := mvP s (i : Int))
  refine enter (N := 32) Try.func82 rfl rfl rfl ?_
  refine g_seq ?_
  refine g_region ?_
  refine s_tr (t_box rfl rfl) rfl rfl rfl rfl (fun bd hbd => ?_)
  refine s_y (y_assign rfl) rfl rfl rfl rfl ?_
  refine s_nil ?_
  refine g_then ?_
  refine g_seq ?_
  refine g_seq ?_
  refine g_region ?_
  refine s_y (y_move rfl) rfl rfl rfl rfl ?_
  refine s_y (y_lss rfl rfl) rfl rfl rfl rfl ?_
  refine s_nil ?_
  refine g_then ?_
  refine g_cond rfl (fun cq1 => ?_) (fun cq1 => ?_)
  · (try simp at cq1)
    refine g_seq ?_
    refine g_region ?_
    refine s_y (y_assign rfl) rfl rfl rfl rfl ?_
    refine s_nil ?_
    refine g_then ?_
    refine g_ret ?_
    refine g_thenr ?_
    rw [show decide (R6 (i : Int) (mvI s ((i : Int) - 1)) (mvI s (i : Int))) = true from by first | exact decide_eq_true (by (try unfold R6); (try simp only [opn, not_or, not_and] at *); omega) | exact decide_eq_false (by (try unfold R6); (try simp only [opn, not_or, not_and] at *); omega) | exact decide_eq_decide.2 (by (try unfold R6); (try simp only [opn, not_or, not_and] at *); constructor <;> intro h_ <;> omega) | (rw [← decide_not]; exact decide_eq_decide.2 (by (try unfold R6); (try simp only [opn, not_or, not_and] at *); constructor <;> intro h_ <;> omega))]
    exact g_end trivial (fun a w ha hq_ => res1 ha rfl rfl  w) (fun w h => ⟨rfl, h.below⟩)
  · (try simp at cq1)
    refine g_skip ?_
    refine g_then ?_
    refine g_seq ?_
    refine g_draw 11 (by kernel_rfl) ?_
    refine j_p (i := 0) rfl (y_fld rfl (fun w => fld_48_1 _ _ w)) (by kernel_rfl) (by kernel_rfl) (by kernel_rfl) rfl rfl rfl rfl rfl (.inr (fun _ h => h)) ?_
    refine j_l (i := 1) rfl (y_ld1 0 rfl rfl agg_22 rfl) (by kernel_rfl) (by kernel_rfl) (by kernel_rfl) (by kernel_rfl) rfl rfl rfl rfl rfl (.inr (fun _ h => h)) ?_
    refine j_p (i := 2) rfl (y_move rfl) (by kernel_rfl) (by kernel_rfl) (by kernel_rfl) rfl rfl rfl rfl rfl (.inr (fun _ h => h)) ?_
    refine j_p (i := 3) rfl (y_sub rfl rfl (by omega) (by omega)) (by kernel_rfl) (by kernel_rfl) (by kernel_rfl) rfl rfl rfl rfl rfl (.inr (fun _ h => h)) ?_
    refine j_p (i := 5) rfl (y_fld rfl (fun w => fld_48_1 _ _ w)) (by kernel_rfl) (by kernel_rfl) (by kernel_rfl) rfl rfl rfl rfl rfl (.inr (fun _ h => h)) ?_
    refine j_l (i := 6) rfl (y_ld1 0 rfl rfl agg_22 rfl) (by kernel_rfl) (by kernel_rfl) (by kernel_rfl) (by kernel_rfl) rfl rfl rfl rfl rfl (.inr (fun _ h => h)) ?_
    refine j_p (i := 7) rfl (y_move rfl) (by kernel_rfl) (by kernel_rfl) (by kernel_rfl) rfl rfl rfl rfl rfl (.inr (fun _ h => h)) ?_
    refine j_tr (i := 4) rfl (t_call rfl rfl ent_73 (fun w h => move_any w _ s (hs.below h.below) hsn ((i : Int) - 1) (by omega) (by omega) (by omega))) (by kernel_rfl) rfl rfl rfl rfl (.inr (fun x w hb h => h)) (fun _ _ => ?_)
    refine j_tr (i := 8) rfl (t_call rfl rfl ent_73 (fun w h => move_any w _ s (hs.below h.below) hsn (i : Int) (by omega) (by omega) (by omega))) (by kernel_rfl) rfl rfl rfl rfl (.inr (fun x w hb h => h)) (fun _ _ => ?_)
    refine j_p (i := 9) rfl (y_assign rfl) (by kernel_rfl) (by kernel_rfl) (by kernel_rfl) rfl rfl rfl rfl rfl (.inr (fun _ h => h)) ?_
    refine j_p (i := 10) rfl (y_assign rfl) (by kernel_rfl) (by kernel_rfl) (by kernel_rfl) rfl rfl rfl rfl rfl (.inr (fun _ h => h)) ?_
    refine j_nil (by kernel_rfl) ?_
    refine g_then ?_
    refine g_seq ?_
    refine g_region ?_
    refine s_y (y_move rfl) rfl rfl rfl rfl ?_
    refine s_tr (t_call rfl rfl ent_74 (fun w h => abs_any w (mvP s ((i : Int) - 1)) (by omega) (by omega))) rfl rfl rfl rfl (fun _ _ => ?_)
    refine s_y (y_leq rfl rfl) rfl rfl rfl rfl ?_
    refine s_y (y_move rfl) rfl rfl rfl rfl ?_
    refine g_bool 21 rfl (fun cq2 => ?_) (fun cq2 => ?_)
    · (try simp at cq2)
      refine s_no rfl rfl rfl ?_
      refine s_no rfl rfl rfl ?_
      refine s_no rfl rfl rfl ?_
      refine s_no rfl rfl rfl ?_
      refine s_no rfl rfl rfl ?_
      refine s_noU rfl rfl rfl rfl rfl ?_
      refine s_noU rfl rfl rfl rfl rfl ?_
      refine s_noU rfl rfl rfl rfl rfl ?_
      refine s_no rfl rfl rfl ?_
      refine s_y (y_pick_t rfl rfl) rfl rfl rfl rfl ?_
      refine s_y (y_assign rfl) rfl rfl rfl rfl ?_
      refine s_nil ?_
      refine g_then ?_
      refine g_ret ?_
      rw [show decide (R6 (i : Int) (mvI s ((i : Int) - 1)) (mvI s (i : Int))) = true from by first | exact decide_eq_true (by (try unfold R6); (try simp only [opn, not_or, not_and] at *); omega) | exact decide_eq_false (by (try unfold R6); (try simp only [opn, not_or, not_and] at *); omega) | exact decide_eq_decide.2 (by (try unfold R6); (try simp only [opn, not_or, not_and] at *); constructor <;> intro h_ <;> omega) | (rw [← decide_not]; exact decide_eq_decide.2 (by (try unfold R6); (try simp only [opn, not_or, not_and] at *); constructor <;> intro h_ <;> omega))]
      exact g_end trivial (fun a w ha hq_ => res1 ha rfl rfl  w) (fun w h => ⟨rfl, h.below⟩)
    · (try simp at cq2)
      refine s_y (y_move rfl) rfl rfl rfl rfl ?_
      refine s_y (y_move rfl) rfl rfl rfl rfl ?_
      refine s_y (y_mul rfl rfl (by have h_ := mul_bounds (a := mvP s ((i : Int) - 1)) (b := mvP s (i : Int)) (by omega) (by omega); omega) (by have h_ := mul_bounds (a := mvP s ((i : Int) - 1)) (b := mvP s (i : Int)) (by omega) (by omega); omega)) rfl rfl rfl rfl ?_
      refine s_y (y_lss rfl rfl) rfl rfl rfl rfl ?_
      refine s_y (y_move rfl) rfl rfl rfl rfl ?_
      refine g_bool 26 rfl (fun cq3 => ?_) (fun cq3 => ?_)
      · (try simp at cq3)
        refine s_y (y_move rfl) rfl rfl rfl rfl ?_
        refine s_tr (t_call rfl rfl ent_74 (fun w h => abs_any w (mvP s (i : Int)) (by omega) (by omega))) rfl rfl rfl rfl (fun _ _ => ?_)
        refine s_y (y_leq rfl rfl) rfl rfl rfl rfl ?_
        refine s_y (y_pick_t rfl rfl) rfl rfl rfl rfl ?_
        refine s_y (y_pick_f rfl rfl) rfl rfl rfl rfl ?_
        refine s_y (y_assign rfl) rfl rfl rfl rfl ?_
        refine s_nil ?_
        refine g_then ?_
        refine g_ret ?_
        rw [show decide (R6 (i : Int) (mvI s ((i : Int) - 1)) (mvI s (i : Int))) = decide ((aI (mvP s (i : Int))) ≤ 2) from by first | exact decide_eq_true (by (try unfold R6); (try simp only [opn, not_or, not_and] at *); omega) | exact decide_eq_false (by (try unfold R6); (try simp only [opn, not_or, not_and] at *); omega) | exact decide_eq_decide.2 (by (try unfold R6); (try simp only [opn, not_or, not_and] at *); constructor <;> intro h_ <;> omega) | (rw [← decide_not]; exact decide_eq_decide.2 (by (try unfold R6); (try simp only [opn, not_or, not_and] at *); constructor <;> intro h_ <;> omega))]
        exact g_end trivial (fun a w ha hq_ => res1 ha rfl rfl  w) (fun w h => ⟨rfl, h.below⟩)
      · (try simp at cq3)
        refine s_no rfl rfl rfl ?_
        refine s_no rfl rfl rfl ?_
        refine s_no rfl rfl rfl ?_
        refine s_y (y_pick_f rfl rfl) rfl rfl rfl rfl ?_
        refine s_y (y_pick_f rfl rfl) rfl rfl rfl rfl ?_
        refine s_y (y_assign rfl) rfl rfl rfl rfl ?_
        refine s_nil ?_
        refine g_then ?_
        refine g_ret ?_
        rw [show decide (R6 (i : Int) (mvI s ((i : Int) - 1)) (mvI s (i : Int))) = false from by first | exact decide_eq_true (by (try unfold R6); (try simp only [opn, not_or, not_and] at *); omega) | exact decide_eq_false (by (try unfold R6); (try simp only [opn, not_or, not_and] at *); omega) | exact decide_eq_decide.2 (by (try unfold R6); (try simp only [opn, not_or, not_and] at *); constructor <;> intro h_ <;> omega) | (rw [← decide_not]; exact decide_eq_decide.2 (by (try unfold R6); (try simp only [opn, not_or, not_and] at *); constructor <;> intro h_ <;> omega))]
        exact g_end trivial (fun a w ha hq_ => res1 ha rfl rfl  w) (fun w h => ⟨rfl, h.below⟩)

theorem rule7 (w : World) (ag as_ : Option Addr) (cg cs : Nat) (g s : List Int) (hg : RdV (Value.int .i64) w (.slice ag g.length cg) g) (hs : RdV (Value.int .i64) w (.slice as_ s.length cs) s) (i : Nat) (hi : i < s.length) (hle : s.length ≤ g.length) (hgl : g.length ≤ 1000) (hgn : ∀ x ∈ g, 0 ≤ x ∧ x ≤ 20) (hsn : ∀ x ∈ s, 0 ≤ x ∧ x ≤ 20) :
    Calls Try.prog 83 [.agg #[.slice ag g.length cg, .slice as_ s.length cs], .int .i64 (i : Int)].toArray w fun e w' => e = .returned (.bool (decide (R7 (i : Int) (mvI s ((i : Int) - 1)) (mvI s (i : Int))))) ∧ Below w.heap.size w w' := by
  have hms := mvP_spec hsn (i := (i : Int)) (by omega) (by omega)
  have hmg := mvP_spec hgn (i := (i : Int)) (by omega) (by omega)
  have ha1 := aI_spec (mvP s (i : Int))
  have hir := ivI_range hgn hsn (i := (i : Int)) (by omega) (by omega) hle
  have e2 : rdI s ((i : Int) - 1 - 1) = rdI s ((i : Int) - 2) := by rw [show (i : Int) - 1 - 1 = (i : Int) - 2 by omega]
  refine enter (N := 35) Try.func83 rfl rfl rfl ?_
  refine g_seq ?_
  refine g_region ?_
  refine s_tr (t_box rfl rfl) rfl rfl rfl rfl (fun bd hbd => ?_)
  refine s_y (y_assign rfl) rfl rfl rfl rfl ?_
  refine s_nil ?_
  refine g_then ?_
  refine g_seq ?_
  refine g_draw 31 (by kernel_rfl) ?_
  refine j_p (i := 0) rfl (y_move rfl) (by kernel_rfl) (by kernel_rfl) (by kernel_rfl) rfl rfl rfl rfl rfl (.inr (fun _ h => h)) ?_
  refine j_p (i := 1) rfl (y_lss rfl rfl) (by kernel_rfl) (by kernel_rfl) (by kernel_rfl) rfl rfl rfl rfl rfl (.inr (fun _ h => h)) ?_
  refine j_p (i := 2) rfl (y_move rfl) (by kernel_rfl) (by kernel_rfl) (by kernel_rfl) rfl rfl rfl rfl rfl (.inr (fun _ h => h)) ?_
  refine g_bool 7 rfl (fun cq1 => ?_) (fun cq1 => ?_)
  · (try simp at cq1)
    refine j_no (i := 3) rfl (by kernel_rfl) (by kernel_rfl) (by kernel_rfl) rfl rfl rfl rfl rfl (.inr (fun _ h => h)) ?_
    refine j_no (i := 4) rfl (by kernel_rfl) (by kernel_rfl) (by kernel_rfl) rfl rfl rfl rfl rfl (.inr (fun _ h => h)) ?_
    refine j_no (i := 5) rfl (by kernel_rfl) (by kernel_rfl) (by kernel_rfl) rfl rfl rfl rfl rfl (.inr (fun _ h => h)) ?_
    refine j_no (i := 6) rfl (by kernel_rfl) (by kernel_rfl) (by kernel_rfl) rfl rfl rfl rfl rfl (.inr (fun _ h => h)) ?_
    refine j_no (i := 7) rfl (by kernel_rfl) (by kernel_rfl) (by kernel_rfl) rfl rfl rfl rfl rfl (.inr (fun _ h => h)) ?_
    refine j_no (i := 8) rfl (by kernel_rfl) (by kernel_rfl) (by kernel_rfl) rfl rfl rfl rfl rfl (.inr (fun _ h => h)) ?_
    refine j_no (i := 9) rfl (by kernel_rfl) (by kernel_rfl) (by kernel_rfl) rfl rfl rfl rfl rfl (.inr (fun _ h => h)) ?_
    refine j_no (i := 10) rfl (by kernel_rfl) (by kernel_rfl) (by kernel_rfl) rfl rfl rfl rfl rfl (.inr (fun _ h => h)) ?_
    refine j_no (i := 11) rfl (by kernel_rfl) (by kernel_rfl) (by kernel_rfl) rfl rfl rfl rfl rfl (.inr (fun _ h => h)) ?_
    refine j_no (i := 12) rfl (by kernel_rfl) (by kernel_rfl) (by kernel_rfl) rfl rfl rfl rfl rfl (.inr (fun _ h => h)) ?_
    refine j_no (i := 13) rfl (by kernel_rfl) (by kernel_rfl) (by kernel_rfl) rfl rfl rfl rfl rfl (.inr (fun _ h => h)) ?_
    refine j_no (i := 14) rfl (by kernel_rfl) (by kernel_rfl) (by kernel_rfl) rfl rfl rfl rfl rfl (.inr (fun _ h => h)) ?_
    refine j_p (i := 15) rfl (y_pick_t rfl rfl) (by kernel_rfl) (by kernel_rfl) (by kernel_rfl) rfl rfl rfl rfl rfl (.inr (fun _ h => h)) ?_
    refine j_p (i := 16) rfl (y_move rfl) (by kernel_rfl) (by kernel_rfl) (by kernel_rfl) rfl rfl rfl rfl rfl (.inr (fun _ h => h)) ?_
    refine j_no (i := 17) rfl (by kernel_rfl) (by kernel_rfl) (by kernel_rfl) rfl rfl rfl rfl rfl (.inr (fun _ h => h)) ?_
    refine j_no (i := 18) rfl (by kernel_rfl) (by kernel_rfl) (by kernel_rfl) rfl rfl rfl rfl rfl (.inr (fun _ h => h)) ?_
    refine j_no (i := 19) rfl (by kernel_rfl) (by kernel_rfl) (by kernel_rfl) rfl rfl rfl rfl rfl (.inr (fun _ h => h)) ?_
    refine j_no (i := 20) rfl (by kernel_rfl) (by kernel_rfl) (by kernel_rfl) rfl rfl rfl rfl rfl (.inr (fun _ h => h)) ?_
    refine j_no (i := 21) rfl (by kernel_rfl) (by kernel_rfl) (by kernel_rfl) rfl rfl rfl rfl rfl (.inr (fun _ h => h)) ?_
    refine j_no (i := 22) rfl (by kernel_rfl) (by kernel_rfl) (by kernel_rfl) rfl rfl rfl rfl rfl (.inr (fun _ h => h)) ?_
    refine j_no (i := 23) rfl (by kernel_rfl) (by kernel_rfl) (by kernel_rfl) rfl rfl rfl rfl rfl (.inr (fun _ h => h)) ?_
    refine j_no (i := 24) rfl (by kernel_rfl) (by kernel_rfl) (by kernel_rfl) rfl rfl rfl rfl rfl (.inr (fun _ h => h)) ?_
    refine j_no (i := 25) rfl (by kernel_rfl) (by kernel_rfl) (by kernel_rfl) rfl rfl rfl rfl rfl (.inr (fun _ h => h)) ?_
    refine j_no (i := 26) rfl (by kernel_rfl) (by kernel_rfl) (by kernel_rfl) rfl rfl rfl rfl rfl (.inr (fun _ h => h)) ?_
    refine j_no (i := 27) rfl (by kernel_rfl) (by kernel_rfl) (by kernel_rfl) rfl rfl rfl rfl rfl (.inr (fun _ h => h)) ?_
    refine j_no (i := 28) rfl (by kernel_rfl) (by kernel_rfl) (by kernel_rfl) rfl rfl rfl rfl rfl (.inr (fun _ h => h)) ?_
    refine j_p (i := 29) rfl (y_pick_t rfl rfl) (by kernel_rfl) (by kernel_rfl) (by kernel_rfl) rfl rfl rfl rfl rfl (.inr (fun _ h => h)) ?_
    refine j_p (i := 30) rfl (y_assign rfl) (by kernel_rfl) (by kernel_rfl) (by kernel_rfl) rfl rfl rfl rfl rfl (.inr (fun _ h => h)) ?_
    refine j_nil (by kernel_rfl) ?_
    refine g_then ?_
    refine g_ret ?_
    rw [show decide (R7 (i : Int) (mvI s ((i : Int) - 1)) (mvI s (i : Int))) = true from by first | exact decide_eq_true (by (try unfold R7 mvI); (try simp only [opn, not_or, not_and] at *); omega) | exact decide_eq_false (by (try unfold R7 mvI); (try simp only [opn, not_or, not_and] at *); omega) | exact decide_eq_decide.2 (by (try unfold R7 mvI); (try simp only [opn, not_or, not_and] at *); constructor <;> intro h_ <;> omega) | (rw [← decide_not]; exact decide_eq_decide.2 (by (try unfold R7 mvI); (try simp only [opn, not_or, not_and] at *); constructor <;> intro h_ <;> omega))]
    exact g_end trivial (fun a w ha hq_ => res1 ha rfl rfl  w) (fun w h => ⟨rfl, h.below⟩)
  · (try simp at cq1)
    refine j_p (i := 3) rfl (y_fld rfl (fun w => fld_48_1 _ _ w)) (by kernel_rfl) (by kernel_rfl) (by kernel_rfl) rfl rfl rfl rfl rfl (.inr (fun _ h => h)) ?_
    refine j_l (i := 4) rfl (y_ld1 0 rfl rfl agg_22 rfl) (by kernel_rfl) (by kernel_rfl) (by kernel_rfl) (by kernel_rfl) rfl rfl rfl rfl rfl (.inr (fun _ h => h)) ?_
    refine j_p (i := 5) rfl (y_move rfl) (by kernel_rfl) (by kernel_rfl) (by kernel_rfl) rfl rfl rfl rfl rfl (.inr (fun _ h => h)) ?_
    refine j_p (i := 6) rfl (y_idxV (enc := (Value.int .i64)) rfl rfl hs Try.underlying22 size_3 (by omega) (by omega)) (by kernel_rfl) (by kernel_rfl) (by kernel_rfl) rfl rfl rfl rfl rfl (.inr (fun _ h => h)) ?_
    refine j_l (i := 7) rfl (y_ldV (enc := (Value.int .i64)) (xs := s) (fun w h => hs.rdl.below h.below) rfl agg_3 (rdI_at (by omega) (by omega))) (by kernel_rfl) (by kernel_rfl) (by kernel_rfl) (by kernel_rfl) rfl rfl rfl rfl rfl (.inr (fun _ h => h)) ?_
    refine j_p (i := 8) rfl (y_fld rfl (fun w => fld_48_1 _ _ w)) (by kernel_rfl) (by kernel_rfl) (by kernel_rfl) rfl rfl rfl rfl rfl (.inr (fun _ h => h)) ?_
    refine j_l (i := 9) rfl (y_ld1 0 rfl rfl agg_22 rfl) (by kernel_rfl) (by kernel_rfl) (by kernel_rfl) (by kernel_rfl) rfl rfl rfl rfl rfl (.inr (fun _ h => h)) ?_
    refine j_p (i := 10) rfl (y_move rfl) (by kernel_rfl) (by kernel_rfl) (by kernel_rfl) rfl rfl rfl rfl rfl (.inr (fun _ h => h)) ?_
    refine j_p (i := 11) rfl (y_sub rfl rfl (by omega) (by omega)) (by kernel_rfl) (by kernel_rfl) (by kernel_rfl) rfl rfl rfl rfl rfl (.inr (fun _ h => h)) ?_
    refine j_p (i := 12) rfl (y_idxV (enc := (Value.int .i64)) rfl rfl hs Try.underlying22 size_3 (by omega) (by omega)) (by kernel_rfl) (by kernel_rfl) (by kernel_rfl) rfl rfl rfl rfl rfl (.inr (fun _ h => h)) ?_
    refine j_l (i := 13) rfl (y_ldV (enc := (Value.int .i64)) (xs := s) (fun w h => hs.rdl.below h.below) rfl agg_3 (rdI_at (by omega) (by omega))) (by kernel_rfl) (by kernel_rfl) (by kernel_rfl) (by kernel_rfl) rfl rfl rfl rfl rfl (.inr (fun _ h => h)) ?_
    refine j_p (i := 14) rfl (y_neq rfl rfl) (by kernel_rfl) (by kernel_rfl) (by kernel_rfl) rfl rfl rfl rfl rfl (.inr (fun _ h => h)) ?_
    refine j_p (i := 15) rfl (y_pick_f rfl rfl) (by kernel_rfl) (by kernel_rfl) (by kernel_rfl) rfl rfl rfl rfl rfl (.inr (fun _ h => h)) ?_
    refine j_p (i := 16) rfl (y_move rfl) (by kernel_rfl) (by kernel_rfl) (by kernel_rfl) rfl rfl rfl rfl rfl (.inr (fun _ h => h)) ?_
    refine g_bool 21 rfl (fun cq2 => ?_) (fun cq2 => ?_)
    · (try simp at cq2)
      refine j_no (i := 17) rfl (by kernel_rfl) (by kernel_rfl) (by kernel_rfl) rfl rfl rfl rfl rfl (.inr (fun _ h => h)) ?_
      refine j_no (i := 18) rfl (by kernel_rfl) (by kernel_rfl) (by kernel_rfl) rfl rfl rfl rfl rfl (.inr (fun _ h => h)) ?_
      refine j_no (i := 19) rfl (by kernel_rfl) (by kernel_rfl) (by kernel_rfl) rfl rfl rfl rfl rfl (.inr (fun _ h => h)) ?_
      refine j_no (i := 20) rfl (by kernel_rfl) (by kernel_rfl) (by kernel_rfl) rfl rfl rfl rfl rfl (.inr (fun _ h => h)) ?_
      refine j_no (i := 21) rfl (by kernel_rfl) (by kernel_rfl) (by kernel_rfl) rfl rfl rfl rfl rfl (.inr (fun _ h => h)) ?_
      refine j_no (i := 22) rfl (by kernel_rfl) (by kernel_rfl) (by kernel_rfl) rfl rfl rfl rfl rfl (.inr (fun _ h => h)) ?_
      refine j_no (i := 23) rfl (by kernel_rfl) (by kernel_rfl) (by kernel_rfl) rfl rfl rfl rfl rfl (.inr (fun _ h => h)) ?_
      refine j_no (i := 24) rfl (by kernel_rfl) (by kernel_rfl) (by kernel_rfl) rfl rfl rfl rfl rfl (.inr (fun _ h => h)) ?_
      refine j_no (i := 25) rfl (by kernel_rfl) (by kernel_rfl) (by kernel_rfl) rfl rfl rfl rfl rfl (.inr (fun _ h => h)) ?_
      refine j_no (i := 26) rfl (by kernel_rfl) (by kernel_rfl) (by kernel_rfl) rfl rfl rfl rfl rfl (.inr (fun _ h => h)) ?_
      refine j_no (i := 27) rfl (by kernel_rfl) (by kernel_rfl) (by kernel_rfl) rfl rfl rfl rfl rfl (.inr (fun _ h => h)) ?_
      refine j_no (i := 28) rfl (by kernel_rfl) (by kernel_rfl) (by kernel_rfl) rfl rfl rfl rfl rfl (.inr (fun _ h => h)) ?_
      refine j_p (i := 29) rfl (y_pick_t rfl rfl) (by kernel_rfl) (by kernel_rfl) (by kernel_rfl) rfl rfl rfl rfl rfl (.inr (fun _ h => h)) ?_
      refine j_p (i := 30) rfl (y_assign rfl) (by kernel_rfl) (by kernel_rfl) (by kernel_rfl) rfl rfl rfl rfl rfl (.inr (fun _ h => h)) ?_
      refine j_nil (by kernel_rfl) ?_
      refine g_then ?_
      refine g_ret ?_
      rw [show decide (R7 (i : Int) (mvI s ((i : Int) - 1)) (mvI s (i : Int))) = true from by first | exact decide_eq_true (by (try unfold R7 mvI); (try simp only [opn, not_or, not_and] at *); omega) | exact decide_eq_false (by (try unfold R7 mvI); (try simp only [opn, not_or, not_and] at *); omega) | exact decide_eq_decide.2 (by (try unfold R7 mvI); (try simp only [opn, not_or, not_and] at *); constructor <;> intro h_ <;> omega) | (rw [← decide_not]; exact decide_eq_decide.2 (by (try unfold R7 mvI); (try simp only [opn, not_or, not_and] at *); constructor <;> intro h_ <;> omega))]
      exact g_end trivial (fun a w ha hq_ => res1 ha rfl rfl  w) (fun w h => ⟨rfl, h.below⟩)
    · (try simp at cq2)
      refine j_p (i := 17) rfl (y_fld rfl (fun w => fld_48_1 _ _ w)) (by kernel_rfl) (by kernel_rfl) (by kernel_rfl) rfl rfl rfl rfl rfl (.inr (fun _ h => h)) ?_
      refine j_l (i := 18) rfl (y_ld1 0 rfl rfl agg_22 rfl) (by kernel_rfl) (by kernel_rfl) (by kernel_rfl) (by kernel_rfl) rfl rfl rfl rfl rfl (.inr (fun _ h => h)) ?_
      refine j_p (i := 19) rfl (y_move rfl) (by kernel_rfl) (by kernel_rfl) (by kernel_rfl) rfl rfl rfl rfl rfl (.inr (fun _ h => h)) ?_
      refine j_p (i := 20) rfl (y_idxV (enc := (Value.int .i64)) rfl rfl hs Try.underlying22 size_3 (by omega) (by omega)) (by kernel_rfl) (by kernel_rfl) (by kernel_rfl) rfl rfl rfl rfl rfl (.inr (fun _ h => h)) ?_
      refine j_l (i := 21) rfl (y_ldV (enc := (Value.int .i64)) (xs := s) (fun w h => hs.rdl.below h.below) rfl agg_3 (rdI_at (by omega) (by omega))) (by kernel_rfl) (by kernel_rfl) (by kernel_rfl) (by kernel_rfl) rfl rfl rfl rfl rfl (.inr (fun _ h => h)) ?_
      refine j_p (i := 22) rfl (y_fld rfl (fun w => fld_48_1 _ _ w)) (by kernel_rfl) (by kernel_rfl) (by kernel_rfl) rfl rfl rfl rfl rfl (.inr (fun _ h => h)) ?_
      refine j_l (i := 23) rfl (y_ld1 0 rfl rfl agg_22 rfl) (by kernel_rfl) (by kernel_rfl) (by kernel_rfl) (by kernel_rfl) rfl rfl rfl rfl rfl (.inr (fun _ h => h)) ?_
      refine j_p (i := 24) rfl (y_move rfl) (by kernel_rfl) (by kernel_rfl) (by kernel_rfl) rfl rfl rfl rfl rfl (.inr (fun _ h => h)) ?_
      refine j_p (i := 25) rfl (y_sub rfl rfl (by omega) (by omega)) (by kernel_rfl) (by kernel_rfl) (by kernel_rfl) rfl rfl rfl rfl rfl (.inr (fun _ h => h)) ?_
      refine j_p (i := 26) rfl (y_idxV (enc := (Value.int .i64)) rfl rfl hs Try.underlying22 size_3 (by omega) (by omega)) (by kernel_rfl) (by kernel_rfl) (by kernel_rfl) rfl rfl rfl rfl rfl (.inr (fun _ h => h)) ?_
      refine j_l (i := 27) rfl (y_ldV (enc := (Value.int .i64)) (xs := s) (fun w h => hs.rdl.below h.below) rfl agg_3 (rdI_at (by omega) (by omega))) (by kernel_rfl) (by kernel_rfl) (by kernel_rfl) (by kernel_rfl) rfl rfl rfl rfl rfl (.inr (fun _ h => h)) ?_
      refine j_p (i := 28) rfl (y_neq rfl rfl) (by kernel_rfl) (by kernel_rfl) (by kernel_rfl) rfl rfl rfl rfl rfl (.inr (fun _ h => h)) ?_
      refine j_p (i := 29) rfl (y_pick_f rfl rfl) (by kernel_rfl) (by kernel_rfl) (by kernel_rfl) rfl rfl rfl rfl rfl (.inr (fun _ h => h)) ?_
      refine j_p (i := 30) rfl (y_assign rfl) (by kernel_rfl) (by kernel_rfl) (by kernel_rfl) rfl rfl rfl rfl rfl (.inr (fun _ h => h)) ?_
      refine j_nil (by kernel_rfl) ?_
      refine g_then ?_
      refine g_ret ?_
      rw [show decide (R7 (i : Int) (mvI s ((i : Int) - 1)) (mvI s (i : Int))) = !decide ((rdI s (i : Int)) = (rdI s ((i : Int) - 2))) from by first | exact decide_eq_true (by (try unfold R7 mvI); (try simp only [opn, not_or, not_and] at *); omega) | exact decide_eq_false (by (try unfold R7 mvI); (try simp only [opn, not_or, not_and] at *); omega) | exact decide_eq_decide.2 (by (try unfold R7 mvI); (try simp only [opn, not_or, not_and] at *); constructor <;> intro h_ <;> omega) | (rw [← decide_not]; exact decide_eq_decide.2 (by (try unfold R7 mvI); (try simp only [opn, not_or, not_and] at *); constructor <;> intro h_ <;> omega))]
      exact g_end trivial (fun a w ha hq_ => res1 ha rfl rfl  w) (fun w h => ⟨rfl, h.below⟩)

theorem rule2 (w : World) (ag as_ : Option Addr) (cg cs : Nat) (g s : List Int) (hg : RdV (Value.int .i64) w (.slice ag g.length cg) g) (hs : RdV (Value.int .i64) w (.slice as_ s.length cs) s) (i : Nat) (hi : i < s.length) (hle : s.length ≤ g.length) (hgl : g.length ≤ 1000) (hgn : ∀ x ∈ g, 0 ≤ x ∧ x ≤ 20) (hsn : ∀ x ∈ s, 0 ≤ x ∧ x ≤ 20) (h0 : R0 (ivI g s (i : Int))) :
    Calls Try.prog 78 [.agg #[.slice ag g.length cg, .slice as_ s.length cs], .int .i64 (i : Int)].toArray w fun e w' => e = .returned (.bool (decide (R2 g.length (i : Int) (ivI g s (i : Int))))) ∧ Below w.heap.size w w' := by
  have hms := mvP_spec hsn (i := (i : Int)) (by omega) (by omega)
  have hmg := mvP_spec hgn (i := (i : Int)) (by omega) (by omega)
  have ha1 := aI_spec (mvP s (i : Int))
  have hir := ivI_range hgn hsn (i := (i : Int)) (by omega) (by omega) hle
  have h0' : 0 ≤ ivI g s (i : Int) ∧ ivI g s (i : Int) ≤ 14 := h0
  have hokw : ∀ bw : Nat, (SV.own bw 3 []).ok 1 3 (([0, 7, 14] : List Int).map (Value.int .i64)) := fun _ => ⟨Nat.le_refl _, by unfold maxLen; decide, rfl, rfl⟩
  obtain ⟨ie3, hi3⟩ := inf_3
  refine enter (N := 29) Try.func78 rfl rfl rfl ?_
  refine g_seq ?_
  refine g_region ?_
  refine s_tr (t_box rfl rfl) rfl rfl rfl rfl (fun bd hbd => ?_)
  refine s_y (y_assign rfl) rfl rfl rfl rfl ?_
  refine s_nil ?_
  refine g_then ?_
  refine g_seq ?_
  refine g_region ?_
  refine s_tr (t_build (vs := [(0, .int .i64 0), (1, .int .i64 7), (2, .int .i64 14)]) (cells := [.int .i64 0, .int .i64 7, .int .i64 14]) rfl rfl Try.underlying22 hi3.1 hi3.2.1 (by rw [hi3.2.2.1]; rfl) (by rw [hi3.2.2.1]; rfl) (by rw [hi3.2.2.1]; kernel_rfl)) rfl rfl rfl rfl (fun bw hbw => ?_)
  refine s_y (y_assign rfl) rfl rfl rfl rfl ?_
  refine s_nil ?_
  refine g_then ?_
  refine g_seq ?_
  refine g_block ?_
  refine g_seq ?_
  refine g_region ?_
  refine s_y (y_move rfl) rfl rfl rfl rfl ?_
  refine s_y (y_fld rfl (fun w => fld_48_0 _ _ w)) rfl rfl rfl rfl ?_
  refine s_y (y_ld1 1 rfl rfl agg_22 rfl) rfl rfl rfl rfl ?_
  refine s_y (y_lenV (n := g.length) rfl (by obtain ⟨A, c, h1, _⟩ := hg; exact ⟨A, c, h1⟩) sle_22) rfl rfl rfl rfl ?_
  refine s_y (y_sub rfl rfl (by omega) (by omega)) rfl rfl rfl rfl ?_
  refine s_y (y_eql rfl rfl) rfl rfl rfl rfl ?_
  refine s_y (y_assign rfl) rfl rfl rfl rfl ?_
  refine s_nil ?_
  refine g_then ?_
  refine g_cond rfl (fun cq1 => ?_) (fun cq1 => ?_)
  · (try simp at cq1)
    refine g_seq ?_
    refine g_region ?_
    refine s_y (y_move rfl) rfl rfl rfl rfl ?_
    refine s_y (y_ldn 1 rfl rfl agg_48 size_48 rfl rfl) rfl rfl rfl rfl ?_
    refine s_y (y_move rfl) rfl rfl rfl rfl ?_
    refine s_tr (t_call rfl rfl ent_58 (fun w h => interval_any w ag as_ cg cs g s (hg.below h.below) (hs.below h.below) (i : Int) (by omega) (by omega) hle hgn hsn)) rfl rfl rfl rfl (fun _ _ => ?_)
    refine s_tr (t_call rfl rfl ent_32 (fun w h => Contains_any w _ ([0, 7, 14] : List Int) (ivI g s (i : Int)) (RdV.own (enc := (Value.int .i64)) (xs := [0, 7, 14]) (jk := []) (at_of (i := 0) h rfl) rfl (Nat.le_refl _)) (by decide))) rfl rfl rfl rfl (fun _ _ => ?_)
    refine s_y (y_assign rfl) rfl rfl rfl rfl ?_
    refine s_nil ?_
    refine g_then ?_
    refine g_ret ?_
    refine g_inbr ?_
    refine g_thenr ?_
    rw [show decide (R2 g.length (i : Int) (ivI g s (i : Int))) = decide (ivI g s (i : Int) ∈ [0, 7, 14]) from by first | exact decide_eq_true (by unfold R2; (try simp only [opn, List.mem_append, List.mem_cons, List.not_mem_nil, or_false] at *); omega) | exact decide_eq_false (by unfold R2; (try simp only [opn, List.mem_append, List.mem_cons, List.not_mem_nil, or_false] at *); omega) | exact decide_eq_decide.2 (by unfold R2; (try simp only [opn, List.mem_append, List.mem_cons, List.not_mem_nil, or_false] at *); constructor <;> intro h_ <;> omega) | (rw [← decide_not]; exact decide_eq_decide.2 (by unfold R2; (try simp only [opn, List.mem_append, List.mem_cons, List.not_mem_nil, or_false] at *); constructor <;> intro h_ <;> omega))]
    exact g_end trivial (fun a w ha hq_ => res1 ha rfl rfl  w) (fun w h => ⟨rfl, h.below⟩)
  · (try simp at cq1)
    refine g_seq ?_
    refine g_region ?_
    refine s_y (y_move rfl) rfl rfl rfl rfl ?_
    refine s_y (y_eql rfl rfl) rfl rfl rfl rfl ?_
    refine s_y (y_assign rfl) rfl rfl rfl rfl ?_
    refine s_nil ?_
    refine g_then ?_
    refine g_cond rfl (fun cq2 => ?_) (fun cq2 => ?_)
    · (try simp at cq2)
      refine g_seq ?_
      refine g_drawC 8 (fun W => W.heap[bd]? = some (Obj.cells [.slice ag g.length cg, .slice as_ s.length cs].toArray 48 (0, 0))) (by kernel_rfl) ?_
      refine j_p (i := 0) rfl (y_move rfl) (by kernel_rfl) (by kernel_rfl) (by kernel_rfl) rfl rfl rfl rfl rfl (.inr (fun _ h => (h.at_ _ (List.mem_cons_of_mem _ (List.mem_cons_self ..))))) ?_
      refine j_l (i := 3) rfl (y_ldCn (fun w h => h) rfl agg_48 size_48 rfl rfl) (by kernel_rfl) (by kernel_rfl) (by kernel_rfl) (by kernel_rfl) rfl rfl rfl rfl rfl (.inr (fun _ h => (h.at_ _ (List.mem_cons_of_mem _ (List.mem_cons_self ..))))) ?_
      refine j_p (i := 4) rfl (y_move rfl) (by kernel_rfl) (by kernel_rfl) (by kernel_rfl) rfl rfl rfl rfl rfl (.inr (fun _ h => (h.at_ _ (List.mem_cons_of_mem _ (List.mem_cons_self ..))))) ?_
      refine j_tr (i := 1) rfl (t_build (vs := [(0, .int .i64 4), (1, .int .i64 11)]) (cells := [.int .i64 4, .int .i64 11]) rfl rfl Try.underlying22 hi3.1 hi3.2.1 (by rw [hi3.2.2.1]; rfl) (by rw [hi3.2.2.1]; rfl) (by rw [hi3.2.2.1]; kernel_rfl)) (by kernel_rfl) rfl rfl rfl rfl (.inr (fun x w hb h => (h.at_ (bd, Obj.cells [.slice ag g.length cg, .slice as_ s.length cs].toArray 48 (0, 0)) (by first | exact (List.mem_cons_of_mem _ (List.mem_cons_of_mem _ (List.mem_cons_self ..))) | simp)))) (fun bv hbv => ?_)
      refine j_tr (i := 2) rfl (t_appendR (enc := (Value.int .i64)) (sv := SV.own bw 3 []) (xs := [0, 7, 14]) (ys := [4, 11]) (n := 3) [_] _ rfl rfl rfl (hokw bw) Try.underlying22 hi3.1 hi3.2.1 hi3.2.2.1 hi3.2.2.2 rfl (fun w h => RdV.own (enc := (Value.int .i64)) (xs := [4, 11]) (jk := []) (at_of (i := 0) h rfl) rfl (Nat.le_refl _)) (fun _ => rfl) (by decide) (by unfold maxLen; decide)) (by kernel_rfl) rfl rfl rfl rfl (.inr (fun x w hb h => (h.at_ (bd, Obj.cells [.slice ag g.length cg, .slice as_ s.length cs].toArray 48 (0, 0)) (by first | exact (List.mem_cons_of_mem _ (mem_ar _ (mem_ar _ (List.mem_cons_self ..)))) | simp)))) (fun yw hokv => ?_)
      obtain ⟨svw, gsw⟩ := yw
      refine j_tr (i := 5) rfl (t_call rfl rfl ent_58 (fun w h => interval_any w ag as_ cg cs g s (hg.below h.below) (hs.below h.below) (i : Int) (by omega) (by omega) hle hgn hsn)) (by kernel_rfl) rfl rfl rfl rfl (.inr (fun x w hb h => (h.at_ (bd, Obj.cells [.slice ag g.length cg, .slice as_ s.length cs].toArray 48 (0, 0)) (by first | exact (List.mem_cons_of_mem _ (mem_ar (svw.mem 3 (([(0 : Int), 7, 14] ++ [4, 11]).map (Value.int .i64))) (mem_ar gsw (List.mem_cons_self ..)))) | simp)))) (fun _ _ => ?_)
      refine j_tr (i := 6) rfl (t_call rfl rfl ent_32 (fun w h => Contains_any w _ ([(0 : Int), 7, 14] ++ [4, 11] : List Int) (ivI g s (i : Int)) (RdV.sv (e := 3) hokv fun p hp => h.at_ p (List.mem_cons_of_mem _ (mem_al (svw.mem 3 (([(0 : Int), 7, 14] ++ [4, 11]).map (Value.int .i64))) hp))) (by decide))) (by kernel_rfl) rfl rfl rfl rfl (.inr (fun x w hb h => (h.at_ (bd, Obj.cells [.slice ag g.length cg, .slice as_ s.length cs].toArray 48 (0, 0)) (by first | exact (List.mem_cons_of_mem _ (mem_ar (svw.mem 3 (([(0 : Int), 7, 14] ++ [4, 11]).map (Value.int .i64))) (mem_ar gsw (List.mem_cons_self ..)))) | simp)))) (fun _ _ => ?_)
      refine j_p (i := 7) rfl (y_assign rfl) (by kernel_rfl) (by kernel_rfl) (by kernel_rfl) rfl rfl rfl rfl rfl (.inr (fun _ h => (h.at_ _ (List.mem_cons_of_mem _ (mem_ar (svw.mem 3 (([(0 : Int), 7, 14] ++ [4, 11]).map (Value.int .i64))) (mem_ar gsw (List.mem_cons_self ..))))))) ?_
      refine j_nil (by kernel_rfl) ?_
      refine g_then ?_
      refine g_ret ?_
      refine g_inbr ?_
      refine g_thenr ?_
      rw [show decide (R2 g.length (i : Int) (ivI g s (i : Int))) = decide (ivI g s (i : Int) ∈ [(0 : Int), 7, 14] ++ [4, 11]) from by first | exact decide_eq_true (by unfold R2; (try simp only [opn, List.mem_append, List.mem_cons, List.not_mem_nil, or_false] at *); omega) | exact decide_eq_false (by unfold R2; (try simp only [opn, List.mem_append, List.mem_cons, List.not_mem_nil, or_false] at *); omega) | exact decide_eq_decide.2 (by unfold R2; (try simp only [opn, List.mem_append, List.mem_cons, List.not_mem_nil, or_false] at *); constructor <;> intro h_ <;> omega) | (rw [← decide_not]; exact decide_eq_decide.2 (by unfold R2; (try simp only [opn, List.mem_append, List.mem_cons, List.not_mem_nil, or_false] at *); constructor <;> intro h_ <;> omega))]
      exact g_end trivial (fun a w ha hq_ => res1 ha rfl rfl  w) (fun w h => ⟨rfl, h.below⟩)
    · (try simp at cq2)
      refine g_skip ?_
      refine g_inb ?_
      refine g_then ?_
      refine g_seq ?_
      refine g_region ?_
      refine s_y (y_assign rfl) rfl rfl rfl rfl ?_
      refine s_nil ?_
      refine g_then ?_
      refine g_ret ?_
      rw [show decide (R2 g.length (i : Int) (ivI g s (i : Int))) = true from by first | exact decide_eq_true (by unfold R2; (try simp only [opn, List.mem_append, List.mem_cons, List.not_mem_nil, or_false] at *); omega) | exact decide_eq_false (by unfold R2; (try simp only [opn, List.mem_append, List.mem_cons, List.not_mem_nil, or_false] at *); omega) | exact decide_eq_decide.2 (by unfold R2; (try simp only [opn, List.mem_append, List.mem_cons, List.not_mem_nil, or_false] at *); constructor <;> intro h_ <;> omega) | (rw [← decide_not]; exact decide_eq_decide.2 (by unfold R2; (try simp only [opn, List.mem_append, List.mem_cons, List.not_mem_nil, or_false] at *); constructor <;> intro h_ <;> omega))]
      exact g_end trivial (fun a w ha hq_ => res1 ha rfl rfl  w) (fun w h => ⟨rfl, h.below⟩)

theorem rules_any (w : World) :
    Calls Try.prog 75 [].toArray w fun e w' => ∃ b : Nat, e = .returned (.slice (some ⟨b, 0, none⟩) 8 8) ∧ Hq w w [(b, .cells [.func (.func 76) #[] #[], .func (.func 77) #[] #[], .func (.func 78) #[] #[], .func (.func 79) #[] #[], .func (.func 80) #[] #[], .func (.func 81) #[] #[], .func (.func 82) #[] #[], .func (.func 83) #[] #[]].toArray 79 (0, 0))] w' := by
  obtain ⟨ie79, hi79⟩ := inf_79
  refine enter (N := 2) Try.func75 rfl rfl rfl ?_
  refine g_seq ?_
  refine g_region ?_
  refine s_y (y_assign rfl) rfl rfl rfl rfl ?_
  refine s_nil ?_
  refine g_then ?_
  refine g_seq ?_
  refine g_region ?_
  refine s_tr (t_build (vs := [(0, (.func (.func 76) #[] #[])), (1, (.func (.func 77) #[] #[])), (2, (.func (.func 78) #[] #[])), (3, (.func (.func 79) #[] #[])), (4, (.func (.func 80) #[] #[])), (5, (.func (.func 81) #[] #[])), (6, (.func (.func 82) #[] #[])), (7, (.func (.func 83) #[] #[]))]) (cells := [(.func (.func 76) #[] #[]), (.func (.func 77) #[] #[]), (.func (.func 78) #[] #[]), (.func (.func 79) #[] #[]), (.func (.func 80) #[] #[]), (.func (.func 81) #[] #[]), (.func (.func 82) #[] #[]), (.func (.func 83) #[] #[])]) rfl rfl Try.underlying77 hi79.1 hi79.2.1 (by rw [hi79.2.2.1]; rfl) (by rw [hi79.2.2.1]; rfl) (by rw [hi79.2.2.1]; kernel_rfl)) rfl rfl rfl rfl (fun br hbr => ?_)
  refine s_y (y_assign rfl) rfl rfl rfl rfl ?_
  refine s_nil ?_
  refine g_then ?_
  refine g_ret ?_
  exact g_end trivial (fun a w ha hq_ => res1 ha rfl rfl  w) (fun w h => ⟨br, rfl, h.hand (List.Sublist.refl _)⟩)

theorem broken_any (w : World) (ag as_ : Option Addr) (cg cs : Nat) (g s : List Int) (hg : RdV (Value.int .i64) w (.slice ag g.length cg) g) (hs : RdV (Value.int .i64) w (.slice as_ s.length cs) s) (i : Nat) (hi : i < s.length) (hle : s.length ≤ g.length) (hgl : g.length ≤ 1000) (hgn : ∀ x ∈ g, 0 ≤ x ∧ x ≤ 20) (hsn : ∀ x ∈ s, 0 ≤ x ∧ x ≤ 20) :
    Calls Try.prog 68 [.agg #[.slice ag g.length cg, .slice as_ s.length cs], .int .i64 (i : Int)].toArray w fun e w' => e = .returned (.int .i64 (brk g s i)) ∧ Below w.heap.size w w' := by
  refine enter (N := 22) Try.func68 rfl rfl rfl ?_
  refine g_seq ?_
  refine g_region ?_
  refine s_tr (t_box rfl rfl) rfl rfl rfl rfl (fun bd hbd => ?_)
  refine s_y (y_assign rfl) rfl rfl rfl rfl ?_
  refine s_nil ?_
  refine g_then ?_
  refine g_seq ?_
  refine g_seq ?_
  refine g_region ?_
  refine s_tr (t_callm (A := New _ _) rfl rfl ent_75 (fun w h => (rules_any w).mono fun e w' ⟨b, h1, h2⟩ => ⟨b, ⟨Nat.le_trans h.below.size (h2.ge _ (List.mem_cons_self ..)), Nat.le_trans h.size (h2.ge _ (List.mem_cons_self ..))⟩, h1, h2⟩)) rfl rfl rfl rfl (fun br hbr => ?_)
  refine s_y (y_lensl rfl sle_77) rfl rfl rfl rfl ?_
  refine s_y (y_move rfl) rfl rfl rfl rfl ?_
  refine s_nil ?_
  refine g_then ?_
  refine g_block ?_
  refine g_loop (fun (r : Nat) act W => r ≤ 8 ∧ ∃ (w1 : World), (∀ k : Nat, k < r → RUL g s i k) ∧ Has 22 [] [(1, .int .i64 (i : Int)), (2, .pointer (some ⟨bd, 0, none⟩)), (7, .slice (some ⟨br, 0, none⟩) 8 8), (8, .int .i64 8), (9, .int .i64 (r : Int))] act ∧ Hp w w1 ((br, .cells [(.func (.func 76) #[] #[]), (.func (.func 77) #[] #[]), (.func (.func 78) #[] #[]), (.func (.func 79) #[] #[]), (.func (.func 80) #[] #[]), (.func (.func 81) #[] #[]), (.func (.func 82) #[] #[]), (.func (.func 83) #[] #[])].toArray 79 (0, 0)) :: (bd, .cells [.slice ag g.length cg, .slice as_ s.length cs].toArray 48 (0, 0)) :: []) W) (fun r => 8 - r) 0 (fun act W ha hw => ⟨by omega, W, (by intro k hk; omega), ha.weak (sub_get ⟨rfl, rfl, rfl, rfl, rfl, trivial⟩), hw.toHq.lookSub (List.Sublist.refl _)⟩) ?_
  intro r act W ⟨hb_r, w1, hall, ha, hw⟩
  refine g_go ha hw ?_
  clear ha hw act W
  refine g_seq ?_
  refine g_region ?_
  refine s_y (y_lss rfl rfl) rfl rfl rfl rfl ?_
  refine s_nil ?_
  refine g_then ?_
  refine g_seq ?_
  refine g_cond rfl (fun cq1 => ?_) (fun cq1 => ?_)
  · (try simp at cq1)
    refine g_skip ?_
    refine g_then ?_
    refine g_seq ?_
    refine g_block ?_
    refine g_seq ?_
    rcases (show r = 0 ∨ r = 1 ∨ r = 2 ∨ r = 3 ∨ r = 4 ∨ r = 5 ∨ r = 6 ∨ r = 7 by omega) with e1 | e1 | e1 | e1 | e1 | e1 | e1 | e1
    · skip
      refine g_region ?_
      refine s_y (y_move rfl) rfl rfl rfl rfl ?_
      refine s_y (y_idxb1 rfl rfl Try.underlying77 size_79 (by omega) (by omega)) rfl rfl rfl rfl ?_
      refine s_y (y_ld1 (v := (.func (.func 76) #[] #[])) 0 rfl rfl agg_79 (by rw [e1]; rfl)) rfl rfl rfl rfl ?_
      refine s_y (y_assign rfl) rfl rfl rfl rfl ?_
      refine s_y (y_assign rfl) rfl rfl rfl rfl ?_
      refine s_nil ?_
      refine g_then ?_
      refine g_seq ?_
      refine g_region ?_
      refine s_y (y_move rfl) rfl rfl rfl rfl ?_
      refine s_y (y_ldn 1 rfl rfl agg_48 size_48 rfl rfl) rfl rfl rfl rfl ?_
      refine s_y (y_move rfl) rfl rfl rfl rfl ?_
      refine s_tr (t_call rfl rfl ent_76 (fun w h => rule0 w ag as_ cg cs g s (hg.below h.below) (hs.below h.below) i hi hle hgl hgn hsn)) rfl rfl rfl rfl (fun _ _ => ?_)
      refine s_y (y_not rfl) rfl rfl rfl rfl ?_
      refine s_nil ?_
      refine g_then ?_
      refine g_cond rfl (fun cq2 => ?_) (fun cq2 => ?_)
      · (try simp at cq2)
        have hk_ : ¬ (R0 (ivI g s (i : Int))) := by simpa using cq2
        refine g_seq ?_
        refine g_region ?_
        refine s_y (y_move rfl) rfl rfl rfl rfl ?_
        refine s_y (y_add rfl rfl (by omega) (by omega)) rfl rfl rfl rfl ?_
        refine s_y (y_assign rfl) rfl rfl rfl rfl ?_
        refine s_nil ?_
        refine g_then ?_
        refine g_ret ?_
        refine g_inbr ?_
        refine g_thenr ?_
        refine g_thenr ?_
        refine g_inbr ?_
        refine g_thenr ?_
        rw [show brk g s i = (r : Int) + 1 from brkI_at (by omega) hall (by rw [e1]; exact hk_)]
        exact g_end trivial (fun a w ha hq_ => res1 ha rfl rfl  w) (fun w h => ⟨rfl, h.below⟩)
      · (try simp at cq2)
        have hk_ : (R0 (ivI g s (i : Int))) := by simpa using cq2
        refine g_skip ?_
        refine g_inb ?_
        refine g_then ?_
        refine g_region ?_
        refine s_y (y_add rfl rfl (by omega) (by omega)) rfl rfl rfl rfl ?_
        refine s_y (y_move rfl) rfl rfl rfl rfl ?_
        refine s_nil ?_
        refine g_then ?_
        exact fun act W ha hw => ⟨r + 1, by omega, by omega, W, (by intro k hk; rcases Nat.lt_or_ge k r with c | c; exact hall k c; rw [show k = r by omega, e1]; exact hk_), ha.weak (sub_get ⟨rfl, rfl, rfl, rfl, rfl, trivial⟩), hw.toHq.lookSub (List.Sublist.refl _)⟩
    · skip
      refine g_region ?_
      refine s_y (y_move rfl) rfl rfl rfl rfl ?_
      refine s_y (y_idxb1 rfl rfl Try.underlying77 size_79 (by omega) (by omega)) rfl rfl rfl rfl ?_
      refine s_y (y_ld1 (v := (.func (.func 77) #[] #[])) 0 rfl rfl agg_79 (by rw [e1]; rfl)) rfl rfl rfl rfl ?_
      refine s_y (y_assign rfl) rfl rfl rfl rfl ?_
      refine s_y (y_assign rfl) rfl rfl rfl rfl ?_
      refine s_nil ?_
      refine g_then ?_
      refine g_seq ?_
      refine g_region ?_
      refine s_y (y_move rfl) rfl rfl rfl rfl ?_
      refine s_y (y_ldn 1 rfl rfl agg_48 size_48 rfl rfl) rfl rfl rfl rfl ?_
      refine s_y (y_move rfl) rfl rfl rfl rfl ?_
      refine s_tr (t_call rfl rfl ent_77 (fun w h => rule1 w ag as_ cg cs g s (hg.below h.below) (hs.below h.below) i hi hle hgl hgn hsn (show R0 (ivI g s (i : Int)) from hall 0 (by omega)))) rfl rfl rfl rfl (fun _ _ => ?_)
      refine s_y (y_not rfl) rfl rfl rfl rfl ?_
      refine s_nil ?_
      refine g_then ?_
      refine g_cond rfl (fun cq3 => ?_) (fun cq3 => ?_)
      · (try simp at cq3)
        have hk_ : ¬ (R1 (ivI g s (i : Int))) := by simpa using cq3
        refine g_seq ?_
        refine g_region ?_
        refine s_y (y_move rfl) rfl rfl rfl rfl ?_
        refine s_y (y_add rfl rfl (by omega) (by omega)) rfl rfl rfl rfl ?_
        refine s_y (y_assign rfl) rfl rfl rfl rfl ?_
        refine s_nil ?_
        refine g_then ?_
        refine g_ret ?_
        refine g_inbr ?_
        refine g_thenr ?_
        refine g_thenr ?_
        refine g_inbr ?_
        refine g_thenr ?_
        rw [show brk g s i = (r : Int) + 1 from brkI_at (by omega) hall (by rw [e1]; exact hk_)]
        exact g_end trivial (fun a w ha hq_ => res1 ha rfl rfl  w) (fun w h => ⟨rfl, h.below⟩)
      · (try simp at cq3)
        have hk_ : (R1 (ivI g s (i : Int))) := by simpa using cq3
        refine g_skip ?_
        refine g_inb ?_
        refine g_then ?_
        refine g_region ?_
        refine s_y (y_add rfl rfl (by omega) (by omega)) rfl rfl rfl rfl ?_
        refine s_y (y_move rfl) rfl rfl rfl rfl ?_
        refine s_nil ?_
        refine g_then ?_
        exact fun act W ha hw => ⟨r + 1, by omega, by omega, W, (by intro k hk; rcases Nat.lt_or_ge k r with c | c; exact hall k c; rw [show k = r by omega, e1]; exact hk_), ha.weak (sub_get ⟨rfl, rfl, rfl, rfl, rfl, trivial⟩), hw.toHq.lookSub (List.Sublist.refl _)⟩
    · skip
      refine g_region ?_
      refine s_y (y_move rfl) rfl rfl rfl rfl ?_
      refine s_y (y_idxb1 rfl rfl Try.underlying77 size_79 (by omega) (by omega)) rfl rfl rfl rfl ?_
      refine s_y (y_ld1 (v := (.func (.func 78) #[] #[])) 0 rfl rfl agg_79 (by rw [e1]; rfl)) rfl rfl rfl rfl ?_
      refine s_y (y_assign rfl) rfl rfl rfl rfl ?_
      refine s_y (y_assign rfl) rfl rfl rfl rfl ?_
      refine s_nil ?_
      refine g_then ?_
      refine g_seq ?_
      refine g_region ?_
      refine s_y (y_move rfl) rfl rfl rfl rfl ?_
      refine s_y (y_ldn 1 rfl rfl agg_48 size_48 rfl rfl) rfl rfl rfl rfl ?_
      refine s_y (y_move rfl) rfl rfl rfl rfl ?_
      refine s_tr (t_call rfl rfl ent_78 (fun w h => rule2 w ag as_ cg cs g s (hg.below h.below) (hs.below h.below) i hi hle hgl hgn hsn (show R0 (ivI g s (i : Int)) from hall 0 (by omega)))) rfl rfl rfl rfl (fun _ _ => ?_)
      refine s_y (y_not rfl) rfl rfl rfl rfl ?_
      refine s_nil ?_
      refine g_then ?_
      refine g_cond rfl (fun cq4 => ?_) (fun cq4 => ?_)
      · (try simp at cq4)
        have hk_ : ¬ (R2 g.length (i : Int) (ivI g s (i : Int))) := by simpa using cq4
        refine g_seq ?_
        refine g_region ?_
        refine s_y (y_move rfl) rfl rfl rfl rfl ?_
        refine s_y (y_add rfl rfl (by omega) (by omega)) rfl rfl rfl rfl ?_
        refine s_y (y_assign rfl) rfl rfl rfl rfl ?_
        refine s_nil ?_
        refine g_then ?_
        refine g_ret ?_
        refine g_inbr ?_
        refine g_thenr ?_
        refine g_thenr ?_
        refine g_inbr ?_
        refine g_thenr ?_
        rw [show brk g s i = (r : Int) + 1 from brkI_at (by omega) hall (by rw [e1]; exact hk_)]
        exact g_end trivial (fun a w ha hq_ => res1 ha rfl rfl  w) (fun w h => ⟨rfl, h.below⟩)
      · (try simp at cq4)
        have hk_ : (R2 g.length (i : Int) (ivI g s (i : Int))) := by simpa using cq4
        refine g_skip ?_
        refine g_inb ?_
        refine g_then ?_
        refine g_region ?_
        refine s_y (y_add rfl rfl (by omega) (by omega)) rfl rfl rfl rfl ?_
        refine s_y (y_move rfl) rfl rfl rfl rfl ?_
        refine s_nil ?_
        refine g_then ?_
        exact fun act W ha hw => ⟨r + 1, by omega, by omega, W, (by intro k hk; rcases Nat.lt_or_ge k r with c | c; exact hall k c; rw [show k = r by omega, e1]; exact hk_), ha.weak (sub_get ⟨rfl, rfl, rfl, rfl, rfl, trivial⟩), hw.toHq.lookSub (List.Sublist.refl _)⟩
    · skip
      refine g_region ?_
      refine s_y (y_move rfl) rfl rfl rfl rfl ?_
      refine s_y (y_idxb1 rfl rfl Try.underlying77 size_79 (by omega) (by omega)) rfl rfl rfl rfl ?_
      refine s_y (y_ld1 (v := (.func (.func 79) #[] #[])) 0 rfl rfl agg_79 (by rw [e1]; rfl)) rfl rfl rfl rfl ?_
      refine s_y (y_assign rfl) rfl rfl rfl rfl ?_
      refine s_y (y_assign rfl) rfl rfl rfl rfl ?_
      refine s_nil ?_
      refine g_then ?_
      refine g_seq ?_
      refine g_region ?_
      refine s_y (y_move rfl) rfl rfl rfl rfl ?_
      refine s_y (y_ldn 1 rfl rfl agg_48 size_48 rfl rfl) rfl rfl rfl rfl ?_
      refine s_y (y_move rfl) rfl rfl rfl rfl ?_
      refine s_tr (t_call rfl rfl ent_79 (fun w h => rule3 w ag as_ cg cs g s (hg.below h.below) (hs.below h.below) i hi hle hgl hgn hsn)) rfl rfl rfl rfl (fun _ _ => ?_)
      refine s_y (y_not rfl) rfl rfl rfl rfl ?_
      refine s_nil ?_
      refine g_then ?_
      refine g_cond rfl (fun cq5 => ?_) (fun cq5 => ?_)
      · (try simp at cq5)
        have hk_ : ¬ (R3 (i : Int) (mvI s (i : Int))) := by simpa using cq5
        refine g_seq ?_
        refine g_region ?_
        refine s_y (y_move rfl) rfl rfl rfl rfl ?_
        refine s_y (y_add rfl rfl (by omega) (by omega)) rfl rfl rfl rfl ?_
        refine s_y (y_assign rfl) rfl rfl rfl rfl ?_
        refine s_nil ?_
        refine g_then ?_
        refine g_ret ?_
        refine g_inbr ?_
        refine g_thenr ?_
        refine g_thenr ?_
        refine g_inbr ?_
        refine g_thenr ?_
        rw [show brk g s i = (r : Int) + 1 from brkI_at (by omega) hall (by rw [e1]; exact hk_)]
        exact g_end trivial (fun a w ha hq_ => res1 ha rfl rfl  w) (fun w h => ⟨rfl, h.below⟩)
      · (try simp at cq5)
        have hk_ : (R3 (i : Int) (mvI s (i : Int))) := by simpa using cq5
        refine g_skip ?_
        refine g_inb ?_
        refine g_then ?_
        refine g_region ?_
        refine s_y (y_add rfl rfl (by omega) (by omega)) rfl rfl rfl rfl ?_
        refine s_y (y_move rfl) rfl rfl rfl rfl ?_
        refine s_nil ?_
        refine g_then ?_
        exact fun act W ha hw => ⟨r + 1, by omega, by omega, W, (by intro k hk; rcases Nat.lt_or_ge k r with c | c; exact hall k c; rw [show k = r by omega, e1]; exact hk_), ha.weak (sub_get ⟨rfl, rfl, rfl, rfl, rfl, trivial⟩), hw.toHq.lookSub (List.Sublist.refl _)⟩
    · skip
      refine g_region ?_
      refine s_y (y_move rfl) rfl rfl rfl rfl ?_
      refine s_y (y_idxb1 rfl rfl Try.underlying77 size_79 (by omega) (by omega)) rfl rfl rfl rfl ?_
      refine s_y (y_ld1 (v := (.func (.func 80) #[] #[])) 0 rfl rfl agg_79 (by rw [e1]; rfl)) rfl rfl rfl rfl ?_
      refine s_y (y_assign rfl) rfl rfl rfl rfl ?_
      refine s_y (y_assign rfl) rfl rfl rfl rfl ?_
      refine s_nil ?_
      refine g_then ?_
      refine g_seq ?_
      refine g_region ?_
      refine s_y (y_move rfl) rfl rfl rfl rfl ?_
      refine s_y (y_ldn 1 rfl rfl agg_48 size_48 rfl rfl) rfl rfl rfl rfl ?_
      refine s_y (y_move rfl) rfl rfl rfl rfl ?_
      refine s_tr (t_call rfl rfl ent_80 (fun w h => rule4 w ag as_ cg cs g s (hg.below h.below) (hs.below h.below) i hi hle hgl hgn hsn (show R0 (ivI g s (i : Int)) from hall 0 (by omega)))) rfl rfl rfl rfl (fun _ _ => ?_)
      refine s_y (y_not rfl) rfl rfl rfl rfl ?_
      refine s_nil ?_
      refine g_then ?_
      refine g_cond rfl (fun cq6 => ?_) (fun cq6 => ?_)
      · (try simp at cq6)
        have hk_ : ¬ (R4 (i : Int) (ivI g s (i : Int)) (ivI g s ((i : Int) - 1)) (mvI s (i : Int))) := by simpa using cq6
        refine g_seq ?_
        refine g_region ?_
        refine s_y (y_move rfl) rfl rfl rfl rfl ?_
        refine s_y (y_add rfl rfl (by omega) (by omega)) rfl rfl rfl rfl ?_
        refine s_y (y_assign rfl) rfl rfl rfl rfl ?_
        refine s_nil ?_
        refine g_then ?_
        refine g_ret ?_
        refine g_inbr ?_
        refine g_thenr ?_
        refine g_thenr ?_
        refine g_inbr ?_
        refine g_thenr ?_
        rw [show brk g s i = (r : Int) + 1 from brkI_at (by omega) hall (by rw [e1]; exact hk_)]
        exact g_end trivial (fun a w ha hq_ => res1 ha rfl rfl  w) (fun w h => ⟨rfl, h.below⟩)
      · (try simp at cq6)
        have hk_ : (R4 (i : Int) (ivI g s (i : Int)) (ivI g s ((i : Int) - 1)) (mvI s (i : Int))) := by simpa using cq6
        refine g_skip ?_
        refine g_inb ?_
        refine g_then ?_
        refine g_region ?_
        refine s_y (y_add rfl rfl (by omega) (by omega)) rfl rfl rfl rfl ?_
        refine s_y (y_move rfl) rfl rfl rfl rfl ?_
        refine s_nil ?_
        refine g_then ?_
        exact fun act W ha hw => ⟨r + 1, by omega, by omega, W, (by intro k hk; rcases Nat.lt_or_ge k r with c | c; exact hall k c; rw [show k = r by omega, e1]; exact hk_), ha.weak (sub_get ⟨rfl, rfl, rfl, rfl, rfl, trivial⟩), hw.toHq.lookSub (List.Sublist.refl _)⟩
    · skip
      refine g_region ?_
      refine s_y (y_move rfl) rfl rfl rfl rfl ?_
      refine s_y (y_idxb1 rfl rfl Try.underlying77 size_79 (by omega) (by omega)) rfl rfl rfl rfl ?_
      refine s_y (y_ld1 (v := (.func (.func 81) #[] #[])) 0 rfl rfl agg_79 (by rw [e1]; rfl)) rfl rfl rfl rfl ?_
      refine s_y (y_assign rfl) rfl rfl rfl rfl ?_
      refine s_y (y_assign rfl) rfl rfl rfl rfl ?_
      refine s_nil ?_
      refine g_then ?_
      refine g_seq ?_
      refine g_region ?_
      refine s_y (y_move rfl) rfl rfl rfl rfl ?_
      refine s_y (y_ldn 1 rfl rfl agg_48 size_48 rfl rfl) rfl rfl rfl rfl ?_
      refine s_y (y_move rfl) rfl rfl rfl rfl ?_
      refine s_tr (t_call rfl rfl ent_81 (fun w h => rule5 w ag as_ cg cs g s (hg.below h.below) (hs.below h.below) i hi hle hgl hgn hsn (show R0 (ivI g s (i : Int)) from hall 0 (by omega)))) rfl rfl rfl rfl (fun _ _ => ?_)
      refine s_y (y_not rfl) rfl rfl rfl rfl ?_
      refine s_nil ?_
      refine g_then ?_
      refine g_cond rfl (fun cq7 => ?_) (fun cq7 => ?_)
      · (try simp at cq7)
        have hk_ : ¬ (R5 (i : Int) (ivI g s (i : Int)) (mvI s (i : Int)) (mvI g (i : Int))) := by simpa using cq7
        refine g_seq ?_
        refine g_region ?_
        refine s_y (y_move rfl) rfl rfl rfl rfl ?_
        refine s_y (y_add rfl rfl (by omega) (by omega)) rfl rfl rfl rfl ?_
        refine s_y (y_assign rfl) rfl rfl rfl rfl ?_
        refine s_nil ?_
        refine g_then ?_
        refine g_ret ?_
        refine g_inbr ?_
        refine g_thenr ?_
        refine g_thenr ?_
        refine g_inbr ?_
        refine g_thenr ?_
        rw [show brk g s i = (r : Int) + 1 from brkI_at (by omega) hall (by rw [e1]; exact hk_)]
        exact g_end trivial (fun a w ha hq_ => res1 ha rfl rfl  w) (fun w h => ⟨rfl, h.below⟩)
      · (try simp at cq7)
        have hk_ : (R5 (i : Int) (ivI g s (i : Int)) (mvI s (i : Int)) (mvI g (i : Int))) := by simpa using cq7
        refine g_skip ?_
        refine g_inb ?_
        refine g_then ?_
        refine g_region ?_
        refine s_y (y_add rfl rfl (by omega) (by omega)) rfl rfl rfl rfl ?_
        refine s_y (y_move rfl) rfl rfl rfl rfl ?_
        refine s_nil ?_
        refine g_then ?_
        exact fun act W ha hw => ⟨r + 1, by omega, by omega, W, (by intro k hk; rcases Nat.lt_or_ge k r with c | c; exact hall k c; rw [show k = r by omega, e1]; exact hk_), ha.weak (sub_get ⟨rfl, rfl, rfl, rfl, rfl, trivial⟩), hw.toHq.lookSub (List.Sublist.refl _)⟩
    · skip
      refine g_region ?_
      refine s_y (y_move rfl) rfl rfl rfl rfl ?_
      refine s_y (y_idxb1 rfl rfl Try.underlying77 size_79 (by omega) (by omega)) rfl rfl rfl rfl ?_
      refine s_y (y_ld1 (v := (.func (.func 82) #[] #[])) 0 rfl rfl agg_79 (by rw [e1]; rfl)) rfl rfl rfl rfl ?_
      refine s_y (y_assign rfl) rfl rfl rfl rfl ?_
      refine s_y (y_assign rfl) rfl rfl rfl rfl ?_
      refine s_nil ?_
      refine g_then ?_
      refine g_seq ?_
      refine g_region ?_
      refine s_y (y_move rfl) rfl rfl rfl rfl ?_
      refine s_y (y_ldn 1 rfl rfl agg_48 size_48 rfl rfl) rfl rfl rfl rfl ?_
      refine s_y (y_move rfl) rfl rfl rfl rfl ?_
      refine s_tr (t_call rfl rfl ent_82 (fun w h => rule6 w ag as_ cg cs g s (hg.below h.below) (hs.below h.below) i hi hle hgl hgn hsn)) rfl rfl rfl rfl (fun _ _ => ?_)
      refine s_y (y_not rfl) rfl rfl rfl rfl ?_
      refine s_nil ?_
      refine g_then ?_
      refine g_cond rfl (fun cq8 => ?_) (fun cq8 => ?_)
      · (try simp at cq8)
        have hk_ : ¬ (R6 (i : Int) (mvI s ((i : Int) - 1)) (mvI s (i : Int))) := by simpa using cq8
        refine g_seq ?_
        refine g_region ?_
        refine s_y (y_move rfl) rfl rfl rfl rfl ?_
        refine s_y (y_add rfl rfl (by omega) (by omega)) rfl rfl rfl rfl ?_
        refine s_y (y_assign rfl) rfl rfl rfl rfl ?_
        refine s_nil ?_
        refine g_then ?_
        refine g_ret ?_
        refine g_inbr ?_
        refine g_thenr ?_
        refine g_thenr ?_
        refine g_inbr ?_
        refine g_thenr ?_
        rw [show brk g s i = (r : Int) + 1 from brkI_at (by omega) hall (by rw [e1]; exact hk_)]
        exact g_end trivial (fun a w ha hq_ => res1 ha rfl rfl  w) (fun w h => ⟨rfl, h.below⟩)
      · (try simp at cq8)
        have hk_ : (R6 (i : Int) (mvI s ((i : Int) - 1)) (mvI s (i : Int))) := by simpa using cq8
        refine g_skip ?_
        refine g_inb ?_
        refine g_then ?_
        refine g_region ?_
        refine s_y (y_add rfl rfl (by omega) (by omega)) rfl rfl rfl rfl ?_
        refine s_y (y_move rfl) rfl rfl rfl rfl ?_
        refine s_nil ?_
        refine g_then ?_
        exact fun act W ha hw => ⟨r + 1, by omega, by omega, W, (by intro k hk; rcases Nat.lt_or_ge k r with c | c; exact hall k c; rw [show k = r by omega, e1]; exact hk_), ha.weak (sub_get ⟨rfl, rfl, rfl, rfl, rfl, trivial⟩), hw.toHq.lookSub (List.Sublist.refl _)⟩
    · skip
      refine g_region ?_
      refine s_y (y_move rfl) rfl rfl rfl rfl ?_
      refine s_y (y_idxb1 rfl rfl Try.underlying77 size_79 (by omega) (by omega)) rfl rfl rfl rfl ?_
      refine s_y (y_ld1 (v := (.func (.func 83) #[] #[])) 0 rfl rfl agg_79 (by rw [e1]; rfl)) rfl rfl rfl rfl ?_
      refine s_y (y_assign rfl) rfl rfl rfl rfl ?_
      refine s_y (y_assign rfl) rfl rfl rfl rfl ?_
      refine s_nil ?_
      refine g_then ?_
      refine g_seq ?_
      refine g_region ?_
      refine s_y (y_move rfl) rfl rfl rfl rfl ?_
      refine s_y (y_ldn 1 rfl rfl agg_48 size_48 rfl rfl) rfl rfl rfl rfl ?_
      refine s_y (y_move rfl) rfl rfl rfl rfl ?_
      refine s_tr (t_call rfl rfl ent_83 (fun w h => rule7 w ag as_ cg cs g s (hg.below h.below) (hs.below h.below) i hi hle hgl hgn hsn)) rfl rfl rfl rfl (fun _ _ => ?_)
      refine s_y (y_not rfl) rfl rfl rfl rfl ?_
      refine s_nil ?_
      refine g_then ?_
      refine g_cond rfl (fun cq9 => ?_) (fun cq9 => ?_)
      · (try simp at cq9)
        have hk_ : ¬ (R7 (i : Int) (mvI s ((i : Int) - 1)) (mvI s (i : Int))) := by simpa using cq9
        refine g_seq ?_
        refine g_region ?_
        refine s_y (y_move rfl) rfl rfl rfl rfl ?_
        refine s_y (y_add rfl rfl (by omega) (by omega)) rfl rfl rfl rfl ?_
        refine s_y (y_assign rfl) rfl rfl rfl rfl ?_
        refine s_nil ?_
        refine g_then ?_
        refine g_ret ?_
        refine g_inbr ?_
        refine g_thenr ?_
        refine g_thenr ?_
        refine g_inbr ?_
        refine g_thenr ?_
        rw [show brk g s i = (r : Int) + 1 from brkI_at (by omega) hall (by rw [e1]; exact hk_)]
        exact g_end trivial (fun a w ha hq_ => res1 ha rfl rfl  w) (fun w h => ⟨rfl, h.below⟩)
      · (try simp at cq9)
        have hk_ : (R7 (i : Int) (mvI s ((i : Int) - 1)) (mvI s (i : Int))) := by simpa using cq9
        refine g_skip ?_
        refine g_inb ?_
        refine g_then ?_
        refine g_region ?_
        refine s_y (y_add rfl rfl (by omega) (by omega)) rfl rfl rfl rfl ?_
        refine s_y (y_move rfl) rfl rfl rfl rfl ?_
        refine s_nil ?_
        refine g_then ?_
        exact fun act W ha hw => ⟨r + 1, by omega, by omega, W, (by intro k hk; rcases Nat.lt_or_ge k r with c | c; exact hall k c; rw [show k = r by omega, e1]; exact hk_), ha.weak (sub_get ⟨rfl, rfl, rfl, rfl, rfl, trivial⟩), hw.toHq.lookSub (List.Sublist.refl _)⟩
  · (try simp at cq1)
    refine g_exit ?_
    refine g_thenx ?_
    refine g_thenx ?_
    refine g_inbx ?_
    refine g_then ?_
    refine g_seq ?_
    refine g_region ?_
    refine s_y (y_assign rfl) rfl rfl rfl rfl ?_
    refine s_nil ?_
    refine g_then ?_
    refine g_ret ?_
    rw [show brk g s i = 0 from brkI_none (fun k hk => hall k (by omega))]
    exact g_end trivial (fun a w ha hq_ => res1 ha rfl rfl  w) (fun w h => ⟨rfl, h.below⟩)

theorem first_any (w : World) (ag as_ : Option Addr) (cg cs : Nat) (g s : List Int) (hg : RdV (Value.int .i64) w (.slice ag g.length cg) g) (hs : RdV (Value.int .i64) w (.slice as_ s.length cs) s) (hle : s.length ≤ g.length) (hgl : g.length ≤ 1000) (hgn : ∀ x ∈ g, 0 ≤ x ∧ x ≤ 20) (hsn : ∀ x ∈ s, 0 ≤ x ∧ x ≤ 20) :
    Calls Try.prog 49 [.agg #[.slice ag g.length cg, .slice as_ s.length cs]].toArray w fun e w' => e = .returned (.tuple #[.int .i64 (frs g s).1, .int .i64 (frs g s).2]) ∧ Below w.heap.size w w' := by
  refine enter (N := 20) Try.func49 rfl rfl rfl ?_
  refine g_seq ?_
  refine g_region ?_
  refine s_tr (t_box rfl rfl) rfl rfl rfl rfl (fun bd hbd => ?_)
  refine s_y (y_assign rfl) rfl rfl rfl rfl ?_
  refine s_y (y_assign rfl) rfl rfl rfl rfl ?_
  refine s_nil ?_
  refine g_then ?_
  refine g_seq ?_
  refine g_seq ?_
  refine g_region ?_
  refine s_y (y_fld rfl (fun w => fld_48_1 _ _ w)) rfl rfl rfl rfl ?_
  refine s_y (y_ld1 0 rfl rfl agg_22 rfl) rfl rfl rfl rfl ?_
  refine s_y (y_lenV (n := s.length) rfl (by obtain ⟨A, c, h1, _⟩ := hs; exact ⟨A, c, h1⟩) sle_22) rfl rfl rfl rfl ?_
  refine s_y (y_move rfl) rfl rfl rfl rfl ?_
  refine s_nil ?_
  refine g_then ?_
  refine g_block ?_
  refine g_loop (fun (i : Nat) act W => i ≤ s.length ∧ ∃ (w1 : World), (frsR g s (s.length - i) i = frs g s) ∧ Has 20 [] [(1, .pointer (some ⟨bd, 0, none⟩)), (8, .int .i64 (s.length : Nat)), (9, .int .i64 (i : Int))] act ∧ Hp w w1 ((bd, .cells [.slice ag g.length cg, .slice as_ s.length cs].toArray 48 (0, 0)) :: []) W) (fun i => s.length - i) 0 (fun act W ha hw => ⟨by omega, W, (by rfl), ha.weak (sub_get ⟨rfl, rfl, rfl, trivial⟩), hw.toHq.lookSub (List.Sublist.refl _)⟩) ?_
  intro i act W ⟨hb_i, w1, hf, ha, hw⟩
  refine g_go ha hw ?_
  clear ha hw act W
  refine g_seq ?_
  refine g_region ?_
  refine s_y (y_lss rfl rfl) rfl rfl rfl rfl ?_
  refine s_nil ?_
  refine g_then ?_
  refine g_seq ?_
  refine g_cond rfl (fun cq1 => ?_) (fun cq1 => ?_)
  · (try simp at cq1)
    refine g_skip ?_
    refine g_then ?_
    refine g_seq ?_
    refine g_block ?_
    refine g_seq ?_
    refine g_region ?_
    refine s_y (y_move rfl) rfl rfl rfl rfl ?_
    refine s_y (y_assign rfl) rfl rfl rfl rfl ?_
    refine s_nil ?_
    refine g_then ?_
    refine g_seq ?_
    refine g_region ?_
    refine s_y (y_ldn 0 rfl rfl agg_48 size_48 rfl rfl) rfl rfl rfl rfl ?_
    refine s_y (y_move rfl) rfl rfl rfl rfl ?_
    refine s_tr (t_call rfl rfl ent_68 (fun w h => broken_any w ag as_ cg cs g s (hg.below h.below) (hs.below h.below) i (by omega) hle hgl hgn hsn)) rfl rfl rfl rfl (fun _ _ => ?_)
    refine s_y (y_assign rfl) rfl rfl rfl rfl ?_
    refine s_nil ?_
    refine g_then ?_
    refine g_seq ?_
    refine g_region ?_
    refine s_y (y_move rfl) rfl rfl rfl rfl ?_
    refine s_y (y_gtr rfl rfl) rfl rfl rfl rfl ?_
    refine s_nil ?_
    refine g_then ?_
    refine g_cond rfl (fun cq2 => ?_) (fun cq2 => ?_)
    · (try simp at cq2)
      refine g_seq ?_
      refine g_region ?_
      refine s_y (y_move rfl) rfl rfl rfl rfl ?_
      refine s_y (y_move rfl) rfl rfl rfl rfl ?_
      refine s_y (y_assign rfl) rfl rfl rfl rfl ?_
      refine s_y (y_assign rfl) rfl rfl rfl rfl ?_
      refine s_nil ?_
      refine g_then ?_
      refine g_ret ?_
      refine g_inbr ?_
      refine g_thenr ?_
      refine g_thenr ?_
      refine g_inbr ?_
      refine g_thenr ?_
      have hf0 : frs g s = ((i : Int), brk g s i) := by rw [← hf, frsR_hit' (by omega) (by omega)]
      rw [hf0]
      exact g_end trivial (fun a w ha hq_ => res2 ha rfl rfl rfl  w) (fun w h => ⟨rfl, h.below⟩)
    · (try simp at cq2)
      refine g_skip ?_
      refine g_inb ?_
      refine g_then ?_
      refine g_region ?_
      refine s_y (y_add rfl rfl (by omega) (by omega)) rfl rfl rfl rfl ?_
      refine s_y (y_move rfl) rfl rfl rfl rfl ?_
      refine s_nil ?_
      refine g_then ?_
      exact fun act W ha hw => ⟨i + 1, by omega, by omega, W, (by exact (frsR_skip' (by omega) (by omega)).symm.trans hf), ha.weak (sub_get ⟨rfl, rfl, rfl, trivial⟩), hw.toHq.lookSub (List.Sublist.refl _)⟩
  · (try simp at cq1)
    refine g_exit ?_
    refine g_thenx ?_
    refine g_thenx ?_
    refine g_inbx ?_
    refine g_then ?_
    refine g_seq ?_
    refine g_region ?_
    refine s_y (y_assign rfl) rfl rfl rfl rfl ?_
    refine s_y (y_assign rfl) rfl rfl rfl rfl ?_
    refine s_nil ?_
    refine g_then ?_
    refine g_ret ?_
    have hf0 : frs g s = (0, 0) := by rw [← hf, show s.length - i = 0 by omega]; rfl
    rw [hf0]
    exact g_end trivial (fun a w ha hq_ => res2 ha rfl rfl rfl  w) (fun w h => ⟨rfl, h.below⟩)

theorem read_any (w : World) (ag as_ : Option Addr) (cg cs : Nat) (g s : List Int) (hg : RdV (Value.int .i64) w (.slice ag g.length cg) g) (hs : RdV (Value.int .i64) w (.slice as_ s.length cs) s) (hgl : g.length ≤ 9223372036854775807) (hsl : s.length ≤ 9223372036854775807) :
    Calls Try.prog 48 [.slice ag g.length cg, .slice as_ s.length cs].toArray w fun e w' => e = .returned (.tuple #[.agg #[.slice ag g.length cg, .slice as_ s.length cs], .bool (pairB g s)]) ∧ Below w.heap.size w w' := by
  refine enter (N := 22) Try.func48 rfl rfl rfl ?_
  refine g_seq ?_
  refine g_region ?_
  refine s_tr (t_alloc zero_48 rfl) rfl rfl rfl rfl (fun br hbr => ?_)
  refine s_y (y_assign rfl) rfl rfl rfl rfl ?_
  refine s_nil ?_
  refine g_then ?_
  refine g_seq ?_
  refine g_region ?_
  refine s_y (y_move rfl) rfl rfl rfl rfl ?_
  refine s_y (y_move rfl) rfl rfl rfl rfl ?_
  refine s_y (y_build (vs := [(0, _), (1, _)]) rfl rfl (fun w => bld_48_0_1 _ _ _ _ _ _ w)) rfl rfl rfl rfl ?_
  refine s_y (y_move rfl) rfl rfl rfl rfl ?_
  refine s_tr (t_call rfl rfl ent_46 (fun w h => isPart_any w _ g (hg.below h.below) (by omega))) rfl rfl rfl rfl (fun _ _ => ?_)
  refine s_y (y_move rfl) rfl rfl rfl rfl ?_
  refine g_bool 11 rfl (fun cq1 => ?_) (fun cq1 => ?_)
  · (try simp at cq1)
    have hn : partB g = true := by simpa using cq1
    refine s_y (y_move rfl) rfl rfl rfl rfl ?_
    refine s_tr (t_call rfl rfl ent_46 (fun w h => isPart_any w _ s (hs.below h.below) (by omega))) rfl rfl rfl rfl (fun _ _ => ?_)
    refine s_y (y_pick_t rfl rfl) rfl rfl rfl rfl ?_
    refine s_y (y_move rfl) rfl rfl rfl rfl ?_
    refine g_bool 15 rfl (fun cq2 => ?_) (fun cq2 => ?_)
    · (try simp at cq2)
      have hn2 : partB s = true := by simpa using cq2
      refine s_y (y_move rfl) rfl rfl rfl rfl ?_
      refine s_y (y_lenV (n := g.length) rfl (by obtain ⟨A, c, h1, _⟩ := hg; exact ⟨A, c, h1⟩) sle_22) rfl rfl rfl rfl ?_
      refine s_y (y_move rfl) rfl rfl rfl rfl ?_
      refine s_y (y_lenV (n := s.length) rfl (by obtain ⟨A, c, h1, _⟩ := hs; exact ⟨A, c, h1⟩) sle_22) rfl rfl rfl rfl ?_
      refine s_y (y_eql rfl rfl) rfl rfl rfl rfl ?_
      refine s_y (y_pick_t rfl rfl) rfl rfl rfl rfl ?_
      refine s_tr0 (t_store 0 rfl rfl rfl rfl size_48 rfl rfl) rfl rfl rfl (fun _ _ => ?_)
      refine s_y (y_assign rfl) rfl rfl rfl rfl ?_
      refine s_nil ?_
      refine g_then ?_
      refine g_ret ?_
      rw [show pairB g s = decide (((g.length : Nat) : Int) = ((s.length : Nat) : Int)) from by unfold pairB; first | (rw [hn]; rfl) | (rcases hn2 with h_ | h_ <;> simp [h_]) | (rw [hn, hn2]; simp only [Bool.true_and]; exact decide_eq_decide.2 (by omega))]
      exact g_end trivial (fun a w ha hq_ => res_ct (c := [.slice ag g.length cg, .slice as_ s.length cs]) 0 ha hq_ rfl rfl rfl rfl  agg_48 size_48 rfl) (fun w h => ⟨rfl, h.below⟩)
    · (try simp at cq2)
      have hn2 : partB g = false ∨ partB s = false := by first | exact .inl hn | exact .inr (by simpa using cq2)
      refine s_no rfl rfl rfl ?_
      refine s_no rfl rfl rfl ?_
      refine s_no rfl rfl rfl ?_
      refine s_no rfl rfl rfl ?_
      refine s_no rfl rfl rfl ?_
      refine s_y (y_pick_f rfl rfl) rfl rfl rfl rfl ?_
      refine s_tr0 (t_store 0 rfl rfl rfl rfl size_48 rfl rfl) rfl rfl rfl (fun _ _ => ?_)
      refine s_y (y_assign rfl) rfl rfl rfl rfl ?_
      refine s_nil ?_
      refine g_then ?_
      refine g_ret ?_
      rw [show pairB g s = false from by unfold pairB; first | (rw [hn]; rfl) | (rcases hn2 with h_ | h_ <;> simp [h_]) | (rw [hn, hn2]; simp only [Bool.true_and]; exact decide_eq_decide.2 (by omega))]
      exact g_end trivial (fun a w ha hq_ => res_ct (c := [.slice ag g.length cg, .slice as_ s.length cs]) 0 ha hq_ rfl rfl rfl rfl  agg_48 size_48 rfl) (fun w h => ⟨rfl, h.below⟩)
  · (try simp at cq1)
    have hn : partB g = false := by simpa using cq1
    refine s_no rfl rfl rfl ?_
    refine s_no rfl rfl rfl ?_
    refine s_y (y_pick_f rfl rfl) rfl rfl rfl rfl ?_
    refine s_y (y_move rfl) rfl rfl rfl rfl ?_
    refine s_no rfl rfl rfl ?_
    refine s_no rfl rfl rfl ?_
    refine s_no rfl rfl rfl ?_
    refine s_no rfl rfl rfl ?_
    refine s_no rfl rfl rfl ?_
    refine s_y (y_pick_f rfl rfl) rfl rfl rfl rfl ?_
    refine s_tr0 (t_store 0 rfl rfl rfl rfl size_48 rfl rfl) rfl rfl rfl (fun _ _ => ?_)
    refine s_y (y_assign rfl) rfl rfl rfl rfl ?_
    refine s_nil ?_
    refine g_then ?_
    refine g_ret ?_
    rw [show pairB g s = false from by unfold pairB; first | (rw [hn]; rfl) | (rcases hn2 with h_ | h_ <;> simp [h_]) | (rw [hn, hn2]; simp only [Bool.true_and]; exact decide_eq_decide.2 (by omega))]
    exact g_end trivial (fun a w ha hq_ => res_ct (c := [.slice ag g.length cg, .slice as_ s.length cs]) 0 ha hq_ rfl rfl rfl rfl  agg_48 size_48 rfl) (fun w h => ⟨rfl, h.below⟩)

end Go.Proofs.Ytolalckejnijkaa
