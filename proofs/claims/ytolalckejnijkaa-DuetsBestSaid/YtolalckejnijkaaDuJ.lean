/- duets: the reference's search, and what it tells. -/
import Derived.Test.YtolalckejnijkaaDuH
import Derived.Test.YtolalckejnijkaaSxRecX
namespace Go.Proofs.Ytolalckejnijkaa
open Go.RowKit Go.Sx 
set_option linter.unusedVariables false
set_option linter.unusedSimpArgs false
set_option maxRecDepth 100000
set_option maxHeartbeats 4000000

private theorem fld_59_1 (b off : Nat) (w : World) : (Instr.fieldAt 59 (.pointer (some ⟨b, off, none⟩)) 1).run Try.prog w = .ok (.pointer (some ⟨b, off + 1, none⟩)) w := by kernel_rfl
private theorem agg_3 : isAggB Try.prog 3 = some false := by kernel_rfl
private theorem sle_22 : Try.prog.underlying 22 = some (.slice (Try.prog.elem 22)) := by kernel_rfl
private theorem size_3 : (Try.prog.info? 3).map (·.size) = some 1 := by kernel_rfl
private theorem fld_59_0 (b off : Nat) (w : World) : (Instr.fieldAt 59 (.pointer (some ⟨b, off, none⟩)) 0).run Try.prog w = .ok (.pointer (some ⟨b, off, none⟩)) w := by kernel_rfl
private theorem ent_63 : Enters Try.prog 63 := enters_of Try.func63 (by kernel_rfl) rfl
private theorem fld_59_3 (b off : Nat) (w : World) : (Instr.fieldAt 59 (.pointer (some ⟨b, off, none⟩)) 3).run Try.prog w = .ok (.pointer (some ⟨b, off + 3, none⟩)) w := by kernel_rfl
private theorem size_22 : (Try.prog.info? 22).map (·.size) = some 1 := by kernel_rfl
private theorem fld_59_4 (b off : Nat) (w : World) : (Instr.fieldAt 59 (.pointer (some ⟨b, off, none⟩)) 4).run Try.prog w = .ok (.pointer (some ⟨b, off + 4, none⟩)) w := by kernel_rfl
private theorem fld_59_2 (b off : Nat) (w : World) : (Instr.fieldAt 59 (.pointer (some ⟨b, off, none⟩)) 2).run Try.prog w = .ok (.pointer (some ⟨b, off + 2, none⟩)) w := by kernel_rfl
private theorem inf_3 : ∃ ie, Try.prog.info? 3 = some ie ∧ ie.zero = some (.int .i64 0) ∧ ie.size = 1 ∧ ie.bytes = 8 := info_of (by kernel_rfl) (by kernel_rfl)
private theorem ent_50 : Enters Try.prog 50 := enters_of Try.func50 (by kernel_rfl) rfl
private theorem ent_54 : Enters Try.prog 54 := enters_of Try.func54 (by kernel_rfl) rfl
private theorem zero_59 : (Try.prog.info? 59).bind (·.zero) = some (.agg #[(.int .i64 0), (.int .i64 0), (.int .i64 0), (.slice none 0 0), (.slice none 0 0)]) := by kernel_rfl
private theorem agg_22 : isAggB Try.prog 22 = some false := by kernel_rfl

/-- What there is to tell of all right second parts. -/
structure Fnd where
  c : Int
  l : Int
  w : Int
  fi : List Int
  be : List Int
def bump (s : List Int) (f : Fnd) : Fnd := { f with l := if (s.length : Int) > f.l then (s.length : Int) else f.l }
def leaf (g s : List Int) (f : Fnd) : Fnd :=
  { c := f.c + 1, l := f.l, w := if f.c + 1 = 1 ∨ wsum g s s.length > f.w then wsum g s s.length else f.w, fi := if f.c + 1 = 1 then s else f.fi, be := if f.c + 1 = 1 ∨ wsum g s s.length > f.w then s else f.be }
def srch (g : List Int) : Nat → List Int → Fnd → Fnd
  | 0, s, f => leaf g s (bump s f)
  | k + 1, s, f => (nxL g s).foldl (fun f x => srch g k (s ++ [x]) f) (bump s f)
theorem fold_c {g s : List Int} {k : Nat} (h : ∀ s f, (srch g k s f).c = f.c + cntR g k s) : ∀ (xs : List Int) (f : Fnd), (xs.foldl (fun f x => srch g k (s ++ [x]) f) f).c = f.c + (xs.map fun x => cntR g k (s ++ [x])).sum
  | [], f => by simp
  | x :: xs, f => by rw [List.foldl_cons, fold_c h xs, h, List.map_cons, List.sum_cons]; omega
theorem srch_c {g : List Int} : ∀ (k : Nat) (s : List Int) (f : Fnd), (srch g k s f).c = f.c + cntR g k s
  | 0, s, f => rfl
  | k + 1, s, f => fold_c (srch_c k) _ _
theorem nxP_sum_le {h : Int → Int} (hn : ∀ x, 0 ≤ h x) {g s : List Int} {i : Nat} (hi : i ≤ 21) : ((nxP g s i).map h).sum ≤ ((nxL g s).map h).sum := by
  obtain ⟨t, ht⟩ := nxP_pre g s i (21 - i)
  rw [show i + (21 - i) = 21 by omega] at ht
  unfold nxL
  rw [ht, List.map_append, List.sum_append]
  have : ∀ xs : List Int, 0 ≤ (xs.map h).sum := fun xs => by
    induction xs with
    | nil => simp
    | cons x xs ih => have := hn x; simp only [List.map_cons, List.sum_cons]; omega
  have := this t
  omega

def SearchAt (g : List Int) (k : Nat) : Prop := ∀ (ag as_ : Option Addr) (cg cs : Nat) (s : List Int) (fb : Nat) (f : Fnd) (fv bv : Value) (w0 wE : World), (s.length + k = g.length) → (∀ x ∈ s, 0 ≤ x ∧ x ≤ 20) → (Below w0.heap.size w0 wE) → (w0.heap.size ≤ fb) → (wE.heap[fb]? = some (.cells [.int .i64 f.c, .int .i64 f.l, .int .i64 f.w, fv, bv].toArray 59 (0, 0))) → (0 ≤ f.c) → (f.c + cntR g (k) s ≤ 1000000000000) → (RdV (Value.int .i64) w0 (.slice ag g.length cg) g) → (RdV (Value.int .i64) wE (.slice as_ s.length cs) s) → (At0 w0.heap.size fb (.slice as_ s.length cs)) → ((RdV (Value.int .i64) wE fv f.fi ∧ At0 w0.heap.size fb fv)) → ((RdV (Value.int .i64) wE bv f.be ∧ At0 w0.heap.size fb bv)) →
    Calls Try.prog 54 [.slice ag g.length cg, .slice as_ s.length cs, .pointer (some ⟨fb, 0, none⟩)].toArray wE fun e w' => ∃ y : Fnd × Value × Value, (y.1 = srch g (k) s f ∧ (RdV (Value.int .i64) w' y.2.1 y.1.fi ∧ At0 w0.heap.size fb y.2.1) ∧ (RdV (Value.int .i64) w' y.2.2 y.1.be ∧ At0 w0.heap.size fb y.2.2)) ∧ e = .returned (.tuple #[]) ∧ Hp w0 wE [(fb, .cells [.int .i64 y.1.c, .int .i64 y.1.l, .int .i64 y.1.w, y.2.1, y.2.2].toArray 59 (0, 0))] w'

theorem Hp.startF {w0 wE : World} {ob : Nat} {oo : Obj} (hb : Below w0.heap.size w0 wE) (hge : w0.heap.size ≤ ob) (hm : wE.heap[ob]? = some oo) (hg : isBook oo = false) : Hp w0 wE [(ob, oo)] wE :=
  ⟨⟨hb, Nat.le_refl _, fun _ _ _ _ => rfl, fun p hp => by rw [List.mem_singleton] at hp; subst hp; exact hm, fun p hp => by rw [List.mem_singleton] at hp; subst hp; exact hge, by simp, fun p hp => by rw [List.mem_singleton] at hp; subst hp; exact hg⟩, fun _ _ h _ => h⟩

theorem search_full (g : List Int) (hgl : g.length ≤ 8) (hgn : ∀ x ∈ g, 0 ≤ x ∧ x ≤ 20) (ag as_ : Option Addr) (cg cs : Nat) (s : List Int) (fb : Nat) (f : Fnd) (fv bv : Value) (w0 wE : World) (kk : Nat) (hle : s.length + 0 = g.length) (hsn : ∀ x ∈ s, 0 ≤ x ∧ x ≤ 20) (hb0 : Below w0.heap.size w0 wE) (hge : w0.heap.size ≤ fb) (hfb : wE.heap[fb]? = some (.cells [.int .i64 f.c, .int .i64 f.l, .int .i64 f.w, fv, bv].toArray 59 (0, 0))) (hc0 : 0 ≤ f.c) (hc1 : f.c + cntR g (0) s ≤ 1000000000000) (hg : RdV (Value.int .i64) w0 (.slice ag g.length cg) g) (hs : RdV (Value.int .i64) wE (.slice as_ s.length cs) s) (hsa : At0 w0.heap.size fb (.slice as_ s.length cs)) (hfv : (RdV (Value.int .i64) wE fv f.fi ∧ At0 w0.heap.size fb fv)) (hbv : (RdV (Value.int .i64) wE bv f.be ∧ At0 w0.heap.size fb bv)) (hpair : pairB g s = true) :
    Calls Try.prog 54 [.slice ag g.length cg, .slice as_ s.length cs, .pointer (some ⟨fb, 0, none⟩)].toArray wE fun e w' => ∃ y : Fnd × Value × Value, (y.1 = srch g (0) s f ∧ (RdV (Value.int .i64) w' y.2.1 y.1.fi ∧ At0 w0.heap.size fb y.2.1) ∧ (RdV (Value.int .i64) w' y.2.2 y.1.be ∧ At0 w0.heap.size fb y.2.2)) ∧ e = .returned (.tuple #[]) ∧ Hp w0 wE [(fb, .cells [.int .i64 y.1.c, .int .i64 y.1.l, .int .i64 y.1.w, y.2.1, y.2.2].toArray 59 (0, 0))] w' := by
  have hcb := cntR_bounds g kk s
  have hp8 := pow21 (k := kk)
  refine enterM (N := 87) Try.func54 rfl rfl rfl (Hp.startF hb0 hge hfb rfl) ?_
  refine g_seq ?_
  have hc1_ : f.c + 1 ≤ 1000000000000 := hc1
  refine g_region ?_
  refine s_y (y_move rfl) rfl rfl rfl rfl ?_
  refine s_y (y_move rfl) rfl rfl rfl rfl ?_
  refine s_y (y_nil rfl) rfl rfl rfl rfl ?_
  refine s_y (y_fld rfl (fun w => fld_59_1 _ _ w)) rfl rfl rfl rfl ?_
  refine s_y (y_ld1 0 rfl rfl agg_3 rfl) rfl rfl rfl rfl ?_
  refine s_y (y_move rfl) rfl rfl rfl rfl ?_
  refine s_y (y_lenV (n := s.length) rfl (by obtain ⟨A, c, h1, _⟩ := hs; exact ⟨A, c, h1⟩) sle_22) rfl rfl rfl rfl ?_
  refine s_y (y_max rfl rfl) rfl rfl rfl rfl ?_
  refine s_y (y_nil rfl) rfl rfl rfl rfl ?_
  refine s_y (y_fld rfl (fun w => fld_59_1 _ _ w)) rfl rfl rfl rfl ?_
  refine s_tr0 (t_store 0 rfl rfl rfl rfl size_3 rfl rfl) rfl rfl rfl (fun _ _ => ?_)
  refine s_nil ?_
  refine g_then ?_
  refine g_seq ?_
  refine g_seq ?_
  refine g_region ?_
  refine s_y (y_move rfl) rfl rfl rfl rfl ?_
  refine s_y (y_lenV (n := s.length) rfl (by obtain ⟨A, c, h1, _⟩ := hs; exact ⟨A, c, h1⟩) sle_22) rfl rfl rfl rfl ?_
  refine s_y (y_move rfl) rfl rfl rfl rfl ?_
  refine s_y (y_lenV (n := g.length) rfl (by obtain ⟨A, c, h1, _⟩ := hg; exact ⟨A, c, h1⟩) sle_22) rfl rfl rfl rfl ?_
  refine s_y (y_eql_t rfl rfl (by omega)) rfl rfl rfl rfl ?_
  refine s_nil ?_
  refine g_then ?_
  refine g_cond_t rfl ?_
  refine g_seq ?_
  refine g_region ?_
  refine s_y (y_move rfl) rfl rfl rfl rfl ?_
  refine s_y (y_nil rfl) rfl rfl rfl rfl ?_
  refine s_y (y_fld rfl (fun w => fld_59_0 _ _ w)) rfl rfl rfl rfl ?_
  refine s_y (y_ld1 0 rfl rfl agg_3 rfl) rfl rfl rfl rfl ?_
  refine s_y (y_add rfl rfl (by omega) (by omega)) rfl rfl rfl rfl ?_
  refine s_y (y_nil rfl) rfl rfl rfl rfl ?_
  refine s_y (y_fld rfl (fun w => fld_59_0 _ _ w)) rfl rfl rfl rfl ?_
  refine s_tr0 (t_store 0 rfl rfl rfl rfl size_3 rfl rfl) rfl rfl rfl (fun _ _ => ?_)
  refine s_nil ?_
  refine g_then ?_
  refine g_seq ?_
  refine g_region ?_
  refine s_y (y_move rfl) rfl rfl rfl rfl ?_
  refine s_y (y_move rfl) rfl rfl rfl rfl ?_
  refine s_tr (t_call rfl rfl ent_63 (fun w h => Rworth_any w _ _ g s (hg.below h.below) (hs.keepX (h.toHq.kx (sd_mb sd_nil)) hsa) hpair)) rfl rfl rfl rfl (fun _ _ => ?_)
  refine s_y (y_assign rfl) rfl rfl rfl rfl ?_
  refine s_nil ?_
  refine g_then ?_
  refine g_seq ?_
  refine g_seq ?_
  refine g_region ?_
  refine s_y (y_move rfl) rfl rfl rfl rfl ?_
  refine s_y (y_nil rfl) rfl rfl rfl rfl ?_
  refine s_y (y_fld rfl (fun w => fld_59_0 _ _ w)) rfl rfl rfl rfl ?_
  refine s_y (y_ld1 0 rfl rfl agg_3 rfl) rfl rfl rfl rfl ?_
  refine s_y (y_eql rfl rfl) rfl rfl rfl rfl ?_
  refine s_nil ?_
  refine g_then ?_
  refine g_cond rfl (fun cq1 => ?_) (fun cq1 => ?_)
  · (try simp at cq1)
    refine g_region ?_
    refine s_y (y_move rfl) rfl rfl rfl rfl ?_
    refine s_y (y_move rfl) rfl rfl rfl rfl ?_
    refine s_y (y_nil rfl) rfl rfl rfl rfl ?_
    refine s_y (y_fld rfl (fun w => fld_59_3 _ _ w)) rfl rfl rfl rfl ?_
    refine s_tr0 (t_store 0 rfl rfl rfl hs.cells1 size_22 rfl (by simp [hs.one])) rfl rfl rfl (fun _ _ => ?_)
    refine s_nil ?_
    refine g_then ?_
    refine g_seq ?_
    refine g_seq ?_
    refine g_region ?_
    refine s_y (y_move rfl) rfl rfl rfl rfl ?_
    refine s_y (y_nil rfl) rfl rfl rfl rfl ?_
    refine s_y (y_fld rfl (fun w => fld_59_0 _ _ w)) rfl rfl rfl rfl ?_
    refine s_y (y_ld1 0 rfl rfl agg_3 rfl) rfl rfl rfl rfl ?_
    refine s_y (y_eql rfl rfl) rfl rfl rfl rfl ?_
    refine s_y (y_move rfl) rfl rfl rfl rfl ?_
    refine g_bool 48 rfl (fun cq2 => ?_) (fun cq2 => ?_)
    · (try simp at cq2)
      refine s_no rfl rfl rfl ?_
      refine s_no rfl rfl rfl ?_
      refine s_no rfl rfl rfl ?_
      refine s_no rfl rfl rfl ?_
      refine s_no rfl rfl rfl ?_
      refine s_no rfl rfl rfl ?_
      refine s_y (y_pick_t rfl rfl) rfl rfl rfl rfl ?_
      refine s_nil ?_
      refine g_then ?_
      refine g_cond_t rfl ?_
      refine g_region ?_
      refine s_y (y_move rfl) rfl rfl rfl rfl ?_
      refine s_y (y_move rfl) rfl rfl rfl rfl ?_
      refine s_y (y_move rfl) rfl rfl rfl rfl ?_
      refine s_y (y_move rfl) rfl rfl rfl rfl ?_
      refine s_y (y_nil rfl) rfl rfl rfl rfl ?_
      refine s_y (y_fld rfl (fun w => fld_59_4 _ _ w)) rfl rfl rfl rfl ?_
      refine s_tr0 (t_store 0 rfl rfl rfl hs.cells1 size_22 rfl (by simp [hs.one])) rfl rfl rfl (fun _ _ => ?_)
      refine s_y (y_nil rfl) rfl rfl rfl rfl ?_
      refine s_y (y_fld rfl (fun w => fld_59_2 _ _ w)) rfl rfl rfl rfl ?_
      refine s_tr0 (t_store 0 rfl rfl rfl rfl size_3 rfl rfl) rfl rfl rfl (fun _ _ => ?_)
      refine s_nil ?_
      refine g_then ?_
      refine g_ret ?_
      refine g_thenr ?_
      have e_ : (⟨f.c + 1, if (s.length : Nat) > f.l then (s.length : Nat) else f.l, wsum g s s.length, s, s⟩ : Fnd) = srch g 0 s f := by unfold srch leaf bump; simp only []; (repeat' split) <;> first | rfl | omega | (exfalso; omega) | (simp_all; done)
      exact g_end0 (fun a w ha hq_ => res0 rfl w) (fun w h => ⟨(⟨f.c + 1, if (s.length : Nat) > f.l then (s.length : Nat) else f.l, wsum g s s.length, s, s⟩, .slice as_ s.length cs, .slice as_ s.length cs), ⟨e_, ⟨hs.keepX (h.toHq.kx (sd_mb sd_nil)) hsa, hsa⟩, ⟨hs.keepX (h.toHq.kx (sd_mb sd_nil)) hsa, hsa⟩⟩, rfl, h⟩)
    · (try simp at cq2)
      refine s_y (y_move rfl) rfl rfl rfl rfl ?_
      refine s_y (y_move rfl) rfl rfl rfl rfl ?_
      refine s_y (y_nil rfl) rfl rfl rfl rfl ?_
      refine s_y (y_fld rfl (fun w => fld_59_2 _ _ w)) rfl rfl rfl rfl ?_
      refine s_y (y_ld1 0 rfl rfl agg_3 rfl) rfl rfl rfl rfl ?_
      refine s_y (y_gtr rfl rfl) rfl rfl rfl rfl ?_
      refine s_y (y_pick_f rfl rfl) rfl rfl rfl rfl ?_
      refine s_nil ?_
      refine g_then ?_
      refine g_cond rfl (fun cq3 => ?_) (fun cq3 => ?_)
      · (try simp at cq3)
        refine g_region ?_
        refine s_y (y_move rfl) rfl rfl rfl rfl ?_
        refine s_y (y_move rfl) rfl rfl rfl rfl ?_
        refine s_y (y_move rfl) rfl rfl rfl rfl ?_
        refine s_y (y_move rfl) rfl rfl rfl rfl ?_
        refine s_y (y_nil rfl) rfl rfl rfl rfl ?_
        refine s_y (y_fld rfl (fun w => fld_59_4 _ _ w)) rfl rfl rfl rfl ?_
        refine s_tr0 (t_store 0 rfl rfl rfl hs.cells1 size_22 rfl (by simp [hs.one])) rfl rfl rfl (fun _ _ => ?_)
        refine s_y (y_nil rfl) rfl rfl rfl rfl ?_
        refine s_y (y_fld rfl (fun w => fld_59_2 _ _ w)) rfl rfl rfl rfl ?_
        refine s_tr0 (t_store 0 rfl rfl rfl rfl size_3 rfl rfl) rfl rfl rfl (fun _ _ => ?_)
        refine s_nil ?_
        refine g_then ?_
        refine g_ret ?_
        refine g_thenr ?_
        have e_ : (⟨f.c + 1, if (s.length : Nat) > f.l then (s.length : Nat) else f.l, wsum g s s.length, s, s⟩ : Fnd) = srch g 0 s f := by unfold srch leaf bump; simp only []; (repeat' split) <;> first | rfl | omega | (exfalso; omega) | (simp_all; done)
        exact g_end0 (fun a w ha hq_ => res0 rfl w) (fun w h => ⟨(⟨f.c + 1, if (s.length : Nat) > f.l then (s.length : Nat) else f.l, wsum g s s.length, s, s⟩, .slice as_ s.length cs, .slice as_ s.length cs), ⟨e_, ⟨hs.keepX (h.toHq.kx (sd_mb sd_nil)) hsa, hsa⟩, ⟨hs.keepX (h.toHq.kx (sd_mb sd_nil)) hsa, hsa⟩⟩, rfl, h⟩)
      · (try simp at cq3)
        refine g_skip ?_
        refine g_then ?_
        refine g_ret ?_
        refine g_thenr ?_
        have e_ : (⟨f.c + 1, if (s.length : Nat) > f.l then (s.length : Nat) else f.l, f.w, s, f.be⟩ : Fnd) = srch g 0 s f := by unfold srch leaf bump; simp only []; (repeat' split) <;> first | rfl | omega | (exfalso; omega) | (simp_all; done)
        exact g_end0 (fun a w ha hq_ => res0 rfl w) (fun w h => ⟨(⟨f.c + 1, if (s.length : Nat) > f.l then (s.length : Nat) else f.l, f.w, s, f.be⟩, .slice as_ s.length cs, bv), ⟨e_, ⟨hs.keepX (h.toHq.kx (sd_mb sd_nil)) hsa, hsa⟩, ⟨hbv.1.keepX (h.toHq.kx (sd_mb sd_nil)) hbv.2, hbv.2⟩⟩, rfl, h⟩)
  · (try simp at cq1)
    refine g_skip ?_
    refine g_then ?_
    refine g_seq ?_
    refine g_seq ?_
    refine g_region ?_
    refine s_y (y_move rfl) rfl rfl rfl rfl ?_
    refine s_y (y_nil rfl) rfl rfl rfl rfl ?_
    refine s_y (y_fld rfl (fun w => fld_59_0 _ _ w)) rfl rfl rfl rfl ?_
    refine s_y (y_ld1 0 rfl rfl agg_3 rfl) rfl rfl rfl rfl ?_
    refine s_y (y_eql rfl rfl) rfl rfl rfl rfl ?_
    refine s_y (y_move rfl) rfl rfl rfl rfl ?_
    refine g_bool 48 rfl (fun cq4 => ?_) (fun cq4 => ?_)
    · (try simp at cq4)
      refine s_no rfl rfl rfl ?_
      refine s_no rfl rfl rfl ?_
      refine s_no rfl rfl rfl ?_
      refine s_no rfl rfl rfl ?_
      refine s_no rfl rfl rfl ?_
      refine s_no rfl rfl rfl ?_
      refine s_y (y_pick_t rfl rfl) rfl rfl rfl rfl ?_
      refine s_nil ?_
      refine g_then ?_
      refine g_cond_t rfl ?_
      refine g_region ?_
      refine s_y (y_move rfl) rfl rfl rfl rfl ?_
      refine s_y (y_move rfl) rfl rfl rfl rfl ?_
      refine s_y (y_move rfl) rfl rfl rfl rfl ?_
      refine s_y (y_move rfl) rfl rfl rfl rfl ?_
      refine s_y (y_nil rfl) rfl rfl rfl rfl ?_
      refine s_y (y_fld rfl (fun w => fld_59_4 _ _ w)) rfl rfl rfl rfl ?_
      refine s_tr0 (t_store 0 rfl rfl rfl hs.cells1 size_22 rfl (by simp [hs.one])) rfl rfl rfl (fun _ _ => ?_)
      refine s_y (y_nil rfl) rfl rfl rfl rfl ?_
      refine s_y (y_fld rfl (fun w => fld_59_2 _ _ w)) rfl rfl rfl rfl ?_
      refine s_tr0 (t_store 0 rfl rfl rfl rfl size_3 rfl rfl) rfl rfl rfl (fun _ _ => ?_)
      refine s_nil ?_
      refine g_then ?_
      refine g_ret ?_
      refine g_thenr ?_
      have e_ : (⟨f.c + 1, if (s.length : Nat) > f.l then (s.length : Nat) else f.l, wsum g s s.length, f.fi, s⟩ : Fnd) = srch g 0 s f := by unfold srch leaf bump; simp only []; (repeat' split) <;> first | rfl | omega | (exfalso; omega) | (simp_all; done)
      exact g_end0 (fun a w ha hq_ => res0 rfl w) (fun w h => ⟨(⟨f.c + 1, if (s.length : Nat) > f.l then (s.length : Nat) else f.l, wsum g s s.length, f.fi, s⟩, fv, .slice as_ s.length cs), ⟨e_, ⟨hfv.1.keepX (h.toHq.kx (sd_mb sd_nil)) hfv.2, hfv.2⟩, ⟨hs.keepX (h.toHq.kx (sd_mb sd_nil)) hsa, hsa⟩⟩, rfl, h⟩)
    · (try simp at cq4)
      refine s_y (y_move rfl) rfl rfl rfl rfl ?_
      refine s_y (y_move rfl) rfl rfl rfl rfl ?_
      refine s_y (y_nil rfl) rfl rfl rfl rfl ?_
      refine s_y (y_fld rfl (fun w => fld_59_2 _ _ w)) rfl rfl rfl rfl ?_
      refine s_y (y_ld1 0 rfl rfl agg_3 rfl) rfl rfl rfl rfl ?_
      refine s_y (y_gtr rfl rfl) rfl rfl rfl rfl ?_
      refine s_y (y_pick_f rfl rfl) rfl rfl rfl rfl ?_
      refine s_nil ?_
      refine g_then ?_
      refine g_cond rfl (fun cq5 => ?_) (fun cq5 => ?_)
      · (try simp at cq5)
        refine g_region ?_
        refine s_y (y_move rfl) rfl rfl rfl rfl ?_
        refine s_y (y_move rfl) rfl rfl rfl rfl ?_
        refine s_y (y_move rfl) rfl rfl rfl rfl ?_
        refine s_y (y_move rfl) rfl rfl rfl rfl ?_
        refine s_y (y_nil rfl) rfl rfl rfl rfl ?_
        refine s_y (y_fld rfl (fun w => fld_59_4 _ _ w)) rfl rfl rfl rfl ?_
        refine s_tr0 (t_store 0 rfl rfl rfl hs.cells1 size_22 rfl (by simp [hs.one])) rfl rfl rfl (fun _ _ => ?_)
        refine s_y (y_nil rfl) rfl rfl rfl rfl ?_
        refine s_y (y_fld rfl (fun w => fld_59_2 _ _ w)) rfl rfl rfl rfl ?_
        refine s_tr0 (t_store 0 rfl rfl rfl rfl size_3 rfl rfl) rfl rfl rfl (fun _ _ => ?_)
        refine s_nil ?_
        refine g_then ?_
        refine g_ret ?_
        refine g_thenr ?_
        have e_ : (⟨f.c + 1, if (s.length : Nat) > f.l then (s.length : Nat) else f.l, wsum g s s.length, f.fi, s⟩ : Fnd) = srch g 0 s f := by unfold srch leaf bump; simp only []; (repeat' split) <;> first | rfl | omega | (exfalso; omega) | (simp_all; done)
        exact g_end0 (fun a w ha hq_ => res0 rfl w) (fun w h => ⟨(⟨f.c + 1, if (s.length : Nat) > f.l then (s.length : Nat) else f.l, wsum g s s.length, f.fi, s⟩, fv, .slice as_ s.length cs), ⟨e_, ⟨hfv.1.keepX (h.toHq.kx (sd_mb sd_nil)) hfv.2, hfv.2⟩, ⟨hs.keepX (h.toHq.kx (sd_mb sd_nil)) hsa, hsa⟩⟩, rfl, h⟩)
      · (try simp at cq5)
        refine g_skip ?_
        refine g_then ?_
        refine g_ret ?_
        refine g_thenr ?_
        have e_ : (⟨f.c + 1, if (s.length : Nat) > f.l then (s.length : Nat) else f.l, f.w, f.fi, f.be⟩ : Fnd) = srch g 0 s f := by unfold srch leaf bump; simp only []; (repeat' split) <;> first | rfl | omega | (exfalso; omega) | (simp_all; done)
        exact g_end0 (fun a w ha hq_ => res0 rfl w) (fun w h => ⟨(⟨f.c + 1, if (s.length : Nat) > f.l then (s.length : Nat) else f.l, f.w, f.fi, f.be⟩, fv, bv), ⟨e_, ⟨hfv.1.keepX (h.toHq.kx (sd_mb sd_nil)) hfv.2, hfv.2⟩, ⟨hbv.1.keepX (h.toHq.kx (sd_mb sd_nil)) hbv.2, hbv.2⟩⟩, rfl, h⟩)

theorem search_new (g : List Int) (hgl : g.length ≤ 8) (hgn : ∀ x ∈ g, 0 ≤ x ∧ x ≤ 20) (ag as_ : Option Addr) (cg cs : Nat) (s : List Int) (fb : Nat) (f : Fnd) (fv bv : Value) (w0 wE : World) (kk : Nat) (hle : s.length + (kk + 1) = g.length) (hsn : ∀ x ∈ s, 0 ≤ x ∧ x ≤ 20) (hb0 : Below w0.heap.size w0 wE) (hge : w0.heap.size ≤ fb) (hfb : wE.heap[fb]? = some (.cells [.int .i64 f.c, .int .i64 f.l, .int .i64 f.w, fv, bv].toArray 59 (0, 0))) (hc0 : 0 ≤ f.c) (hc1 : f.c + cntR g ((kk + 1)) s ≤ 1000000000000) (hg : RdV (Value.int .i64) w0 (.slice ag g.length cg) g) (hs : RdV (Value.int .i64) wE (.slice as_ s.length cs) s) (hsa : At0 w0.heap.size fb (.slice as_ s.length cs)) (hfv : (RdV (Value.int .i64) wE fv f.fi ∧ At0 w0.heap.size fb fv)) (hbv : (RdV (Value.int .i64) wE bv f.be ∧ At0 w0.heap.size fb bv)) (hcp : s.length ≤ cs) (hvf : RdV (Value.int .i64) wE (.slice as_ s.length s.length) s) (hsf : At0 w0.heap.size fb (.slice as_ s.length s.length)) (IH : SearchAt g kk) :
    Calls Try.prog 54 [.slice ag g.length cg, .slice as_ s.length cs, .pointer (some ⟨fb, 0, none⟩)].toArray wE fun e w' => ∃ y : Fnd × Value × Value, (y.1 = srch g ((kk + 1)) s f ∧ (RdV (Value.int .i64) w' y.2.1 y.1.fi ∧ At0 w0.heap.size fb y.2.1) ∧ (RdV (Value.int .i64) w' y.2.2 y.1.be ∧ At0 w0.heap.size fb y.2.2)) ∧ e = .returned (.tuple #[]) ∧ Hp w0 wE [(fb, .cells [.int .i64 y.1.c, .int .i64 y.1.l, .int .i64 y.1.w, y.2.1, y.2.2].toArray 59 (0, 0))] w' := by
  obtain ⟨ie3, hi3⟩ := inf_3
  have hcb := cntR_bounds g kk s
  have hp8 := pow21 (k := kk)
  refine enterM (N := 87) Try.func54 rfl rfl rfl (Hp.startF hb0 hge hfb rfl) ?_
  refine g_seq ?_
  refine g_region ?_
  refine s_y (y_move rfl) rfl rfl rfl rfl ?_
  refine s_y (y_move rfl) rfl rfl rfl rfl ?_
  refine s_y (y_nil rfl) rfl rfl rfl rfl ?_
  refine s_y (y_fld rfl (fun w => fld_59_1 _ _ w)) rfl rfl rfl rfl ?_
  refine s_y (y_ld1 0 rfl rfl agg_3 rfl) rfl rfl rfl rfl ?_
  refine s_y (y_move rfl) rfl rfl rfl rfl ?_
  refine s_y (y_lenV (n := s.length) rfl (by obtain ⟨A, c, h1, _⟩ := hs; exact ⟨A, c, h1⟩) sle_22) rfl rfl rfl rfl ?_
  refine s_y (y_max rfl rfl) rfl rfl rfl rfl ?_
  refine s_y (y_nil rfl) rfl rfl rfl rfl ?_
  refine s_y (y_fld rfl (fun w => fld_59_1 _ _ w)) rfl rfl rfl rfl ?_
  refine s_tr0 (t_store 0 rfl rfl rfl rfl size_3 rfl rfl) rfl rfl rfl (fun _ _ => ?_)
  refine s_nil ?_
  refine g_then ?_
  refine g_seq ?_
  refine g_seq ?_
  refine g_region ?_
  refine s_y (y_move rfl) rfl rfl rfl rfl ?_
  refine s_y (y_lenV (n := s.length) rfl (by obtain ⟨A, c, h1, _⟩ := hs; exact ⟨A, c, h1⟩) sle_22) rfl rfl rfl rfl ?_
  refine s_y (y_move rfl) rfl rfl rfl rfl ?_
  refine s_y (y_lenV (n := g.length) rfl (by obtain ⟨A, c, h1, _⟩ := hg; exact ⟨A, c, h1⟩) sle_22) rfl rfl rfl rfl ?_
  refine s_y (y_eql_f rfl rfl (by omega)) rfl rfl rfl rfl ?_
  refine s_nil ?_
  refine g_then ?_
  refine g_cond_f rfl ?_
  refine g_skip ?_
  refine g_then ?_
  refine g_seq ?_
  refine g_region ?_
  refine s_y (y_move rfl) rfl rfl rfl rfl ?_
  refine s_nil ?_
  refine g_then ?_
  refine g_block ?_
  refine g_loop (fun (i : Nat) act W => i ≤ 21 ∧ ∃ (f' : Fnd) (fv' : Value) (bv' : Value) (w1 : World), (Hp w0 wE [(fb, .cells [.int .i64 f'.c, .int .i64 f'.l, .int .i64 f'.w, fv', bv'].toArray 59 (0, 0))] w1) ∧ (f' = (nxP g s i).foldl (fun f x => srch g kk (s ++ [x]) f) (bump s f)) ∧ (f'.c = f.c + ((nxP g s i).map fun y => cntR g kk (s ++ [y])).sum) ∧ ((RdV (Value.int .i64) w1 fv' f'.fi ∧ At0 w0.heap.size fb fv')) ∧ ((RdV (Value.int .i64) w1 bv' f'.be ∧ At0 w0.heap.size fb bv')) ∧ Has 87 [] [(0, .slice ag g.length cg), (1, .slice as_ s.length cs), (2, .pointer (some ⟨fb, 0, none⟩)), (64, .int .i64 (i : Int))] act ∧ Hp w0 w1 ((fb, .cells [.int .i64 f'.c, .int .i64 f'.l, .int .i64 f'.w, fv', bv'].toArray 59 (0, 0)) :: []) W) (fun i => 21 - i) 0 (fun act W ha hw => ⟨by omega, (bump s f), fv, bv, W, (by exact hw), (by rfl), (by show f.c = f.c + 0; omega), (by exact ⟨hfv.1.keepX (hw.toHq.kx (sd_mb sd_nil)) hfv.2, hfv.2⟩), (by exact ⟨hbv.1.keepX (hw.toHq.kx (sd_mb sd_nil)) hbv.2, hbv.2⟩), ha.weak (sub_get ⟨rfl, rfl, rfl, rfl, trivial⟩), hw.toHq.lookSub (List.Sublist.refl _)⟩) ?_
  intro i act W ⟨hb_i, f', fv', bv', w1, hE, hf, hfc, hfv, hbv, ha, hw⟩
  refine g_go ha hw ?_
  clear ha hw act W
  have hfbl : fb < w1.heap.size := lt_of_heap (hE.at_ _ (List.mem_singleton_self _))
  refine g_seq ?_
  refine g_region ?_
  refine s_y (y_lss rfl rfl) rfl rfl rfl rfl ?_
  refine s_nil ?_
  refine g_then ?_
  refine g_seq ?_
  refine g_cond rfl (fun cq1 => ?_) (fun cq1 => ?_)
  · (try simp at cq1)
    refine g_skip ?_
    refine g_then ?_
    refine g_seq ?_
    refine g_block ?_
    refine g_seq ?_
    refine g_region ?_
    refine s_y (y_move rfl) rfl rfl rfl rfl ?_
    refine s_y (y_assign rfl) rfl rfl rfl rfl ?_
    refine s_nil ?_
    refine g_then ?_
    refine g_seq ?_
    refine g_region ?_
    refine s_y (y_move rfl) rfl rfl rfl rfl ?_
    refine s_y (y_move rfl) rfl rfl rfl rfl ?_
    refine s_y (y_lenV (n := s.length) rfl (by obtain ⟨A, c, h1, _⟩ := hs; exact ⟨A, c, h1⟩) sle_22) rfl rfl rfl rfl ?_
    refine s_y (y_move rfl) rfl rfl rfl rfl ?_
    refine s_y (y_lenV (n := s.length) rfl (by obtain ⟨A, c, h1, _⟩ := hs; exact ⟨A, c, h1⟩) sle_22) rfl rfl rfl rfl ?_
    refine s_y (y_full rfl rfl rfl hcp Try.underlying22 hi3.1 hi3.2.2.1) rfl rfl rfl rfl ?_
    refine s_y (y_move rfl) rfl rfl rfl rfl ?_
    refine s_tr (t_build (vs := [(0, .int .i64 (i : Int))]) (cells := [.int .i64 (i : Int)]) rfl rfl Try.underlying22 hi3.1 hi3.2.1 (by rw [hi3.2.2.1]; rfl) (by rw [hi3.2.2.1]; rfl) (by rw [hi3.2.2.1]; kernel_rfl)) rfl rfl rfl rfl (fun bw hbw => ?_)
    refine s_tr (t_appendN (enc := (Value.int .i64)) (xs := s) (v := (i : Int)) rfl rfl Try.underlying22 hi3.1 hi3.2.1 hi3.2.2.1 hi3.2.2.2 rfl (fun w h => (hvf.keepX (hE.toHq.kx (sd_mb sd_nil)) hsf).keepX (h.toHq.kx (sd_cons hbw.2 (sd_mb sd_nil))) hsf) (fun w h => h.toHq.cell (i := 0) rfl rfl) rfl (by omega) (by unfold maxLen; omega)) rfl rfl rfl rfl (fun svn hokn' => ?_)
    obtain ⟨hokn, bN, capN, jN, rfl, hgeN⟩ := hokn'
    have hln : (s ++ [(i : Int)]).length = s.length + 1 := by simp
    refine s_y (y_assign rfl) rfl rfl rfl rfl ?_
    refine s_nil ?_
    refine g_then ?_
    refine g_seq ?_
    refine g_region ?_
    refine s_y (y_move rfl) rfl rfl rfl rfl ?_
    refine s_y (y_move rfl) rfl rfl rfl rfl ?_
    refine s_y (y_move rfl) rfl rfl rfl rfl ?_
    refine s_y (y_lenV (n := s.length) rfl (by obtain ⟨A, c, h1, _⟩ := hs; exact ⟨A, c, h1⟩) sle_22) rfl rfl rfl rfl ?_
    refine s_tr (t_call rfl rfl ent_50 (fun w h => RBroken_any w _ _ g (s ++ [(i : Int)]) (hg.below h.below) (by rw [← hln]; exact RdV.own (jk := jN) (at_of (i := 0) h rfl) rfl (by rw [hln]; exact hokn.1)) s.length (by omega) (by omega) (by omega) hgn (notes_snoc hsn (by omega) (by omega)))) rfl rfl rfl rfl (fun _ _ => ?_)
    refine s_y (y_eql rfl rfl) rfl rfl rfl rfl ?_
    refine s_nil ?_
    refine g_then ?_
    refine g_cond rfl (fun cq2 => ?_) (fun cq2 => ?_)
    · (try simp at cq2)
      have hbr : brk g (s ++ [(i : Int)]) s.length = 0 := by simpa using cq2
      have hsl := nxP_sum_le (h := fun y => cntR g kk (s ++ [y])) (fun x => (cntR_bounds g kk (s ++ [x])).1) (g := g) (s := s) (i := i + 1) (by omega)
      have hcd : cntR g (kk + 1) s = ((nxL g s).map fun y => cntR g kk (s ++ [y])).sum := rfl
      have hsp : ((nxP g s (i + 1)).map fun y => cntR g kk (s ++ [y])).sum = ((nxP g s i).map fun y => cntR g kk (s ++ [y])).sum + cntR g kk (s ++ [(i : Int)]) := by rw [nxP_yes hbr, List.map_append, List.sum_append]; simp
      have hpp : 0 ≤ ((nxP g s i).map fun y => cntR g kk (s ++ [y])).sum := by have h_ : ∀ xs : List Int, 0 ≤ (xs.map fun y => cntR g kk (s ++ [y])).sum := (fun xs => by induction xs with | nil => simp | cons z xs ih => have h2_ := (cntR_bounds g kk (s ++ [z])).1; simp only [List.map_cons, List.sum_cons]; omega); exact h_ _
      refine g_region ?_
      refine s_y (y_move rfl) rfl rfl rfl rfl ?_
      refine s_y (y_move rfl) rfl rfl rfl rfl ?_
      refine s_y (y_move rfl) rfl rfl rfl rfl ?_
      refine s_tr (t_callKW (A := (fun (y : Fnd × Value × Value) W => (y.1 = srch g kk (s ++ [(i : Int)]) f' ∧ (RdV (Value.int .i64) W y.2.1 y.1.fi ∧ At0 w0.heap.size fb y.2.1) ∧ (RdV (Value.int .i64) W y.2.2 y.1.be ∧ At0 w0.heap.size fb y.2.2)) ∧ Hp w0 wE [(fb, .cells [.int .i64 y.1.c, .int .i64 y.1.l, .int .i64 y.1.w, y.2.1, y.2.2].toArray 59 (0, 0))] W)) (fo := fun y => .cells [.int .i64 y.1.c, .int .i64 y.1.l, .int .i64 y.1.w, y.2.1, y.2.2].toArray 59 (0, 0)) (v := .tuple #[]) rfl rfl ent_54 (fun w h => by have h_ := IH ag (some ⟨bN, 0, none⟩) cg capN (s ++ [(i : Int)]) fb f' fv' bv' w0 w (by omega) (notes_snoc hsn (by omega) (by omega)) h.below hge (at_of (i := 2) h rfl) (by omega) (by omega) hg (by rw [hln]; exact RdV.own (jk := jN) (at_of (i := 0) h rfl) hln.symm hokn.1) (At0.own (by omega) (by have h2_ := hE.below.size; omega)) ⟨hfv.1.keepX (h.toHq.kx (sd_cons hgeN (sd_cons hbw.2 (sd_mb sd_nil)))) hfv.2, hfv.2⟩ ⟨hbv.1.keepX (h.toHq.kx (sd_cons hgeN (sd_cons hbw.2 (sd_mb sd_nil)))) hbv.2, hbv.2⟩; rw [hln] at h_; exact h_.mono fun e w' ⟨y, h1, h2, h3⟩ => ⟨y, ⟨h1, hp_chain (hp_chain hE ((h.tail hgeN).tail hbw.2)) h3⟩, h2, h3⟩)) rfl rfl rfl rfl (fun yy hyy => ?_)
      obtain ⟨⟨f2, fv2, bv2⟩, W2⟩ := yy
      obtain ⟨⟨hf2, hfv2, hbv2⟩, hE2⟩ := hyy
      simp only at hf2 hfv2 hbv2 hE2
      refine s_nil ?_
      refine g_inb ?_
      refine g_then ?_
      refine g_region ?_
      refine s_y (y_add rfl rfl (by omega) (by omega)) rfl rfl rfl rfl ?_
      refine s_y (y_move rfl) rfl rfl rfl rfl ?_
      refine s_nil ?_
      refine g_then ?_
      exact fun act W ha hw => ⟨i + 1, by omega, by omega, f2, fv2, bv2, W, (by exact hp_chain hE2 hw), (by rw [hf2, nxP_yes hbr, List.foldl_append, ← hf]; rfl), (by rw [hf2, srch_c, hfc, nxP_yes hbr, List.map_append, List.sum_append]; simp; omega), (by exact ⟨hfv2.1.keepX (hw.toHq.kx (sd_mb sd_nil)) hfv2.2, hfv2.2⟩), (by exact ⟨hbv2.1.keepX (hw.toHq.kx (sd_mb sd_nil)) hbv2.2, hbv2.2⟩), ha.weak (sub_get ⟨rfl, rfl, rfl, rfl, trivial⟩), hw.toHq.lookSub (List.Sublist.refl _)⟩
    · (try simp at cq2)
      have hbr : ¬ brk g (s ++ [(i : Int)]) s.length = 0 := by simpa using cq2
      refine g_skip ?_
      refine g_inb ?_
      refine g_then ?_
      refine g_region ?_
      refine s_y (y_add rfl rfl (by omega) (by omega)) rfl rfl rfl rfl ?_
      refine s_y (y_move rfl) rfl rfl rfl rfl ?_
      refine s_nil ?_
      refine g_then ?_
      exact fun act W ha hw => ⟨i + 1, by omega, by omega, f', fv', bv', W, (by exact hp_chain hE ((hw.tail hgeN).tail hbw.2)), (by rw [nxP_no hbr]; exact hf), (by rw [nxP_no hbr]; exact hfc), (by exact ⟨hfv.1.keepX (hw.toHq.kx (sd_cons hgeN (sd_cons hbw.2 (sd_mb sd_nil)))) hfv.2, hfv.2⟩), (by exact ⟨hbv.1.keepX (hw.toHq.kx (sd_cons hgeN (sd_cons hbw.2 (sd_mb sd_nil)))) hbv.2, hbv.2⟩), ha.weak (sub_get ⟨rfl, rfl, rfl, rfl, trivial⟩), hw.toHq.lookSub (List.Sublist.cons _ (List.Sublist.cons _ (List.Sublist.refl _)))⟩
  · (try simp at cq1)
    refine g_exit ?_
    refine g_thenx ?_
    refine g_thenx ?_
    refine g_inbx ?_
    obtain rfl : i = 21 := by omega
    exact g_end0n (fun a w ha hq_ => res0 rfl w) (fun w h => ⟨(f', fv', bv'), ⟨hf, ⟨hfv.1.keepX (h.toHq.kx (sd_mb sd_nil)) hfv.2, hfv.2⟩, ⟨hbv.1.keepX (h.toHq.kx (sd_mb sd_nil)) hbv.2, hbv.2⟩⟩, rfl, hp_chain hE h⟩)

theorem search_any {g : List Int} (hgl : g.length ≤ 8) (hgn : ∀ x ∈ g, 0 ≤ x ∧ x ≤ 20) (hg1 : 1 ≤ g.length) : ∀ k, SearchAt g k
  | 0 => fun ag as_ cg cs s fb f fv bv w0 wE hle hsn hb0 hge hfb hc0 hc1 hg hs hsa hfv hbv => search_full g hgl hgn ag as_ cg cs s fb f fv bv w0 wE 0 hle hsn hb0 hge hfb hc0 hc1 hg hs hsa hfv hbv (by
      have h1 : partB g = true := partB_true.2 ⟨⟨hg1, hgl⟩, hgn⟩
      have h2 : partB s = true := partB_true.2 ⟨⟨by omega, by omega⟩, hsn⟩
      unfold pairB; rw [h1, h2, decide_eq_true (by omega)]; rfl)
  | kk + 1 => fun ag as_ cg cs s fb f fv bv w0 wE hle hsn hb0 hge hfb hc0 hc1 hg hs hsa hfv hbv => search_new g hgl hgn ag as_ cg cs s fb f fv bv w0 wE kk hle hsn hb0 hge hfb hc0 hc1 hg hs hsa hfv hbv (full_of hs).1 (full_of hs).2 (fun a k c h => hsa a s.length cs (by cases h; rfl)) (search_any hgl hgn hg1 kk)

theorem RCount_ok (w : World) (ag : Option Addr) (cg : Nat) (xs : List Int) (hv : RdV (Value.int .i64) w (.slice ag xs.length cg) xs) (hp : partB xs = true) :
    Calls Try.prog 29 [.slice ag xs.length cg].toArray w fun e w' => e = .returned (.int .i64 ((srch xs xs.length [] ⟨0, 0, 0, [], []⟩).c)) ∧ Below w.heap.size w w' := by
  obtain ⟨hxl, hn⟩ := partB_true.1 hp
  have hcb := cntR_bounds xs xs.length []
  have hp8 := pow21 (k := xs.length) (by omega)
  refine enter (N := 8) Try.func29 rfl rfl rfl ?_
  refine g_seq ?_
  refine g_region ?_
  refine s_y (y_assign rfl) rfl rfl rfl rfl ?_
  refine s_nil ?_
  refine g_then ?_
  refine g_seq ?_
  refine g_region ?_
  refine s_tr (t_alloc zero_59 rfl) rfl rfl rfl rfl (fun fb hfb => ?_)
  refine s_nil ?_
  refine g_then ?_
  refine g_seq ?_
  refine g_region ?_
  refine s_y (y_move rfl) rfl rfl rfl rfl ?_
  refine s_tr (t_callKW (A := (fun (y : Fnd × Value × Value) W => (y.1 = srch xs xs.length [] ⟨0, 0, 0, [], []⟩ ∧ (RdV (Value.int .i64) W y.2.1 y.1.fi ∧ At0 w.heap.size fb y.2.1) ∧ (RdV (Value.int .i64) W y.2.2 y.1.be ∧ At0 w.heap.size fb y.2.2)) ∧ Below w.heap.size w W)) (fo := fun y => .cells [.int .i64 y.1.c, .int .i64 y.1.l, .int .i64 y.1.w, y.2.1, y.2.2].toArray 59 (0, 0)) (v := .tuple #[]) rfl rfl ent_54 (fun w2 h => (search_any (by omega) hn (by omega) xs.length ag none cg 0 [] fb ⟨0, 0, 0, [], []⟩ (.slice none 0 0) (.slice none 0 0) w w2 (by simp) (by intro x hx; cases hx) h.below hfb.1 (at_of (i := 0) h rfl) (by simp) (by simp only []; omega) hv RdV.nil At0.nil ⟨RdV.nil, At0.nil⟩ ⟨RdV.nil, At0.nil⟩).mono fun e w' ⟨y, h1, h2, h3⟩ => ⟨y, ⟨h1, h3.below⟩, h2, h3⟩)) rfl rfl rfl rfl (fun yy hyy => ?_)
  obtain ⟨⟨f2, fv2, bv2⟩, W2⟩ := yy
  obtain ⟨⟨hf2, hfv2, hbv2⟩, hB2⟩ := hyy
  simp only at hf2 hfv2 hbv2 hB2
  refine s_nil ?_
  refine g_then ?_
  refine g_seq ?_
  refine g_region ?_
  refine s_y (y_fld rfl (fun w => fld_59_0 _ _ w)) rfl rfl rfl rfl ?_
  refine s_y (y_ld1 0 rfl rfl agg_3 rfl) rfl rfl rfl rfl ?_
  refine s_y (y_assign rfl) rfl rfl rfl rfl ?_
  refine s_nil ?_
  refine g_then ?_
  refine g_ret ?_
  rw [← hf2]
  exact g_end trivial (fun a w ha hq_ => res1 ha rfl rfl  w) (fun w h => ⟨rfl, h.below⟩)

theorem RFirst_none (w : World) (ag : Option Addr) (cg : Nat) (xs : List Int) (hv : RdV (Value.int .i64) w (.slice ag xs.length cg) xs) (hp : partB xs = true) (hc : (srch xs xs.length [] ⟨0, 0, 0, [], []⟩).c = 0) :
    Calls Try.prog 28 [.slice ag xs.length cg].toArray w fun e w' => e = .returned (.tuple #[.slice none 0 0, .int .i64 4]) ∧ Below w.heap.size w w' := by
  obtain ⟨hxl, hn⟩ := partB_true.1 hp
  have hcb := cntR_bounds xs xs.length []
  have hp8 := pow21 (k := xs.length) (by omega)
  refine enter (N := 12) Try.func28 rfl rfl rfl ?_
  refine g_seq ?_
  refine g_region ?_
  refine s_y (y_assign rfl) rfl rfl rfl rfl ?_
  refine s_y (y_assign rfl) rfl rfl rfl rfl ?_
  refine s_nil ?_
  refine g_then ?_
  refine g_seq ?_
  refine g_region ?_
  refine s_tr (t_alloc zero_59 rfl) rfl rfl rfl rfl (fun fb hfb => ?_)
  refine s_nil ?_
  refine g_then ?_
  refine g_seq ?_
  refine g_region ?_
  refine s_y (y_move rfl) rfl rfl rfl rfl ?_
  refine s_tr (t_callKW (A := (fun (y : Fnd × Value × Value) W => (y.1 = srch xs xs.length [] ⟨0, 0, 0, [], []⟩ ∧ (RdV (Value.int .i64) W y.2.1 y.1.fi ∧ At0 w.heap.size fb y.2.1) ∧ (RdV (Value.int .i64) W y.2.2 y.1.be ∧ At0 w.heap.size fb y.2.2)) ∧ Below w.heap.size w W)) (fo := fun y => .cells [.int .i64 y.1.c, .int .i64 y.1.l, .int .i64 y.1.w, y.2.1, y.2.2].toArray 59 (0, 0)) (v := .tuple #[]) rfl rfl ent_54 (fun w2 h => (search_any (by omega) hn (by omega) xs.length ag none cg 0 [] fb ⟨0, 0, 0, [], []⟩ (.slice none 0 0) (.slice none 0 0) w w2 (by simp) (by intro x hx; cases hx) h.below hfb.1 (at_of (i := 0) h rfl) (by simp) (by simp only []; omega) hv RdV.nil At0.nil ⟨RdV.nil, At0.nil⟩ ⟨RdV.nil, At0.nil⟩).mono fun e w' ⟨y, h1, h2, h3⟩ => ⟨y, ⟨h1, h3.below⟩, h2, h3⟩)) rfl rfl rfl rfl (fun yy hyy => ?_)
  obtain ⟨⟨f2, fv2, bv2⟩, W2⟩ := yy
  obtain ⟨⟨hf2, hfv2, hbv2⟩, hB2⟩ := hyy
  simp only at hf2 hfv2 hbv2 hB2
  refine s_nil ?_
  refine g_then ?_
  refine g_seq ?_
  refine g_seq ?_
  refine g_region ?_
  refine s_y (y_fld rfl (fun w => fld_59_0 _ _ w)) rfl rfl rfl rfl ?_
  refine s_y (y_ld1 0 rfl rfl agg_3 rfl) rfl rfl rfl rfl ?_
  refine s_y (y_eql_t rfl rfl (by rw [hf2]; exact hc)) rfl rfl rfl rfl ?_
  refine s_nil ?_
  refine g_then ?_
  refine g_cond_t rfl ?_
  refine g_seq ?_
  refine g_region ?_
  refine s_y (y_assign rfl) rfl rfl rfl rfl ?_
  refine s_y (y_assign rfl) rfl rfl rfl rfl ?_
  refine s_nil ?_
  refine g_then ?_
  refine g_ret ?_
  refine g_thenr ?_
  exact g_end trivial (fun a w ha hq_ => res2 ha rfl rfl rfl  w) (fun w h => ⟨rfl, h.below⟩)

theorem RFirst_some (w : World) (ag : Option Addr) (cg : Nat) (xs : List Int) (hv : RdV (Value.int .i64) w (.slice ag xs.length cg) xs) (hp : partB xs = true) (hc : ¬ (srch xs xs.length [] ⟨0, 0, 0, [], []⟩).c = 0) :
    Calls Try.prog 28 [.slice ag xs.length cg].toArray w fun e w' => ∃ x : Value × List (Nat × Obj), (OwnV (Value.int .i64) x.1 ((srch xs xs.length [] ⟨0, 0, 0, [], []⟩).fi) x.2 ∧ ∃ W : World, ∀ p ∈ x.2, W.heap[p.1]? = some p.2) ∧ e = .returned (.tuple #[x.1, .int .i64 0]) ∧ Hq w w x.2 w' := by
  obtain ⟨hxl, hn⟩ := partB_true.1 hp
  have hcb := cntR_bounds xs xs.length []
  have hp8 := pow21 (k := xs.length) (by omega)
  refine enter (N := 12) Try.func28 rfl rfl rfl ?_
  refine g_seq ?_
  refine g_region ?_
  refine s_y (y_assign rfl) rfl rfl rfl rfl ?_
  refine s_y (y_assign rfl) rfl rfl rfl rfl ?_
  refine s_nil ?_
  refine g_then ?_
  refine g_seq ?_
  refine g_region ?_
  refine s_tr (t_alloc zero_59 rfl) rfl rfl rfl rfl (fun fb hfb => ?_)
  refine s_nil ?_
  refine g_then ?_
  refine g_seq ?_
  refine g_region ?_
  refine s_y (y_move rfl) rfl rfl rfl rfl ?_
  refine s_tr (t_callKW (A := (fun (y : Fnd × Value × Value) W => (y.1 = srch xs xs.length [] ⟨0, 0, 0, [], []⟩ ∧ (RdV (Value.int .i64) W y.2.1 y.1.fi ∧ At0 w.heap.size fb y.2.1) ∧ (RdV (Value.int .i64) W y.2.2 y.1.be ∧ At0 w.heap.size fb y.2.2)) ∧ Below w.heap.size w W)) (fo := fun y => .cells [.int .i64 y.1.c, .int .i64 y.1.l, .int .i64 y.1.w, y.2.1, y.2.2].toArray 59 (0, 0)) (v := .tuple #[]) rfl rfl ent_54 (fun w2 h => (search_any (by omega) hn (by omega) xs.length ag none cg 0 [] fb ⟨0, 0, 0, [], []⟩ (.slice none 0 0) (.slice none 0 0) w w2 (by simp) (by intro x hx; cases hx) h.below hfb.1 (at_of (i := 0) h rfl) (by simp) (by simp only []; omega) hv RdV.nil At0.nil ⟨RdV.nil, At0.nil⟩ ⟨RdV.nil, At0.nil⟩).mono fun e w' ⟨y, h1, h2, h3⟩ => ⟨y, ⟨h1, h3.below⟩, h2, h3⟩)) rfl rfl rfl rfl (fun yy hyy => ?_)
  obtain ⟨⟨f2, fv2, bv2⟩, W2⟩ := yy
  obtain ⟨⟨hf2, hfv2, hbv2⟩, hB2⟩ := hyy
  simp only at hf2 hfv2 hbv2 hB2
  refine s_nil ?_
  refine g_then ?_
  refine g_seq ?_
  refine g_seq ?_
  refine g_region ?_
  refine s_y (y_fld rfl (fun w => fld_59_0 _ _ w)) rfl rfl rfl rfl ?_
  refine s_y (y_ld1 0 rfl rfl agg_3 rfl) rfl rfl rfl rfl ?_
  refine s_y (y_eql_f rfl rfl (by rw [hf2]; exact hc)) rfl rfl rfl rfl ?_
  refine s_nil ?_
  refine g_then ?_
  refine g_cond_f rfl ?_
  refine g_skip ?_
  refine g_then ?_
  refine g_seq ?_
  refine g_region ?_
  refine s_y (y_fld rfl (fun w => fld_59_3 _ _ w)) rfl rfl rfl rfl ?_
  refine s_y (y_ld1 0 rfl rfl agg_22 rfl) rfl rfl rfl rfl ?_
  refine s_y (y_assign rfl) rfl rfl rfl rfl ?_
  refine s_y (y_assign rfl) rfl rfl rfl rfl ?_
  refine s_nil ?_
  refine g_then ?_
  refine g_ret ?_
  exact g_end trivial (fun a w ha hq_ => res2 ha rfl rfl rfl  w) (fun w3 h => (have hr_ := hfv2.1.keepX (h.kx (sd_mb sd_nil)) hfv2.2; (hq_own h.below hr_ (fun a k c e => (hfv2.2 a k c e).2)).elim fun mm hm => ⟨(_, mm), (by rw [← hf2]; exact hm.1), rfl, hm.2⟩))

theorem RBest_none (w : World) (ag : Option Addr) (cg : Nat) (xs : List Int) (hv : RdV (Value.int .i64) w (.slice ag xs.length cg) xs) (hp : partB xs = true) (hc : (srch xs xs.length [] ⟨0, 0, 0, [], []⟩).c = 0) :
    Calls Try.prog 42 [.slice ag xs.length cg].toArray w fun e w' => e = .returned (.tuple #[.slice none 0 0, .int .i64 4]) ∧ Below w.heap.size w w' := by
  obtain ⟨hxl, hn⟩ := partB_true.1 hp
  have hcb := cntR_bounds xs xs.length []
  have hp8 := pow21 (k := xs.length) (by omega)
  refine enter (N := 12) Try.func42 rfl rfl rfl ?_
  refine g_seq ?_
  refine g_region ?_
  refine s_y (y_assign rfl) rfl rfl rfl rfl ?_
  refine s_y (y_assign rfl) rfl rfl rfl rfl ?_
  refine s_nil ?_
  refine g_then ?_
  refine g_seq ?_
  refine g_region ?_
  refine s_tr (t_alloc zero_59 rfl) rfl rfl rfl rfl (fun fb hfb => ?_)
  refine s_nil ?_
  refine g_then ?_
  refine g_seq ?_
  refine g_region ?_
  refine s_y (y_move rfl) rfl rfl rfl rfl ?_
  refine s_tr (t_callKW (A := (fun (y : Fnd × Value × Value) W => (y.1 = srch xs xs.length [] ⟨0, 0, 0, [], []⟩ ∧ (RdV (Value.int .i64) W y.2.1 y.1.fi ∧ At0 w.heap.size fb y.2.1) ∧ (RdV (Value.int .i64) W y.2.2 y.1.be ∧ At0 w.heap.size fb y.2.2)) ∧ Below w.heap.size w W)) (fo := fun y => .cells [.int .i64 y.1.c, .int .i64 y.1.l, .int .i64 y.1.w, y.2.1, y.2.2].toArray 59 (0, 0)) (v := .tuple #[]) rfl rfl ent_54 (fun w2 h => (search_any (by omega) hn (by omega) xs.length ag none cg 0 [] fb ⟨0, 0, 0, [], []⟩ (.slice none 0 0) (.slice none 0 0) w w2 (by simp) (by intro x hx; cases hx) h.below hfb.1 (at_of (i := 0) h rfl) (by simp) (by simp only []; omega) hv RdV.nil At0.nil ⟨RdV.nil, At0.nil⟩ ⟨RdV.nil, At0.nil⟩).mono fun e w' ⟨y, h1, h2, h3⟩ => ⟨y, ⟨h1, h3.below⟩, h2, h3⟩)) rfl rfl rfl rfl (fun yy hyy => ?_)
  obtain ⟨⟨f2, fv2, bv2⟩, W2⟩ := yy
  obtain ⟨⟨hf2, hfv2, hbv2⟩, hB2⟩ := hyy
  simp only at hf2 hfv2 hbv2 hB2
  refine s_nil ?_
  refine g_then ?_
  refine g_seq ?_
  refine g_seq ?_
  refine g_region ?_
  refine s_y (y_fld rfl (fun w => fld_59_0 _ _ w)) rfl rfl rfl rfl ?_
  refine s_y (y_ld1 0 rfl rfl agg_3 rfl) rfl rfl rfl rfl ?_
  refine s_y (y_eql_t rfl rfl (by rw [hf2]; exact hc)) rfl rfl rfl rfl ?_
  refine s_nil ?_
  refine g_then ?_
  refine g_cond_t rfl ?_
  refine g_seq ?_
  refine g_region ?_
  refine s_y (y_assign rfl) rfl rfl rfl rfl ?_
  refine s_y (y_assign rfl) rfl rfl rfl rfl ?_
  refine s_nil ?_
  refine g_then ?_
  refine g_ret ?_
  refine g_thenr ?_
  exact g_end trivial (fun a w ha hq_ => res2 ha rfl rfl rfl  w) (fun w h => ⟨rfl, h.below⟩)

theorem RBest_some (w : World) (ag : Option Addr) (cg : Nat) (xs : List Int) (hv : RdV (Value.int .i64) w (.slice ag xs.length cg) xs) (hp : partB xs = true) (hc : ¬ (srch xs xs.length [] ⟨0, 0, 0, [], []⟩).c = 0) :
    Calls Try.prog 42 [.slice ag xs.length cg].toArray w fun e w' => ∃ x : Value × List (Nat × Obj), (OwnV (Value.int .i64) x.1 ((srch xs xs.length [] ⟨0, 0, 0, [], []⟩).be) x.2 ∧ ∃ W : World, ∀ p ∈ x.2, W.heap[p.1]? = some p.2) ∧ e = .returned (.tuple #[x.1, .int .i64 0]) ∧ Hq w w x.2 w' := by
  obtain ⟨hxl, hn⟩ := partB_true.1 hp
  have hcb := cntR_bounds xs xs.length []
  have hp8 := pow21 (k := xs.length) (by omega)
  refine enter (N := 12) Try.func42 rfl rfl rfl ?_
  refine g_seq ?_
  refine g_region ?_
  refine s_y (y_assign rfl) rfl rfl rfl rfl ?_
  refine s_y (y_assign rfl) rfl rfl rfl rfl ?_
  refine s_nil ?_
  refine g_then ?_
  refine g_seq ?_
  refine g_region ?_
  refine s_tr (t_alloc zero_59 rfl) rfl rfl rfl rfl (fun fb hfb => ?_)
  refine s_nil ?_
  refine g_then ?_
  refine g_seq ?_
  refine g_region ?_
  refine s_y (y_move rfl) rfl rfl rfl rfl ?_
  refine s_tr (t_callKW (A := (fun (y : Fnd × Value × Value) W => (y.1 = srch xs xs.length [] ⟨0, 0, 0, [], []⟩ ∧ (RdV (Value.int .i64) W y.2.1 y.1.fi ∧ At0 w.heap.size fb y.2.1) ∧ (RdV (Value.int .i64) W y.2.2 y.1.be ∧ At0 w.heap.size fb y.2.2)) ∧ Below w.heap.size w W)) (fo := fun y => .cells [.int .i64 y.1.c, .int .i64 y.1.l, .int .i64 y.1.w, y.2.1, y.2.2].toArray 59 (0, 0)) (v := .tuple #[]) rfl rfl ent_54 (fun w2 h => (search_any (by omega) hn (by omega) xs.length ag none cg 0 [] fb ⟨0, 0, 0, [], []⟩ (.slice none 0 0) (.slice none 0 0) w w2 (by simp) (by intro x hx; cases hx) h.below hfb.1 (at_of (i := 0) h rfl) (by simp) (by simp only []; omega) hv RdV.nil At0.nil ⟨RdV.nil, At0.nil⟩ ⟨RdV.nil, At0.nil⟩).mono fun e w' ⟨y, h1, h2, h3⟩ => ⟨y, ⟨h1, h3.below⟩, h2, h3⟩)) rfl rfl rfl rfl (fun yy hyy => ?_)
  obtain ⟨⟨f2, fv2, bv2⟩, W2⟩ := yy
  obtain ⟨⟨hf2, hfv2, hbv2⟩, hB2⟩ := hyy
  simp only at hf2 hfv2 hbv2 hB2
  refine s_nil ?_
  refine g_then ?_
  refine g_seq ?_
  refine g_seq ?_
  refine g_region ?_
  refine s_y (y_fld rfl (fun w => fld_59_0 _ _ w)) rfl rfl rfl rfl ?_
  refine s_y (y_ld1 0 rfl rfl agg_3 rfl) rfl rfl rfl rfl ?_
  refine s_y (y_eql_f rfl rfl (by rw [hf2]; exact hc)) rfl rfl rfl rfl ?_
  refine s_nil ?_
  refine g_then ?_
  refine g_cond_f rfl ?_
  refine g_skip ?_
  refine g_then ?_
  refine g_seq ?_
  refine g_region ?_
  refine s_y (y_fld rfl (fun w => fld_59_4 _ _ w)) rfl rfl rfl rfl ?_
  refine s_y (y_ld1 0 rfl rfl agg_22 rfl) rfl rfl rfl rfl ?_
  refine s_y (y_assign rfl) rfl rfl rfl rfl ?_
  refine s_y (y_assign rfl) rfl rfl rfl rfl ?_
  refine s_nil ?_
  refine g_then ?_
  refine g_ret ?_
  exact g_end trivial (fun a w ha hq_ => res2 ha rfl rfl rfl  w) (fun w3 h => (have hr_ := hbv2.1.keepX (h.kx (sd_mb sd_nil)) hbv2.2; (hq_own h.below hr_ (fun a k c e => (hbv2.2 a k c e).2)).elim fun mm hm => ⟨(_, mm), (by rw [← hf2]; exact hm.1), rfl, hm.2⟩))

theorem RStuck_none (w : World) (ag : Option Addr) (cg : Nat) (xs : List Int) (hv : RdV (Value.int .i64) w (.slice ag xs.length cg) xs) (hp : partB xs = true) (hc : (srch xs xs.length [] ⟨0, 0, 0, [], []⟩).c > 0) :
    Calls Try.prog 36 [.slice ag xs.length cg].toArray w fun e w' => e = .returned (.tuple #[.int .i64 0, .int .i64 4]) ∧ Below w.heap.size w w' := by
  obtain ⟨hxl, hn⟩ := partB_true.1 hp
  have hcb := cntR_bounds xs xs.length []
  have hp8 := pow21 (k := xs.length) (by omega)
  refine enter (N := 12) Try.func36 rfl rfl rfl ?_
  refine g_seq ?_
  refine g_region ?_
  refine s_y (y_assign rfl) rfl rfl rfl rfl ?_
  refine s_y (y_assign rfl) rfl rfl rfl rfl ?_
  refine s_nil ?_
  refine g_then ?_
  refine g_seq ?_
  refine g_region ?_
  refine s_tr (t_alloc zero_59 rfl) rfl rfl rfl rfl (fun fb hfb => ?_)
  refine s_nil ?_
  refine g_then ?_
  refine g_seq ?_
  refine g_region ?_
  refine s_y (y_move rfl) rfl rfl rfl rfl ?_
  refine s_tr (t_callKW (A := (fun (y : Fnd × Value × Value) W => (y.1 = srch xs xs.length [] ⟨0, 0, 0, [], []⟩ ∧ (RdV (Value.int .i64) W y.2.1 y.1.fi ∧ At0 w.heap.size fb y.2.1) ∧ (RdV (Value.int .i64) W y.2.2 y.1.be ∧ At0 w.heap.size fb y.2.2)) ∧ Below w.heap.size w W)) (fo := fun y => .cells [.int .i64 y.1.c, .int .i64 y.1.l, .int .i64 y.1.w, y.2.1, y.2.2].toArray 59 (0, 0)) (v := .tuple #[]) rfl rfl ent_54 (fun w2 h => (search_any (by omega) hn (by omega) xs.length ag none cg 0 [] fb ⟨0, 0, 0, [], []⟩ (.slice none 0 0) (.slice none 0 0) w w2 (by simp) (by intro x hx; cases hx) h.below hfb.1 (at_of (i := 0) h rfl) (by simp) (by simp only []; omega) hv RdV.nil At0.nil ⟨RdV.nil, At0.nil⟩ ⟨RdV.nil, At0.nil⟩).mono fun e w' ⟨y, h1, h2, h3⟩ => ⟨y, ⟨h1, h3.below⟩, h2, h3⟩)) rfl rfl rfl rfl (fun yy hyy => ?_)
  obtain ⟨⟨f2, fv2, bv2⟩, W2⟩ := yy
  obtain ⟨⟨hf2, hfv2, hbv2⟩, hB2⟩ := hyy
  simp only at hf2 hfv2 hbv2 hB2
  refine s_nil ?_
  refine g_then ?_
  refine g_seq ?_
  refine g_seq ?_
  refine g_region ?_
  refine s_y (y_fld rfl (fun w => fld_59_0 _ _ w)) rfl rfl rfl rfl ?_
  refine s_y (y_ld1 0 rfl rfl agg_3 rfl) rfl rfl rfl rfl ?_
  refine s_y (y_gtr_t rfl rfl (by rw [hf2]; exact hc)) rfl rfl rfl rfl ?_
  refine s_nil ?_
  refine g_then ?_
  refine g_cond_t rfl ?_
  refine g_seq ?_
  refine g_region ?_
  refine s_y (y_assign rfl) rfl rfl rfl rfl ?_
  refine s_y (y_assign rfl) rfl rfl rfl rfl ?_
  refine s_nil ?_
  refine g_then ?_
  refine g_ret ?_
  refine g_thenr ?_
  exact g_end trivial (fun a w ha hq_ => res2 ha rfl rfl rfl  w) (fun w h => ⟨rfl, h.below⟩)

theorem RStuck_ok (w : World) (ag : Option Addr) (cg : Nat) (xs : List Int) (hv : RdV (Value.int .i64) w (.slice ag xs.length cg) xs) (hp : partB xs = true) (hc : ¬ (srch xs xs.length [] ⟨0, 0, 0, [], []⟩).c > 0) :
    Calls Try.prog 36 [.slice ag xs.length cg].toArray w fun e w' => e = .returned (.tuple #[.int .i64 (srch xs xs.length [] ⟨0, 0, 0, [], []⟩).l, .int .i64 0]) ∧ Below w.heap.size w w' := by
  obtain ⟨hxl, hn⟩ := partB_true.1 hp
  have hcb := cntR_bounds xs xs.length []
  have hp8 := pow21 (k := xs.length) (by omega)
  refine enter (N := 12) Try.func36 rfl rfl rfl ?_
  refine g_seq ?_
  refine g_region ?_
  refine s_y (y_assign rfl) rfl rfl rfl rfl ?_
  refine s_y (y_assign rfl) rfl rfl rfl rfl ?_
  refine s_nil ?_
  refine g_then ?_
  refine g_seq ?_
  refine g_region ?_
  refine s_tr (t_alloc zero_59 rfl) rfl rfl rfl rfl (fun fb hfb => ?_)
  refine s_nil ?_
  refine g_then ?_
  refine g_seq ?_
  refine g_region ?_
  refine s_y (y_move rfl) rfl rfl rfl rfl ?_
  refine s_tr (t_callKW (A := (fun (y : Fnd × Value × Value) W => (y.1 = srch xs xs.length [] ⟨0, 0, 0, [], []⟩ ∧ (RdV (Value.int .i64) W y.2.1 y.1.fi ∧ At0 w.heap.size fb y.2.1) ∧ (RdV (Value.int .i64) W y.2.2 y.1.be ∧ At0 w.heap.size fb y.2.2)) ∧ Below w.heap.size w W)) (fo := fun y => .cells [.int .i64 y.1.c, .int .i64 y.1.l, .int .i64 y.1.w, y.2.1, y.2.2].toArray 59 (0, 0)) (v := .tuple #[]) rfl rfl ent_54 (fun w2 h => (search_any (by omega) hn (by omega) xs.length ag none cg 0 [] fb ⟨0, 0, 0, [], []⟩ (.slice none 0 0) (.slice none 0 0) w w2 (by simp) (by intro x hx; cases hx) h.below hfb.1 (at_of (i := 0) h rfl) (by simp) (by simp only []; omega) hv RdV.nil At0.nil ⟨RdV.nil, At0.nil⟩ ⟨RdV.nil, At0.nil⟩).mono fun e w' ⟨y, h1, h2, h3⟩ => ⟨y, ⟨h1, h3.below⟩, h2, h3⟩)) rfl rfl rfl rfl (fun yy hyy => ?_)
  obtain ⟨⟨f2, fv2, bv2⟩, W2⟩ := yy
  obtain ⟨⟨hf2, hfv2, hbv2⟩, hB2⟩ := hyy
  simp only at hf2 hfv2 hbv2 hB2
  refine s_nil ?_
  refine g_then ?_
  refine g_seq ?_
  refine g_seq ?_
  refine g_region ?_
  refine s_y (y_fld rfl (fun w => fld_59_0 _ _ w)) rfl rfl rfl rfl ?_
  refine s_y (y_ld1 0 rfl rfl agg_3 rfl) rfl rfl rfl rfl ?_
  refine s_y (y_gtr_f rfl rfl (by rw [hf2]; exact hc)) rfl rfl rfl rfl ?_
  refine s_nil ?_
  refine g_then ?_
  refine g_cond_f rfl ?_
  refine g_skip ?_
  refine g_then ?_
  refine g_seq ?_
  refine g_region ?_
  refine s_y (y_fld rfl (fun w => fld_59_1 _ _ w)) rfl rfl rfl rfl ?_
  refine s_y (y_ld1 0 rfl rfl agg_3 rfl) rfl rfl rfl rfl ?_
  refine s_y (y_assign rfl) rfl rfl rfl rfl ?_
  refine s_y (y_assign rfl) rfl rfl rfl rfl ?_
  refine s_nil ?_
  refine g_then ?_
  refine g_ret ?_
  rw [← hf2]
  exact g_end trivial (fun a w ha hq_ => res2 ha rfl rfl rfl  w) (fun w h => ⟨rfl, h.below⟩)

end Go.Proofs.Ytolalckejnijkaa
