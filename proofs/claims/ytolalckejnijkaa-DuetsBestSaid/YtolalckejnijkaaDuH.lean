/- duets: Next; the reference's kept, Next. -/
import Derived.Test.YtolalckejnijkaaDuG
import Derived.Test.YtolalckejnijkaaDuD
import Derived.Test.YtolalckejnijkaaSxAppO
namespace Go.Proofs.Ytolalckejnijkaa
open Go.RowKit Go.Sx 
set_option linter.unusedVariables false
set_option linter.unusedSimpArgs false
set_option maxRecDepth 100000
set_option maxHeartbeats 4000000

private theorem ent_46 : Enters Try.prog 46 := enters_of Try.func46 (by kernel_rfl) rfl
private theorem sle_22 : Try.prog.underlying 22 = some (.slice (Try.prog.elem 22)) := by kernel_rfl
private theorem bld_48_0_1 (x0a : Option Addr) (x0n x0c : Nat) (x1a : Option Addr) (x1n x1c : Nat) (w : World) : (Instr.build 48 #[(0, (.slice x0a x0n x0c)), (1, (.slice x1a x1n x1c))]).run Try.prog w = .ok (.agg #[(.slice x0a x0n x0c), (.slice x1a x1n x1c)]) w := by kernel_rfl
private theorem zero_48 : (Try.prog.info? 48).bind (·.zero) = some (.agg #[(.slice none 0 0), (.slice none 0 0)]) := by kernel_rfl
private theorem size_48 : (Try.prog.info? 48).map (·.size) = some 2 := by kernel_rfl
private theorem zero_22 : (Try.prog.info? 22).bind (·.zero) = some (.slice none 0 0) := by kernel_rfl
private theorem agg_48 : isAggB Try.prog 48 = some true := by kernel_rfl
private theorem ent_49 : Enters Try.prog 49 := enters_of Try.func49 (by kernel_rfl) rfl
private theorem ent_55 : Enters Try.prog 55 := enters_of Try.func55 (by kernel_rfl) rfl
private theorem agg_22 : isAggB Try.prog 22 = some false := by kernel_rfl
private theorem inf_3 : ∃ ie, Try.prog.info? 3 = some ie ∧ ie.zero = some (.int .i64 0) ∧ ie.size = 1 ∧ ie.bytes = 8 := info_of (by kernel_rfl) (by kernel_rfl)
private theorem size_22 : (Try.prog.info? 22).map (·.size) = some 1 := by kernel_rfl
private theorem ent_50 : Enters Try.prog 50 := enters_of Try.func50 (by kernel_rfl) rfl
private theorem ent_60 : Enters Try.prog 60 := enters_of Try.func60 (by kernel_rfl) rfl
private theorem ent_72 : Enters Try.prog 72 := enters_of Try.func72 (by kernel_rfl) rfl
private theorem size_3 : (Try.prog.info? 3).map (·.size) = some 1 := by kernel_rfl
private theorem agg_3 : isAggB Try.prog 3 = some false := by kernel_rfl
private theorem ent_56 : Enters Try.prog 56 := enters_of Try.func56 (by kernel_rfl) rfl

theorem rdI_app {s t : List Int} {z : Int} (h : z.toNat < s.length) : rdI (s ++ t) z = rdI s z := by
  unfold rdI
  rw [List.getD_eq_getElem?_getD, List.getD_eq_getElem?_getD, List.getElem?_append_left h]
theorem brk_pre {g s : List Int} (t : List Int) {i : Nat} (h : i < s.length) : brk g (s ++ t) i = brk g s i := by
  have e0 : rdI (s ++ t) (i : Int) = rdI s (i : Int) := rdI_app (by omega)
  have e1 : rdI (s ++ t) ((i : Int) - 1) = rdI s ((i : Int) - 1) := rdI_app (by omega)
  have e2 : rdI (s ++ t) ((i : Int) - 1 - 1) = rdI s ((i : Int) - 1 - 1) := rdI_app (by omega)
  unfold brk ivI mvI
  rw [e0, e1, e2]
theorem frsR_all (g s : List Int) : ∀ k i : Nat, ((∀ j, i ≤ j → j < i + k → ¬ brk g s j > 0) ∧ frsR g s k i = (0, 0)) ∨ ∃ j, i ≤ j ∧ j < i + k ∧ brk g s j > 0 ∧ (∀ l, i ≤ l → l < j → ¬ brk g s l > 0) ∧ frsR g s k i = ((j : Int), brk g s j)
  | 0, i => .inl ⟨fun j h1 h2 => by omega, rfl⟩
  | k + 1, i => by
    by_cases h : brk g s i > 0
    · exact .inr ⟨i, Nat.le_refl _, by omega, h, fun l h1 h2 => by omega, frsR_hit h⟩
    · rw [frsR_skip h]
      rcases frsR_all g s k (i + 1) with ⟨h1, h2⟩ | ⟨j, h1, h2, h3, h4, h5⟩
      · refine .inl ⟨fun j h3 h4 => ?_, h2⟩
        rcases Nat.lt_or_ge i j with h5 | h5
        · exact h1 j h5 (by omega)
        · rw [show j = i by omega]; exact h
      · refine .inr ⟨j, by omega, by omega, h3, fun l h6 h7 => ?_, h5⟩
        rcases Nat.lt_or_ge i l with h8 | h8
        · exact h4 l h8 h7
        · rw [show l = i by omega]; exact h
theorem frs_all (g s : List Int) : ((∀ j, j < s.length → brk g s j = 0) ∧ frs g s = (0, 0)) ∨ ∃ j, j < s.length ∧ brk g s j > 0 ∧ (∀ l, l < j → brk g s l = 0) ∧ frs g s = ((j : Int), brk g s j) := by
  have z : ∀ j, ¬ brk g s j > 0 → brk g s j = 0 := fun j h => by have := brk_nonneg g s j; omega
  rcases frsR_all g s s.length 0 with ⟨h1, h2⟩ | ⟨j, h1, h2, h3, h4, h5⟩
  · exact .inl ⟨fun j hj => z j (h1 j (by omega) (by omega)), h2⟩
  · exact .inr ⟨j, by omega, h3, fun l hl => z l (h4 l (by omega) hl), h5⟩
theorem frs_zero {g s : List Int} : (frs g s).2 = 0 ↔ ∀ j, j < s.length → brk g s j = 0 := by
  rcases frs_all g s with ⟨h1, h2⟩ | ⟨j, h1, h2, h3, h4⟩
  · rw [h2]; exact ⟨fun _ => h1, fun _ => rfl⟩
  · rw [h4]
    constructor
    · intro h; simp only at h; omega
    · intro h; have := h j h1; omega
/-- How many first notes keep the rules. -/
def kptI (g s : List Int) : Int := if (frs g s).2 = 0 then (s.length : Int) else (frs g s).1
theorem kpt_all {g s : List Int} : kptI g s = (s.length : Int) ↔ ∀ j, j < s.length → brk g s j = 0 := by
  unfold kptI
  rcases frs_all g s with ⟨h1, h2⟩ | ⟨j, h1, h2, h3, h4⟩
  · rw [h2, if_pos rfl]; exact ⟨fun _ => h1, fun _ => rfl⟩
  · rw [h4, if_neg (by simp only; omega)]
    constructor
    · intro h; simp only at h; omega
    · intro h; have := h j h1; omega
theorem kpt_le {g s : List Int} : 0 ≤ kptI g s ∧ kptI g s ≤ s.length := by
  unfold kptI
  rcases frs_all g s with ⟨h1, h2⟩ | ⟨j, h1, h2, h3, h4⟩
  · rw [h2, if_pos rfl]; omega
  · rw [h4, if_neg (by simp only; omega)]; simp only; omega
theorem all_snoc {g s : List Int} (x : Int) (hz : ∀ j, j < s.length → brk g s j = 0) : (∀ j, j < (s ++ [x]).length → brk g (s ++ [x]) j = 0) ↔ brk g (s ++ [x]) s.length = 0 := by
  constructor
  · intro h; exact h _ (by simp)
  · intro h j hj
    rw [List.length_append] at hj
    rcases Nat.lt_or_ge j s.length with h1 | h1
    · rw [brk_pre _ h1]; exact hz j h1
    · rw [show j = s.length by simp at hj; omega]; exact h
def nexD (g s : List Int) : List Int := if (frs g s).2 = 0 then nxL g s else []
theorem frs_nil (g : List Int) : (frs g []).2 = 0 := rfl

theorem Next_lit (w : World) (ag as_ : Option Addr) (cg cs : Nat) (g s : List Int) (hg : RdV (Value.int .i64) w (.slice ag g.length cg) g) (hs : RdV (Value.int .i64) w (.slice as_ s.length cs) s) (hp : partB g = true) (hsn : ∀ x ∈ s, 0 ≤ x ∧ x ≤ 20) (hle : s.length < g.length) : Calls Try.prog 30 [.slice ag g.length cg, .slice as_ s.length cs].toArray w fun e w' => ∃ x : Value × List (Nat × Obj), (OwnV (Value.int .i64) x.1 (nexD g s) x.2 ∧ ∃ W : World, ∀ p ∈ x.2, W.heap[p.1]? = some p.2) ∧ e = .returned (.tuple #[x.1, .int .i64 0]) ∧ Hq w w x.2 w' := by
  obtain ⟨hgl, hgn⟩ := partB_true.1 hp
  have hM : Marks w w [] := trivial
  obtain ⟨ie3, hi3⟩ := inf_3
  refine enter (N := 49) Try.func30 rfl rfl rfl ?_
  refine g_seq ?_
  refine g_region ?_
  refine s_y (y_assign rfl) rfl rfl rfl rfl ?_
  refine s_y (y_assign rfl) rfl rfl rfl rfl ?_
  refine s_nil ?_
  refine g_then ?_
  refine g_seq ?_
  refine g_seq ?_
  refine g_region ?_
  refine s_y (y_move rfl) rfl rfl rfl rfl ?_
  refine s_tr (t_call rfl rfl ent_46 (fun w h => by have h_ := isPart_any w _ g (hg.below h.below) (by omega); rw [hp] at h_; exact h_)) rfl rfl rfl rfl (fun _ _ => ?_)
  refine s_y (y_not_t rfl) rfl rfl rfl rfl ?_
  refine s_y (y_move rfl) rfl rfl rfl rfl ?_
  refine s_y (y_move rfl) rfl rfl rfl rfl ?_
  refine s_y (y_lenV (n := s.length) rfl (by obtain ⟨A, c, h1, _⟩ := hs; exact ⟨A, c, h1⟩) sle_22) rfl rfl rfl rfl ?_
  refine s_y (y_gtr rfl rfl) rfl rfl rfl rfl ?_
  refine s_y (y_move rfl) rfl rfl rfl rfl ?_
  refine g_bool 18 rfl (fun cq1 => ?_) (fun cq1 => ?_)
  · (try simp at cq1)
    refine s_y (y_move rfl) rfl rfl rfl rfl ?_
    refine s_tr (t_call rfl rfl ent_46 (fun w h => by have h_ := isPart_any w _ s (hs.below h.below) (by omega); rw [partB_true.2 ⟨⟨by omega, by omega⟩, hsn⟩] at h_; exact h_)) rfl rfl rfl rfl (fun _ _ => ?_)
    refine s_y (y_not_t rfl) rfl rfl rfl rfl ?_
    refine s_y (y_pick_t rfl rfl) rfl rfl rfl rfl ?_
    refine s_y (y_pick_f rfl rfl) rfl rfl rfl rfl ?_
    refine s_y (y_move rfl) rfl rfl rfl rfl ?_
    refine s_y (y_move rfl) rfl rfl rfl rfl ?_
    refine s_y (y_lenV (n := s.length) rfl (by obtain ⟨A, c, h1, _⟩ := hs; exact ⟨A, c, h1⟩) sle_22) rfl rfl rfl rfl ?_
    refine s_y (y_move rfl) rfl rfl rfl rfl ?_
    refine s_y (y_lenV (n := g.length) rfl (by obtain ⟨A, c, h1, _⟩ := hg; exact ⟨A, c, h1⟩) sle_22) rfl rfl rfl rfl ?_
    refine s_y (y_geq_f rfl rfl (by omega)) rfl rfl rfl rfl ?_
    refine s_y (y_pick_f rfl rfl) rfl rfl rfl rfl ?_
    refine s_nil ?_
    refine g_then ?_
    refine g_cond_f rfl ?_
    refine g_skip ?_
    refine g_then ?_
    refine g_seq ?_
    refine g_region ?_
    refine s_y (y_move rfl) rfl rfl rfl rfl ?_
    refine s_y (y_move rfl) rfl rfl rfl rfl ?_
    refine s_y (y_build (vs := [(0, _), (1, _)]) rfl rfl (fun w => bld_48_0_1 _ _ _ _ _ _ w)) rfl rfl rfl rfl ?_
    refine s_tr (t_alloc zero_48 rfl) rfl rfl rfl rfl (fun b6 hb6 => ?_)
    refine s_tr0 (t_store 0 rfl rfl rfl rfl size_48 rfl rfl) rfl rfl rfl (fun _ _ => ?_)
    refine s_nil ?_
    refine g_then ?_
    refine g_seq ?_
    refine g_region ?_
    refine s_tr (t_alloc zero_22 rfl) rfl rfl rfl rfl (fun b7 hb7 => ?_)
    refine s_nil ?_
    refine g_then ?_
    refine g_seq ?_
    refine g_seq ?_
    refine g_region ?_
    refine s_y (y_ldn 1 rfl rfl agg_48 size_48 rfl rfl) rfl rfl rfl rfl ?_
    refine s_tr (t_call rfl rfl ent_49 (fun w h => first_any w ag as_ cg cs g s (hg.below h.below) (hs.below h.below) (by omega) (by omega) hgn hsn)) rfl rfl rfl rfl (fun _ _ => ?_)
    refine s_y (y_move rfl) rfl rfl rfl rfl ?_
    refine s_y (y_extract rfl rfl) rfl rfl rfl rfl ?_
    refine s_y (y_extract rfl rfl) rfl rfl rfl rfl ?_
    refine s_y (y_assign rfl) rfl rfl rfl rfl ?_
    refine s_y (y_assign rfl) rfl rfl rfl rfl ?_
    refine s_nil ?_
    refine g_then ?_
    refine g_seq ?_
    refine g_region ?_
    refine s_y (y_move rfl) rfl rfl rfl rfl ?_
    refine s_y (y_eql rfl rfl) rfl rfl rfl rfl ?_
    refine s_nil ?_
    refine g_then ?_
    refine g_cond rfl (fun cq2 => ?_) (fun cq2 => ?_)
    · (try simp at cq2)
      have cz := cq2
      refine g_seq ?_
      refine g_region ?_
      refine s_y (y_ldn 1 rfl rfl agg_48 size_48 rfl rfl) rfl rfl rfl rfl ?_
      refine s_y (y_func rfl rfl) rfl rfl rfl rfl ?_
      refine s_nil ?_
      refine g_then ?_
      refine g_block ?_
      refine g_rangeF (gf := 55) (fs := [.agg #[.slice ag g.length cg, .slice as_ s.length cs]]) (lb := []) (encs := (fun x : Int => [.int .i64 x])) (xs := nxL g s) rfl ent_55 (fun _ => rfl) (by decide) (fun _ W => RdV (Value.int .i64) W (.slice ag g.length cg) g ∧ RdV (Value.int .i64) W (.slice as_ s.length cs) s)
        (fun k m' => ∃ (sv : SV) (m : Nat) (zs : List Int) (gs : List (Nat × Obj)), (sv.ok 1 m (zs.map (Value.int .i64))) ∧ (zs = (nxL g s).take (k)) ∧ (m = zs.length) ∧ m' = (b7, .cells [sv.val m].toArray 22 (0, 0)) :: (sv.mem 3 (zs.map (Value.int .i64)) ++ ((gs ++ ((b6, .cells [.slice ag g.length cg, .slice as_ s.length cs].toArray 48 (0, 0)) :: []))))) (fun _ _ _ => False) (fun we hwe => next_iter ag as_ cg cs g s (by omega) (by omega) hgn hsn)
        (by rintro we k _ W hwe ⟨sv, m, zs, gs, hokz, hzs, hmz, rfl⟩ h; exact ⟨hg.below h.below, hs.below h.below⟩) ⟨SV.nil, 0, [], [], ⟨rfl, rfl⟩, rfl, rfl, rfl⟩ ?_ ?_ ?_
      · skip
        rintro we W1 hwe lp k x _ hx ⟨sv, m, zs, gs, hokz, hzs, hmz, rfl⟩ hq K hK
        have hkl := (List.getElem?_eq_some_iff.1 hx).1
        have hl21 := nxL_len g s
        have hmk : m ≤ k := by rw [hmz, hzs, List.length_take]; omega
        refine g_region ?_
        refine s_y (y_assign rfl) rfl rfl rfl rfl ?_
        refine s_nil ?_
        refine g_then ?_
        refine hK _ _ (fun W2 hW2 => ?_)
        refine g_block ?_
        refine g_region ?_
        refine s_y (y_ld1 0 rfl rfl agg_22 rfl) rfl rfl rfl rfl ?_
        refine s_y (y_move rfl) rfl rfl rfl rfl ?_
        refine s_tr (t_build (vs := [(0, .int .i64 x)]) (cells := [.int .i64 x]) rfl rfl Try.underlying22 hi3.1 hi3.2.1 (by rw [hi3.2.2.1]; rfl) (by rw [hi3.2.2.1]; rfl) (by rw [hi3.2.2.1]; kernel_rfl)) rfl rfl rfl rfl (fun b3 hb3 => ?_)
        refine s_tr (t_appendLO (enc := (Value.int .i64)) (sv := sv) (xs := zs) (n := m) (v := x) [_, _] _ rfl rfl rfl hokz Try.underlying22 hi3.1 hi3.2.1 hi3.2.2.1 hi3.2.2.2 rfl (fun w h => h.toHq.cell (i := 0) rfl rfl) rfl (by omega) (by unfold maxLen; omega)) rfl rfl rfl rfl (fun y7 hy8 => ?_)
        obtain ⟨sv4, gs5⟩ := y7
        obtain ⟨⟨hok6, hok6b, hok6c, hok6j, hok6e⟩, hok6n, hok6o⟩ := hy8
        refine s_tr0 (t_store 1 rfl rfl rfl (SV.cells1 _ _) size_22 rfl (by simp [SV.one])) rfl rfl rfl (fun _ _ => ?_)
        refine s_nil ?_
        refine g_inb ?_
        exact fun act W _ hW => (have hids := ids_sv (n := W2.heap.size) (b := b7) (o := Obj.cells [sv.val m].toArray 22 (0, 0)) (o' := Obj.cells [sv4.val (m + 1)].toArray 22 (0, 0)) (gs := gs) (B := (b6, .cells [.slice ag g.length cg, .slice as_ s.length cs].toArray 48 (0, 0)) :: []) hok6n hok6o; have h4 : Hp w W2 ((b7, .cells [sv4.val (m + 1)].toArray 22 (0, 0)) :: ((sv4.mem 3 ((zs ++ [x]).map (Value.int .i64))) ++ ((gs5 ++ gs) ++ ((b6, .cells [.slice ag g.length cg, .slice as_ s.length cs].toArray 48 (0, 0)) :: [])))) W := (by have h_ := ((show Hp w W2 ((b3, .cells [.int .i64 x].toArray 3 (0, 0)) :: (b7, .cells [sv4.val (m + 1)].toArray 22 (0, 0)) :: (sv4.mem 3 ((zs ++ [x]).map (Value.int .i64)) ++ ((gs5 ++ ((gs ++ ((b6, .cells [.slice ag g.length cg, .slice as_ s.length cs].toArray 48 (0, 0)) :: []))))))) W from hW).tail hb3.2); rw [List.append_assoc gs5 gs]; exact h_); have hc_ := rf_close2 hq hW2 h4 hids.1 hids.2; ⟨hc_.1, _, ⟨sv4, _, _, (gs5 ++ gs), hok6, (by rw [List.take_add_one, hx, hzs]; rfl), (by rw [hmz]; simp), rfl⟩, hc_.2⟩)
      · skip
        rintro we W Dm _ hwe ⟨sv, m, zs, gs, hokz, hzs, hmz, rfl⟩ hq hD hW hbk
        have hM := hM.next hwe hbk hD hW
        rw [List.take_length] at hzs
        refine g_inb ?_
        refine g_then ?_
        refine g_seq ?_
        refine g_region ?_
        refine s_y (y_ld1 0 rfl rfl agg_22 rfl) rfl rfl rfl rfl ?_
        refine s_y (y_assign rfl) rfl rfl rfl rfl ?_
        refine s_y (y_assign rfl) rfl rfl rfl rfl ?_
        refine s_nil ?_
        refine g_then ?_
        refine g_ret ?_
        rw [show nexD g s = zs from (if_pos (by simpa using cz)).trans hzs.symm]
        exact g_end hM (fun a w ha hq_ => res2 ha rfl rfl rfl  w) (fun w h => ⟨(_, sv.mem 3 (zs.map (Value.int .i64))), ⟨(OwnV.sv hokz), w, (h.hand (List.Sublist.cons _ (sub_here (sv.mem 3 (zs.map (Value.int .i64))) _))).at_⟩, rfl, h.hand (List.Sublist.cons _ (sub_here (sv.mem 3 (zs.map (Value.int .i64))) _))⟩)
      · skip
        exact fun _ _ _ _ _ _ _ h => h.elim
    · (try simp at cq2)
      have cz := cq2
      refine g_skip ?_
      refine g_then ?_
      refine g_seq ?_
      refine g_region ?_
      refine s_y (y_ld1 0 rfl rfl agg_22 rfl) rfl rfl rfl rfl ?_
      refine s_y (y_assign rfl) rfl rfl rfl rfl ?_
      refine s_y (y_assign rfl) rfl rfl rfl rfl ?_
      refine s_nil ?_
      refine g_then ?_
      refine g_ret ?_
      rw [show nexD g s = [] from if_neg (by simpa using cz)]
      exact g_end hM (fun a w ha hq_ => res2 ha rfl rfl rfl  w) (fun w h => ⟨(_, []), ⟨OwnV.nil, w, (h.hand (List.nil_sublist _)).at_⟩, rfl, h.hand (List.nil_sublist _)⟩)
  · (try simp at cq1)
    refine s_no rfl rfl rfl ?_
    refine s_no rfl rfl rfl ?_
    refine s_no rfl rfl rfl ?_
    refine s_y (y_pick_f rfl rfl) rfl rfl rfl rfl ?_
    refine s_y (y_pick_f rfl rfl) rfl rfl rfl rfl ?_
    refine s_y (y_move rfl) rfl rfl rfl rfl ?_
    refine s_y (y_move rfl) rfl rfl rfl rfl ?_
    refine s_y (y_lenV (n := s.length) rfl (by obtain ⟨A, c, h1, _⟩ := hs; exact ⟨A, c, h1⟩) sle_22) rfl rfl rfl rfl ?_
    refine s_y (y_move rfl) rfl rfl rfl rfl ?_
    refine s_y (y_lenV (n := g.length) rfl (by obtain ⟨A, c, h1, _⟩ := hg; exact ⟨A, c, h1⟩) sle_22) rfl rfl rfl rfl ?_
    refine s_y (y_geq_f rfl rfl (by omega)) rfl rfl rfl rfl ?_
    refine s_y (y_pick_f rfl rfl) rfl rfl rfl rfl ?_
    refine s_nil ?_
    refine g_then ?_
    refine g_cond_f rfl ?_
    refine g_skip ?_
    refine g_then ?_
    refine g_seq ?_
    refine g_region ?_
    refine s_y (y_move rfl) rfl rfl rfl rfl ?_
    refine s_y (y_move rfl) rfl rfl rfl rfl ?_
    refine s_y (y_build (vs := [(0, _), (1, _)]) rfl rfl (fun w => bld_48_0_1 _ _ _ _ _ _ w)) rfl rfl rfl rfl ?_
    refine s_tr (t_alloc zero_48 rfl) rfl rfl rfl rfl (fun b6 hb6 => ?_)
    refine s_tr0 (t_store 0 rfl rfl rfl rfl size_48 rfl rfl) rfl rfl rfl (fun _ _ => ?_)
    refine s_nil ?_
    refine g_then ?_
    refine g_seq ?_
    refine g_region ?_
    refine s_tr (t_alloc zero_22 rfl) rfl rfl rfl rfl (fun b7 hb7 => ?_)
    refine s_nil ?_
    refine g_then ?_
    refine g_seq ?_
    refine g_seq ?_
    refine g_region ?_
    refine s_y (y_ldn 1 rfl rfl agg_48 size_48 rfl rfl) rfl rfl rfl rfl ?_
    refine s_tr (t_call rfl rfl ent_49 (fun w h => first_any w ag as_ cg cs g s (hg.below h.below) (hs.below h.below) (by omega) (by omega) hgn hsn)) rfl rfl rfl rfl (fun _ _ => ?_)
    refine s_y (y_move rfl) rfl rfl rfl rfl ?_
    refine s_y (y_extract rfl rfl) rfl rfl rfl rfl ?_
    refine s_y (y_extract rfl rfl) rfl rfl rfl rfl ?_
    refine s_y (y_assign rfl) rfl rfl rfl rfl ?_
    refine s_y (y_assign rfl) rfl rfl rfl rfl ?_
    refine s_nil ?_
    refine g_then ?_
    refine g_seq ?_
    refine g_region ?_
    refine s_y (y_move rfl) rfl rfl rfl rfl ?_
    refine s_y (y_eql rfl rfl) rfl rfl rfl rfl ?_
    refine s_nil ?_
    refine g_then ?_
    refine g_cond rfl (fun cq9 => ?_) (fun cq9 => ?_)
    · (try simp at cq9)
      have cz := cq9
      refine g_seq ?_
      refine g_region ?_
      refine s_y (y_ldn 1 rfl rfl agg_48 size_48 rfl rfl) rfl rfl rfl rfl ?_
      refine s_y (y_func rfl rfl) rfl rfl rfl rfl ?_
      refine s_nil ?_
      refine g_then ?_
      refine g_block ?_
      refine g_rangeF (gf := 55) (fs := [.agg #[.slice ag g.length cg, .slice as_ s.length cs]]) (lb := []) (encs := (fun x : Int => [.int .i64 x])) (xs := nxL g s) rfl ent_55 (fun _ => rfl) (by decide) (fun _ W => RdV (Value.int .i64) W (.slice ag g.length cg) g ∧ RdV (Value.int .i64) W (.slice as_ s.length cs) s)
        (fun k m' => ∃ (sv : SV) (m : Nat) (zs : List Int) (gs : List (Nat × Obj)), (sv.ok 1 m (zs.map (Value.int .i64))) ∧ (zs = (nxL g s).take (k)) ∧ (m = zs.length) ∧ m' = (b7, .cells [sv.val m].toArray 22 (0, 0)) :: (sv.mem 3 (zs.map (Value.int .i64)) ++ ((gs ++ ((b6, .cells [.slice ag g.length cg, .slice as_ s.length cs].toArray 48 (0, 0)) :: []))))) (fun _ _ _ => False) (fun we hwe => next_iter ag as_ cg cs g s (by omega) (by omega) hgn hsn)
        (by rintro we k _ W hwe ⟨sv, m, zs, gs, hokz, hzs, hmz, rfl⟩ h; exact ⟨hg.below h.below, hs.below h.below⟩) ⟨SV.nil, 0, [], [], ⟨rfl, rfl⟩, rfl, rfl, rfl⟩ ?_ ?_ ?_
      · skip
        rintro we W1 hwe lp k x _ hx ⟨sv, m, zs, gs, hokz, hzs, hmz, rfl⟩ hq K hK
        have hkl := (List.getElem?_eq_some_iff.1 hx).1
        have hl21 := nxL_len g s
        have hmk : m ≤ k := by rw [hmz, hzs, List.length_take]; omega
        refine g_region ?_
        refine s_y (y_assign rfl) rfl rfl rfl rfl ?_
        refine s_nil ?_
        refine g_then ?_
        refine hK _ _ (fun W2 hW2 => ?_)
        refine g_block ?_
        refine g_region ?_
        refine s_y (y_ld1 0 rfl rfl agg_22 rfl) rfl rfl rfl rfl ?_
        refine s_y (y_move rfl) rfl rfl rfl rfl ?_
        refine s_tr (t_build (vs := [(0, .int .i64 x)]) (cells := [.int .i64 x]) rfl rfl Try.underlying22 hi3.1 hi3.2.1 (by rw [hi3.2.2.1]; rfl) (by rw [hi3.2.2.1]; rfl) (by rw [hi3.2.2.1]; kernel_rfl)) rfl rfl rfl rfl (fun b10 hb10 => ?_)
        refine s_tr (t_appendLO (enc := (Value.int .i64)) (sv := sv) (xs := zs) (n := m) (v := x) [_, _] _ rfl rfl rfl hokz Try.underlying22 hi3.1 hi3.2.1 hi3.2.2.1 hi3.2.2.2 rfl (fun w h => h.toHq.cell (i := 0) rfl rfl) rfl (by omega) (by unfold maxLen; omega)) rfl rfl rfl rfl (fun y14 hy15 => ?_)
        obtain ⟨sv11, gs12⟩ := y14
        obtain ⟨⟨hok13, hok13b, hok13c, hok13j, hok13e⟩, hok13n, hok13o⟩ := hy15
        refine s_tr0 (t_store 1 rfl rfl rfl (SV.cells1 _ _) size_22 rfl (by simp [SV.one])) rfl rfl rfl (fun _ _ => ?_)
        refine s_nil ?_
        refine g_inb ?_
        exact fun act W _ hW => (have hids := ids_sv (n := W2.heap.size) (b := b7) (o := Obj.cells [sv.val m].toArray 22 (0, 0)) (o' := Obj.cells [sv11.val (m + 1)].toArray 22 (0, 0)) (gs := gs) (B := (b6, .cells [.slice ag g.length cg, .slice as_ s.length cs].toArray 48 (0, 0)) :: []) hok13n hok13o; have h4 : Hp w W2 ((b7, .cells [sv11.val (m + 1)].toArray 22 (0, 0)) :: ((sv11.mem 3 ((zs ++ [x]).map (Value.int .i64))) ++ ((gs12 ++ gs) ++ ((b6, .cells [.slice ag g.length cg, .slice as_ s.length cs].toArray 48 (0, 0)) :: [])))) W := (by have h_ := ((show Hp w W2 ((b10, .cells [.int .i64 x].toArray 3 (0, 0)) :: (b7, .cells [sv11.val (m + 1)].toArray 22 (0, 0)) :: (sv11.mem 3 ((zs ++ [x]).map (Value.int .i64)) ++ ((gs12 ++ ((gs ++ ((b6, .cells [.slice ag g.length cg, .slice as_ s.length cs].toArray 48 (0, 0)) :: []))))))) W from hW).tail hb10.2); rw [List.append_assoc gs12 gs]; exact h_); have hc_ := rf_close2 hq hW2 h4 hids.1 hids.2; ⟨hc_.1, _, ⟨sv11, _, _, (gs12 ++ gs), hok13, (by rw [List.take_add_one, hx, hzs]; rfl), (by rw [hmz]; simp), rfl⟩, hc_.2⟩)
      · skip
        rintro we W Dm _ hwe ⟨sv, m, zs, gs, hokz, hzs, hmz, rfl⟩ hq hD hW hbk
        have hM := hM.next hwe hbk hD hW
        rw [List.take_length] at hzs
        refine g_inb ?_
        refine g_then ?_
        refine g_seq ?_
        refine g_region ?_
        refine s_y (y_ld1 0 rfl rfl agg_22 rfl) rfl rfl rfl rfl ?_
        refine s_y (y_assign rfl) rfl rfl rfl rfl ?_
        refine s_y (y_assign rfl) rfl rfl rfl rfl ?_
        refine s_nil ?_
        refine g_then ?_
        refine g_ret ?_
        rw [show nexD g s = zs from (if_pos (by simpa using cz)).trans hzs.symm]
        exact g_end hM (fun a w ha hq_ => res2 ha rfl rfl rfl  w) (fun w h => ⟨(_, sv.mem 3 (zs.map (Value.int .i64))), ⟨(OwnV.sv hokz), w, (h.hand (List.Sublist.cons _ (sub_here (sv.mem 3 (zs.map (Value.int .i64))) _))).at_⟩, rfl, h.hand (List.Sublist.cons _ (sub_here (sv.mem 3 (zs.map (Value.int .i64))) _))⟩)
      · skip
        exact fun _ _ _ _ _ _ _ h => h.elim
    · (try simp at cq9)
      have cz := cq9
      refine g_skip ?_
      refine g_then ?_
      refine g_seq ?_
      refine g_region ?_
      refine s_y (y_ld1 0 rfl rfl agg_22 rfl) rfl rfl rfl rfl ?_
      refine s_y (y_assign rfl) rfl rfl rfl rfl ?_
      refine s_y (y_assign rfl) rfl rfl rfl rfl ?_
      refine s_nil ?_
      refine g_then ?_
      refine g_ret ?_
      rw [show nexD g s = [] from if_neg (by simpa using cz)]
      exact g_end hM (fun a w ha hq_ => res2 ha rfl rfl rfl  w) (fun w h => ⟨(_, []), ⟨OwnV.nil, w, (h.hand (List.nil_sublist _)).at_⟩, rfl, h.hand (List.nil_sublist _)⟩)

theorem Next_ok (w : World) (v v' : Value) (g s : List Int) (hg : RdV (Value.int .i64) w v g) (hs : RdV (Value.int .i64) w v' s) (hp : partB g = true) (hsn : ∀ x ∈ s, 0 ≤ x ∧ x ≤ 20) (hle : s.length < g.length) : Calls Try.prog 30 [v, v'].toArray w fun e w' => ∃ x : Value × List (Nat × Obj), (OwnV (Value.int .i64) x.1 (nexD g s) x.2 ∧ ∃ W : World, ∀ p ∈ x.2, W.heap[p.1]? = some p.2) ∧ e = .returned (.tuple #[x.1, .int .i64 0]) ∧ Hq w w x.2 w' := by
  obtain ⟨ag, cg, rfl, _, _⟩ := id hg
  obtain ⟨as_, cs, rfl, _, _⟩ := id hs
  exact Next_lit w ag as_ cg cs g s hg hs hp hsn hle

theorem Next_bad1 (w : World) (v v' : Value) (g s : List Int) (hg : RdV (Value.int .i64) w v g) (hs : RdV (Value.int .i64) w v' s) (hgl : g.length ≤ 9223372036854775807) (hsl : s.length ≤ 9223372036854775807) (hp : partB g = false) :
    Calls Try.prog 30 [v, v'].toArray w fun e w' => e = .returned (.tuple #[.slice none 0 0, .int .i64 2]) ∧ Below w.heap.size w w' := by
  refine enter (N := 49) Try.func30 rfl rfl rfl ?_
  refine g_seq ?_
  refine g_region ?_
  refine s_y (y_assign rfl) rfl rfl rfl rfl ?_
  refine s_y (y_assign rfl) rfl rfl rfl rfl ?_
  refine s_nil ?_
  refine g_then ?_
  refine g_seq ?_
  refine g_seq ?_
  refine g_region ?_
  refine s_y (y_move rfl) rfl rfl rfl rfl ?_
  refine s_tr (t_call rfl rfl ent_46 (fun w h => by have h_ := isPart_any w _ g (hg.below h.below) (by omega); rw [hp] at h_; exact h_)) rfl rfl rfl rfl (fun _ _ => ?_)
  refine s_y (y_not_f rfl) rfl rfl rfl rfl ?_
  refine s_y (y_move rfl) rfl rfl rfl rfl ?_
  refine s_no rfl rfl rfl ?_
  refine s_no rfl rfl rfl ?_
  refine s_no rfl rfl rfl ?_
  refine s_no rfl rfl rfl ?_
  refine s_noU rfl rfl rfl rfl rfl ?_
  refine s_noU rfl rfl rfl rfl rfl ?_
  refine s_noU rfl rfl rfl rfl rfl ?_
  refine s_no rfl rfl rfl ?_
  refine s_y (y_pick_t rfl rfl) rfl rfl rfl rfl ?_
  refine s_y (y_move rfl) rfl rfl rfl rfl ?_
  refine s_no rfl rfl rfl ?_
  refine s_no rfl rfl rfl ?_
  refine s_no rfl rfl rfl ?_
  refine s_no rfl rfl rfl ?_
  refine s_no rfl rfl rfl ?_
  refine s_y (y_pick_t rfl rfl) rfl rfl rfl rfl ?_
  refine s_nil ?_
  refine g_then ?_
  refine g_cond_t rfl ?_
  refine g_seq ?_
  refine g_region ?_
  refine s_y (y_assign rfl) rfl rfl rfl rfl ?_
  refine s_y (y_assign rfl) rfl rfl rfl rfl ?_
  refine s_nil ?_
  refine g_then ?_
  refine g_ret ?_
  refine g_thenr ?_
  exact g_end trivial (fun a w ha hq_ => res2 ha rfl rfl rfl  w) (fun w h => ⟨rfl, h.below⟩)

theorem Next_bad2 (w : World) (v v' : Value) (g s : List Int) (hg : RdV (Value.int .i64) w v g) (hs : RdV (Value.int .i64) w v' s) (hgl : g.length ≤ 9223372036854775807) (hsl : s.length ≤ 9223372036854775807) (hp : partB g = true) (h0 : s.length > 0) (hq : partB s = false) :
    Calls Try.prog 30 [v, v'].toArray w fun e w' => e = .returned (.tuple #[.slice none 0 0, .int .i64 2]) ∧ Below w.heap.size w w' := by
  refine enter (N := 49) Try.func30 rfl rfl rfl ?_
  refine g_seq ?_
  refine g_region ?_
  refine s_y (y_assign rfl) rfl rfl rfl rfl ?_
  refine s_y (y_assign rfl) rfl rfl rfl rfl ?_
  refine s_nil ?_
  refine g_then ?_
  refine g_seq ?_
  refine g_seq ?_
  refine g_region ?_
  refine s_y (y_move rfl) rfl rfl rfl rfl ?_
  refine s_tr (t_call rfl rfl ent_46 (fun w h => by have h_ := isPart_any w _ g (hg.below h.below) (by omega); rw [hp] at h_; exact h_)) rfl rfl rfl rfl (fun _ _ => ?_)
  refine s_y (y_not_t rfl) rfl rfl rfl rfl ?_
  refine s_y (y_move rfl) rfl rfl rfl rfl ?_
  refine s_y (y_move rfl) rfl rfl rfl rfl ?_
  refine s_y (y_lenV (n := s.length) rfl (by obtain ⟨A, c, h1, _⟩ := hs; exact ⟨A, c, h1⟩) sle_22) rfl rfl rfl rfl ?_
  refine s_y (y_gtr_t rfl rfl (by omega)) rfl rfl rfl rfl ?_
  refine s_y (y_move rfl) rfl rfl rfl rfl ?_
  refine s_y (y_move rfl) rfl rfl rfl rfl ?_
  refine s_tr (t_call rfl rfl ent_46 (fun w h => by have h_ := isPart_any w _ s (hs.below h.below) (by omega); rw [hq] at h_; exact h_)) rfl rfl rfl rfl (fun _ _ => ?_)
  refine s_y (y_not_f rfl) rfl rfl rfl rfl ?_
  refine s_y (y_pick_t rfl rfl) rfl rfl rfl rfl ?_
  refine s_y (y_pick_f rfl rfl) rfl rfl rfl rfl ?_
  refine s_y (y_move rfl) rfl rfl rfl rfl ?_
  refine s_no rfl rfl rfl ?_
  refine s_no rfl rfl rfl ?_
  refine s_no rfl rfl rfl ?_
  refine s_no rfl rfl rfl ?_
  refine s_no rfl rfl rfl ?_
  refine s_y (y_pick_t rfl rfl) rfl rfl rfl rfl ?_
  refine s_nil ?_
  refine g_then ?_
  refine g_cond_t rfl ?_
  refine g_seq ?_
  refine g_region ?_
  refine s_y (y_assign rfl) rfl rfl rfl rfl ?_
  refine s_y (y_assign rfl) rfl rfl rfl rfl ?_
  refine s_nil ?_
  refine g_then ?_
  refine g_ret ?_
  refine g_thenr ?_
  exact g_end trivial (fun a w ha hq_ => res2 ha rfl rfl rfl  w) (fun w h => ⟨rfl, h.below⟩)

theorem Next_bad3 (w : World) (v v' : Value) (g s : List Int) (hg : RdV (Value.int .i64) w v g) (hs : RdV (Value.int .i64) w v' s) (hgl : g.length ≤ 9223372036854775807) (hsl : s.length ≤ 9223372036854775807) (hp : partB g = true) (h0 : ¬ s.length > 0) (hle : s.length ≥ g.length) :
    Calls Try.prog 30 [v, v'].toArray w fun e w' => e = .returned (.tuple #[.slice none 0 0, .int .i64 2]) ∧ Below w.heap.size w w' := by
  refine enter (N := 49) Try.func30 rfl rfl rfl ?_
  refine g_seq ?_
  refine g_region ?_
  refine s_y (y_assign rfl) rfl rfl rfl rfl ?_
  refine s_y (y_assign rfl) rfl rfl rfl rfl ?_
  refine s_nil ?_
  refine g_then ?_
  refine g_seq ?_
  refine g_seq ?_
  refine g_region ?_
  refine s_y (y_move rfl) rfl rfl rfl rfl ?_
  refine s_tr (t_call rfl rfl ent_46 (fun w h => by have h_ := isPart_any w _ g (hg.below h.below) (by omega); rw [hp] at h_; exact h_)) rfl rfl rfl rfl (fun _ _ => ?_)
  refine s_y (y_not_t rfl) rfl rfl rfl rfl ?_
  refine s_y (y_move rfl) rfl rfl rfl rfl ?_
  refine s_y (y_move rfl) rfl rfl rfl rfl ?_
  refine s_y (y_lenV (n := s.length) rfl (by obtain ⟨A, c, h1, _⟩ := hs; exact ⟨A, c, h1⟩) sle_22) rfl rfl rfl rfl ?_
  refine s_y (y_gtr_f rfl rfl (by omega)) rfl rfl rfl rfl ?_
  refine s_y (y_move rfl) rfl rfl rfl rfl ?_
  refine s_no rfl rfl rfl ?_
  refine s_no rfl rfl rfl ?_
  refine s_no rfl rfl rfl ?_
  refine s_y (y_pick_f rfl rfl) rfl rfl rfl rfl ?_
  refine s_y (y_pick_f rfl rfl) rfl rfl rfl rfl ?_
  refine s_y (y_move rfl) rfl rfl rfl rfl ?_
  refine s_y (y_move rfl) rfl rfl rfl rfl ?_
  refine s_y (y_lenV (n := s.length) rfl (by obtain ⟨A, c, h1, _⟩ := hs; exact ⟨A, c, h1⟩) sle_22) rfl rfl rfl rfl ?_
  refine s_y (y_move rfl) rfl rfl rfl rfl ?_
  refine s_y (y_lenV (n := g.length) rfl (by obtain ⟨A, c, h1, _⟩ := hg; exact ⟨A, c, h1⟩) sle_22) rfl rfl rfl rfl ?_
  refine s_y (y_geq_t rfl rfl (by omega)) rfl rfl rfl rfl ?_
  refine s_y (y_pick_f rfl rfl) rfl rfl rfl rfl ?_
  refine s_nil ?_
  refine g_then ?_
  refine g_cond_t rfl ?_
  refine g_seq ?_
  refine g_region ?_
  refine s_y (y_assign rfl) rfl rfl rfl rfl ?_
  refine s_y (y_assign rfl) rfl rfl rfl rfl ?_
  refine s_nil ?_
  refine g_then ?_
  refine g_ret ?_
  refine g_thenr ?_
  exact g_end trivial (fun a w ha hq_ => res2 ha rfl rfl rfl  w) (fun w h => ⟨rfl, h.below⟩)

theorem Next_bad4 (w : World) (v v' : Value) (g s : List Int) (hg : RdV (Value.int .i64) w v g) (hs : RdV (Value.int .i64) w v' s) (hgl : g.length ≤ 9223372036854775807) (hsl : s.length ≤ 9223372036854775807) (hp : partB g = true) (h0 : s.length > 0) (hq : partB s = true) (hle : s.length ≥ g.length) :
    Calls Try.prog 30 [v, v'].toArray w fun e w' => e = .returned (.tuple #[.slice none 0 0, .int .i64 2]) ∧ Below w.heap.size w w' := by
  refine enter (N := 49) Try.func30 rfl rfl rfl ?_
  refine g_seq ?_
  refine g_region ?_
  refine s_y (y_assign rfl) rfl rfl rfl rfl ?_
  refine s_y (y_assign rfl) rfl rfl rfl rfl ?_
  refine s_nil ?_
  refine g_then ?_
  refine g_seq ?_
  refine g_seq ?_
  refine g_region ?_
  refine s_y (y_move rfl) rfl rfl rfl rfl ?_
  refine s_tr (t_call rfl rfl ent_46 (fun w h => by have h_ := isPart_any w _ g (hg.below h.below) (by omega); rw [hp] at h_; exact h_)) rfl rfl rfl rfl (fun _ _ => ?_)
  refine s_y (y_not_t rfl) rfl rfl rfl rfl ?_
  refine s_y (y_move rfl) rfl rfl rfl rfl ?_
  refine s_y (y_move rfl) rfl rfl rfl rfl ?_
  refine s_y (y_lenV (n := s.length) rfl (by obtain ⟨A, c, h1, _⟩ := hs; exact ⟨A, c, h1⟩) sle_22) rfl rfl rfl rfl ?_
  refine s_y (y_gtr_t rfl rfl (by omega)) rfl rfl rfl rfl ?_
  refine s_y (y_move rfl) rfl rfl rfl rfl ?_
  refine s_y (y_move rfl) rfl rfl rfl rfl ?_
  refine s_tr (t_call rfl rfl ent_46 (fun w h => by have h_ := isPart_any w _ s (hs.below h.below) (by omega); rw [hq] at h_; exact h_)) rfl rfl rfl rfl (fun _ _ => ?_)
  refine s_y (y_not_t rfl) rfl rfl rfl rfl ?_
  refine s_y (y_pick_t rfl rfl) rfl rfl rfl rfl ?_
  refine s_y (y_pick_f rfl rfl) rfl rfl rfl rfl ?_
  refine s_y (y_move rfl) rfl rfl rfl rfl ?_
  refine s_y (y_move rfl) rfl rfl rfl rfl ?_
  refine s_y (y_lenV (n := s.length) rfl (by obtain ⟨A, c, h1, _⟩ := hs; exact ⟨A, c, h1⟩) sle_22) rfl rfl rfl rfl ?_
  refine s_y (y_move rfl) rfl rfl rfl rfl ?_
  refine s_y (y_lenV (n := g.length) rfl (by obtain ⟨A, c, h1, _⟩ := hg; exact ⟨A, c, h1⟩) sle_22) rfl rfl rfl rfl ?_
  refine s_y (y_geq_t rfl rfl (by omega)) rfl rfl rfl rfl ?_
  refine s_y (y_pick_f rfl rfl) rfl rfl rfl rfl ?_
  refine s_nil ?_
  refine g_then ?_
  refine g_cond_t rfl ?_
  refine g_seq ?_
  refine g_region ?_
  refine s_y (y_assign rfl) rfl rfl rfl rfl ?_
  refine s_y (y_assign rfl) rfl rfl rfl rfl ?_
  refine s_nil ?_
  refine g_then ?_
  refine g_ret ?_
  refine g_thenr ?_
  exact g_end trivial (fun a w ha hq_ => res2 ha rfl rfl rfl  w) (fun w h => ⟨rfl, h.below⟩)

def NextOK (g s : List Int) : Prop := partB g = true ∧ (∀ x ∈ s, 0 ≤ x ∧ x ≤ 20) ∧ s.length < g.length
theorem Next_bad (w : World) (v v' : Value) (g s : List Int) (hg : RdV (Value.int .i64) w v g) (hs : RdV (Value.int .i64) w v' s) (hgl : g.length ≤ 9223372036854775807) (hsl : s.length ≤ 9223372036854775807) (h : ¬ NextOK g s) : Calls Try.prog 30 [v, v'].toArray w fun e w' => e = .returned (.tuple #[.slice none 0 0, .int .i64 2]) ∧ Below w.heap.size w w' := by
  cases hp : partB g with
  | false => exact Next_bad1 w v v' g s hg hs hgl hsl hp
  | true =>
    have hg8 := (partB_true.1 hp).1
    by_cases h0 : s.length > 0
    · cases hq : partB s with
      | false => exact Next_bad2 w v v' g s hg hs hgl hsl hp h0 hq
      | true => exact Next_bad4 w v v' g s hg hs hgl hsl hp h0 hq (Nat.le_of_not_lt fun h1 => h ⟨hp, (partB_true.1 hq).2, h1⟩)
    · exact absurd ⟨hp, fun x hx => (h0 (List.length_pos_of_mem hx)).elim, by omega⟩ h

theorem kept_any (w : World) (v v' : Value) (g s : List Int) (hg : RdV (Value.int .i64) w v g) (hs : RdV (Value.int .i64) w v' s) (hle : s.length ≤ g.length) (hgl : g.length ≤ 1000) (hgn : ∀ x ∈ g, 0 ≤ x ∧ x ≤ 20) (hsn : ∀ x ∈ s, 0 ≤ x ∧ x ≤ 20) :
    Calls Try.prog 60 [v, v'].toArray w fun e w' => e = .returned (.int .i64 (kptI g s)) ∧ Below w.heap.size w w' := by
  refine enter (N := 20) Try.func60 rfl rfl rfl ?_
  refine g_seq ?_
  refine g_region ?_
  refine s_y (y_assign rfl) rfl rfl rfl rfl ?_
  refine s_nil ?_
  refine g_then ?_
  refine g_seq ?_
  refine g_seq ?_
  refine g_region ?_
  refine s_y (y_move rfl) rfl rfl rfl rfl ?_
  refine s_y (y_lenV (n := s.length) rfl (by obtain ⟨A, c, h1, _⟩ := hs; exact ⟨A, c, h1⟩) sle_22) rfl rfl rfl rfl ?_
  refine s_y (y_move rfl) rfl rfl rfl rfl ?_
  refine s_nil ?_
  refine g_then ?_
  refine g_block ?_
  refine g_loop (fun (i : Nat) act W => i ≤ s.length ∧ ∃ (w1 : World), (frsR g s (s.length - i) i = frs g s) ∧ Has 20 [] [(0, v), (1, v'), (7, .int .i64 (s.length : Nat)), (8, .int .i64 (i : Int))] act ∧ Hp w w1 ([]) W) (fun i => s.length - i) 0 (fun act W ha hw => ⟨by omega, W, (by rfl), ha.weak (sub_get ⟨rfl, rfl, rfl, rfl, trivial⟩), hw.toHq.lookSub (List.Sublist.refl _)⟩) ?_
  intro i act W ⟨hb_i, w1, hf, ha, hw⟩
  refine g_go ha hw ?_
  clear ha hw act W
  refine g_seq ?_
  refine g_region ?_
  refine s_y (y_lss rfl rfl) rfl rfl rfl rfl ?_
  refine s_nil ?_
  refine g_then ?_
  refine g_seq ?_
  refine g_cond rfl (fun cq1 => ?_) (fun cq1 => ?_)
  · (try simp at cq1)
    refine g_skip ?_
    refine g_then ?_
    refine g_seq ?_
    refine g_block ?_
    refine g_seq ?_
    refine g_region ?_
    refine s_y (y_move rfl) rfl rfl rfl rfl ?_
    refine s_y (y_assign rfl) rfl rfl rfl rfl ?_
    refine s_nil ?_
    refine g_then ?_
    refine g_seq ?_
    refine g_region ?_
    refine s_y (y_move rfl) rfl rfl rfl rfl ?_
    refine s_y (y_move rfl) rfl rfl rfl rfl ?_
    refine s_y (y_move rfl) rfl rfl rfl rfl ?_
    refine s_tr (t_call rfl rfl ent_50 (fun w h => RBroken_any w v v' g s (hg.below h.below) (hs.below h.below) i (by omega) (by omega) (by omega) hgn hsn)) rfl rfl rfl rfl (fun _ _ => ?_)
    refine s_y (y_gtr rfl rfl) rfl rfl rfl rfl ?_
    refine s_nil ?_
    refine g_then ?_
    refine g_cond rfl (fun cq2 => ?_) (fun cq2 => ?_)
    · (try simp at cq2)
      refine g_seq ?_
      refine g_region ?_
      refine s_y (y_move rfl) rfl rfl rfl rfl ?_
      refine s_y (y_assign rfl) rfl rfl rfl rfl ?_
      refine s_nil ?_
      refine g_then ?_
      refine g_ret ?_
      refine g_inbr ?_
      refine g_thenr ?_
      refine g_thenr ?_
      refine g_inbr ?_
      refine g_thenr ?_
      have hf0 : frs g s = ((i : Int), brk g s i) := by rw [← hf, frsR_hit' (by omega) (by omega)]
      rw [show kptI g s = (i : Int) from by unfold kptI; rw [hf0]; exact if_neg (by simp only; omega)]
      exact g_end trivial (fun a w ha hq_ => res1 ha rfl rfl  w) (fun w h => ⟨rfl, h.below⟩)
    · (try simp at cq2)
      refine g_skip ?_
      refine g_inb ?_
      refine g_then ?_
      refine g_region ?_
      refine s_y (y_add rfl rfl (by omega) (by omega)) rfl rfl rfl rfl ?_
      refine s_y (y_move rfl) rfl rfl rfl rfl ?_
      refine s_nil ?_
      refine g_then ?_
      exact fun act W ha hw => ⟨i + 1, by omega, by omega, W, (by exact (frsR_skip' (by omega) (by omega)).symm.trans hf), ha.weak (sub_get ⟨rfl, rfl, rfl, rfl, trivial⟩), hw.toHq.lookSub (List.Sublist.refl _)⟩
  · (try simp at cq1)
    refine g_exit ?_
    refine g_thenx ?_
    refine g_thenx ?_
    refine g_inbx ?_
    refine g_then ?_
    refine g_seq ?_
    refine g_region ?_
    refine s_y (y_move rfl) rfl rfl rfl rfl ?_
    refine s_y (y_lenV (n := s.length) rfl (by obtain ⟨A, c, h1, _⟩ := hs; exact ⟨A, c, h1⟩) sle_22) rfl rfl rfl rfl ?_
    refine s_y (y_assign rfl) rfl rfl rfl rfl ?_
    refine s_nil ?_
    refine g_then ?_
    refine g_ret ?_
    have hf0 : frs g s = (0, 0) := by rw [← hf, show s.length - i = 0 by omega]; rfl
    rw [show kptI g s = (s.length : Int) from by unfold kptI; rw [hf0]; exact if_pos rfl]
    exact g_end trivial (fun a w ha hq_ => res1 ha rfl rfl  w) (fun w h => ⟨rfl, h.below⟩)

theorem RNext_lit (w : World) (ag as_ : Option Addr) (cg cs : Nat) (g s : List Int) (hg : RdV (Value.int .i64) w (.slice ag g.length cg) g) (hs : RdV (Value.int .i64) w (.slice as_ s.length cs) s) (hp : partB g = true) (hsn : ∀ x ∈ s, 0 ≤ x ∧ x ≤ 20) (hle : s.length < g.length) :
    Calls Try.prog 38 [.slice ag g.length cg, .slice as_ s.length cs].toArray w fun e w' => ∃ x : Value × List (Nat × Obj), (OwnV (Value.int .i64) x.1 (nexD g s) x.2 ∧ ∃ W : World, ∀ p ∈ x.2, W.heap[p.1]? = some p.2) ∧ e = .returned (x.1) ∧ Hq w w x.2 w' := by
  obtain ⟨hgl, hgn⟩ := partB_true.1 hp
  obtain ⟨hcp, hvf⟩ := full_of hs
  obtain ⟨ie3, hi3⟩ := inf_3
  refine enter (N := 38) Try.func38 rfl rfl rfl ?_
  refine g_seq ?_
  refine g_region ?_
  refine s_y (y_assign rfl) rfl rfl rfl rfl ?_
  refine s_nil ?_
  refine g_then ?_
  refine g_seq ?_
  refine g_region ?_
  refine s_y (y_assign rfl) rfl rfl rfl rfl ?_
  refine s_nil ?_
  refine g_then ?_
  refine g_seq ?_
  refine g_seq ?_
  refine g_region ?_
  refine s_y (y_move rfl) rfl rfl rfl rfl ?_
  refine s_y (y_move rfl) rfl rfl rfl rfl ?_
  refine s_tr (t_call rfl rfl ent_60 (fun w h => kept_any w _ _ g s (hg.below h.below) (hs.below h.below) (by omega) (by omega) hgn hsn)) rfl rfl rfl rfl (fun _ _ => ?_)
  refine s_y (y_move rfl) rfl rfl rfl rfl ?_
  refine s_y (y_lenV (n := s.length) rfl (by obtain ⟨A, c, h1, _⟩ := hs; exact ⟨A, c, h1⟩) sle_22) rfl rfl rfl rfl ?_
  refine s_y (y_lss rfl rfl) rfl rfl rfl rfl ?_
  refine s_nil ?_
  refine g_then ?_
  refine g_cond rfl (fun cq1 => ?_) (fun cq1 => ?_)
  · (try simp at cq1)
    refine g_seq ?_
    refine g_region ?_
    refine s_y (y_assign rfl) rfl rfl rfl rfl ?_
    refine s_nil ?_
    refine g_then ?_
    refine g_ret ?_
    refine g_thenr ?_
    rw [show nexD g s = [] from if_neg (fun h_ => by have h2_ := kpt_all.2 (frs_zero.1 h_); omega)]
    exact g_end trivial (fun a w ha hq_ => res1 ha rfl rfl  w) (fun w h => ⟨(_, []), ⟨OwnV.nil, w, (h.hand (List.nil_sublist _)).at_⟩, rfl, h.hand (List.nil_sublist _)⟩)
  · (try simp at cq1)
    have hz : ∀ j, j < s.length → brk g s j = 0 := kpt_all.1 (by have h_ := kpt_le (g := g) (s := s); omega)
    refine g_skip ?_
    refine g_then ?_
    refine g_seq ?_
    refine g_seq ?_
    refine g_region ?_
    refine s_y (y_move rfl) rfl rfl rfl rfl ?_
    refine s_nil ?_
    refine g_then ?_
    refine g_block ?_
    refine g_loop (fun (i : Nat) act W => i ≤ 21 ∧ ∃ (sv : SV) (m : Nat) (zs : List Int) (w1 : World), (sv.ok 1 m (zs.map (Value.int .i64))) ∧ (m ≤ i) ∧ (zs = nxP g s i) ∧ Has 38 [] [(0, .slice ag g.length cg), (1, .slice as_ s.length cs), (4, .slice none 0 0), (5, sv.val m), (14, .int .i64 (i : Int))] act ∧ Hp w w1 ((sv.mem 3 (zs.map (Value.int .i64)) ++ ([]))) W) (fun i => 21 - i) 0 (fun act W ha hw => ⟨by omega, SV.nil, 0, [], W, (by exact ⟨rfl, rfl⟩), (by omega), (by rfl), ha.weak (sub_get ⟨rfl, rfl, rfl, rfl, rfl, trivial⟩), hw.toHq.lookSub (List.Sublist.refl _)⟩) ?_
    intro i act W ⟨hb_i, sv, m, zs, w1, hokz, hmi, hzs, ha, hw⟩
    refine g_go ha hw ?_
    clear ha hw act W
    refine g_seq ?_
    refine g_region ?_
    refine s_y (y_lss rfl rfl) rfl rfl rfl rfl ?_
    refine s_nil ?_
    refine g_then ?_
    refine g_seq ?_
    refine g_cond rfl (fun cq2 => ?_) (fun cq2 => ?_)
    · (try simp at cq2)
      refine g_skip ?_
      refine g_then ?_
      refine g_seq ?_
      refine g_block ?_
      refine g_seq ?_
      refine g_region ?_
      refine s_y (y_move rfl) rfl rfl rfl rfl ?_
      refine s_y (y_assign rfl) rfl rfl rfl rfl ?_
      refine s_nil ?_
      refine g_then ?_
      refine g_seq ?_
      refine g_region ?_
      refine s_y (y_move rfl) rfl rfl rfl rfl ?_
      refine s_y (y_move rfl) rfl rfl rfl rfl ?_
      refine s_y (y_lenV (n := s.length) rfl (by obtain ⟨A, c, h1, _⟩ := hs; exact ⟨A, c, h1⟩) sle_22) rfl rfl rfl rfl ?_
      refine s_y (y_move rfl) rfl rfl rfl rfl ?_
      refine s_y (y_lenV (n := s.length) rfl (by obtain ⟨A, c, h1, _⟩ := hs; exact ⟨A, c, h1⟩) sle_22) rfl rfl rfl rfl ?_
      refine s_y (y_full rfl rfl rfl hcp Try.underlying22 hi3.1 hi3.2.2.1) rfl rfl rfl rfl ?_
      refine s_y (y_move rfl) rfl rfl rfl rfl ?_
      refine s_tr (t_build (vs := [(0, .int .i64 (i : Int))]) (cells := [.int .i64 (i : Int)]) rfl rfl Try.underlying22 hi3.1 hi3.2.1 (by rw [hi3.2.2.1]; rfl) (by rw [hi3.2.2.1]; rfl) (by rw [hi3.2.2.1]; kernel_rfl)) rfl rfl rfl rfl (fun bv hbv => ?_)
      refine s_tr (t_appendN (enc := (Value.int .i64)) (xs := s) (v := (i : Int)) rfl rfl Try.underlying22 hi3.1 hi3.2.1 hi3.2.2.1 hi3.2.2.2 rfl (fun w h => hvf.below h.below) (fun w h => h.toHq.cell (i := 0) rfl rfl) rfl (by omega) (by unfold maxLen; omega)) rfl rfl rfl rfl (fun svn hokn' => ?_)
      obtain ⟨hokn, bN, capN, jN, rfl, hgeN⟩ := hokn'
      have hln : (s ++ [(i : Int)]).length = s.length + 1 := by simp
      refine s_y (y_assign rfl) rfl rfl rfl rfl ?_
      refine s_nil ?_
      refine g_then ?_
      refine g_seq ?_
      refine g_region ?_
      refine s_y (y_move rfl) rfl rfl rfl rfl ?_
      refine s_y (y_move rfl) rfl rfl rfl rfl ?_
      refine s_tr (t_call rfl rfl ent_60 (fun w h => kept_any w _ _ g (s ++ [(i : Int)]) (hg.below h.below) (by rw [← hln]; exact RdV.own (jk := jN) (at_of (i := 0) h rfl) rfl (by rw [hln]; exact hokn.1)) (by omega) (by omega) hgn (notes_snoc hsn (by omega) (by omega)))) rfl rfl rfl rfl (fun _ _ => ?_)
      refine s_y (y_move rfl) rfl rfl rfl rfl ?_
      refine s_y (y_lensl rfl sle_22) rfl rfl rfl rfl ?_
      refine s_y (y_eql rfl rfl) rfl rfl rfl rfl ?_
      refine s_nil ?_
      refine g_then ?_
      refine g_cond rfl (fun cq3 => ?_) (fun cq3 => ?_)
      · (try simp at cq3)
        have hks := (kpt_all (g := g) (s := s ++ [(i : Int)])).trans (all_snoc (i : Int) hz)
        rw [hln] at hks
        have hbr : brk g (s ++ [(i : Int)]) s.length = 0 := hks.1 (by simpa using cq3)
        refine g_region ?_
        refine s_y (y_move rfl) rfl rfl rfl rfl ?_
        refine s_y (y_move rfl) rfl rfl rfl rfl ?_
        refine s_tr (t_build (vs := [(0, .int .i64 (i : Int))]) (cells := [.int .i64 (i : Int)]) rfl rfl Try.underlying22 hi3.1 hi3.2.1 (by rw [hi3.2.2.1]; rfl) (by rw [hi3.2.2.1]; rfl) (by rw [hi3.2.2.1]; kernel_rfl)) rfl rfl rfl rfl (fun bw hbw => ?_)
        refine s_tr (t_appendL (enc := (Value.int .i64)) (sv := sv) (xs := zs) (n := m) (v := (i : Int)) [_, _, _] _ rfl rfl rfl hokz Try.underlying22 hi3.1 hi3.2.1 hi3.2.2.1 hi3.2.2.2 rfl (fun w h => h.toHq.cell (i := 0) rfl rfl) rfl (by omega) (by unfold maxLen; omega)) rfl rfl rfl rfl (fun y7 hy8 => ?_)
        obtain ⟨sv4, gs5⟩ := y7
        obtain ⟨hok6, hok6b, hok6c, hok6j, hok6e⟩ := hy8
        refine s_y (y_assign rfl) rfl rfl rfl rfl ?_
        refine s_nil ?_
        refine g_inb ?_
        refine g_then ?_
        refine g_region ?_
        refine s_y (y_add rfl rfl (by omega) (by omega)) rfl rfl rfl rfl ?_
        refine s_y (y_move rfl) rfl rfl rfl rfl ?_
        refine s_nil ?_
        refine g_then ?_
        exact fun act W ha hw => ⟨i + 1, by omega, by omega, sv4, (m + 1), (zs ++ [(i : Int)]), W, (by exact hok6), (by omega), (by rw [nxP_yes hbr, hzs]), ha.weak (sub_get ⟨rfl, rfl, rfl, rfl, rfl, trivial⟩), hw.toHq.lookSub (List.Sublist.cons _ (List.Sublist.cons _ (List.Sublist.cons _ (sub_app (sv4.mem 3 ((zs ++ [(i : Int)]).map (Value.int .i64))) (List.nil_sublist _)))))⟩
      · (try simp at cq3)
        have hks := (kpt_all (g := g) (s := s ++ [(i : Int)])).trans (all_snoc (i : Int) hz)
        rw [hln] at hks
        have hbr : ¬ brk g (s ++ [(i : Int)]) s.length = 0 := fun h_ => absurd (hks.2 h_) (by simpa using cq3)
        refine g_skip ?_
        refine g_inb ?_
        refine g_then ?_
        refine g_region ?_
        refine s_y (y_add rfl rfl (by omega) (by omega)) rfl rfl rfl rfl ?_
        refine s_y (y_move rfl) rfl rfl rfl rfl ?_
        refine s_nil ?_
        refine g_then ?_
        exact fun act W ha hw => ⟨i + 1, by omega, by omega, sv, m, zs, W, (by exact hokz), (by omega), (by rw [nxP_no hbr, hzs]), ha.weak (sub_get ⟨rfl, rfl, rfl, rfl, rfl, trivial⟩), hw.toHq.lookSub (List.Sublist.cons _ (List.Sublist.cons _ (List.Sublist.refl _)))⟩
    · (try simp at cq2)
      refine g_exit ?_
      refine g_thenx ?_
      refine g_thenx ?_
      refine g_inbx ?_
      refine g_then ?_
      refine g_seq ?_
      refine g_region ?_
      refine s_y (y_move rfl) rfl rfl rfl rfl ?_
      refine s_y (y_assign rfl) rfl rfl rfl rfl ?_
      refine s_nil ?_
      refine g_then ?_
      refine g_ret ?_
      have hi_ : i = 21 := by omega
      subst hi_
      rw [show nexD g s = zs from (if_pos (frs_zero.2 hz)).trans hzs.symm]
      exact g_end trivial (fun a w ha hq_ => res1 ha rfl rfl  w) (fun w h => ⟨(_, sv.mem 3 (zs.map (Value.int .i64))), ⟨(OwnV.sv hokz), w, (h.hand (sub_here (sv.mem 3 (zs.map (Value.int .i64))) _)).at_⟩, rfl, h.hand (sub_here (sv.mem 3 (zs.map (Value.int .i64))) _)⟩)

theorem RNext_ok (w : World) (v v' : Value) (g s : List Int) (hg : RdV (Value.int .i64) w v g) (hs : RdV (Value.int .i64) w v' s) (hp : partB g = true) (hsn : ∀ x ∈ s, 0 ≤ x ∧ x ≤ 20) (hle : s.length < g.length) : Calls Try.prog 38 [v, v'].toArray w fun e w' => ∃ x : Value × List (Nat × Obj), (OwnV (Value.int .i64) x.1 (nexD g s) x.2 ∧ ∃ W : World, ∀ p ∈ x.2, W.heap[p.1]? = some p.2) ∧ e = .returned (x.1) ∧ Hq w w x.2 w' := by
  obtain ⟨ag, cg, rfl, _, _⟩ := id hg
  obtain ⟨as_, cs, rfl, _, _⟩ := id hs
  exact RNext_lit w ag as_ cg cs g s hg hs hp hsn hle

theorem isNaN_any (w : World) (x : Int) :
    Calls Try.prog 72 [.int .i64 x].toArray w fun e w' => e = .returned (.bool (false)) ∧ Below w.heap.size w w' := by
  refine enter (N := 6) Try.func72 rfl rfl rfl ?_
  refine g_seq ?_
  refine g_region ?_
  refine s_y (y_assign rfl) rfl rfl rfl rfl ?_
  refine s_nil ?_
  refine g_then ?_
  refine g_seq ?_
  refine g_region ?_
  refine s_y (y_move rfl) rfl rfl rfl rfl ?_
  refine s_y (y_move rfl) rfl rfl rfl rfl ?_
  refine s_y (y_neq_f rfl rfl (rfl)) rfl rfl rfl rfl ?_
  refine s_y (y_assign rfl) rfl rfl rfl rfl ?_
  refine s_nil ?_
  refine g_then ?_
  refine g_ret ?_
  exact g_end trivial (fun a w ha hq_ => res1 ha rfl rfl  w) (fun w h => ⟨rfl, h.below⟩)

theorem Less_any (w : World) (x y : Int) :
    Calls Try.prog 56 [.int .i64 x, .int .i64 y].toArray w fun e w' => e = .returned (.bool (decide (x < y))) ∧ Below w.heap.size w w' := by
  refine enter (N := 17) Try.func56 rfl rfl rfl ?_
  refine g_seq ?_
  refine g_region ?_
  refine s_y (y_assign rfl) rfl rfl rfl rfl ?_
  refine s_nil ?_
  refine g_then ?_
  refine g_seq ?_
  refine g_region ?_
  refine s_y (y_move rfl) rfl rfl rfl rfl ?_
  refine s_tr (t_call rfl rfl ent_72 (fun w h => isNaN_any w _)) rfl rfl rfl rfl (fun _ _ => ?_)
  refine s_y (y_move rfl) rfl rfl rfl rfl ?_
  refine s_no rfl rfl rfl ?_
  refine s_no rfl rfl rfl ?_
  refine s_no rfl rfl rfl ?_
  refine s_y (y_pick_f rfl rfl) rfl rfl rfl rfl ?_
  refine s_y (y_move rfl) rfl rfl rfl rfl ?_
  refine s_y (y_move rfl) rfl rfl rfl rfl ?_
  refine s_y (y_move rfl) rfl rfl rfl rfl ?_
  refine s_y (y_lss rfl rfl) rfl rfl rfl rfl ?_
  refine s_y (y_pick_f rfl rfl) rfl rfl rfl rfl ?_
  refine s_y (y_assign rfl) rfl rfl rfl rfl ?_
  refine s_nil ?_
  refine g_then ?_
  refine g_ret ?_
  exact g_end trivial (fun a w ha hq_ => res1 ha rfl rfl  w) (fun w h => ⟨rfl, h.below⟩)

theorem IsSorted_t (w : World) (v : Value) (xs : List Int) (hv : RdV (Value.int .i64) w v xs) (hl : xs.length ≤ 1000000) (hs : ∀ j : Nat, j + 1 < xs.length → rdI xs (j : Int) < rdI xs ((j + 1 : Nat) : Int)) :
    Calls Try.prog 31 [v].toArray w fun e w' => e = .returned (.bool (true)) ∧ Below w.heap.size w w' := by
  refine enter (N := 21) Try.func31 rfl rfl rfl ?_
  refine g_seq ?_
  refine g_region ?_
  refine s_y (y_assign rfl) rfl rfl rfl rfl ?_
  refine s_nil ?_
  refine g_then ?_
  refine g_seq ?_
  refine g_seq ?_
  refine g_region ?_
  refine s_y (y_move rfl) rfl rfl rfl rfl ?_
  refine s_y (y_lenV (n := xs.length) rfl (by obtain ⟨A, c, h1, _⟩ := hv; exact ⟨A, c, h1⟩) sle_22) rfl rfl rfl rfl ?_
  refine s_y (y_sub rfl rfl (by omega) (by omega)) rfl rfl rfl rfl ?_
  refine s_y (y_assign rfl) rfl rfl rfl rfl ?_
  refine s_nil ?_
  refine g_then ?_
  refine g_block ?_
  refine g_loop (fun (i : Nat) act W => i ≤ xs.length ∧ ∃ (z : Int) (w1 : World), (z = ((xs.length : Nat) : Int) - 1 - (i : Int)) ∧ Has 21 [] [(0, v), (3, .int .i64 z)] act ∧ Hp w w1 ([]) W) (fun i => xs.length - i) 0 (fun act W ha hw => ⟨by omega, ((xs.length : Nat) : Int) - 1, W, (by omega), ha.weak (sub_get ⟨rfl, rfl, trivial⟩), hw.toHq.lookSub (List.Sublist.refl _)⟩) ?_
  intro i act W ⟨hb_i, z, w1, hz, ha, hw⟩
  refine g_go ha hw ?_
  clear ha hw act W
  refine g_seq ?_
  refine g_seq ?_
  refine g_region ?_
  refine s_y (y_move rfl) rfl rfl rfl rfl ?_
  refine s_y (y_gtr rfl rfl) rfl rfl rfl rfl ?_
  refine s_nil ?_
  refine g_then ?_
  refine g_cond rfl (fun cq1 => ?_) (fun cq1 => ?_)
  · (try simp at cq1)
    refine g_skip ?_
    refine g_then ?_
    refine g_seq ?_
    refine g_block ?_
    refine g_seq ?_
    obtain ⟨j, hj⟩ : ∃ j : Nat, z = ((j + 1 : Nat) : Int) := ⟨xs.length - 2 - i, by omega⟩
    refine g_draw 10 (by kernel_rfl) ?_
    refine j_p (i := 0) rfl (y_move rfl) (by kernel_rfl) (by kernel_rfl) (by kernel_rfl) rfl rfl rfl rfl rfl (.inr (fun _ h => h)) ?_
    refine j_p (i := 1) rfl (y_move rfl) (by kernel_rfl) (by kernel_rfl) (by kernel_rfl) rfl rfl rfl rfl rfl (.inr (fun _ h => h)) ?_
    refine j_p (i := 2) rfl (y_idxV (enc := (Value.int .i64)) rfl rfl hv Try.underlying22 size_3 (by omega) (by omega)) (by kernel_rfl) (by kernel_rfl) (by kernel_rfl) rfl rfl rfl rfl rfl (.inr (fun _ h => h)) ?_
    refine j_l (i := 3) rfl (y_ldV (enc := (Value.int .i64)) (xs := xs) (fun w h => hv.rdl.below h.below) rfl agg_3 (rdI_at (by omega) (by omega))) (by kernel_rfl) (by kernel_rfl) (by kernel_rfl) (by kernel_rfl) rfl rfl rfl rfl rfl (.inr (fun _ h => h)) ?_
    refine j_p (i := 4) rfl (y_move rfl) (by kernel_rfl) (by kernel_rfl) (by kernel_rfl) rfl rfl rfl rfl rfl (.inr (fun _ h => h)) ?_
    refine j_p (i := 5) rfl (y_move rfl) (by kernel_rfl) (by kernel_rfl) (by kernel_rfl) rfl rfl rfl rfl rfl (.inr (fun _ h => h)) ?_
    refine j_p (i := 6) rfl (y_sub rfl rfl (by omega) (by omega)) (by kernel_rfl) (by kernel_rfl) (by kernel_rfl) rfl rfl rfl rfl rfl (.inr (fun _ h => h)) ?_
    refine j_p (i := 7) rfl (y_idxV (enc := (Value.int .i64)) rfl rfl hv Try.underlying22 size_3 (by omega) (by omega)) (by kernel_rfl) (by kernel_rfl) (by kernel_rfl) rfl rfl rfl rfl rfl (.inr (fun _ h => h)) ?_
    refine j_l (i := 8) rfl (y_ldV (enc := (Value.int .i64)) (xs := xs) (fun w h => hv.rdl.below h.below) rfl agg_3 (rdI_at (by omega) (by omega))) (by kernel_rfl) (by kernel_rfl) (by kernel_rfl) (by kernel_rfl) rfl rfl rfl rfl rfl (.inr (fun _ h => h)) ?_
    refine j_tr (i := 9) rfl (t_call rfl rfl ent_56 (fun w h => Less_any w _ _)) (by kernel_rfl) rfl rfl rfl rfl (.inr (fun x w hb h => h)) (fun _ _ => ?_)
    refine j_nil (by kernel_rfl) ?_
    refine g_then ?_
    refine g_cond rfl (fun cq2 => ?_) (fun cq2 => ?_)
    · (try simp at cq2)
      rw [hj, show ((j + 1 : Nat) : Int) - 1 = (j : Int) by omega] at cq2; have := hs j (by omega); omega
    · (try simp at cq2)
      refine g_skip ?_
      refine g_inb ?_
      refine g_then ?_
      refine g_region ?_
      refine s_y (y_move rfl) rfl rfl rfl rfl ?_
      refine s_y (y_sub rfl rfl (by omega) (by omega)) rfl rfl rfl rfl ?_
      refine s_y (y_assign rfl) rfl rfl rfl rfl ?_
      refine s_nil ?_
      refine g_then ?_
      exact fun act W ha hw => ⟨i + 1, by omega, by omega, (z - 1), W, (by omega), ha.weak (sub_get ⟨rfl, rfl, trivial⟩), hw.toHq.lookSub (List.Sublist.refl _)⟩
  · (try simp at cq1)
    refine g_exit ?_
    refine g_thenx ?_
    refine g_thenx ?_
    refine g_inbx ?_
    refine g_then ?_
    refine g_seq ?_
    refine g_region ?_
    refine s_y (y_assign rfl) rfl rfl rfl rfl ?_
    refine s_nil ?_
    refine g_then ?_
    refine g_ret ?_
    exact g_end trivial (fun a w ha hq_ => res1 ha rfl rfl  w) (fun w h => ⟨rfl, h.below⟩)

theorem sorted_rd {xs : List Int} (h : xs.Pairwise (· < ·)) (j : Nat) (hj : j + 1 < xs.length) : rdI xs (j : Int) < rdI xs ((j + 1 : Nat) : Int) := by
  have := List.pairwise_iff_getElem.1 h j (j + 1) (by omega) hj (by omega)
  rw [rdI_getElem (by omega), rdI_getElem hj]; exact this

end Go.Proofs.Ytolalckejnijkaa
