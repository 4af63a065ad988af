/- wheels: what Prime, Root, Spectrum, Back and Power hand back. -/
import Derived.Test.YtnhflahgbkmloaaWhB
import Derived.Test.YtnhflahgbkmloaaWhC
import Derived.Test.YtnhflahgbkmloaaSxJ
namespace Go.Proofs.Ytnhflahgbkmloaa
open Go.RowKit Go.Sx Go.Wh
set_option linter.unusedVariables false
set_option linter.unusedSimpArgs false
set_option maxRecDepth 100000
set_option maxHeartbeats 4000000

private theorem inf_27 : ∃ ie, Try.prog.info? 27 = some ie ∧ ie.zero = some (.slice none 0 0) ∧ ie.size = 1 ∧ ie.bytes = 24 := info_of (by kernel_rfl) (by kernel_rfl)
private theorem ent_54 : Enters Try.prog 54 := enters_of Try.func54 (by kernel_rfl) rfl
private theorem zero_74 : (Try.prog.info? 74).bind (·.zero) = some (.agg #[(.int .i64 0), (.int .i64 0), (.int .i64 0)]) := by kernel_rfl
private theorem size_74 : (Try.prog.info? 74).map (·.size) = some 3 := by kernel_rfl
private theorem agg_74 : isAggB Try.prog 74 = some true := by kernel_rfl
private theorem ent_72 : Enters Try.prog 72 := enters_of Try.func72 (by kernel_rfl) rfl

theorem RdV_inj {w : World} {v : Value} {xs ys : List Int} (h : RdV (Value.int .i64) w v xs) (h' : RdV (Value.int .i64) w v ys) : xs = ys := by
  obtain ⟨A, c, rfl, _, h1⟩ := h
  obtain ⟨A', c', e, _, h2⟩ := h'
  simp only [Value.slice.injEq] at e
  obtain ⟨rfl, hl, _⟩ := e
  apply List.ext_getElem? 
  intro j
  rcases Nat.lt_or_ge j xs.length with h | h
  · obtain ⟨a1, e1, c1⟩ := h1 j xs[j] (List.getElem?_eq_getElem h)
    obtain ⟨a2, e2, c2⟩ := h2 j (ys[j]'(by omega)) (List.getElem?_eq_getElem (by omega))
    rw [e1] at e2; cases e2
    rw [c1] at c2
    simp only [Option.some.injEq, Value.int.injEq, true_and] at c2
    rw [List.getElem?_eq_getElem h, List.getElem?_eq_getElem (by omega), c2]
  · rw [List.getElem?_eq_none h, List.getElem?_eq_none (by omega)]
theorem RdV_cons {w : World} {vv : Value} {v : Value} {vs : List Value} : RdV encV w vv (v :: vs) → (v :: vs).length = vs.length + 1 := fun _ => rfl
abbrev RIn (n : Int) : Prop := 2 ≤ n ∧ n ≤ 16
def okI (n : Int) (xs : List Int) : Bool := okW n.toNat (qOf n.toNat) xs
theorem read_yes (w : World) (n : Nat) (vv : Value) (vs : List Value) (hn : 2 ≤ n) (hn2 : n ≤ 16) (hvv : RdV encV w vv vs) (hlen : vs.length ≤ 1000) (hv : ∀ v ∈ vs, ∃ xs, RdV (Value.int .i64) w v xs ∧ okW n (qOf n) xs = true) :
    Calls Try.prog 54 [.int .i64 (n : Int), vv].toArray w fun e w' => e = .returned (.tuple #[.agg #[.int .i64 (n : Int), .int .i64 (qOf n), .int .i64 (wOf n)], .bool true]) ∧ Below w.heap.size w w' := by
  have := read_ok w n vv vs (fun _ => true) hn hn2 hvv hlen (fun v h => by obtain ⟨xs, h1, h2⟩ := hv v h; exact ⟨xs, h1, h2.symm⟩)
  rwa [show (vs.all fun _ => true) = true by simp] at this
open Classical in
theorem read_no (w : World) (n : Int) (vv : Value) (vs : List Value) (hvv : RdV encV w vv vs) (hlen : vs.length ≤ 1000) (hv : ∀ v ∈ vs, ∃ xs, RdV (Value.int .i64) w v xs)
    (h : RIn n → ∃ v ∈ vs, ∃ xs, RdV (Value.int .i64) w v xs ∧ okI n xs = false) :
    Calls Try.prog 54 [.int .i64 n, vv].toArray w fun e w' => ∃ x : Int × Int × Int, True ∧ e = .returned (.tuple #[.agg #[.int .i64 x.1, .int .i64 x.2.1, .int .i64 x.2.2], .bool false]) ∧ Hq w w [] w' := by
  by_cases hn : RIn n
  · obtain ⟨m, rfl⟩ := Int.eq_ofNat_of_zero_le (show 0 ≤ n by have := hn.1; omega)
    have h1 := hn.1
    have h2 := hn.2
    have := read_ok w m vv vs (fun v => decide (∃ xs, RdV (Value.int .i64) w v xs ∧ okW m (qOf m) xs = true)) (by omega) (by omega) hvv hlen (fun v hvm => by
      obtain ⟨xs, hx⟩ := hv v hvm
      refine ⟨xs, hx, ?_⟩
      cases c : okW m (qOf m) xs with
      | true => exact decide_eq_true ⟨xs, hx, c⟩
      | false => exact decide_eq_false fun ⟨ys, h3, h4⟩ => by rw [RdV_inj h3 hx, c] at h4; cases h4)
    have hf : (vs.all fun v => decide (∃ xs, RdV (Value.int .i64) w v xs ∧ okW m (qOf m) xs = true)) = false := by
      obtain ⟨v, hvm, xs, h3, h4⟩ := h hn
      refine List.all_eq_false.2 ⟨v, hvm, ?_⟩
      simp only [decide_eq_true_eq]
      rintro ⟨ys, h5, h6⟩
      rw [RdV_inj h5 h3] at h6
      have h4' : okW m (qOf m) xs = false := h4
      rw [h4'] at h6; cases h6
    rw [hf] at this
    exact this.mono fun e w' ⟨h1, h2⟩ => ⟨(_, _, _), trivial, h1, Hq.of_below h2⟩
  · exact (read_bad w n vv hn).mono fun e w' ⟨h1, h2⟩ => ⟨(0, 0, 0), trivial, h1, Hq.of_below h2⟩

theorem Spectrum_ok (w : World) (n : Nat) (v : Value) (xs : List Int) (hv : RdV (Value.int .i64) w v xs) (hn : 2 ≤ n) (hn2 : n ≤ 16) (hok : okW n (qOf n) xs = true) :
    Calls Try.prog 51 [.int .i64 (n : Int), v].toArray w fun e w' => ∃ b : Nat, e = .returned (.tuple #[.slice (some ⟨b, 0, none⟩) n n, .int .i64 0]) ∧ Hq w w [(b, .cells ((turnL (qOf n) (wOf n) n xs).map (Value.int .i64) ++ []).toArray 3 (0, 0))] w' := by
  obtain ⟨hf1, hf2, hf3, hf4, hf5, hf6, hf7⟩ := q_facts hn hn2
  obtain ⟨hxl, hx⟩ := okW_true.1 hok
  obtain ⟨ie27, hi27⟩ := inf_27
  refine enter (N := 20) Try.func51 rfl rfl rfl ?_
  refine g_seq ?_
  refine g_region ?_
  refine s_y (y_assign rfl) rfl rfl rfl rfl ?_
  refine s_y (y_assign rfl) rfl rfl rfl rfl ?_
  refine s_nil ?_
  refine g_then ?_
  refine g_seq ?_
  refine g_region ?_
  refine s_y (y_move rfl) rfl rfl rfl rfl ?_
  refine s_y (y_move rfl) rfl rfl rfl rfl ?_
  refine s_tr (t_build (vs := [(0, v)]) (cells := [v]) rfl rfl Try.underlying75 hi27.1 hi27.2.1 (by rw [hi27.2.2.1]; rfl) (by rw [hi27.2.2.1]; rfl) (by rw [hi27.2.2.1]; exact fill_one hv.cells1)) rfl rfl rfl rfl (fun b1 hb1 => ?_)
  refine s_tr (t_call rfl rfl ent_54 (fun w h => read_yes w n _ [v] hn hn2 (RdV.own (enc := encV) (xs := [v]) (jk := []) (at_of (i := 0) h rfl) rfl (Nat.le_refl _)) (by simp) (by simp only [List.mem_cons, List.not_mem_nil, or_false, forall_eq]; exact ⟨xs, hv.below h.below, hok⟩))) rfl rfl rfl rfl (fun _ _ => ?_)
  refine s_y (y_move rfl) rfl rfl rfl rfl ?_
  refine s_y (y_extract rfl rfl) rfl rfl rfl rfl ?_
  refine s_y (y_extract rfl rfl) rfl rfl rfl rfl ?_
  refine s_tr (t_alloc zero_74 rfl) rfl rfl rfl rfl (fun b2 hb2 => ?_)
  refine s_tr0 (t_store 0 rfl rfl rfl rfl size_74 rfl rfl) rfl rfl rfl (fun _ _ => ?_)
  refine s_y (y_assign rfl) rfl rfl rfl rfl ?_
  refine s_nil ?_
  refine g_then ?_
  refine g_seq ?_
  refine g_seq ?_
  refine g_region ?_
  refine s_y (y_move rfl) rfl rfl rfl rfl ?_
  refine s_y (y_not_t rfl) rfl rfl rfl rfl ?_
  refine s_nil ?_
  refine g_then ?_
  refine g_cond_f rfl ?_
  refine g_skip ?_
  refine g_then ?_
  refine g_seq ?_
  refine g_region ?_
  refine s_y (y_ldn 0 rfl rfl agg_74 size_74 rfl rfl) rfl rfl rfl rfl ?_
  refine s_y (y_move rfl) rfl rfl rfl rfl ?_
  refine s_tr (t_callm (A := New _ _) rfl rfl ent_72 (fun w h => (spectrum_any w n (qOf n) (wOf n) v xs hn hn2 (by omega) (by omega) (by omega) (by omega) (hv.below h.below) hxl hx).mono fun e w' ⟨b, h1, h2⟩ => ⟨b, ⟨Nat.le_trans h.below.size (h2.ge _ (List.mem_cons_self ..)), Nat.le_trans h.size (h2.ge _ (List.mem_cons_self ..))⟩, h1, h2⟩)) rfl rfl rfl rfl (fun bc3 hbc3 => ?_)
  refine s_y (y_assign rfl) rfl rfl rfl rfl ?_
  refine s_y (y_assign rfl) rfl rfl rfl rfl ?_
  refine s_nil ?_
  refine g_then ?_
  refine g_ret ?_
  exact g_end trivial (fun a w ha hq_ => res2 ha rfl rfl rfl  w) (fun w h => ⟨bc3, rfl, h.hand (List.Sublist.cons_cons _ (List.nil_sublist _))⟩)

theorem Spectrum_no (w : World) (n : Int) (v : Value) (xs : List Int) (hv : RdV (Value.int .i64) w v xs) (hno : ¬ (RIn n ∧ okI n xs = true)) :
    Calls Try.prog 51 [.int .i64 n, v].toArray w fun e w' => e = .returned (.tuple #[.slice none 0 0, .int .i64 2]) ∧ Below w.heap.size w w' := by
  obtain ⟨ie27, hi27⟩ := inf_27
  refine enter (N := 20) Try.func51 rfl rfl rfl ?_
  refine g_seq ?_
  refine g_region ?_
  refine s_y (y_assign rfl) rfl rfl rfl rfl ?_
  refine s_y (y_assign rfl) rfl rfl rfl rfl ?_
  refine s_nil ?_
  refine g_then ?_
  refine g_seq ?_
  refine g_region ?_
  refine s_y (y_move rfl) rfl rfl rfl rfl ?_
  refine s_y (y_move rfl) rfl rfl rfl rfl ?_
  refine s_tr (t_build (vs := [(0, v)]) (cells := [v]) rfl rfl Try.underlying75 hi27.1 hi27.2.1 (by rw [hi27.2.2.1]; rfl) (by rw [hi27.2.2.1]; rfl) (by rw [hi27.2.2.1]; exact fill_one hv.cells1)) rfl rfl rfl rfl (fun b1 hb1 => ?_)
  refine s_tr (t_callm rfl rfl ent_54 (fun w h => read_no w n _ [v] (RdV.own (enc := encV) (xs := [v]) (jk := []) (at_of (i := 0) h rfl) rfl (Nat.le_refl _)) (by simp) (by simp only [List.mem_cons, List.not_mem_nil, or_false, forall_eq]; exact ⟨xs, hv.below h.below⟩) (by intro hR; exact ⟨v, by simp, xs, hv.below h.below, by cases c : okI n xs <;> simp_all⟩))) rfl rfl rfl rfl (fun x2 _ => ?_)
  refine s_y (y_move rfl) rfl rfl rfl rfl ?_
  refine s_y (y_extract rfl rfl) rfl rfl rfl rfl ?_
  refine s_y (y_extract rfl rfl) rfl rfl rfl rfl ?_
  refine s_tr (t_alloc zero_74 rfl) rfl rfl rfl rfl (fun b3 hb3 => ?_)
  refine s_tr0 (t_store 0 rfl rfl rfl rfl size_74 rfl rfl) rfl rfl rfl (fun _ _ => ?_)
  refine s_y (y_assign rfl) rfl rfl rfl rfl ?_
  refine s_nil ?_
  refine g_then ?_
  refine g_seq ?_
  refine g_seq ?_
  refine g_region ?_
  refine s_y (y_move rfl) rfl rfl rfl rfl ?_
  refine s_y (y_not_f rfl) rfl rfl rfl rfl ?_
  refine s_nil ?_
  refine g_then ?_
  refine g_cond_t rfl ?_
  refine g_seq ?_
  refine g_region ?_
  refine s_y (y_assign rfl) rfl rfl rfl rfl ?_
  refine s_y (y_assign rfl) rfl rfl rfl rfl ?_
  refine s_nil ?_
  refine g_then ?_
  refine g_ret ?_
  refine g_thenr ?_
  exact g_end trivial (fun a w ha hq_ => res2 ha rfl rfl rfl  w) (fun w h => ⟨rfl, h.below⟩)

end Go.Proofs.Ytnhflahgbkmloaa
