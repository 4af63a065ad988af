/- duets: the laws DuetsCounts, DuetsNext. -/
import Derived.Test.YtolalckejnijkaaDuI
import Derived.Test.YtolalckejnijkaaDuJ
namespace Go.Proofs.Ytolalckejnijkaa
open Go.RowKit Go.Sx 
set_option linter.unusedVariables false
set_option linter.unusedSimpArgs false
set_option maxRecDepth 100000
set_option maxHeartbeats 4000000

private theorem ent_17 : Enters Try.prog 17 := enters_of Try.func17 (by kernel_rfl) rfl
private theorem ent_16 : Enters Try.prog 16 := enters_of Try.func16 (by kernel_rfl) rfl
private theorem ent_27 : Enters Try.prog 27 := enters_of Try.func27 (by kernel_rfl) rfl
private theorem ent_18 : Enters Try.prog 18 := enters_of Try.func18 (by kernel_rfl) rfl
private theorem ent_28 : Enters Try.prog 28 := enters_of Try.func28 (by kernel_rfl) rfl
private theorem ent_29 : Enters Try.prog 29 := enters_of Try.func29 (by kernel_rfl) rfl
private theorem ent_26 : Enters Try.prog 26 := enters_of Try.func26 (by kernel_rfl) rfl
private theorem ent_19 : Enters Try.prog 19 := enters_of Try.func19 (by kernel_rfl) rfl
private theorem sle_22 : Try.prog.underlying 22 = some (.slice (Try.prog.elem 22)) := by kernel_rfl
private theorem ent_30 : Enters Try.prog 30 := enters_of Try.func30 (by kernel_rfl) rfl
private theorem ent_35 : Enters Try.prog 35 := enters_of Try.func35 (by kernel_rfl) rfl
private theorem ent_36 : Enters Try.prog 36 := enters_of Try.func36 (by kernel_rfl) rfl
private theorem ent_37 : Enters Try.prog 37 := enters_of Try.func37 (by kernel_rfl) rfl
private theorem ent_38 : Enters Try.prog 38 := enters_of Try.func38 (by kernel_rfl) rfl

theorem cnt_fst {g : List Int} : ∀ (k : Nat) (s : List Int), cntR g k s = 0 ↔ fstR g k s = none
  | 0, s => by simp [cntR, fstR]
  | k + 1, s => by
    have key : ∀ xs : List Int, (xs.map fun x => cntR g k (s ++ [x])).sum = 0 ↔ xs.findSome? (fun x => fstR g k (s ++ [x])) = none := fun xs => by
      induction xs with
      | nil => simp
      | cons x xs ih =>
        have h1 := (cntR_bounds g k (s ++ [x])).1
        have h2 : 0 ≤ (xs.map fun x => cntR g k (s ++ [x])).sum := by
          clear ih
          induction xs with
          | nil => simp
          | cons y ys ih => have := (cntR_bounds g k (s ++ [y])).1; simp only [List.map_cons, List.sum_cons]; omega
        have h3 := cnt_fst (g := g) k (s ++ [x])
        rw [List.map_cons, List.sum_cons, List.findSome?_cons]
        cases hx : fstR g k (s ++ [x]) with
        | none =>
          have := h3.2 hx
          rw [← ih]; omega
        | some t =>
          have h4 : cntR g k (s ++ [x]) ≠ 0 := fun h => by rw [h3.1 h] at hx; cases hx
          constructor
          · intro h; omega
          · intro h; cases h
    exact key (nxL g s)
theorem srch_fi {g : List Int} : ∀ (k : Nat) (s : List Int) (f : Fnd), 0 ≤ f.c → (f.c = 0 → (srch g k s f).fi = (fstR g k s).getD f.fi) ∧ (1 ≤ f.c → (srch g k s f).fi = f.fi)
  | 0, s, f, h0 => by
    unfold srch leaf bump fstR
    constructor
    · intro h; simp [h]
    · intro h; simp only; rw [if_neg (by omega)]
  | k + 1, s, f, h0 => by
    have key : ∀ (xs : List Int) (f : Fnd), 0 ≤ f.c → (f.c = 0 → (xs.foldl (fun f x => srch g k (s ++ [x]) f) f).fi = (xs.findSome? fun x => fstR g k (s ++ [x])).getD f.fi) ∧ (1 ≤ f.c → (xs.foldl (fun f x => srch g k (s ++ [x]) f) f).fi = f.fi) := fun xs => by
      induction xs with
      | nil => intro f h; exact ⟨fun _ => rfl, fun _ => rfl⟩
      | cons x xs ih =>
        intro f h
        have hc := srch_c (g := g) k (s ++ [x]) f
        have hb := (cntR_bounds g k (s ++ [x])).1
        have h1 := srch_fi (g := g) k (s ++ [x]) f h
        have h2 := ih (srch g k (s ++ [x]) f) (by omega)
        rw [List.foldl_cons, List.findSome?_cons]
        constructor
        · intro h3
          cases hx : fstR g k (s ++ [x]) with
          | none =>
            have h4 := (cnt_fst (g := g) k (s ++ [x])).2 hx
            rw [h2.1 (by omega), h1.1 h3, hx]; try rfl
          | some t =>
            have h4 : cntR g k (s ++ [x]) ≠ 0 := fun h5 => by rw [(cnt_fst (g := g) k (s ++ [x])).1 h5] at hx; cases hx
            rw [h2.2 (by omega), h1.1 h3, hx]; try rfl
        · intro h3
          rw [h2.2 (by omega), h1.2 h3]
    exact key (nxL g s) (bump s f) h0
def mx (a b : Int) : Int := if b > a then b else a
theorem mx_assoc (a b c : Int) : mx (mx a b) c = mx a (mx b c) := by unfold mx; (repeat' split) <;> omega
theorem fold_mx (h : Int → Int) : ∀ (xs : List Int) (a b : Int), xs.foldl (fun o x => mx o (h x)) (mx a b) = mx a (xs.foldl (fun o x => mx o (h x)) b)
  | [], _, _ => rfl
  | x :: xs, a, b => by rw [List.foldl_cons, List.foldl_cons, mx_assoc, fold_mx h xs]
theorem srch_l {g : List Int} : ∀ (k : Nat) (s : List Int) (f : Fnd), (srch g k s f).l = mx f.l (lonR g k s)
  | 0, s, f => rfl
  | k + 1, s, f => by
    have key : ∀ (xs : List Int) (f : Fnd), (xs.foldl (fun f x => srch g k (s ++ [x]) f) f).l = xs.foldl (fun o x => mx o (lonR g k (s ++ [x]))) f.l := fun xs => by
      induction xs with
      | nil => intro f; rfl
      | cons x xs ih => intro f; rw [List.foldl_cons, List.foldl_cons, ih, srch_l k]
    show ((nxL g s).foldl (fun f x => srch g k (s ++ [x]) f) (bump s f)).l = mx f.l ((nxL g s).foldl (fun o x => mx o (lonR g k (s ++ [x]))) (s.length : Int))
    rw [key, ← fold_mx]; rfl
theorem fold_mx_le {h : Int → Int} {M : Int} : ∀ (xs : List Int) (o : Int), (∀ x ∈ xs, h x ≤ M) → o ≤ M → o ≤ xs.foldl (fun o x => mx o (h x)) o ∧ xs.foldl (fun o x => mx o (h x)) o ≤ M ∧ (xs.foldl (fun o x => mx o (h x)) o = M ↔ o = M ∨ ∃ x ∈ xs, h x = M)
  | [], o, _, ho => ⟨Int.le_refl _, ho, by simp⟩
  | x :: xs, o, hx, ho => by
    have h1 := hx x (List.mem_cons_self ..)
    have hm : o ≤ mx o (h x) ∧ mx o (h x) ≤ M ∧ (mx o (h x) = M ↔ o = M ∨ h x = M) := by
      unfold mx; split
      · exact ⟨by omega, h1, by omega⟩
      · exact ⟨Int.le_refl _, ho, by omega⟩
    have h2 := fold_mx_le xs (mx o (h x)) (fun y hy => hx y (List.mem_cons_of_mem _ hy)) hm.2.1
    rw [List.foldl_cons]
    refine ⟨Int.le_trans hm.1 h2.1, h2.2.1, h2.2.2.trans ?_⟩
    rw [hm.2.2]
    simp only [List.mem_cons, exists_eq_or_imp]
    constructor
    · rintro ((h | h) | h)
      · exact .inl h
      · exact .inr (.inl h)
      · exact .inr (.inr h)
    · rintro (h | h | h)
      · exact .inl (.inl h)
      · exact .inl (.inr h)
      · exact .inr h
theorem sum_pos {h : Int → Int} (hn : ∀ x, 0 ≤ h x) : ∀ xs : List Int, 0 < (xs.map h).sum ↔ ∃ x ∈ xs, 0 < h x
  | [] => by simp
  | x :: xs => by
    have h1 := hn x
    have h2 := sum_pos hn xs
    have h3 : 0 ≤ (xs.map h).sum := by
      clear h2
      induction xs with
      | nil => simp
      | cons y ys ih => have := hn y; simp only [List.map_cons, List.sum_cons]; omega
    simp only [List.map_cons, List.sum_cons, List.mem_cons, exists_eq_or_imp]
    rw [← h2]; omega
theorem lon_full {g : List Int} : ∀ (k : Nat) (s : List Int), (s.length : Int) ≤ lonR g k s ∧ lonR g k s ≤ s.length + k ∧ (lonR g k s = s.length + k ↔ 0 < cntR g k s)
  | 0, s => by simp [lonR, cntR]
  | k + 1, s => by
    have h1 := fold_mx_le (h := fun x => lonR g k (s ++ [x])) (M := (s.length : Int) + ((k + 1 : Nat) : Int)) (nxL g s) (s.length : Int) (fun x _ => by have := (lon_full (g := g) k (s ++ [x])).2.1; rw [List.length_append] at this; simp at this ⊢; omega) (by omega)
    have h2 := sum_pos (h := fun x => cntR g k (s ++ [x])) (fun x => (cntR_bounds g k (s ++ [x])).1) (nxL g s)
    refine ⟨h1.1, h1.2.1, h1.2.2.trans ?_⟩
    show _ ↔ 0 < ((nxL g s).map fun x => cntR g k (s ++ [x])).sum
    rw [h2]
    constructor
    · rintro (h | ⟨x, hx, h⟩)
      · omega
      · exact ⟨x, hx, (lon_full (g := g) k (s ++ [x])).2.2.1 (by rw [List.length_append]; simp at h ⊢; omega)⟩
    · rintro ⟨x, hx, h⟩
      refine .inr ⟨x, hx, ?_⟩
      have := (lon_full (g := g) k (s ++ [x])).2.2.2 h
      rw [List.length_append] at this; simp at this ⊢; omega
theorem srch0_c {g : List Int} : (srch g g.length [] ⟨0, 0, 0, [], []⟩).c = cntR g g.length [] := by rw [srch_c]; simp
theorem srch0_l {g : List Int} : (srch g g.length [] ⟨0, 0, 0, [], []⟩).l = lonR g g.length [] := by
  have h := (lon_full (g := g) g.length []).1
  rw [srch_l]; unfold mx; split <;> simp at * <;> omega
theorem srch0_fi {g t : List Int} (h : fstR g g.length [] = some t) : (srch g g.length [] ⟨0, 0, 0, [], []⟩).fi = t := by
  rw [(srch_fi g.length [] ⟨0, 0, 0, [], []⟩ (by decide)).1 rfl, h]; rfl
theorem lon0 {g : List Int} : lonR g g.length [] = (g.length : Int) ↔ 0 < cntR g g.length [] := by
  have h := (lon_full (g := g) g.length []).2.2
  simpa using h

theorem Count_ok_v (w : World) (v : Value) (g : List Int) (hg : RdV (Value.int .i64) w v g) (hp : partB g = true)  : Calls Try.prog 16 [v].toArray w fun e w' => e = .returned (.tuple #[.int .i64 (cntR g g.length []), .int .i64 0]) ∧ Below w.heap.size w w' := by
  obtain ⟨ag, cg, rfl, _, _⟩ := id hg
  have h_ := Count_ok w ag cg g hg hp 
  exact h_

theorem First_none_v (w : World) (v : Value) (g : List Int) (hg : RdV (Value.int .i64) w v g) (hp : partB g = true) (hf : fstR g g.length [] = none) : Calls Try.prog 27 [v].toArray w fun e w' => e = .returned (.tuple #[.slice none 0 0, .int .i64 4]) ∧ Below w.heap.size w w' := by
  obtain ⟨ag, cg, rfl, _, _⟩ := id hg
  have h_ := First_none w ag cg g hg hp hf
  exact h_

theorem First_some_v (w : World) (v : Value) (g : List Int) (hg : RdV (Value.int .i64) w v g) (hp : partB g = true) (t : List Int) (hf : fstR g g.length [] = some t) : Calls Try.prog 27 [v].toArray w fun e w' => ∃ x : Value × List (Nat × Obj), (OwnV (Value.int .i64) x.1 t x.2 ∧ ∃ W : World, ∀ p ∈ x.2, W.heap[p.1]? = some p.2) ∧ e = .returned (.tuple #[x.1, .int .i64 0]) ∧ Hq w w x.2 w' := by
  obtain ⟨ag, cg, rfl, _, _⟩ := id hg
  have h_ := First_some w ag cg g hg hp t hf
  exact h_

theorem Stuck_none_v (w : World) (v : Value) (g : List Int) (hg : RdV (Value.int .i64) w v g) (hp : partB g = true) (hs : lonR g g.length [] = g.length) : Calls Try.prog 35 [v].toArray w fun e w' => e = .returned (.tuple #[.int .i64 0, .int .i64 4]) ∧ Below w.heap.size w w' := by
  obtain ⟨ag, cg, rfl, _, _⟩ := id hg
  have h_ := Stuck_none w ag cg g hg hp hs
  exact h_

theorem Stuck_ok_v (w : World) (v : Value) (g : List Int) (hg : RdV (Value.int .i64) w v g) (hp : partB g = true) (hs : ¬ lonR g g.length [] = g.length) : Calls Try.prog 35 [v].toArray w fun e w' => e = .returned (.tuple #[.int .i64 (lonR g g.length []), .int .i64 0]) ∧ Below w.heap.size w w' := by
  obtain ⟨ag, cg, rfl, _, _⟩ := id hg
  have h_ := Stuck_ok w ag cg g hg hp hs
  exact h_

theorem RCount_ok_v (w : World) (v : Value) (g : List Int) (hg : RdV (Value.int .i64) w v g) (hp : partB g = true)  : Calls Try.prog 29 [v].toArray w fun e w' => e = .returned (.int .i64 (cntR g g.length [])) ∧ Below w.heap.size w w' := by
  obtain ⟨ag, cg, rfl, _, _⟩ := id hg
  have h_ := RCount_ok w ag cg g hg hp 
  rw [srch0_c] at h_
  exact h_

theorem RFirst_none_v (w : World) (v : Value) (g : List Int) (hg : RdV (Value.int .i64) w v g) (hp : partB g = true) (hf : fstR g g.length [] = none) : Calls Try.prog 28 [v].toArray w fun e w' => e = .returned (.tuple #[.slice none 0 0, .int .i64 4]) ∧ Below w.heap.size w w' := by
  obtain ⟨ag, cg, rfl, _, _⟩ := id hg
  have h_ := RFirst_none w ag cg g hg hp (by rw [srch0_c]; exact (cnt_fst _ _).2 hf)
  exact h_

theorem RFirst_some_v (w : World) (v : Value) (g : List Int) (hg : RdV (Value.int .i64) w v g) (hp : partB g = true) (t : List Int) (hf : fstR g g.length [] = some t) : Calls Try.prog 28 [v].toArray w fun e w' => ∃ x : Value × List (Nat × Obj), (OwnV (Value.int .i64) x.1 t x.2 ∧ ∃ W : World, ∀ p ∈ x.2, W.heap[p.1]? = some p.2) ∧ e = .returned (.tuple #[x.1, .int .i64 0]) ∧ Hq w w x.2 w' := by
  obtain ⟨ag, cg, rfl, _, _⟩ := id hg
  have h_ := RFirst_some w ag cg g hg hp (fun h_ => by rw [srch0_c, cnt_fst, hf] at h_; cases h_)
  rw [srch0_fi hf] at h_
  exact h_

theorem RStuck_none_v (w : World) (v : Value) (g : List Int) (hg : RdV (Value.int .i64) w v g) (hp : partB g = true) (hs : lonR g g.length [] = g.length) : Calls Try.prog 36 [v].toArray w fun e w' => e = .returned (.tuple #[.int .i64 0, .int .i64 4]) ∧ Below w.heap.size w w' := by
  obtain ⟨ag, cg, rfl, _, _⟩ := id hg
  have h_ := RStuck_none w ag cg g hg hp (by rw [srch0_c]; exact lon0.1 hs)
  exact h_

theorem RStuck_ok_v (w : World) (v : Value) (g : List Int) (hg : RdV (Value.int .i64) w v g) (hp : partB g = true) (hs : ¬ lonR g g.length [] = g.length) : Calls Try.prog 36 [v].toArray w fun e w' => e = .returned (.tuple #[.int .i64 (lonR g g.length []), .int .i64 0]) ∧ Below w.heap.size w w' := by
  obtain ⟨ag, cg, rfl, _, _⟩ := id hg
  have h_ := RStuck_ok w ag cg g hg hp (fun h_ => hs (lon0.2 (by rw [srch0_c] at h_; exact h_)))
  rw [srch0_l] at h_
  exact h_

theorem DuetsCounts_none (w : World) (v : Value) (g : List Int) (hg : RdV (Value.int .i64) w v g) (hp : partB g = true) (hf : fstR g g.length [] = none) :
    Calls Try.prog 6 [v].toArray w fun e w' => e = .returned (.bool true) ∧ Below w.heap.size w w' := by
  obtain ⟨hgl, hgn⟩ := partB_true.1 hp
  refine enter (N := 68) Try.func6 rfl rfl rfl ?_
  refine g_seq ?_
  refine g_region ?_
  refine s_y (y_assign rfl) rfl rfl rfl rfl ?_
  refine s_nil ?_
  refine g_then ?_
  refine g_seq ?_
  refine g_region ?_
  refine s_y (y_move rfl) rfl rfl rfl rfl ?_
  refine s_tr (t_callm rfl rfl ent_17 (fun w h => by have h_ := list_any w _ g (hg.below h.below); rw [List.take_of_length_le (by omega)] at h_; exact h_)) rfl rfl rfl rfl (fun x2 hx3 => ?_)
  obtain ⟨vo1, mo1⟩ := x2
  obtain ⟨hOo1, hEo1⟩ := hx3
  refine s_tr (t_call rfl rfl ent_16 (fun w h => by have h_ := Count_ok_v w _ g (hOo1.rd fun p hp => h.at_ p (mem_al mo1 hp)) hp ; exact h_)) rfl rfl rfl rfl (fun _ _ => ?_)
  refine s_y (y_move rfl) rfl rfl rfl rfl ?_
  refine s_y (y_extract rfl rfl) rfl rfl rfl rfl ?_
  refine s_y (y_extract rfl rfl) rfl rfl rfl rfl ?_
  refine s_y (y_assign rfl) rfl rfl rfl rfl ?_
  refine s_y (y_assign rfl) rfl rfl rfl rfl ?_
  refine s_nil ?_
  refine g_then ?_
  refine g_seq ?_
  refine g_region ?_
  refine s_y (y_move rfl) rfl rfl rfl rfl ?_
  refine s_tr (t_callm rfl rfl ent_17 (fun w h => by have h_ := list_any w _ g (hg.below h.below); rw [List.take_of_length_le (by omega)] at h_; exact h_)) rfl rfl rfl rfl (fun x5 hx6 => ?_)
  obtain ⟨vo4, mo4⟩ := x5
  obtain ⟨hOo4, hEo4⟩ := hx6
  refine s_tr (t_call rfl rfl ent_27 (fun w h => by have h_ := First_none_v w _ g (hOo4.rd fun p hp => h.at_ p (mem_al mo4 hp)) hp hf; exact h_)) rfl rfl rfl rfl (fun _ _ => ?_)
  refine s_y (y_move rfl) rfl rfl rfl rfl ?_
  refine s_y (y_extract rfl rfl) rfl rfl rfl rfl ?_
  refine s_y (y_extract rfl rfl) rfl rfl rfl rfl ?_
  refine s_y (y_assign rfl) rfl rfl rfl rfl ?_
  refine s_y (y_assign rfl) rfl rfl rfl rfl ?_
  refine s_nil ?_
  refine g_then ?_
  refine g_seq ?_
  refine g_seq ?_
  refine g_region ?_
  refine s_y (y_move rfl) rfl rfl rfl rfl ?_
  refine s_tr (t_call rfl rfl ent_18 (fun w h => by have h_ := Part_any w _ g (hg.below h.below) (by omega); rwa [hp] at h_)) rfl rfl rfl rfl (fun _ _ => ?_)
  refine s_y (y_not_t rfl) rfl rfl rfl rfl ?_
  refine s_nil ?_
  refine g_then ?_
  refine g_cond_f rfl ?_
  refine g_skip ?_
  refine g_then ?_
  refine g_seq ?_
  refine g_region ?_
  refine s_y (y_move rfl) rfl rfl rfl rfl ?_
  refine s_tr (t_call rfl rfl ent_28 (fun w h => by have h_ := RFirst_none_v w _ g (hg.below h.below) hp hf; exact h_)) rfl rfl rfl rfl (fun _ _ => ?_)
  refine s_y (y_move rfl) rfl rfl rfl rfl ?_
  refine s_y (y_extract rfl rfl) rfl rfl rfl rfl ?_
  refine s_y (y_extract rfl rfl) rfl rfl rfl rfl ?_
  refine s_y (y_assign rfl) rfl rfl rfl rfl ?_
  refine s_y (y_assign rfl) rfl rfl rfl rfl ?_
  refine s_nil ?_
  refine g_then ?_
  refine g_seq ?_
  refine g_region ?_
  refine s_y (y_move rfl) rfl rfl rfl rfl ?_
  refine s_y (y_move rfl) rfl rfl rfl rfl ?_
  refine s_tr (t_call rfl rfl ent_29 (fun w h => by have h_ := RCount_ok_v w _ g (hg.below h.below) hp ; exact h_)) rfl rfl rfl rfl (fun _ _ => ?_)
  refine s_y (y_eql_t rfl rfl (rfl)) rfl rfl rfl rfl ?_
  refine s_y (y_move rfl) rfl rfl rfl rfl ?_
  refine s_y (y_move rfl) rfl rfl rfl rfl ?_
  refine s_y (y_eql_t rfl rfl (by decide)) rfl rfl rfl rfl ?_
  refine s_y (y_pick_t rfl rfl) rfl rfl rfl rfl ?_
  refine s_y (y_move rfl) rfl rfl rfl rfl ?_
  refine s_y (y_move rfl) rfl rfl rfl rfl ?_
  refine s_y (y_move rfl) rfl rfl rfl rfl ?_
  refine s_tr (t_call rfl rfl ent_26 (fun w h => by have h_ := Equal_any w _ _ ([] : List Int) ([] : List Int) RdV.nil RdV.nil (by simp); rw [decide_eq_true (rfl)] at h_; exact h_)) rfl rfl rfl rfl (fun _ _ => ?_)
  refine s_y (y_pick_t rfl rfl) rfl rfl rfl rfl ?_
  refine s_y (y_move rfl) rfl rfl rfl rfl ?_
  refine s_y (y_move rfl) rfl rfl rfl rfl ?_
  refine s_y (y_move rfl) rfl rfl rfl rfl ?_
  refine s_y (y_eql_t rfl rfl (by decide)) rfl rfl rfl rfl ?_
  refine s_y (y_pick_t rfl rfl) rfl rfl rfl rfl ?_
  refine s_y (y_move rfl) rfl rfl rfl rfl ?_
  refine s_tr (t_call rfl rfl ent_19 (fun w h => awake_t w)) rfl rfl rfl rfl (fun _ _ => ?_)
  refine s_y (y_pick_t rfl rfl) rfl rfl rfl rfl ?_
  refine s_y (y_assign rfl) rfl rfl rfl rfl ?_
  refine s_nil ?_
  refine g_then ?_
  refine g_ret ?_
  exact g_end trivial (fun a w ha hq_ => res1 ha rfl rfl  w) (fun w h => ⟨rfl, h.below⟩)

theorem DuetsCounts_some (w : World) (v : Value) (g : List Int) (hg : RdV (Value.int .i64) w v g) (hp : partB g = true) (t : List Int) (hf : fstR g g.length [] = some t) :
    Calls Try.prog 6 [v].toArray w fun e w' => e = .returned (.bool true) ∧ Below w.heap.size w w' := by
  obtain ⟨hgl, hgn⟩ := partB_true.1 hp
  refine enter (N := 68) Try.func6 rfl rfl rfl ?_
  refine g_seq ?_
  refine g_region ?_
  refine s_y (y_assign rfl) rfl rfl rfl rfl ?_
  refine s_nil ?_
  refine g_then ?_
  refine g_seq ?_
  refine g_region ?_
  refine s_y (y_move rfl) rfl rfl rfl rfl ?_
  refine s_tr (t_callm rfl rfl ent_17 (fun w h => by have h_ := list_any w _ g (hg.below h.below); rw [List.take_of_length_le (by omega)] at h_; exact h_)) rfl rfl rfl rfl (fun x2 hx3 => ?_)
  obtain ⟨vo1, mo1⟩ := x2
  obtain ⟨hOo1, hEo1⟩ := hx3
  refine s_tr (t_call rfl rfl ent_16 (fun w h => by have h_ := Count_ok_v w _ g (hOo1.rd fun p hp => h.at_ p (mem_al mo1 hp)) hp ; exact h_)) rfl rfl rfl rfl (fun _ _ => ?_)
  refine s_y (y_move rfl) rfl rfl rfl rfl ?_
  refine s_y (y_extract rfl rfl) rfl rfl rfl rfl ?_
  refine s_y (y_extract rfl rfl) rfl rfl rfl rfl ?_
  refine s_y (y_assign rfl) rfl rfl rfl rfl ?_
  refine s_y (y_assign rfl) rfl rfl rfl rfl ?_
  refine s_nil ?_
  refine g_then ?_
  refine g_seq ?_
  refine g_region ?_
  refine s_y (y_move rfl) rfl rfl rfl rfl ?_
  refine s_tr (t_callm rfl rfl ent_17 (fun w h => by have h_ := list_any w _ g (hg.below h.below); rw [List.take_of_length_le (by omega)] at h_; exact h_)) rfl rfl rfl rfl (fun x5 hx6 => ?_)
  obtain ⟨vo4, mo4⟩ := x5
  obtain ⟨hOo4, hEo4⟩ := hx6
  refine s_tr (t_callm rfl rfl ent_27 (fun w h => First_some_v w _ g (hOo4.rd fun p hp => h.at_ p (mem_al mo4 hp)) hp t hf)) rfl rfl rfl rfl (fun x8 hx9 => ?_)
  obtain ⟨vo7, mo7⟩ := x8
  obtain ⟨hOo7, hEo7⟩ := hx9
  refine s_y (y_move rfl) rfl rfl rfl rfl ?_
  refine s_y (y_extract rfl rfl) rfl rfl rfl rfl ?_
  refine s_y (y_extract rfl rfl) rfl rfl rfl rfl ?_
  refine s_y (y_assign rfl) rfl rfl rfl rfl ?_
  refine s_y (y_assign rfl) rfl rfl rfl rfl ?_
  refine s_nil ?_
  refine g_then ?_
  refine g_seq ?_
  refine g_seq ?_
  refine g_region ?_
  refine s_y (y_move rfl) rfl rfl rfl rfl ?_
  refine s_tr (t_call rfl rfl ent_18 (fun w h => by have h_ := Part_any w _ g (hg.below h.below) (by omega); rwa [hp] at h_)) rfl rfl rfl rfl (fun _ _ => ?_)
  refine s_y (y_not_t rfl) rfl rfl rfl rfl ?_
  refine s_nil ?_
  refine g_then ?_
  refine g_cond_f rfl ?_
  refine g_skip ?_
  refine g_then ?_
  refine g_seq ?_
  refine g_region ?_
  refine s_y (y_move rfl) rfl rfl rfl rfl ?_
  refine s_tr (t_callm rfl rfl ent_28 (fun w h => RFirst_some_v w _ g (hg.below h.below) hp t hf)) rfl rfl rfl rfl (fun x11 hx12 => ?_)
  obtain ⟨vo10, mo10⟩ := x11
  obtain ⟨hOo10, hEo10⟩ := hx12
  refine s_y (y_move rfl) rfl rfl rfl rfl ?_
  refine s_y (y_extract rfl rfl) rfl rfl rfl rfl ?_
  refine s_y (y_extract rfl rfl) rfl rfl rfl rfl ?_
  refine s_y (y_assign rfl) rfl rfl rfl rfl ?_
  refine s_y (y_assign rfl) rfl rfl rfl rfl ?_
  refine s_nil ?_
  refine g_then ?_
  refine g_seq ?_
  refine g_region ?_
  refine s_y (y_move rfl) rfl rfl rfl rfl ?_
  refine s_y (y_move rfl) rfl rfl rfl rfl ?_
  refine s_tr (t_call rfl rfl ent_29 (fun w h => by have h_ := RCount_ok_v w _ g (hg.below h.below) hp ; exact h_)) rfl rfl rfl rfl (fun _ _ => ?_)
  refine s_y (y_eql_t rfl rfl (rfl)) rfl rfl rfl rfl ?_
  refine s_y (y_move rfl) rfl rfl rfl rfl ?_
  refine s_y (y_move rfl) rfl rfl rfl rfl ?_
  refine s_y (y_eql_t rfl rfl (by decide)) rfl rfl rfl rfl ?_
  refine s_y (y_pick_t rfl rfl) rfl rfl rfl rfl ?_
  refine s_y (y_move rfl) rfl rfl rfl rfl ?_
  refine s_y (y_move rfl) rfl rfl rfl rfl ?_
  refine s_y (y_move rfl) rfl rfl rfl rfl ?_
  refine s_tr (t_call rfl rfl ent_26 (fun w h => by have h_ := Equal_any w _ _ t t (hOo7.rd fun p hp => h.at_ p (mem_ar mo10 (mem_al mo7 hp))) (hOo10.rd fun p hp => h.at_ p (mem_al mo10 hp)) (by have h_ := fstR_len _ _ _ hf; simp at h_; omega); rw [decide_eq_true (rfl)] at h_; exact h_)) rfl rfl rfl rfl (fun _ _ => ?_)
  refine s_y (y_pick_t rfl rfl) rfl rfl rfl rfl ?_
  refine s_y (y_move rfl) rfl rfl rfl rfl ?_
  refine s_y (y_move rfl) rfl rfl rfl rfl ?_
  refine s_y (y_move rfl) rfl rfl rfl rfl ?_
  refine s_y (y_eql_t rfl rfl (by decide)) rfl rfl rfl rfl ?_
  refine s_y (y_pick_t rfl rfl) rfl rfl rfl rfl ?_
  refine s_y (y_move rfl) rfl rfl rfl rfl ?_
  refine s_tr (t_call rfl rfl ent_19 (fun w h => awake_t w)) rfl rfl rfl rfl (fun _ _ => ?_)
  refine s_y (y_pick_t rfl rfl) rfl rfl rfl rfl ?_
  refine s_y (y_assign rfl) rfl rfl rfl rfl ?_
  refine s_nil ?_
  refine g_then ?_
  refine g_ret ?_
  exact g_end trivial (fun a w ha hq_ => res1 ha rfl rfl  w) (fun w h => ⟨rfl, h.below⟩)

theorem DuetsCounts_bad (w : World) (v : Value) (g : List Int) (hg : RdV (Value.int .i64) w v g) (hl : g.length ≤ 9223372036854775807) (hp : partB g = false) :
    Calls Try.prog 6 [v].toArray w fun e w' => e = .returned (.bool true) ∧ Below w.heap.size w w' := by
  refine enter (N := 68) Try.func6 rfl rfl rfl ?_
  refine g_seq ?_
  refine g_region ?_
  refine s_y (y_assign rfl) rfl rfl rfl rfl ?_
  refine s_nil ?_
  refine g_then ?_
  refine g_seq ?_
  refine g_region ?_
  refine s_y (y_move rfl) rfl rfl rfl rfl ?_
  refine s_tr (t_callm rfl rfl ent_17 (fun w h => list_any w _ g (hg.below h.below))) rfl rfl rfl rfl (fun x2 hx3 => ?_)
  obtain ⟨vo1, mo1⟩ := x2
  obtain ⟨hOo1, hEo1⟩ := hx3
  refine s_tr (t_call rfl rfl ent_16 (fun w h => Count_bad w _ (g.take 11) (hOo1.rd fun p hp => h.at_ p (mem_al mo1 hp)) (by rw [List.length_take]; omega) (part_take hp))) rfl rfl rfl rfl (fun _ _ => ?_)
  refine s_y (y_move rfl) rfl rfl rfl rfl ?_
  refine s_y (y_extract rfl rfl) rfl rfl rfl rfl ?_
  refine s_y (y_extract rfl rfl) rfl rfl rfl rfl ?_
  refine s_y (y_assign rfl) rfl rfl rfl rfl ?_
  refine s_y (y_assign rfl) rfl rfl rfl rfl ?_
  refine s_nil ?_
  refine g_then ?_
  refine g_seq ?_
  refine g_region ?_
  refine s_y (y_move rfl) rfl rfl rfl rfl ?_
  refine s_tr (t_callm rfl rfl ent_17 (fun w h => list_any w _ g (hg.below h.below))) rfl rfl rfl rfl (fun x5 hx6 => ?_)
  obtain ⟨vo4, mo4⟩ := x5
  obtain ⟨hOo4, hEo4⟩ := hx6
  refine s_tr (t_call rfl rfl ent_27 (fun w h => First_bad w _ (g.take 11) (hOo4.rd fun p hp => h.at_ p (mem_al mo4 hp)) (by rw [List.length_take]; omega) (part_take hp))) rfl rfl rfl rfl (fun _ _ => ?_)
  refine s_y (y_move rfl) rfl rfl rfl rfl ?_
  refine s_y (y_extract rfl rfl) rfl rfl rfl rfl ?_
  refine s_y (y_extract rfl rfl) rfl rfl rfl rfl ?_
  refine s_y (y_assign rfl) rfl rfl rfl rfl ?_
  refine s_y (y_assign rfl) rfl rfl rfl rfl ?_
  refine s_nil ?_
  refine g_then ?_
  refine g_seq ?_
  refine g_seq ?_
  refine g_region ?_
  refine s_y (y_move rfl) rfl rfl rfl rfl ?_
  refine s_tr (t_call rfl rfl ent_18 (fun w h => by have h_ := Part_any w _ g (hg.below h.below) hl; rwa [hp] at h_)) rfl rfl rfl rfl (fun _ _ => ?_)
  refine s_y (y_not_f rfl) rfl rfl rfl rfl ?_
  refine s_nil ?_
  refine g_then ?_
  refine g_cond_t rfl ?_
  refine g_seq ?_
  refine g_region ?_
  refine s_y (y_move rfl) rfl rfl rfl rfl ?_
  refine s_y (y_eql_t rfl rfl (by decide)) rfl rfl rfl rfl ?_
  refine s_y (y_move rfl) rfl rfl rfl rfl ?_
  refine s_y (y_move rfl) rfl rfl rfl rfl ?_
  refine s_y (y_lensl rfl sle_22) rfl rfl rfl rfl ?_
  refine s_y (y_eql_t rfl rfl (by decide)) rfl rfl rfl rfl ?_
  refine s_y (y_pick_t rfl rfl) rfl rfl rfl rfl ?_
  refine s_y (y_move rfl) rfl rfl rfl rfl ?_
  refine s_y (y_move rfl) rfl rfl rfl rfl ?_
  refine s_y (y_eql_t rfl rfl (by decide)) rfl rfl rfl rfl ?_
  refine s_y (y_pick_t rfl rfl) rfl rfl rfl rfl ?_
  refine s_y (y_move rfl) rfl rfl rfl rfl ?_
  refine s_y (y_move rfl) rfl rfl rfl rfl ?_
  refine s_y (y_eql_t rfl rfl (by decide)) rfl rfl rfl rfl ?_
  refine s_y (y_pick_t rfl rfl) rfl rfl rfl rfl ?_
  refine s_y (y_move rfl) rfl rfl rfl rfl ?_
  refine s_tr (t_call rfl rfl ent_19 (fun w h => awake_t w)) rfl rfl rfl rfl (fun _ _ => ?_)
  refine s_y (y_pick_t rfl rfl) rfl rfl rfl rfl ?_
  refine s_y (y_assign rfl) rfl rfl rfl rfl ?_
  refine s_nil ?_
  refine g_then ?_
  refine g_ret ?_
  refine g_thenr ?_
  exact g_end trivial (fun a w ha hq_ => res1 ha rfl rfl  w) (fun w h => ⟨rfl, h.below⟩)

theorem DuetsCounts_law (w : World) (v : Value) (g : List Int) (hg : RdV (Value.int .i64) w v g) (hl : g.length ≤ maxLen) (_ : ∀ x ∈ g, (Lit.int .i64 x).wf = true) : Calls Try.prog 6 [v].toArray w fun e w' => e = .returned (.bool true) ∧ Below w.heap.size w w' := by
  have hmx : (maxLen : Nat) = 9223372036854775807 := rfl
  cases hp : partB g with
  | false => exact DuetsCounts_bad w v g hg (by omega) hp
  | true =>
    cases hf : fstR g g.length [] with
    | none => exact DuetsCounts_none w v g hg hp hf
    | some t => exact DuetsCounts_some w v g hg hp t hf

theorem not_next_take {g s : List Int} (hg : g.length ≤ 8) (h : ¬ NextOK g s) : ¬ NextOK g (s.take 11) := fun h2 => by
  have h3 := h2.2.2
  rw [List.length_take] at h3
  rw [List.take_of_length_le (by omega)] at h2
  exact h h2
theorem not_next_part {g s : List Int} (h : partB g = false) : ¬ NextOK (g.take 11) s := fun h2 => by
  have h3 := h2.1
  rw [part_take h] at h3; cases h3

theorem DuetsNext_n_ok (w : World) (v : Value) (g : List Int) (v' : Value) (s : List Int) (hg : RdV (Value.int .i64) w v g) (hs : RdV (Value.int .i64) w v' s) (hsl : s.length ≤ 9223372036854775807) (hp : partB g = true) (hst : lonR g g.length [] = g.length) (hnt : notesB s = true) (hle : s.length < g.length) :
    Calls Try.prog 9 [v, v'].toArray w fun e w' => e = .returned (.bool true) ∧ Below w.heap.size w w' := by
  obtain ⟨hgl, hgn⟩ := partB_true.1 hp
  have hsn := (notesB_true.1 hnt).2
  refine enter (N := 89) Try.func9 rfl rfl rfl ?_
  refine g_seq ?_
  refine g_region ?_
  refine s_y (y_assign rfl) rfl rfl rfl rfl ?_
  refine s_nil ?_
  refine g_then ?_
  refine g_seq ?_
  refine g_region ?_
  refine s_y (y_move rfl) rfl rfl rfl rfl ?_
  refine s_tr (t_callm rfl rfl ent_17 (fun w h => by have h_ := list_any w _ g (hg.below h.below); rw [List.take_of_length_le (by omega)] at h_; exact h_)) rfl rfl rfl rfl (fun x2 hx3 => ?_)
  obtain ⟨vo1, mo1⟩ := x2
  obtain ⟨hOo1, hEo1⟩ := hx3
  refine s_y (y_move rfl) rfl rfl rfl rfl ?_
  refine s_tr (t_callm rfl rfl ent_17 (fun w h => by have h_ := list_any w _ s (hs.below h.below); rw [List.take_of_length_le (by omega)] at h_; exact h_)) rfl rfl rfl rfl (fun x5 hx6 => ?_)
  obtain ⟨vo4, mo4⟩ := x5
  obtain ⟨hOo4, hEo4⟩ := hx6
  refine s_tr (t_callm rfl rfl ent_30 (fun w h => Next_ok w _ _ g s (hOo1.rd fun p hp => h.at_ p (mem_ar mo4 (mem_al mo1 hp))) (hOo4.rd fun p hp => h.at_ p (mem_al mo4 hp)) hp hsn hle)) rfl rfl rfl rfl (fun x8 hx9 => ?_)
  obtain ⟨vo7, mo7⟩ := x8
  obtain ⟨hOo7, hEo7⟩ := hx9
  refine s_y (y_move rfl) rfl rfl rfl rfl ?_
  refine s_y (y_extract rfl rfl) rfl rfl rfl rfl ?_
  refine s_y (y_extract rfl rfl) rfl rfl rfl rfl ?_
  refine s_y (y_assign rfl) rfl rfl rfl rfl ?_
  refine s_y (y_assign rfl) rfl rfl rfl rfl ?_
  refine s_nil ?_
  refine g_then ?_
  refine g_seq ?_
  refine g_region ?_
  refine s_y (y_move rfl) rfl rfl rfl rfl ?_
  refine s_tr (t_callm rfl rfl ent_17 (fun w h => by have h_ := list_any w _ g (hg.below h.below); rw [List.take_of_length_le (by omega)] at h_; exact h_)) rfl rfl rfl rfl (fun x11 hx12 => ?_)
  obtain ⟨vo10, mo10⟩ := x11
  obtain ⟨hOo10, hEo10⟩ := hx12
  refine s_tr (t_call rfl rfl ent_35 (fun w h => by have h_ := Stuck_none_v w _ g (hOo10.rd fun p hp => h.at_ p (mem_al mo10 hp)) hp hst; exact h_)) rfl rfl rfl rfl (fun _ _ => ?_)
  refine s_y (y_move rfl) rfl rfl rfl rfl ?_
  refine s_y (y_extract rfl rfl) rfl rfl rfl rfl ?_
  refine s_y (y_extract rfl rfl) rfl rfl rfl rfl ?_
  refine s_y (y_assign rfl) rfl rfl rfl rfl ?_
  refine s_y (y_assign rfl) rfl rfl rfl rfl ?_
  refine s_nil ?_
  refine g_then ?_
  refine g_seq ?_
  refine g_seq ?_
  refine g_region ?_
  refine s_y (y_move rfl) rfl rfl rfl rfl ?_
  refine s_tr (t_call rfl rfl ent_18 (fun w h => by have h_ := Part_any w _ g (hg.below h.below) (by omega); rwa [hp] at h_)) rfl rfl rfl rfl (fun _ _ => ?_)
  refine s_y (y_not_t rfl) rfl rfl rfl rfl ?_
  refine s_nil ?_
  refine g_then ?_
  refine g_cond_f rfl ?_
  refine g_skip ?_
  refine g_then ?_
  refine g_seq ?_
  refine g_region ?_
  refine s_y (y_move rfl) rfl rfl rfl rfl ?_
  refine s_tr (t_call rfl rfl ent_36 (fun w h => by have h_ := RStuck_none_v w _ g (hg.below h.below) hp hst; exact h_)) rfl rfl rfl rfl (fun _ _ => ?_)
  refine s_y (y_move rfl) rfl rfl rfl rfl ?_
  refine s_y (y_extract rfl rfl) rfl rfl rfl rfl ?_
  refine s_y (y_extract rfl rfl) rfl rfl rfl rfl ?_
  refine s_y (y_assign rfl) rfl rfl rfl rfl ?_
  refine s_y (y_assign rfl) rfl rfl rfl rfl ?_
  refine s_nil ?_
  refine g_then ?_
  refine g_seq ?_
  refine g_seq ?_
  refine g_region ?_
  refine s_y (y_move rfl) rfl rfl rfl rfl ?_
  refine s_y (y_move rfl) rfl rfl rfl rfl ?_
  refine s_y (y_neq_f rfl rfl (by decide)) rfl rfl rfl rfl ?_
  refine s_y (y_move rfl) rfl rfl rfl rfl ?_
  refine s_y (y_move rfl) rfl rfl rfl rfl ?_
  refine s_y (y_move rfl) rfl rfl rfl rfl ?_
  refine s_y (y_neq_f rfl rfl (by decide)) rfl rfl rfl rfl ?_
  refine s_y (y_pick_f rfl rfl) rfl rfl rfl rfl ?_
  refine s_y (y_move rfl) rfl rfl rfl rfl ?_
  refine s_tr (t_call rfl rfl ent_19 (fun w h => awake_t w)) rfl rfl rfl rfl (fun _ _ => ?_)
  refine s_y (y_not_t rfl) rfl rfl rfl rfl ?_
  refine s_y (y_pick_f rfl rfl) rfl rfl rfl rfl ?_
  refine s_nil ?_
  refine g_then ?_
  refine g_cond_f rfl ?_
  refine g_skip ?_
  refine g_then ?_
  refine g_seq ?_
  refine g_seq ?_
  refine g_region ?_
  refine s_y (y_move rfl) rfl rfl rfl rfl ?_
  refine s_tr (t_call rfl rfl ent_37 (fun w h => by have h_ := Notes_any w _ s (hs.below h.below) (by omega); rw [hnt] at h_; exact h_)) rfl rfl rfl rfl (fun _ _ => ?_)
  refine s_y (y_not_t rfl) rfl rfl rfl rfl ?_
  refine s_y (y_move rfl) rfl rfl rfl rfl ?_
  refine s_y (y_move rfl) rfl rfl rfl rfl ?_
  refine s_y (y_lenV (n := s.length) rfl (by obtain ⟨A, c, h1, _⟩ := hs; exact ⟨A, c, h1⟩) sle_22) rfl rfl rfl rfl ?_
  refine s_y (y_move rfl) rfl rfl rfl rfl ?_
  refine s_y (y_lenV (n := g.length) rfl (by obtain ⟨A, c, h1, _⟩ := hg; exact ⟨A, c, h1⟩) sle_22) rfl rfl rfl rfl ?_
  refine s_y (y_geq_f rfl rfl (by omega)) rfl rfl rfl rfl ?_
  refine s_y (y_pick_f rfl rfl) rfl rfl rfl rfl ?_
  refine s_nil ?_
  refine g_then ?_
  refine g_cond_f rfl ?_
  refine g_skip ?_
  refine g_then ?_
  refine g_seq ?_
  refine g_region ?_
  refine s_y (y_move rfl) rfl rfl rfl rfl ?_
  refine s_y (y_move rfl) rfl rfl rfl rfl ?_
  refine s_y (y_move rfl) rfl rfl rfl rfl ?_
  refine s_tr (t_callm rfl rfl ent_38 (fun w h => RNext_ok w _ _ g s (hg.below h.below) (hs.below h.below) hp hsn hle)) rfl rfl rfl rfl (fun x14 hx15 => ?_)
  obtain ⟨vo13, mo13⟩ := x14
  obtain ⟨hOo13, hEo13⟩ := hx15
  refine s_tr (t_call rfl rfl ent_26 (fun w h => by have h_ := Equal_any w _ _ (nexD g s) (nexD g s) (hOo7.rd fun p hp => h.at_ p (mem_ar mo13 (mem_ar mo10 (mem_al mo7 hp)))) (hOo13.rd fun p hp => h.at_ p (mem_al mo13 hp)) (by unfold nexD; split <;> first | (have h_ := nxL_len g s; omega) | simp); rw [decide_eq_true (rfl)] at h_; exact h_)) rfl rfl rfl rfl (fun _ _ => ?_)
  refine s_y (y_move rfl) rfl rfl rfl rfl ?_
  refine s_y (y_move rfl) rfl rfl rfl rfl ?_
  refine s_y (y_eql_t rfl rfl (by decide)) rfl rfl rfl rfl ?_
  refine s_y (y_pick_t rfl rfl) rfl rfl rfl rfl ?_
  refine s_y (y_assign rfl) rfl rfl rfl rfl ?_
  refine s_nil ?_
  refine g_then ?_
  refine g_ret ?_
  exact g_end trivial (fun a w ha hq_ => res1 ha rfl rfl  w) (fun w h => ⟨rfl, h.below⟩)

theorem DuetsNext_n_no1 (w : World) (v : Value) (g : List Int) (v' : Value) (s : List Int) (hg : RdV (Value.int .i64) w v g) (hs : RdV (Value.int .i64) w v' s) (hsl : s.length ≤ 9223372036854775807) (hp : partB g = true) (hst : lonR g g.length [] = g.length) (hnt : notesB s = false) :
    Calls Try.prog 9 [v, v'].toArray w fun e w' => e = .returned (.bool true) ∧ Below w.heap.size w w' := by
  obtain ⟨hgl, hgn⟩ := partB_true.1 hp
  refine enter (N := 89) Try.func9 rfl rfl rfl ?_
  refine g_seq ?_
  refine g_region ?_
  refine s_y (y_assign rfl) rfl rfl rfl rfl ?_
  refine s_nil ?_
  refine g_then ?_
  refine g_seq ?_
  refine g_region ?_
  refine s_y (y_move rfl) rfl rfl rfl rfl ?_
  refine s_tr (t_callm rfl rfl ent_17 (fun w h => by have h_ := list_any w _ g (hg.below h.below); rw [List.take_of_length_le (by omega)] at h_; exact h_)) rfl rfl rfl rfl (fun x2 hx3 => ?_)
  obtain ⟨vo1, mo1⟩ := x2
  obtain ⟨hOo1, hEo1⟩ := hx3
  refine s_y (y_move rfl) rfl rfl rfl rfl ?_
  refine s_tr (t_callm rfl rfl ent_17 (fun w h => list_any w _ s (hs.below h.below))) rfl rfl rfl rfl (fun x5 hx6 => ?_)
  obtain ⟨vo4, mo4⟩ := x5
  obtain ⟨hOo4, hEo4⟩ := hx6
  refine s_tr (t_call rfl rfl ent_30 (fun w h => Next_bad w _ _ (g) (s.take 11) (hOo1.rd fun p hp => h.at_ p (mem_ar mo4 (mem_al mo1 hp))) (hOo4.rd fun p hp => h.at_ p (mem_al mo4 hp)) (by first | omega | (rw [List.length_take]; omega)) (by rw [List.length_take]; omega) (not_next_take (by omega) (fun h_ => by have h2_ := notesB_true.2 ⟨by have := h_.2.2; omega, h_.2.1⟩; rw [h2_] at hnt; cases hnt)))) rfl rfl rfl rfl (fun _ _ => ?_)
  refine s_y (y_move rfl) rfl rfl rfl rfl ?_
  refine s_y (y_extract rfl rfl) rfl rfl rfl rfl ?_
  refine s_y (y_extract rfl rfl) rfl rfl rfl rfl ?_
  refine s_y (y_assign rfl) rfl rfl rfl rfl ?_
  refine s_y (y_assign rfl) rfl rfl rfl rfl ?_
  refine s_nil ?_
  refine g_then ?_
  refine g_seq ?_
  refine g_region ?_
  refine s_y (y_move rfl) rfl rfl rfl rfl ?_
  refine s_tr (t_callm rfl rfl ent_17 (fun w h => by have h_ := list_any w _ g (hg.below h.below); rw [List.take_of_length_le (by omega)] at h_; exact h_)) rfl rfl rfl rfl (fun x8 hx9 => ?_)
  obtain ⟨vo7, mo7⟩ := x8
  obtain ⟨hOo7, hEo7⟩ := hx9
  refine s_tr (t_call rfl rfl ent_35 (fun w h => by have h_ := Stuck_none_v w _ g (hOo7.rd fun p hp => h.at_ p (mem_al mo7 hp)) hp hst; exact h_)) rfl rfl rfl rfl (fun _ _ => ?_)
  refine s_y (y_move rfl) rfl rfl rfl rfl ?_
  refine s_y (y_extract rfl rfl) rfl rfl rfl rfl ?_
  refine s_y (y_extract rfl rfl) rfl rfl rfl rfl ?_
  refine s_y (y_assign rfl) rfl rfl rfl rfl ?_
  refine s_y (y_assign rfl) rfl rfl rfl rfl ?_
  refine s_nil ?_
  refine g_then ?_
  refine g_seq ?_
  refine g_seq ?_
  refine g_region ?_
  refine s_y (y_move rfl) rfl rfl rfl rfl ?_
  refine s_tr (t_call rfl rfl ent_18 (fun w h => by have h_ := Part_any w _ g (hg.below h.below) (by omega); rwa [hp] at h_)) rfl rfl rfl rfl (fun _ _ => ?_)
  refine s_y (y_not_t rfl) rfl rfl rfl rfl ?_
  refine s_nil ?_
  refine g_then ?_
  refine g_cond_f rfl ?_
  refine g_skip ?_
  refine g_then ?_
  refine g_seq ?_
  refine g_region ?_
  refine s_y (y_move rfl) rfl rfl rfl rfl ?_
  refine s_tr (t_call rfl rfl ent_36 (fun w h => by have h_ := RStuck_none_v w _ g (hg.below h.below) hp hst; exact h_)) rfl rfl rfl rfl (fun _ _ => ?_)
  refine s_y (y_move rfl) rfl rfl rfl rfl ?_
  refine s_y (y_extract rfl rfl) rfl rfl rfl rfl ?_
  refine s_y (y_extract rfl rfl) rfl rfl rfl rfl ?_
  refine s_y (y_assign rfl) rfl rfl rfl rfl ?_
  refine s_y (y_assign rfl) rfl rfl rfl rfl ?_
  refine s_nil ?_
  refine g_then ?_
  refine g_seq ?_
  refine g_seq ?_
  refine g_region ?_
  refine s_y (y_move rfl) rfl rfl rfl rfl ?_
  refine s_y (y_move rfl) rfl rfl rfl rfl ?_
  refine s_y (y_neq_f rfl rfl (by decide)) rfl rfl rfl rfl ?_
  refine s_y (y_move rfl) rfl rfl rfl rfl ?_
  refine s_y (y_move rfl) rfl rfl rfl rfl ?_
  refine s_y (y_move rfl) rfl rfl rfl rfl ?_
  refine s_y (y_neq_f rfl rfl (by decide)) rfl rfl rfl rfl ?_
  refine s_y (y_pick_f rfl rfl) rfl rfl rfl rfl ?_
  refine s_y (y_move rfl) rfl rfl rfl rfl ?_
  refine s_tr (t_call rfl rfl ent_19 (fun w h => awake_t w)) rfl rfl rfl rfl (fun _ _ => ?_)
  refine s_y (y_not_t rfl) rfl rfl rfl rfl ?_
  refine s_y (y_pick_f rfl rfl) rfl rfl rfl rfl ?_
  refine s_nil ?_
  refine g_then ?_
  refine g_cond_f rfl ?_
  refine g_skip ?_
  refine g_then ?_
  refine g_seq ?_
  refine g_seq ?_
  refine g_region ?_
  refine s_y (y_move rfl) rfl rfl rfl rfl ?_
  refine s_tr (t_call rfl rfl ent_37 (fun w h => by have h_ := Notes_any w _ s (hs.below h.below) (by omega); rw [hnt] at h_; exact h_)) rfl rfl rfl rfl (fun _ _ => ?_)
  refine s_y (y_not_f rfl) rfl rfl rfl rfl ?_
  refine s_y (y_move rfl) rfl rfl rfl rfl ?_
  refine s_no rfl rfl rfl ?_
  refine s_no rfl rfl rfl ?_
  refine s_no rfl rfl rfl ?_
  refine s_no rfl rfl rfl ?_
  refine s_no rfl rfl rfl ?_
  refine s_y (y_pick_t rfl rfl) rfl rfl rfl rfl ?_
  refine s_nil ?_
  refine g_then ?_
  refine g_cond_t rfl ?_
  refine g_seq ?_
  refine g_region ?_
  refine s_y (y_move rfl) rfl rfl rfl rfl ?_
  refine s_y (y_lensl rfl sle_22) rfl rfl rfl rfl ?_
  refine s_y (y_eql_t rfl rfl (by decide)) rfl rfl rfl rfl ?_
  refine s_y (y_move rfl) rfl rfl rfl rfl ?_
  refine s_y (y_move rfl) rfl rfl rfl rfl ?_
  refine s_y (y_eql_t rfl rfl (by decide)) rfl rfl rfl rfl ?_
  refine s_y (y_pick_t rfl rfl) rfl rfl rfl rfl ?_
  refine s_y (y_assign rfl) rfl rfl rfl rfl ?_
  refine s_nil ?_
  refine g_then ?_
  refine g_ret ?_
  refine g_thenr ?_
  exact g_end trivial (fun a w ha hq_ => res1 ha rfl rfl  w) (fun w h => ⟨rfl, h.below⟩)

theorem DuetsNext_n_no2 (w : World) (v : Value) (g : List Int) (v' : Value) (s : List Int) (hg : RdV (Value.int .i64) w v g) (hs : RdV (Value.int .i64) w v' s) (hsl : s.length ≤ 9223372036854775807) (hp : partB g = true) (hst : lonR g g.length [] = g.length) (hnt : notesB s = true) (hle : ¬ s.length < g.length) :
    Calls Try.prog 9 [v, v'].toArray w fun e w' => e = .returned (.bool true) ∧ Below w.heap.size w w' := by
  obtain ⟨hgl, hgn⟩ := partB_true.1 hp
  refine enter (N := 89) Try.func9 rfl rfl rfl ?_
  refine g_seq ?_
  refine g_region ?_
  refine s_y (y_assign rfl) rfl rfl rfl rfl ?_
  refine s_nil ?_
  refine g_then ?_
  refine g_seq ?_
  refine g_region ?_
  refine s_y (y_move rfl) rfl rfl rfl rfl ?_
  refine s_tr (t_callm rfl rfl ent_17 (fun w h => by have h_ := list_any w _ g (hg.below h.below); rw [List.take_of_length_le (by omega)] at h_; exact h_)) rfl rfl rfl rfl (fun x2 hx3 => ?_)
  obtain ⟨vo1, mo1⟩ := x2
  obtain ⟨hOo1, hEo1⟩ := hx3
  refine s_y (y_move rfl) rfl rfl rfl rfl ?_
  refine s_tr (t_callm rfl rfl ent_17 (fun w h => list_any w _ s (hs.below h.below))) rfl rfl rfl rfl (fun x5 hx6 => ?_)
  obtain ⟨vo4, mo4⟩ := x5
  obtain ⟨hOo4, hEo4⟩ := hx6
  refine s_tr (t_call rfl rfl ent_30 (fun w h => Next_bad w _ _ (g) (s.take 11) (hOo1.rd fun p hp => h.at_ p (mem_ar mo4 (mem_al mo1 hp))) (hOo4.rd fun p hp => h.at_ p (mem_al mo4 hp)) (by first | omega | (rw [List.length_take]; omega)) (by rw [List.length_take]; omega) (not_next_take (by omega) (fun h_ => hle h_.2.2)))) rfl rfl rfl rfl (fun _ _ => ?_)
  refine s_y (y_move rfl) rfl rfl rfl rfl ?_
  refine s_y (y_extract rfl rfl) rfl rfl rfl rfl ?_
  refine s_y (y_extract rfl rfl) rfl rfl rfl rfl ?_
  refine s_y (y_assign rfl) rfl rfl rfl rfl ?_
  refine s_y (y_assign rfl) rfl rfl rfl rfl ?_
  refine s_nil ?_
  refine g_then ?_
  refine g_seq ?_
  refine g_region ?_
  refine s_y (y_move rfl) rfl rfl rfl rfl ?_
  refine s_tr (t_callm rfl rfl ent_17 (fun w h => by have h_ := list_any w _ g (hg.below h.below); rw [List.take_of_length_le (by omega)] at h_; exact h_)) rfl rfl rfl rfl (fun x8 hx9 => ?_)
  obtain ⟨vo7, mo7⟩ := x8
  obtain ⟨hOo7, hEo7⟩ := hx9
  refine s_tr (t_call rfl rfl ent_35 (fun w h => by have h_ := Stuck_none_v w _ g (hOo7.rd fun p hp => h.at_ p (mem_al mo7 hp)) hp hst; exact h_)) rfl rfl rfl rfl (fun _ _ => ?_)
  refine s_y (y_move rfl) rfl rfl rfl rfl ?_
  refine s_y (y_extract rfl rfl) rfl rfl rfl rfl ?_
  refine s_y (y_extract rfl rfl) rfl rfl rfl rfl ?_
  refine s_y (y_assign rfl) rfl rfl rfl rfl ?_
  refine s_y (y_assign rfl) rfl rfl rfl rfl ?_
  refine s_nil ?_
  refine g_then ?_
  refine g_seq ?_
  refine g_seq ?_
  refine g_region ?_
  refine s_y (y_move rfl) rfl rfl rfl rfl ?_
  refine s_tr (t_call rfl rfl ent_18 (fun w h => by have h_ := Part_any w _ g (hg.below h.below) (by omega); rwa [hp] at h_)) rfl rfl rfl rfl (fun _ _ => ?_)
  refine s_y (y_not_t rfl) rfl rfl rfl rfl ?_
  refine s_nil ?_
  refine g_then ?_
  refine g_cond_f rfl ?_
  refine g_skip ?_
  refine g_then ?_
  refine g_seq ?_
  refine g_region ?_
  refine s_y (y_move rfl) rfl rfl rfl rfl ?_
  refine s_tr (t_call rfl rfl ent_36 (fun w h => by have h_ := RStuck_none_v w _ g (hg.below h.below) hp hst; exact h_)) rfl rfl rfl rfl (fun _ _ => ?_)
  refine s_y (y_move rfl) rfl rfl rfl rfl ?_
  refine s_y (y_extract rfl rfl) rfl rfl rfl rfl ?_
  refine s_y (y_extract rfl rfl) rfl rfl rfl rfl ?_
  refine s_y (y_assign rfl) rfl rfl rfl rfl ?_
  refine s_y (y_assign rfl) rfl rfl rfl rfl ?_
  refine s_nil ?_
  refine g_then ?_
  refine g_seq ?_
  refine g_seq ?_
  refine g_region ?_
  refine s_y (y_move rfl) rfl rfl rfl rfl ?_
  refine s_y (y_move rfl) rfl rfl rfl rfl ?_
  refine s_y (y_neq_f rfl rfl (by decide)) rfl rfl rfl rfl ?_
  refine s_y (y_move rfl) rfl rfl rfl rfl ?_
  refine s_y (y_move rfl) rfl rfl rfl rfl ?_
  refine s_y (y_move rfl) rfl rfl rfl rfl ?_
  refine s_y (y_neq_f rfl rfl (by decide)) rfl rfl rfl rfl ?_
  refine s_y (y_pick_f rfl rfl) rfl rfl rfl rfl ?_
  refine s_y (y_move rfl) rfl rfl rfl rfl ?_
  refine s_tr (t_call rfl rfl ent_19 (fun w h => awake_t w)) rfl rfl rfl rfl (fun _ _ => ?_)
  refine s_y (y_not_t rfl) rfl rfl rfl rfl ?_
  refine s_y (y_pick_f rfl rfl) rfl rfl rfl rfl ?_
  refine s_nil ?_
  refine g_then ?_
  refine g_cond_f rfl ?_
  refine g_skip ?_
  refine g_then ?_
  refine g_seq ?_
  refine g_seq ?_
  refine g_region ?_
  refine s_y (y_move rfl) rfl rfl rfl rfl ?_
  refine s_tr (t_call rfl rfl ent_37 (fun w h => by have h_ := Notes_any w _ s (hs.below h.below) (by omega); rw [hnt] at h_; exact h_)) rfl rfl rfl rfl (fun _ _ => ?_)
  refine s_y (y_not_t rfl) rfl rfl rfl rfl ?_
  refine s_y (y_move rfl) rfl rfl rfl rfl ?_
  refine s_y (y_move rfl) rfl rfl rfl rfl ?_
  refine s_y (y_lenV (n := s.length) rfl (by obtain ⟨A, c, h1, _⟩ := hs; exact ⟨A, c, h1⟩) sle_22) rfl rfl rfl rfl ?_
  refine s_y (y_move rfl) rfl rfl rfl rfl ?_
  refine s_y (y_lenV (n := g.length) rfl (by obtain ⟨A, c, h1, _⟩ := hg; exact ⟨A, c, h1⟩) sle_22) rfl rfl rfl rfl ?_
  refine s_y (y_geq_t rfl rfl (by omega)) rfl rfl rfl rfl ?_
  refine s_y (y_pick_f rfl rfl) rfl rfl rfl rfl ?_
  refine s_nil ?_
  refine g_then ?_
  refine g_cond_t rfl ?_
  refine g_seq ?_
  refine g_region ?_
  refine s_y (y_move rfl) rfl rfl rfl rfl ?_
  refine s_y (y_lensl rfl sle_22) rfl rfl rfl rfl ?_
  refine s_y (y_eql_t rfl rfl (by decide)) rfl rfl rfl rfl ?_
  refine s_y (y_move rfl) rfl rfl rfl rfl ?_
  refine s_y (y_move rfl) rfl rfl rfl rfl ?_
  refine s_y (y_eql_t rfl rfl (by decide)) rfl rfl rfl rfl ?_
  refine s_y (y_pick_t rfl rfl) rfl rfl rfl rfl ?_
  refine s_y (y_assign rfl) rfl rfl rfl rfl ?_
  refine s_nil ?_
  refine g_then ?_
  refine g_ret ?_
  refine g_thenr ?_
  exact g_end trivial (fun a w ha hq_ => res1 ha rfl rfl  w) (fun w h => ⟨rfl, h.below⟩)

theorem DuetsNext_k_ok (w : World) (v : Value) (g : List Int) (v' : Value) (s : List Int) (hg : RdV (Value.int .i64) w v g) (hs : RdV (Value.int .i64) w v' s) (hsl : s.length ≤ 9223372036854775807) (hp : partB g = true) (hst : ¬ lonR g g.length [] = g.length) (hnt : notesB s = true) (hle : s.length < g.length) :
    Calls Try.prog 9 [v, v'].toArray w fun e w' => e = .returned (.bool true) ∧ Below w.heap.size w w' := by
  obtain ⟨hgl, hgn⟩ := partB_true.1 hp
  have hsn := (notesB_true.1 hnt).2
  refine enter (N := 89) Try.func9 rfl rfl rfl ?_
  refine g_seq ?_
  refine g_region ?_
  refine s_y (y_assign rfl) rfl rfl rfl rfl ?_
  refine s_nil ?_
  refine g_then ?_
  refine g_seq ?_
  refine g_region ?_
  refine s_y (y_move rfl) rfl rfl rfl rfl ?_
  refine s_tr (t_callm rfl rfl ent_17 (fun w h => by have h_ := list_any w _ g (hg.below h.below); rw [List.take_of_length_le (by omega)] at h_; exact h_)) rfl rfl rfl rfl (fun x2 hx3 => ?_)
  obtain ⟨vo1, mo1⟩ := x2
  obtain ⟨hOo1, hEo1⟩ := hx3
  refine s_y (y_move rfl) rfl rfl rfl rfl ?_
  refine s_tr (t_callm rfl rfl ent_17 (fun w h => by have h_ := list_any w _ s (hs.below h.below); rw [List.take_of_length_le (by omega)] at h_; exact h_)) rfl rfl rfl rfl (fun x5 hx6 => ?_)
  obtain ⟨vo4, mo4⟩ := x5
  obtain ⟨hOo4, hEo4⟩ := hx6
  refine s_tr (t_callm rfl rfl ent_30 (fun w h => Next_ok w _ _ g s (hOo1.rd fun p hp => h.at_ p (mem_ar mo4 (mem_al mo1 hp))) (hOo4.rd fun p hp => h.at_ p (mem_al mo4 hp)) hp hsn hle)) rfl rfl rfl rfl (fun x8 hx9 => ?_)
  obtain ⟨vo7, mo7⟩ := x8
  obtain ⟨hOo7, hEo7⟩ := hx9
  refine s_y (y_move rfl) rfl rfl rfl rfl ?_
  refine s_y (y_extract rfl rfl) rfl rfl rfl rfl ?_
  refine s_y (y_extract rfl rfl) rfl rfl rfl rfl ?_
  refine s_y (y_assign rfl) rfl rfl rfl rfl ?_
  refine s_y (y_assign rfl) rfl rfl rfl rfl ?_
  refine s_nil ?_
  refine g_then ?_
  refine g_seq ?_
  refine g_region ?_
  refine s_y (y_move rfl) rfl rfl rfl rfl ?_
  refine s_tr (t_callm rfl rfl ent_17 (fun w h => by have h_ := list_any w _ g (hg.below h.below); rw [List.take_of_length_le (by omega)] at h_; exact h_)) rfl rfl rfl rfl (fun x11 hx12 => ?_)
  obtain ⟨vo10, mo10⟩ := x11
  obtain ⟨hOo10, hEo10⟩ := hx12
  refine s_tr (t_call rfl rfl ent_35 (fun w h => by have h_ := Stuck_ok_v w _ g (hOo10.rd fun p hp => h.at_ p (mem_al mo10 hp)) hp hst; exact h_)) rfl rfl rfl rfl (fun _ _ => ?_)
  refine s_y (y_move rfl) rfl rfl rfl rfl ?_
  refine s_y (y_extract rfl rfl) rfl rfl rfl rfl ?_
  refine s_y (y_extract rfl rfl) rfl rfl rfl rfl ?_
  refine s_y (y_assign rfl) rfl rfl rfl rfl ?_
  refine s_y (y_assign rfl) rfl rfl rfl rfl ?_
  refine s_nil ?_
  refine g_then ?_
  refine g_seq ?_
  refine g_seq ?_
  refine g_region ?_
  refine s_y (y_move rfl) rfl rfl rfl rfl ?_
  refine s_tr (t_call rfl rfl ent_18 (fun w h => by have h_ := Part_any w _ g (hg.below h.below) (by omega); rwa [hp] at h_)) rfl rfl rfl rfl (fun _ _ => ?_)
  refine s_y (y_not_t rfl) rfl rfl rfl rfl ?_
  refine s_nil ?_
  refine g_then ?_
  refine g_cond_f rfl ?_
  refine g_skip ?_
  refine g_then ?_
  refine g_seq ?_
  refine g_region ?_
  refine s_y (y_move rfl) rfl rfl rfl rfl ?_
  refine s_tr (t_call rfl rfl ent_36 (fun w h => by have h_ := RStuck_ok_v w _ g (hg.below h.below) hp hst; exact h_)) rfl rfl rfl rfl (fun _ _ => ?_)
  refine s_y (y_move rfl) rfl rfl rfl rfl ?_
  refine s_y (y_extract rfl rfl) rfl rfl rfl rfl ?_
  refine s_y (y_extract rfl rfl) rfl rfl rfl rfl ?_
  refine s_y (y_assign rfl) rfl rfl rfl rfl ?_
  refine s_y (y_assign rfl) rfl rfl rfl rfl ?_
  refine s_nil ?_
  refine g_then ?_
  refine g_seq ?_
  refine g_seq ?_
  refine g_region ?_
  refine s_y (y_move rfl) rfl rfl rfl rfl ?_
  refine s_y (y_move rfl) rfl rfl rfl rfl ?_
  refine s_y (y_neq_f rfl rfl (rfl)) rfl rfl rfl rfl ?_
  refine s_y (y_move rfl) rfl rfl rfl rfl ?_
  refine s_y (y_move rfl) rfl rfl rfl rfl ?_
  refine s_y (y_move rfl) rfl rfl rfl rfl ?_
  refine s_y (y_neq_f rfl rfl (by decide)) rfl rfl rfl rfl ?_
  refine s_y (y_pick_f rfl rfl) rfl rfl rfl rfl ?_
  refine s_y (y_move rfl) rfl rfl rfl rfl ?_
  refine s_tr (t_call rfl rfl ent_19 (fun w h => awake_t w)) rfl rfl rfl rfl (fun _ _ => ?_)
  refine s_y (y_not_t rfl) rfl rfl rfl rfl ?_
  refine s_y (y_pick_f rfl rfl) rfl rfl rfl rfl ?_
  refine s_nil ?_
  refine g_then ?_
  refine g_cond_f rfl ?_
  refine g_skip ?_
  refine g_then ?_
  refine g_seq ?_
  refine g_seq ?_
  refine g_region ?_
  refine s_y (y_move rfl) rfl rfl rfl rfl ?_
  refine s_tr (t_call rfl rfl ent_37 (fun w h => by have h_ := Notes_any w _ s (hs.below h.below) (by omega); rw [hnt] at h_; exact h_)) rfl rfl rfl rfl (fun _ _ => ?_)
  refine s_y (y_not_t rfl) rfl rfl rfl rfl ?_
  refine s_y (y_move rfl) rfl rfl rfl rfl ?_
  refine s_y (y_move rfl) rfl rfl rfl rfl ?_
  refine s_y (y_lenV (n := s.length) rfl (by obtain ⟨A, c, h1, _⟩ := hs; exact ⟨A, c, h1⟩) sle_22) rfl rfl rfl rfl ?_
  refine s_y (y_move rfl) rfl rfl rfl rfl ?_
  refine s_y (y_lenV (n := g.length) rfl (by obtain ⟨A, c, h1, _⟩ := hg; exact ⟨A, c, h1⟩) sle_22) rfl rfl rfl rfl ?_
  refine s_y (y_geq_f rfl rfl (by omega)) rfl rfl rfl rfl ?_
  refine s_y (y_pick_f rfl rfl) rfl rfl rfl rfl ?_
  refine s_nil ?_
  refine g_then ?_
  refine g_cond_f rfl ?_
  refine g_skip ?_
  refine g_then ?_
  refine g_seq ?_
  refine g_region ?_
  refine s_y (y_move rfl) rfl rfl rfl rfl ?_
  refine s_y (y_move rfl) rfl rfl rfl rfl ?_
  refine s_y (y_move rfl) rfl rfl rfl rfl ?_
  refine s_tr (t_callm rfl rfl ent_38 (fun w h => RNext_ok w _ _ g s (hg.below h.below) (hs.below h.below) hp hsn hle)) rfl rfl rfl rfl (fun x14 hx15 => ?_)
  obtain ⟨vo13, mo13⟩ := x14
  obtain ⟨hOo13, hEo13⟩ := hx15
  refine s_tr (t_call rfl rfl ent_26 (fun w h => by have h_ := Equal_any w _ _ (nexD g s) (nexD g s) (hOo7.rd fun p hp => h.at_ p (mem_ar mo13 (mem_ar mo10 (mem_al mo7 hp)))) (hOo13.rd fun p hp => h.at_ p (mem_al mo13 hp)) (by unfold nexD; split <;> first | (have h_ := nxL_len g s; omega) | simp); rw [decide_eq_true (rfl)] at h_; exact h_)) rfl rfl rfl rfl (fun _ _ => ?_)
  refine s_y (y_move rfl) rfl rfl rfl rfl ?_
  refine s_y (y_move rfl) rfl rfl rfl rfl ?_
  refine s_y (y_eql_t rfl rfl (by decide)) rfl rfl rfl rfl ?_
  refine s_y (y_pick_t rfl rfl) rfl rfl rfl rfl ?_
  refine s_y (y_assign rfl) rfl rfl rfl rfl ?_
  refine s_nil ?_
  refine g_then ?_
  refine g_ret ?_
  exact g_end trivial (fun a w ha hq_ => res1 ha rfl rfl  w) (fun w h => ⟨rfl, h.below⟩)

theorem DuetsNext_k_no1 (w : World) (v : Value) (g : List Int) (v' : Value) (s : List Int) (hg : RdV (Value.int .i64) w v g) (hs : RdV (Value.int .i64) w v' s) (hsl : s.length ≤ 9223372036854775807) (hp : partB g = true) (hst : ¬ lonR g g.length [] = g.length) (hnt : notesB s = false) :
    Calls Try.prog 9 [v, v'].toArray w fun e w' => e = .returned (.bool true) ∧ Below w.heap.size w w' := by
  obtain ⟨hgl, hgn⟩ := partB_true.1 hp
  refine enter (N := 89) Try.func9 rfl rfl rfl ?_
  refine g_seq ?_
  refine g_region ?_
  refine s_y (y_assign rfl) rfl rfl rfl rfl ?_
  refine s_nil ?_
  refine g_then ?_
  refine g_seq ?_
  refine g_region ?_
  refine s_y (y_move rfl) rfl rfl rfl rfl ?_
  refine s_tr (t_callm rfl rfl ent_17 (fun w h => by have h_ := list_any w _ g (hg.below h.below); rw [List.take_of_length_le (by omega)] at h_; exact h_)) rfl rfl rfl rfl (fun x2 hx3 => ?_)
  obtain ⟨vo1, mo1⟩ := x2
  obtain ⟨hOo1, hEo1⟩ := hx3
  refine s_y (y_move rfl) rfl rfl rfl rfl ?_
  refine s_tr (t_callm rfl rfl ent_17 (fun w h => list_any w _ s (hs.below h.below))) rfl rfl rfl rfl (fun x5 hx6 => ?_)
  obtain ⟨vo4, mo4⟩ := x5
  obtain ⟨hOo4, hEo4⟩ := hx6
  refine s_tr (t_call rfl rfl ent_30 (fun w h => Next_bad w _ _ (g) (s.take 11) (hOo1.rd fun p hp => h.at_ p (mem_ar mo4 (mem_al mo1 hp))) (hOo4.rd fun p hp => h.at_ p (mem_al mo4 hp)) (by first | omega | (rw [List.length_take]; omega)) (by rw [List.length_take]; omega) (not_next_take (by omega) (fun h_ => by have h2_ := notesB_true.2 ⟨by have := h_.2.2; omega, h_.2.1⟩; rw [h2_] at hnt; cases hnt)))) rfl rfl rfl rfl (fun _ _ => ?_)
  refine s_y (y_move rfl) rfl rfl rfl rfl ?_
  refine s_y (y_extract rfl rfl) rfl rfl rfl rfl ?_
  refine s_y (y_extract rfl rfl) rfl rfl rfl rfl ?_
  refine s_y (y_assign rfl) rfl rfl rfl rfl ?_
  refine s_y (y_assign rfl) rfl rfl rfl rfl ?_
  refine s_nil ?_
  refine g_then ?_
  refine g_seq ?_
  refine g_region ?_
  refine s_y (y_move rfl) rfl rfl rfl rfl ?_
  refine s_tr (t_callm rfl rfl ent_17 (fun w h => by have h_ := list_any w _ g (hg.below h.below); rw [List.take_of_length_le (by omega)] at h_; exact h_)) rfl rfl rfl rfl (fun x8 hx9 => ?_)
  obtain ⟨vo7, mo7⟩ := x8
  obtain ⟨hOo7, hEo7⟩ := hx9
  refine s_tr (t_call rfl rfl ent_35 (fun w h => by have h_ := Stuck_ok_v w _ g (hOo7.rd fun p hp => h.at_ p (mem_al mo7 hp)) hp hst; exact h_)) rfl rfl rfl rfl (fun _ _ => ?_)
  refine s_y (y_move rfl) rfl rfl rfl rfl ?_
  refine s_y (y_extract rfl rfl) rfl rfl rfl rfl ?_
  refine s_y (y_extract rfl rfl) rfl rfl rfl rfl ?_
  refine s_y (y_assign rfl) rfl rfl rfl rfl ?_
  refine s_y (y_assign rfl) rfl rfl rfl rfl ?_
  refine s_nil ?_
  refine g_then ?_
  refine g_seq ?_
  refine g_seq ?_
  refine g_region ?_
  refine s_y (y_move rfl) rfl rfl rfl rfl ?_
  refine s_tr (t_call rfl rfl ent_18 (fun w h => by have h_ := Part_any w _ g (hg.below h.below) (by omega); rwa [hp] at h_)) rfl rfl rfl rfl (fun _ _ => ?_)
  refine s_y (y_not_t rfl) rfl rfl rfl rfl ?_
  refine s_nil ?_
  refine g_then ?_
  refine g_cond_f rfl ?_
  refine g_skip ?_
  refine g_then ?_
  refine g_seq ?_
  refine g_region ?_
  refine s_y (y_move rfl) rfl rfl rfl rfl ?_
  refine s_tr (t_call rfl rfl ent_36 (fun w h => by have h_ := RStuck_ok_v w _ g (hg.below h.below) hp hst; exact h_)) rfl rfl rfl rfl (fun _ _ => ?_)
  refine s_y (y_move rfl) rfl rfl rfl rfl ?_
  refine s_y (y_extract rfl rfl) rfl rfl rfl rfl ?_
  refine s_y (y_extract rfl rfl) rfl rfl rfl rfl ?_
  refine s_y (y_assign rfl) rfl rfl rfl rfl ?_
  refine s_y (y_assign rfl) rfl rfl rfl rfl ?_
  refine s_nil ?_
  refine g_then ?_
  refine g_seq ?_
  refine g_seq ?_
  refine g_region ?_
  refine s_y (y_move rfl) rfl rfl rfl rfl ?_
  refine s_y (y_move rfl) rfl rfl rfl rfl ?_
  refine s_y (y_neq_f rfl rfl (rfl)) rfl rfl rfl rfl ?_
  refine s_y (y_move rfl) rfl rfl rfl rfl ?_
  refine s_y (y_move rfl) rfl rfl rfl rfl ?_
  refine s_y (y_move rfl) rfl rfl rfl rfl ?_
  refine s_y (y_neq_f rfl rfl (by decide)) rfl rfl rfl rfl ?_
  refine s_y (y_pick_f rfl rfl) rfl rfl rfl rfl ?_
  refine s_y (y_move rfl) rfl rfl rfl rfl ?_
  refine s_tr (t_call rfl rfl ent_19 (fun w h => awake_t w)) rfl rfl rfl rfl (fun _ _ => ?_)
  refine s_y (y_not_t rfl) rfl rfl rfl rfl ?_
  refine s_y (y_pick_f rfl rfl) rfl rfl rfl rfl ?_
  refine s_nil ?_
  refine g_then ?_
  refine g_cond_f rfl ?_
  refine g_skip ?_
  refine g_then ?_
  refine g_seq ?_
  refine g_seq ?_
  refine g_region ?_
  refine s_y (y_move rfl) rfl rfl rfl rfl ?_
  refine s_tr (t_call rfl rfl ent_37 (fun w h => by have h_ := Notes_any w _ s (hs.below h.below) (by omega); rw [hnt] at h_; exact h_)) rfl rfl rfl rfl (fun _ _ => ?_)
  refine s_y (y_not_f rfl) rfl rfl rfl rfl ?_
  refine s_y (y_move rfl) rfl rfl rfl rfl ?_
  refine s_no rfl rfl rfl ?_
  refine s_no rfl rfl rfl ?_
  refine s_no rfl rfl rfl ?_
  refine s_no rfl rfl rfl ?_
  refine s_no rfl rfl rfl ?_
  refine s_y (y_pick_t rfl rfl) rfl rfl rfl rfl ?_
  refine s_nil ?_
  refine g_then ?_
  refine g_cond_t rfl ?_
  refine g_seq ?_
  refine g_region ?_
  refine s_y (y_move rfl) rfl rfl rfl rfl ?_
  refine s_y (y_lensl rfl sle_22) rfl rfl rfl rfl ?_
  refine s_y (y_eql_t rfl rfl (by decide)) rfl rfl rfl rfl ?_
  refine s_y (y_move rfl) rfl rfl rfl rfl ?_
  refine s_y (y_move rfl) rfl rfl rfl rfl ?_
  refine s_y (y_eql_t rfl rfl (by decide)) rfl rfl rfl rfl ?_
  refine s_y (y_pick_t rfl rfl) rfl rfl rfl rfl ?_
  refine s_y (y_assign rfl) rfl rfl rfl rfl ?_
  refine s_nil ?_
  refine g_then ?_
  refine g_ret ?_
  refine g_thenr ?_
  exact g_end trivial (fun a w ha hq_ => res1 ha rfl rfl  w) (fun w h => ⟨rfl, h.below⟩)

theorem DuetsNext_k_no2 (w : World) (v : Value) (g : List Int) (v' : Value) (s : List Int) (hg : RdV (Value.int .i64) w v g) (hs : RdV (Value.int .i64) w v' s) (hsl : s.length ≤ 9223372036854775807) (hp : partB g = true) (hst : ¬ lonR g g.length [] = g.length) (hnt : notesB s = true) (hle : ¬ s.length < g.length) :
    Calls Try.prog 9 [v, v'].toArray w fun e w' => e = .returned (.bool true) ∧ Below w.heap.size w w' := by
  obtain ⟨hgl, hgn⟩ := partB_true.1 hp
  refine enter (N := 89) Try.func9 rfl rfl rfl ?_
  refine g_seq ?_
  refine g_region ?_
  refine s_y (y_assign rfl) rfl rfl rfl rfl ?_
  refine s_nil ?_
  refine g_then ?_
  refine g_seq ?_
  refine g_region ?_
  refine s_y (y_move rfl) rfl rfl rfl rfl ?_
  refine s_tr (t_callm rfl rfl ent_17 (fun w h => by have h_ := list_any w _ g (hg.below h.below); rw [List.take_of_length_le (by omega)] at h_; exact h_)) rfl rfl rfl rfl (fun x2 hx3 => ?_)
  obtain ⟨vo1, mo1⟩ := x2
  obtain ⟨hOo1, hEo1⟩ := hx3
  refine s_y (y_move rfl) rfl rfl rfl rfl ?_
  refine s_tr (t_callm rfl rfl ent_17 (fun w h => list_any w _ s (hs.below h.below))) rfl rfl rfl rfl (fun x5 hx6 => ?_)
  obtain ⟨vo4, mo4⟩ := x5
  obtain ⟨hOo4, hEo4⟩ := hx6
  refine s_tr (t_call rfl rfl ent_30 (fun w h => Next_bad w _ _ (g) (s.take 11) (hOo1.rd fun p hp => h.at_ p (mem_ar mo4 (mem_al mo1 hp))) (hOo4.rd fun p hp => h.at_ p (mem_al mo4 hp)) (by first | omega | (rw [List.length_take]; omega)) (by rw [List.length_take]; omega) (not_next_take (by omega) (fun h_ => hle h_.2.2)))) rfl rfl rfl rfl (fun _ _ => ?_)
  refine s_y (y_move rfl) rfl rfl rfl rfl ?_
  refine s_y (y_extract rfl rfl) rfl rfl rfl rfl ?_
  refine s_y (y_extract rfl rfl) rfl rfl rfl rfl ?_
  refine s_y (y_assign rfl) rfl rfl rfl rfl ?_
  refine s_y (y_assign rfl) rfl rfl rfl rfl ?_
  refine s_nil ?_
  refine g_then ?_
  refine g_seq ?_
  refine g_region ?_
  refine s_y (y_move rfl) rfl rfl rfl rfl ?_
  refine s_tr (t_callm rfl rfl ent_17 (fun w h => by have h_ := list_any w _ g (hg.below h.below); rw [List.take_of_length_le (by omega)] at h_; exact h_)) rfl rfl rfl rfl (fun x8 hx9 => ?_)
  obtain ⟨vo7, mo7⟩ := x8
  obtain ⟨hOo7, hEo7⟩ := hx9
  refine s_tr (t_call rfl rfl ent_35 (fun w h => by have h_ := Stuck_ok_v w _ g (hOo7.rd fun p hp => h.at_ p (mem_al mo7 hp)) hp hst; exact h_)) rfl rfl rfl rfl (fun _ _ => ?_)
  refine s_y (y_move rfl) rfl rfl rfl rfl ?_
  refine s_y (y_extract rfl rfl) rfl rfl rfl rfl ?_
  refine s_y (y_extract rfl rfl) rfl rfl rfl rfl ?_
  refine s_y (y_assign rfl) rfl rfl rfl rfl ?_
  refine s_y (y_assign rfl) rfl rfl rfl rfl ?_
  refine s_nil ?_
  refine g_then ?_
  refine g_seq ?_
  refine g_seq ?_
  refine g_region ?_
  refine s_y (y_move rfl) rfl rfl rfl rfl ?_
  refine s_tr (t_call rfl rfl ent_18 (fun w h => by have h_ := Part_any w _ g (hg.below h.below) (by omega); rwa [hp] at h_)) rfl rfl rfl rfl (fun _ _ => ?_)
  refine s_y (y_not_t rfl) rfl rfl rfl rfl ?_
  refine s_nil ?_
  refine g_then ?_
  refine g_cond_f rfl ?_
  refine g_skip ?_
  refine g_then ?_
  refine g_seq ?_
  refine g_region ?_
  refine s_y (y_move rfl) rfl rfl rfl rfl ?_
  refine s_tr (t_call rfl rfl ent_36 (fun w h => by have h_ := RStuck_ok_v w _ g (hg.below h.below) hp hst; exact h_)) rfl rfl rfl rfl (fun _ _ => ?_)
  refine s_y (y_move rfl) rfl rfl rfl rfl ?_
  refine s_y (y_extract rfl rfl) rfl rfl rfl rfl ?_
  refine s_y (y_extract rfl rfl) rfl rfl rfl rfl ?_
  refine s_y (y_assign rfl) rfl rfl rfl rfl ?_
  refine s_y (y_assign rfl) rfl rfl rfl rfl ?_
  refine s_nil ?_
  refine g_then ?_
  refine g_seq ?_
  refine g_seq ?_
  refine g_region ?_
  refine s_y (y_move rfl) rfl rfl rfl rfl ?_
  refine s_y (y_move rfl) rfl rfl rfl rfl ?_
  refine s_y (y_neq_f rfl rfl (rfl)) rfl rfl rfl rfl ?_
  refine s_y (y_move rfl) rfl rfl rfl rfl ?_
  refine s_y (y_move rfl) rfl rfl rfl rfl ?_
  refine s_y (y_move rfl) rfl rfl rfl rfl ?_
  refine s_y (y_neq_f rfl rfl (by decide)) rfl rfl rfl rfl ?_
  refine s_y (y_pick_f rfl rfl) rfl rfl rfl rfl ?_
  refine s_y (y_move rfl) rfl rfl rfl rfl ?_
  refine s_tr (t_call rfl rfl ent_19 (fun w h => awake_t w)) rfl rfl rfl rfl (fun _ _ => ?_)
  refine s_y (y_not_t rfl) rfl rfl rfl rfl ?_
  refine s_y (y_pick_f rfl rfl) rfl rfl rfl rfl ?_
  refine s_nil ?_
  refine g_then ?_
  refine g_cond_f rfl ?_
  refine g_skip ?_
  refine g_then ?_
  refine g_seq ?_
  refine g_seq ?_
  refine g_region ?_
  refine s_y (y_move rfl) rfl rfl rfl rfl ?_
  refine s_tr (t_call rfl rfl ent_37 (fun w h => by have h_ := Notes_any w _ s (hs.below h.below) (by omega); rw [hnt] at h_; exact h_)) rfl rfl rfl rfl (fun _ _ => ?_)
  refine s_y (y_not_t rfl) rfl rfl rfl rfl ?_
  refine s_y (y_move rfl) rfl rfl rfl rfl ?_
  refine s_y (y_move rfl) rfl rfl rfl rfl ?_
  refine s_y (y_lenV (n := s.length) rfl (by obtain ⟨A, c, h1, _⟩ := hs; exact ⟨A, c, h1⟩) sle_22) rfl rfl rfl rfl ?_
  refine s_y (y_move rfl) rfl rfl rfl rfl ?_
  refine s_y (y_lenV (n := g.length) rfl (by obtain ⟨A, c, h1, _⟩ := hg; exact ⟨A, c, h1⟩) sle_22) rfl rfl rfl rfl ?_
  refine s_y (y_geq_t rfl rfl (by omega)) rfl rfl rfl rfl ?_
  refine s_y (y_pick_f rfl rfl) rfl rfl rfl rfl ?_
  refine s_nil ?_
  refine g_then ?_
  refine g_cond_t rfl ?_
  refine g_seq ?_
  refine g_region ?_
  refine s_y (y_move rfl) rfl rfl rfl rfl ?_
  refine s_y (y_lensl rfl sle_22) rfl rfl rfl rfl ?_
  refine s_y (y_eql_t rfl rfl (by decide)) rfl rfl rfl rfl ?_
  refine s_y (y_move rfl) rfl rfl rfl rfl ?_
  refine s_y (y_move rfl) rfl rfl rfl rfl ?_
  refine s_y (y_eql_t rfl rfl (by decide)) rfl rfl rfl rfl ?_
  refine s_y (y_pick_t rfl rfl) rfl rfl rfl rfl ?_
  refine s_y (y_assign rfl) rfl rfl rfl rfl ?_
  refine s_nil ?_
  refine g_then ?_
  refine g_ret ?_
  refine g_thenr ?_
  exact g_end trivial (fun a w ha hq_ => res1 ha rfl rfl  w) (fun w h => ⟨rfl, h.below⟩)

theorem DuetsNext_bad (w : World) (v : Value) (g : List Int) (v' : Value) (s : List Int) (hg : RdV (Value.int .i64) w v g) (hs : RdV (Value.int .i64) w v' s) (hgl : g.length ≤ 9223372036854775807) (hsl : s.length ≤ 9223372036854775807) (hp : partB g = false) :
    Calls Try.prog 9 [v, v'].toArray w fun e w' => e = .returned (.bool true) ∧ Below w.heap.size w w' := by
  refine enter (N := 89) Try.func9 rfl rfl rfl ?_
  refine g_seq ?_
  refine g_region ?_
  refine s_y (y_assign rfl) rfl rfl rfl rfl ?_
  refine s_nil ?_
  refine g_then ?_
  refine g_seq ?_
  refine g_region ?_
  refine s_y (y_move rfl) rfl rfl rfl rfl ?_
  refine s_tr (t_callm rfl rfl ent_17 (fun w h => list_any w _ g (hg.below h.below))) rfl rfl rfl rfl (fun x2 hx3 => ?_)
  obtain ⟨vo1, mo1⟩ := x2
  obtain ⟨hOo1, hEo1⟩ := hx3
  refine s_y (y_move rfl) rfl rfl rfl rfl ?_
  refine s_tr (t_callm rfl rfl ent_17 (fun w h => list_any w _ s (hs.below h.below))) rfl rfl rfl rfl (fun x5 hx6 => ?_)
  obtain ⟨vo4, mo4⟩ := x5
  obtain ⟨hOo4, hEo4⟩ := hx6
  refine s_tr (t_call rfl rfl ent_30 (fun w h => Next_bad w _ _ (g.take 11) (s.take 11) (hOo1.rd fun p hp => h.at_ p (mem_ar mo4 (mem_al mo1 hp))) (hOo4.rd fun p hp => h.at_ p (mem_al mo4 hp)) (by first | omega | (rw [List.length_take]; omega)) (by rw [List.length_take]; omega) (not_next_part hp))) rfl rfl rfl rfl (fun _ _ => ?_)
  refine s_y (y_move rfl) rfl rfl rfl rfl ?_
  refine s_y (y_extract rfl rfl) rfl rfl rfl rfl ?_
  refine s_y (y_extract rfl rfl) rfl rfl rfl rfl ?_
  refine s_y (y_assign rfl) rfl rfl rfl rfl ?_
  refine s_y (y_assign rfl) rfl rfl rfl rfl ?_
  refine s_nil ?_
  refine g_then ?_
  refine g_seq ?_
  refine g_region ?_
  refine s_y (y_move rfl) rfl rfl rfl rfl ?_
  refine s_tr (t_callm rfl rfl ent_17 (fun w h => list_any w _ g (hg.below h.below))) rfl rfl rfl rfl (fun x8 hx9 => ?_)
  obtain ⟨vo7, mo7⟩ := x8
  obtain ⟨hOo7, hEo7⟩ := hx9
  refine s_tr (t_call rfl rfl ent_35 (fun w h => Stuck_bad w _ (g.take 11) (hOo7.rd fun p hp => h.at_ p (mem_al mo7 hp)) (by rw [List.length_take]; omega) (part_take hp))) rfl rfl rfl rfl (fun _ _ => ?_)
  refine s_y (y_move rfl) rfl rfl rfl rfl ?_
  refine s_y (y_extract rfl rfl) rfl rfl rfl rfl ?_
  refine s_y (y_extract rfl rfl) rfl rfl rfl rfl ?_
  refine s_y (y_assign rfl) rfl rfl rfl rfl ?_
  refine s_y (y_assign rfl) rfl rfl rfl rfl ?_
  refine s_nil ?_
  refine g_then ?_
  refine g_seq ?_
  refine g_seq ?_
  refine g_region ?_
  refine s_y (y_move rfl) rfl rfl rfl rfl ?_
  refine s_tr (t_call rfl rfl ent_18 (fun w h => by have h_ := Part_any w _ g (hg.below h.below) hgl; rwa [hp] at h_)) rfl rfl rfl rfl (fun _ _ => ?_)
  refine s_y (y_not_f rfl) rfl rfl rfl rfl ?_
  refine s_nil ?_
  refine g_then ?_
  refine g_cond_t rfl ?_
  refine g_seq ?_
  refine g_region ?_
  refine s_y (y_move rfl) rfl rfl rfl rfl ?_
  refine s_y (y_lensl rfl sle_22) rfl rfl rfl rfl ?_
  refine s_y (y_eql_t rfl rfl (by decide)) rfl rfl rfl rfl ?_
  refine s_y (y_move rfl) rfl rfl rfl rfl ?_
  refine s_y (y_move rfl) rfl rfl rfl rfl ?_
  refine s_y (y_eql_t rfl rfl (by decide)) rfl rfl rfl rfl ?_
  refine s_y (y_pick_t rfl rfl) rfl rfl rfl rfl ?_
  refine s_y (y_move rfl) rfl rfl rfl rfl ?_
  refine s_y (y_move rfl) rfl rfl rfl rfl ?_
  refine s_y (y_eql_t rfl rfl (by decide)) rfl rfl rfl rfl ?_
  refine s_y (y_pick_t rfl rfl) rfl rfl rfl rfl ?_
  refine s_y (y_move rfl) rfl rfl rfl rfl ?_
  refine s_y (y_move rfl) rfl rfl rfl rfl ?_
  refine s_y (y_eql_t rfl rfl (by decide)) rfl rfl rfl rfl ?_
  refine s_y (y_pick_t rfl rfl) rfl rfl rfl rfl ?_
  refine s_y (y_move rfl) rfl rfl rfl rfl ?_
  refine s_tr (t_call rfl rfl ent_19 (fun w h => awake_t w)) rfl rfl rfl rfl (fun _ _ => ?_)
  refine s_y (y_pick_t rfl rfl) rfl rfl rfl rfl ?_
  refine s_y (y_assign rfl) rfl rfl rfl rfl ?_
  refine s_nil ?_
  refine g_then ?_
  refine g_ret ?_
  refine g_thenr ?_
  exact g_end trivial (fun a w ha hq_ => res1 ha rfl rfl  w) (fun w h => ⟨rfl, h.below⟩)

theorem DuetsNext_law (w : World) (v : Value) (g : List Int) (v' : Value) (s : List Int) (hg : RdV (Value.int .i64) w v g) (hgl : g.length ≤ maxLen) (wg : ∀ x ∈ g, (Lit.int .i64 x).wf = true) (hs : RdV (Value.int .i64) w v' s) (hsl : s.length ≤ maxLen) (ws : ∀ x ∈ s, (Lit.int .i64 x).wf = true) : Calls Try.prog 9 [v, v'].toArray w fun e w' => e = .returned (.bool true) ∧ Below w.heap.size w w' := by
  have hmx : (maxLen : Nat) = 9223372036854775807 := rfl
  cases hp : partB g with
  | false => exact DuetsNext_bad w v g v' s hg hs (by omega) (by omega) hp
  | true =>
    by_cases hst : lonR g g.length [] = g.length
    · cases hnt : notesB s with
      | false => exact DuetsNext_n_no1 w v g v' s hg hs (by omega) hp hst hnt
      | true =>
        by_cases hle : s.length < g.length
        · exact DuetsNext_n_ok w v g v' s hg hs (by omega) hp hst hnt hle
        · exact DuetsNext_n_no2 w v g v' s hg hs (by omega) hp hst hnt hle
    · cases hnt : notesB s with
      | false => exact DuetsNext_k_no1 w v g v' s hg hs (by omega) hp hst hnt
      | true =>
        by_cases hle : s.length < g.length
        · exact DuetsNext_k_ok w v g v' s hg hs (by omega) hp hst hnt hle
        · exact DuetsNext_k_no2 w v g v' s hg hs (by omega) hp hst hnt hle

end Go.Proofs.Ytolalckejnijkaa
