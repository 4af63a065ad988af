/- Plain law of the best and the first right parts. -/
import Derived.Test.YtolalckejnijkaaDuK
import Derived.Test.YtolalckejnijkaaDuL5
namespace Go.Proofs.Ytolalckejnijkaa
open Go.RowKit Go.Sx
set_option linter.unusedVariables false
set_option linter.unusedSimpArgs false
theorem bstep_0 {h : Int → Option (List Int × Int)} {wr : Int → Int} {x : Int} {p : List Int × Int} (hx : h x = some p) : bstep h wr none x = some (x :: p.1, p.2 + wr x) := by
  unfold bstep; rw [hx]
theorem bstep_1 {h : Int → Option (List Int × Int)} {wr : Int → Int} {x : Int} {p q : List Int × Int} (hx : h x = some p) : bstep h wr (some q) x = if p.2 + wr x > q.2 then some (x :: p.1, p.2 + wr x) else some q := by
  unfold bstep; rw [hx]
theorem bstep_none {h : Int → Option (List Int × Int)} {wr : Int → Int} : ∀ (xs : List Int) (o : Option (List Int × Int)), xs.foldl (bstep h wr) o = none ↔ o = none ∧ ∀ x ∈ xs, h x = none
  | [], o => by simp
  | x :: xs, o => by
    rw [List.foldl_cons, bstep_none xs]
    have h1 : bstep h wr o x = none ↔ o = none ∧ h x = none := by
      unfold bstep
      cases hx : h x with
      | none => simp
      | some p =>
        cases o with
        | none => simp
        | some q => simp only []; split <;> simp
    rw [h1]
    simp only [List.mem_cons, forall_eq_or_imp]
    constructor
    · rintro ⟨⟨a, b⟩, c⟩; exact ⟨a, b, c⟩
    · rintro ⟨a, b, c⟩; exact ⟨⟨a, b⟩, c⟩
theorem cnt_best {g : List Int} : ∀ (k : Nat) (s : List Int), cntR g k s = 0 ↔ bestR g k s = none
  | 0, s => by simp [cntR, bestR]
  | k + 1, s => by
    have h1 := sum_pos (h := fun x => cntR g k (s ++ [x])) (fun x => (cntR_bounds g k (s ++ [x])).1) (nxL g s)
    have h2 := (cntR_bounds g (k + 1) s).1
    have h3 : cntR g (k + 1) s = ((nxL g s).map fun x => cntR g k (s ++ [x])).sum := rfl
    show _ ↔ (nxL g s).foldl (bstep (fun x => bestR g k (s ++ [x])) fun x => wrt g (s ++ [x]) s.length) none = none
    rw [bstep_none]
    constructor
    · intro h
      refine ⟨rfl, fun x hx => (cnt_best (g := g) k (s ++ [x])).1 ?_⟩
      have h4 := (cntR_bounds g k (s ++ [x])).1
      rcases Int.lt_or_le 0 (cntR g k (s ++ [x])) with h5 | h5
      · have := h1.2 ⟨x, hx, h5⟩; omega
      · omega
    · rintro ⟨_, h⟩
      rcases Int.lt_or_le 0 (cntR g (k + 1) s) with h5 | h5
      · rw [h3] at h5
        obtain ⟨x, hx, h6⟩ := h1.1 h5
        have := (cnt_best (g := g) k (s ++ [x])).2 (h x hx)
        omega
      · omega
theorem wrt_pre {g s : List Int} (t : List Int) {i : Nat} (h : i < s.length) : wrt g (s ++ t) i = wrt g s i := by
  unfold wrt mvI
  rw [rdI_app (by omega), rdI_app (by omega)]
theorem wsum_pre {g s : List Int} (t : List Int) : ∀ i : Nat, i ≤ s.length → wsum g (s ++ t) i = wsum g s i
  | 0, _ => rfl
  | i + 1, h => by unfold wsum; rw [wsum_pre t i (by omega), wrt_pre t (by omega)]
theorem wsum_snoc {g s : List Int} {x : Int} : wsum g (s ++ [x]) (s ++ [x]).length = wsum g s s.length + wrt g (s ++ [x]) s.length := by
  rw [List.length_append, show s.length + [x].length = s.length + 1 from rfl]
  show wsum g (s ++ [x]) s.length + _ = _
  rw [wsum_pre [x] s.length (Nat.le_refl _)]
/-- What is the best so far, behind a search. -/
def cmb (g s : List Int) (f : Fnd) (o : Option (List Int × Int)) : List Int × Int :=
  match o with
  | none => (f.be, f.w)
  | some p => if f.c = 0 ∨ wsum g s s.length + p.2 > f.w then (s ++ p.1, wsum g s s.length + p.2) else (f.be, f.w)
theorem srch_be {g : List Int} : ∀ (k : Nat) (s : List Int) (f : Fnd), 0 ≤ f.c → ((srch g k s f).be, (srch g k s f).w) = cmb g s f (bestR g k s)
  | 0, s, f, h0 => by
    unfold srch leaf bump bestR cmb
    simp only [List.append_nil, Int.add_zero]
    by_cases h1 : f.c = 0 ∨ wsum g s s.length > f.w
    · rw [if_pos (by omega), if_pos (by omega), if_pos h1]
    · rw [if_neg (by omega), if_neg (by omega), if_neg h1]
  | k + 1, s, f, h0 => by
    have key : ∀ (xs : List Int) (f' : Fnd) (o : Option (List Int × Int)), 0 ≤ f.c → f.c ≤ f'.c → (o = none ↔ f'.c = f.c) → (f'.be, f'.w) = cmb g s f o →
        ((xs.foldl (fun f x => srch g k (s ++ [x]) f) f').be, (xs.foldl (fun f x => srch g k (s ++ [x]) f) f').w) = cmb g s f (xs.foldl (bstep (fun x => bestR g k (s ++ [x])) fun x => wrt g (s ++ [x]) s.length) o) := fun xs => by
      induction xs with
      | nil => intro f' o _ _ _ h; exact h
      | cons x xs ih =>
        intro f' o hf hc ho hb
        rw [List.foldl_cons, List.foldl_cons]
        have h1 := srch_be (g := g) k (s ++ [x]) f' (by omega)
        have h2 := srch_c (g := g) k (s ++ [x]) f'
        have h3 := cnt_best (g := g) k (s ++ [x])
        have h4 := (cntR_bounds g k (s ++ [x])).1
        cases hx : bestR g k (s ++ [x]) with
        | none =>
          have h5 := h3.2 hx
          have e : bstep (fun x => bestR g k (s ++ [x])) (fun x => wrt g (s ++ [x]) s.length) o x = o := by unfold bstep; simp only [hx]
          rw [e]
          refine ih _ o hf (by omega) (by rw [ho]; omega) ?_
          rw [h1, hx]; exact hb
        | some p =>
          have h5 : cntR g k (s ++ [x]) ≠ 0 := fun h6 => by rw [h3.1 h6] at hx; cases hx
          rw [hx] at h1
          have hw := wsum_snoc (g := g) (s := s) (x := x)
          have ap : s ++ [x] ++ p.1 = s ++ (x :: p.1) := by simp
          unfold cmb at h1 hb
          simp only [hw, ap] at h1
          cases o with
          | none =>
            have h6 := ho.1 rfl
            rw [bstep_0 (h := fun x => bestR g k (s ++ [x])) hx]
            refine ih _ _ hf (by omega) (by simp; omega) ?_
            rw [h1]
            simp only [Prod.mk.injEq] at hb
            unfold cmb
            simp only []
            by_cases h7 : f'.c = 0 ∨ wsum g s s.length + wrt g (s ++ [x]) s.length + p.2 > f'.w
            · rw [if_pos h7, if_pos (by rw [← hb.2, ← h6]; omega)]
              congr 1; omega
            · rw [if_neg h7, if_neg (by rw [← hb.2, ← h6]; omega), hb.1, hb.2]
          | some q =>
            have h6 : f'.c ≠ f.c := fun h => by have := ho.2 h; cases this
            have h8 : f'.c ≠ 0 := by omega
            simp only [] at hb
            rw [bstep_1 (h := fun x => bestR g k (s ++ [x])) hx]
            by_cases h9 : p.2 + wrt g (s ++ [x]) s.length > q.2
            · rw [if_pos h9]
              refine ih _ _ hf (by omega) (by simp; omega) ?_
              rw [h1]
              unfold cmb
              simp only []
              by_cases h7 : f.c = 0 ∨ wsum g s s.length + q.2 > f.w
              · rw [if_pos h7] at hb
                simp only [Prod.mk.injEq] at hb
                rw [if_pos (by rw [hb.2]; omega), if_pos (by omega)]
                congr 1; omega
              · rw [if_neg h7] at hb
                simp only [Prod.mk.injEq] at hb
                by_cases h10 : wsum g s s.length + wrt g (s ++ [x]) s.length + p.2 > f.w
                · rw [if_pos (by rw [hb.2]; omega), if_pos (by omega)]
                  congr 1; omega
                · rw [if_neg (by rw [hb.2]; omega), if_neg (by omega), hb.1, hb.2]
            · rw [if_neg h9]
              refine ih _ _ hf (by omega) (by simp; omega) ?_
              rw [h1]
              unfold cmb
              simp only []
              by_cases h7 : f.c = 0 ∨ wsum g s s.length + q.2 > f.w
              · rw [if_pos h7] at hb ⊢
                simp only [Prod.mk.injEq] at hb
                rw [if_neg (by rw [hb.2]; omega), hb.1, hb.2]
              · rw [if_neg h7] at hb ⊢
                simp only [Prod.mk.injEq] at hb
                rw [if_neg (by rw [hb.2]; omega), hb.1, hb.2]
    exact key (nxL g s) (bump s f) none h0 (Int.le_refl _) (by simp [bump]) rfl
theorem srch0_be {g t : List Int} {w : Int} (h : bestR g g.length [] = some (t, w)) : (srch g g.length [] ⟨0, 0, 0, [], []⟩).be = t := by
  have h1 := srch_be (g := g) g.length [] ⟨0, 0, 0, [], []⟩ (by decide)
  rw [h] at h1
  unfold cmb at h1
  simp only [true_or, if_true, Prod.mk.injEq, List.nil_append] at h1
  exact h1.1
/-! ### which is the first, and which the best -/
def cmpL : List Int → List Int → Int
  | [], [] => 0
  | [], _ :: _ => -1
  | _ :: _, [] => 1
  | x :: xs, y :: ys => if x < y then -1 else if x > y then 1 else cmpL xs ys
theorem cmpL_self : ∀ xs : List Int, cmpL xs xs = 0
  | [] => rfl
  | x :: xs => by unfold cmpL; rw [if_neg (by omega), if_neg (by omega)]; exact cmpL_self xs
/-- A way on from a beginning, with all rules kept. -/
def Way (g : List Int) : List Int → List Int → Prop
  | _, [] => True
  | s, x :: t => x ∈ nxL g s ∧ Way g (s ++ [x]) t
theorem way_of {g : List Int} : ∀ (t s : List Int), (∀ x ∈ t, 0 ≤ x ∧ x ≤ 20) → (∀ j, s.length ≤ j → j < s.length + t.length → brk g (s ++ t) j = 0) → Way g s t
  | [], _, _, _ => trivial
  | x :: t, s, hn, hb => by
    have h1 := hn x (List.mem_cons_self ..)
    have e : s ++ (x :: t) = s ++ [x] ++ t := by simp
    refine ⟨nxL_mem' h1.1 h1.2 ?_, way_of t (s ++ [x]) (fun y hy => hn y (List.mem_cons_of_mem _ hy)) fun j h2 h3 => ?_⟩
    · have h4 := hb s.length (Nat.le_refl _) (by simp)
      rw [e, brk_pre t (by simp)] at h4; exact h4
    · have h4 := hb j (by simp at h2; omega) (by simp at h3 ⊢; omega)
      rw [e] at h4; exact h4
theorem of_way {g : List Int} : ∀ (t s : List Int), (∀ j, j < s.length → brk g s j = 0) → (∀ x ∈ s, 0 ≤ x ∧ x ≤ 20) → Way g s t → (∀ j, j < (s ++ t).length → brk g (s ++ t) j = 0) ∧ ∀ x ∈ s ++ t, 0 ≤ x ∧ x ≤ 20
  | [], s, hb, hn, _ => by simpa using ⟨hb, hn⟩
  | x :: t, s, hb, hn, hw => by
    have h1 := nxL_mem hw.1
    have e : s ++ (x :: t) = s ++ [x] ++ t := by simp
    rw [e]
    exact of_way t (s ++ [x]) ((all_snoc x hb).2 h1.2.2) (notes_snoc hn h1.1 h1.2.1) hw.2
theorem fst_way {g : List Int} : ∀ (k : Nat) (s t : List Int), fstR g k s = some t → ∃ r, t = s ++ r ∧ r.length = k ∧ Way g s r
  | 0, s, t, h => by simp only [fstR, Option.some.injEq] at h; exact ⟨[], by simp [h], rfl, trivial⟩
  | k + 1, s, t, h => by
    obtain ⟨x, hx, h1⟩ := List.exists_of_findSome?_eq_some h
    obtain ⟨r, h2, h3, h4⟩ := fst_way k _ _ h1
    exact ⟨x :: r, by rw [h2]; simp, by simp [h3], hx, h4⟩
theorem cmp_app : ∀ s r r' : List Int, cmpL (s ++ r) (s ++ r') = cmpL r r'
  | [], _, _ => rfl
  | x :: s, r, r' => by
    show (if x < x then -1 else if x > x then 1 else cmpL (s ++ r) (s ++ r')) = _
    rw [if_neg (by omega), if_neg (by omega)]; exact cmp_app s r r'
theorem nxL_sorted (g s : List Int) : (nxL g s).Pairwise (· < ·) := by
  unfold nxL nxP
  refine List.Pairwise.filter _ ?_
  rw [List.pairwise_map]
  exact List.pairwise_lt_range.imp fun {a b} h => by omega
/-- The first right part comes before every other. -/
theorem fst_least {g : List Int} : ∀ (k : Nat) (s r' : List Int), r'.length = k → Way g s r' → ∃ r, fstR g k s = some (s ++ r) ∧ cmpL r r' ≤ 0
  | 0, s, r', hl, hw => by
    have : r' = [] := List.eq_nil_of_length_eq_zero hl
    subst this
    exact ⟨[], by simp [fstR], by decide⟩
  | k + 1, s, r', hl, hw => by
    cases r' with
    | nil => simp at hl
    | cons y t' =>
      have key : ∀ xs : List Int, xs.Pairwise (· < ·) → y ∈ xs → ∃ r, xs.findSome? (fun x => fstR g k (s ++ [x])) = some (s ++ r) ∧ cmpL r (y :: t') ≤ 0 := fun xs => by
        induction xs with
        | nil => intro _ h; cases h
        | cons x xs ih =>
          intro hp hy
          rw [List.findSome?_cons]
          obtain ⟨r1, h1, h2⟩ := fst_least (g := g) k (s ++ [y]) t' (by simpa using hl) hw.2
          rcases List.mem_cons.1 hy with e | h3
          · subst e
            rw [h1]
            refine ⟨y :: r1, by simp, ?_⟩
            show (if y < y then -1 else if y > y then 1 else cmpL r1 t') ≤ 0
            rw [if_neg (by omega), if_neg (by omega)]; exact h2
          · have hlt := (List.pairwise_cons.1 hp).1 y h3
            cases hx : fstR g k (s ++ [x]) with
            | none => exact ih (List.pairwise_cons.1 hp).2 h3
            | some u =>
              obtain ⟨r2, e2, _, _⟩ := fst_way k _ _ hx
              refine ⟨x :: r2, by rw [e2]; simp, ?_⟩
              show (if x < y then -1 else if x > y then 1 else cmpL r2 t') ≤ 0
              rw [if_pos hlt]; decide
      exact key (nxL g s) (nxL_sorted g s) hw.1
def wayW (g s r : List Int) : Int := wsum g (s ++ r) (s ++ r).length - wsum g s s.length
theorem wayW_cons {g s r : List Int} {x : Int} : wayW g s (x :: r) = wrt g (s ++ [x]) s.length + wayW g (s ++ [x]) r := by
  unfold wayW
  rw [show s ++ (x :: r) = s ++ [x] ++ r by simp, wsum_snoc]; omega
/-- The best is a way on, worth what it says, and no other is worth more, or as much and before it. -/
theorem best_is {g : List Int} : ∀ (k : Nat) (s t : List Int) (w : Int), bestR g k s = some (t, w) → (t.length = k ∧ Way g s t ∧ wayW g s t = w) ∧ ∀ r, r.length = k → Way g s r → wayW g s r < w ∨ (wayW g s r = w ∧ cmpL t r ≤ 0)
  | 0, s, t, w, h => by
    simp only [bestR, Option.some.injEq, Prod.mk.injEq] at h
    obtain ⟨rfl, rfl⟩ := h
    refine ⟨⟨rfl, trivial, by unfold wayW; simp⟩, fun r hr _ => ?_⟩
    have : r = [] := List.eq_nil_of_length_eq_zero hr
    subst this
    exact .inr ⟨by unfold wayW; simp, by decide⟩
  | k + 1, s, t, w, h => by
    -- o is the best of the ways whose first note is among those seen
    have key : ∀ (xs seen : List Int) (o : Option (List Int × Int)), (∀ x ∈ xs, x ∈ nxL g s) → (∀ a ∈ seen, ∀ b ∈ xs, a < b) → xs.Pairwise (· < ·) →
        (∀ p, o = some p → (p.1.length = k + 1 ∧ Way g s p.1 ∧ wayW g s p.1 = p.2) ∧ (∃ a r, p.1 = a :: r ∧ a ∈ seen) ∧ ∀ y r, y ∈ seen → r.length = k → Way g s (y :: r) → wayW g s (y :: r) < p.2 ∨ (wayW g s (y :: r) = p.2 ∧ cmpL p.1 (y :: r) ≤ 0)) →
        (o = none → ∀ y r, y ∈ seen → r.length = k → ¬ Way g s (y :: r)) →
        ∀ p, xs.foldl (bstep (fun x => bestR g k (s ++ [x])) fun x => wrt g (s ++ [x]) s.length) o = some p →
          (p.1.length = k + 1 ∧ Way g s p.1 ∧ wayW g s p.1 = p.2) ∧ ∀ y r, y ∈ seen ++ xs → r.length = k → Way g s (y :: r) → wayW g s (y :: r) < p.2 ∨ (wayW g s (y :: r) = p.2 ∧ cmpL p.1 (y :: r) ≤ 0) := fun xs => by
      induction xs with
      | nil =>
        intro seen o _ _ _ ho _ p hp
        have := ho p hp
        exact ⟨this.1, fun y r hy => this.2.2 y r (by simpa using hy)⟩
      | cons x xs ih =>
        intro seen o hx hs hp ho hn p hf
        rw [List.foldl_cons] at hf
        have hxn := hx x (List.mem_cons_self ..)
        have e1 : seen ++ (x :: xs) = (seen ++ [x]) ++ xs := by simp
        rw [e1]
        have hs2 : ∀ a ∈ seen ++ [x], ∀ b ∈ xs, a < b := fun a ha b hb => by
          rcases List.mem_append.1 ha with ha | ha
          · exact hs a ha b (List.mem_cons_of_mem _ hb)
          · rw [List.mem_singleton] at ha; subst ha; exact (List.pairwise_cons.1 hp).1 b hb
        refine ih (seen ++ [x]) _ (fun y hy => hx y (List.mem_cons_of_mem _ hy)) hs2 (List.pairwise_cons.1 hp).2 ?_ ?_ p hf
        · intro q hq
          unfold bstep at hq
          cases hb : bestR g k (s ++ [x]) with
          | none =>
            simp only [hb] at hq
            obtain ⟨h1, ⟨a, r0, h2, h3⟩, h4⟩ := ho q hq
            refine ⟨h1, ⟨a, r0, h2, List.mem_append_left _ h3⟩, fun y r hy hr hw => ?_⟩
            rcases List.mem_append.1 hy with hy | hy
            · exact h4 y r hy hr hw
            · rw [List.mem_singleton] at hy; subst hy
              obtain ⟨r1, h5, _⟩ := fst_least (g := g) k (s ++ [y]) r hr hw.2
              have h6 := (cnt_fst (g := g) k (s ++ [y])).1 ((cnt_best k (s ++ [y])).2 hb)
              rw [h6] at h5; cases h5
          | some pr =>
            obtain ⟨t1, w1⟩ := pr
            simp only [hb] at hq
            obtain ⟨⟨b1, b2, b3⟩, b4⟩ := best_is (g := g) k (s ++ [x]) t1 w1 hb
            have hnew : ((x :: t1).length = k + 1 ∧ Way g s (x :: t1) ∧ wayW g s (x :: t1) = w1 + wrt g (s ++ [x]) s.length) ∧ ∀ r, r.length = k → Way g s (x :: r) → wayW g s (x :: r) < w1 + wrt g (s ++ [x]) s.length ∨ (wayW g s (x :: r) = w1 + wrt g (s ++ [x]) s.length ∧ cmpL (x :: t1) (x :: r) ≤ 0) := by
              refine ⟨⟨by simp [b1], ⟨hxn, b2⟩, by rw [wayW_cons, b3]; omega⟩, fun r hr hw => ?_⟩
              rw [wayW_cons]
              rcases b4 r hr hw.2 with h7 | ⟨h7, h8⟩
              · exact .inl (by omega)
              · refine .inr ⟨by omega, ?_⟩
                show (if x < x then -1 else if x > x then 1 else cmpL t1 r) ≤ 0
                rw [if_neg (by omega), if_neg (by omega)]; exact h8
            cases o with
            | none =>
              simp only [Option.some.injEq] at hq
              subst hq
              refine ⟨hnew.1, ⟨x, t1, rfl, by simp⟩, fun y r hy hr hw => ?_⟩
              rcases List.mem_append.1 hy with hy | hy
              · exact absurd hw (hn rfl y r hy hr)
              · rw [List.mem_singleton] at hy; subst hy; exact hnew.2 r hr hw
            | some q0 =>
              obtain ⟨h1, ⟨a, r0, h2, h3⟩, h4⟩ := ho q0 rfl
              simp only at hq
              split at hq
              · rename_i hgt
                simp only [Option.some.injEq] at hq
                subst hq
                refine ⟨hnew.1, ⟨x, t1, rfl, by simp⟩, fun y r hy hr hw => ?_⟩
                rcases List.mem_append.1 hy with hy | hy
                · simp only
                  rcases h4 y r hy hr hw with h5 | ⟨h5, _⟩
                  · exact .inl (by omega)
                  · exact .inl (by omega)
                · rw [List.mem_singleton] at hy; subst hy; exact hnew.2 r hr hw
              · rename_i hle
                simp only [Option.some.injEq] at hq
                subst hq
                refine ⟨h1, ⟨a, r0, h2, List.mem_append_left _ h3⟩, fun y r hy hr hw => ?_⟩
                rcases List.mem_append.1 hy with hy | hy
                · exact h4 y r hy hr hw
                · rw [List.mem_singleton] at hy; subst hy
                  have hax := hs a h3 y (List.mem_cons_self ..)
                  have hc : cmpL q0.1 (y :: r) ≤ 0 := by
                    rw [h2]
                    show (if a < y then -1 else if a > y then 1 else cmpL r0 r) ≤ 0
                    rw [if_pos hax]; decide
                  rcases hnew.2 r hr hw with h5 | ⟨h5, _⟩
                  · rcases Int.lt_or_le (wayW g s (y :: r)) q0.2 with h6 | h6
                    · exact .inl h6
                    · omega
                  · rcases Int.lt_or_le (wayW g s (y :: r)) q0.2 with h6 | h6
                    · exact .inl h6
                    · exact .inr ⟨by omega, hc⟩
        · intro hq y r hy hr hw
          have h9 := (bstep_none (h := fun x => bestR g k (s ++ [x])) (wr := fun x => wrt g (s ++ [x]) s.length) [x] o).1 (by simpa using hq)
          rcases List.mem_append.1 hy with hy | hy
          · exact hn h9.1 y r hy hr hw
          · rw [List.mem_singleton] at hy; subst hy
            obtain ⟨r1, h5, _⟩ := fst_least (g := g) k (s ++ [y]) r hr hw.2
            have h6 := (cnt_fst (g := g) k (s ++ [y])).1 ((cnt_best k (s ++ [y])).2 (h9.2 y (by simp)))
            rw [h6] at h5; cases h5
    have h1 := key (nxL g s) [] none (fun x hx => hx) (fun a ha => by cases ha) (nxL_sorted g s) (fun p hp => by cases hp) (fun _ y r hy => by cases hy) (t, w) h
    refine ⟨h1.1, fun r hr hw => ?_⟩
    cases r with
    | nil => simp at hr
    | cons y r => exact h1.2 y r (by simpa using hw.1) (by simpa using hr) hw
/-! ### whole parts -/
theorem right_way {g s : List Int} (hp : pairB g s = true) (hz : (frs g s).2 = 0) : Way g [] s := by
  obtain ⟨_, hsn, hl⟩ := pair_facts hp
  exact way_of s [] hsn fun j _ h => by simpa using frs_zero.1 hz j (by simpa using h)
theorem way_right {g t : List Int} (hg : partB g = true) (hl : t.length = g.length) (hw : Way g [] t) : pairB g t = true ∧ (frs g t).2 = 0 := by
  have h := of_way t [] (by intro j hj; cases hj) (by intro x hx; cases hx) hw
  simp only [List.nil_append] at h
  have hgl := (partB_true.1 hg).1
  refine ⟨?_, frs_zero.2 h.1⟩
  unfold pairB
  rw [hg, partB_true.2 ⟨⟨by omega, by omega⟩, h.2⟩, decide_eq_true hl.symm]; rfl
theorem fst_right {g t : List Int} (hg : partB g = true) (h : fstR g g.length [] = some t) : pairB g t = true ∧ (frs g t).2 = 0 ∧ t.length = g.length := by
  obtain ⟨r, e, hl, hw⟩ := fst_way _ _ _ h
  simp only [List.nil_append] at e
  subst e
  have := way_right hg hl hw
  exact ⟨this.1, this.2, hl⟩
theorem wayW_nil {g t : List Int} : wayW g [] t = wsum g t t.length := by unfold wayW; simp [wsum]
theorem best_right {g t : List Int} {w : Int} (hg : partB g = true) (h : bestR g g.length [] = some (t, w)) : pairB g t = true ∧ (frs g t).2 = 0 ∧ t.length = g.length ∧ wsum g t t.length = w := by
  obtain ⟨⟨hl, hw, he⟩, _⟩ := best_is _ _ _ _ h
  have := way_right hg hl hw
  exact ⟨this.1, this.2, hl, by rw [← wayW_nil]; exact he⟩
theorem best_max {g t s : List Int} {w : Int} (h : bestR g g.length [] = some (t, w)) (hp : pairB g s = true) (hz : (frs g s).2 = 0) : wsum g s s.length < w ∨ (wsum g s s.length = w ∧ cmpL t s ≤ 0) := by
  have := (best_is _ _ _ _ h).2 s (pair_facts hp).2.2.symm (right_way hp hz)
  rw [wayW_nil] at this; exact this
theorem fst_before {g t s : List Int} (h : fstR g g.length [] = some t) (hp : pairB g s = true) (hz : (frs g s).2 = 0) : cmpL t s ≤ 0 := by
  obtain ⟨r, h1, h2⟩ := fst_least (g := g) g.length [] s (pair_facts hp).2.2.symm (right_way hp hz)
  rw [h1] at h
  simp only [List.nil_append, Option.some.injEq] at h
  subst h; exact h2
theorem none_right {g s : List Int} (h : fstR g g.length [] = none) (hp : pairB g s = true) : ¬ (frs g s).2 = 0 := fun hz => by
  obtain ⟨r, h1, h2⟩ := fst_least (g := g) g.length [] s (pair_facts hp).2.2.symm (right_way hp hz)
  rw [h1] at h; cases h
theorem fst_best {g : List Int} : fstR g g.length [] = none ↔ bestR g g.length [] = none := (cnt_fst _ _).symm.trans (cnt_best _ _)
end Go.Proofs.Ytolalckejnijkaa
