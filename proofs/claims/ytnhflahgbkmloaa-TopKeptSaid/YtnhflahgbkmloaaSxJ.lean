/- Rows handed on whole: an empty literal, a row appended to a row, a row cut, a row held against nil; in the words of Sx. -/
import Derived.Test.YtnhflahgbkmloaaSxI
import Derived.Laws.Slices
namespace Go.Sx
open Go.RowKit
set_option linter.unusedVariables false
set_option linter.unusedSimpArgs false

section
variable {N : Nat} {ds : List Deferred} {l : List (Nat × Value)} {w0 w1 : World} {m : List (Nat × Obj)} {P : Program} {ro : Option Nat} {ops : Array Oper} {Q : Exit → Act → World → Prop} {rest : List Oper} {C : World → Prop} {X : Act → World → Prop}
variable {dst : Option Tmp} {ty : TypeId} {pos : String} {aft : Array Edge} {gd : Option (Nat × Bool)}
variable {α : Type} {enc : α → Value} {xs ys : List α}

/-- A slice that reads as xs as long as the blocks m lie as told. -/
def OwnV (enc : α → Value) (v : Value) (xs : List α) (m : List (Nat × Obj)) : Prop := (∃ A c, v = .slice A xs.length c) ∧ ∀ W : World, (∀ p ∈ m, W.heap[p.1]? = some p.2) → RdV enc W v xs
theorem RdV.nil {w : World} : RdV enc w (.slice none 0 0) [] := ⟨none, 0, rfl, Nat.le_refl _, fun j x hj => by simp at hj⟩
theorem OwnV.nil : OwnV enc (.slice none 0 0) [] [] := ⟨⟨none, 0, rfl⟩, fun _ _ => RdV.nil⟩
theorem OwnV.blk {b n c : Nat} {t fr} {jk : List Value} (hn : n = xs.length) (hc : n ≤ c) : OwnV enc (.slice (some ⟨b, 0, none⟩) n c) xs [(b, .cells (xs.map enc ++ jk).toArray t fr)] :=
  ⟨⟨_, c, by rw [hn]⟩, fun W h => RdV.own (h _ (List.mem_cons_self ..)) hn hc⟩
theorem OwnV.sv {sv : SV} {e : TypeId} {n : Nat} (hok : sv.ok 1 n (xs.map enc)) : OwnV enc (sv.val n) xs (sv.mem e (xs.map enc)) := by
  refine ⟨?_, fun W h => RdV.sv hok h⟩
  have hn : n = xs.length := by
    cases sv with
    | nil => obtain ⟨h1, h2⟩ := hok; have : xs = [] := by simpa using h2
             subst this; exact h1
    | own b cap jk => obtain ⟨_, _, h3, _⟩ := hok; simpa using h3.symm
  obtain ⟨c, hc⟩ := sv_slice hok
  exact ⟨_, c, by rw [hc, ← hn]⟩
theorem OwnV.rd {v : Value} {mm : List (Nat × Obj)} (h : OwnV enc v xs mm) {w : World} (hm : ∀ p ∈ mm, w.heap[p.1]? = some p.2) : RdV enc w v xs := h.2 w hm
theorem OwnV.cells1 {v : Value} {mm : List (Nat × Obj)} (h : OwnV enc v xs mm) : v.cells = [v].toArray := by
  obtain ⟨⟨A, c, rfl⟩, _⟩ := h; rfl
theorem OwnV.one {v : Value} {mm : List (Nat × Obj)} (h : OwnV enc v xs mm) : v.oneCell' = true := by
  obtain ⟨⟨A, c, rfl⟩, _⟩ := h; rfl
/-- An element's address, the row's reading told for the worlds to come. -/
theorem y_idxO {x y v k i t e mm} (hx : ev l x = some v) (hy : ev l y = some (.int k i)) (ho : OwnV enc v xs mm) (hmm : ∃ W : World, ∀ p ∈ mm, W.heap[p.1]? = some p.2) (ht : P.underlying t = some (.slice e)) (hsz : (P.info? e).map (·.size) = some 1) (h0 : 0 ≤ i) (h1 : i < xs.length) :
    Yv P N ds l C ⟨dst, .indexAddr t x y, ty, pos, aft, gd⟩ (.pointer (some (elemA (adrOf v) i.toNat))) := by
  obtain ⟨W, hW⟩ := hmm
  exact y_idxV hx hy (ho.2 W hW) ht hsz h0 h1

theorem run_build0 {t e : TypeId} {ie : TypeInfo} (hu : P.underlying t = some (.slice e)) (hie : P.info? e = some ie) (w : World) : (Instr.buildSlice t 0 #[]).run P w = .ok (.slice (some ⟨w.heap.size, 0, none⟩) 0 0) (w.alloc (.cells #[] e (0, 0))) := by
  have hf : Instr.fill (fun i => some (i * ie.size, ie.size)) (Array.map (fun _ => (default : Value)) (Array.range 0)) [] = some #[] := by
    rw [show Array.range 0 = (#[] : Array Nat) from rfl, Array.map_empty]; rfl
  simp [Instr.buildSlice, run_underlying hu, sizeOf, typeInfo, hie, newRow, hf]
theorem t_build0 {t e : TypeId} {ie : TypeInfo} (hu : P.underlying t = some (.slice e)) (hie : P.info? e = some ie) :
    Tr (ι := Nat) P ro N ds l w0 w1 m ⟨dst, .buildSlice t 0 [].toArray, ty, pos, aft, gd⟩ (New w0 w1) (fun b => .slice (some ⟨b, 0, none⟩) 0 0) (fun _ => w1) (fun b => (b, .cells (List.map enc [] ++ []).toArray e (0, 0)) :: m) := fun a w ha hw => by
  have h1 := ok_value (run_build0 (P := P) hu hie w)
  refine .inl ⟨.slice (some ⟨w.heap.size, 0, none⟩) 0 0, w.alloc (.cells #[] e (0, 0)), ?_, w.heap.size, ⟨hw.below.size, hw.size⟩, rfl, hw.alloc (o := .cells #[] e (0, 0)) rfl⟩
  show Sem.run P (do pure (Next.value (← Instr.buildSlice t 0 (([] : List (Nat × Operand)).toArray.map fun (i, x) => (i, a.eval x))))) w = _
  rw [List.map_toArray, List.map_nil]; exact h1
theorem run_append_empty {t e : TypeId} {sv : SV} {n c : Nat} {xs : List Value} {A : Option Addr} {ie : TypeInfo} (hok : sv.ok 1 n xs) (hu : P.underlying t = some (.slice e)) (hie : P.info? e = some ie) (w : World) :
    (Builtin.append_ #[t, t] ty #[sv.val n, .slice A 0 c]).run P w = .ok (sv.val n) w := by
  have hf : (Builtin.firstCells ie.size 0 (.slice A 0 c)).run P w = .ok #[] w := by
    cases A with
    | none => simpa using run_firstCells_none (P := P) w ie.size 0 0 c
    | some a => simpa using run_firstCells_some (P := P) w ie.size 0 a 0 c [] (by simp) (fun j v h => by simp at h)
  cases sv with
  | nil =>
    obtain ⟨rfl, _⟩ := hok
    simp [SV.val, Builtin.append_, run_underlying hu, sizeOf, typeInfo, hie, Builtin.lenOf, hf]
  | own b cap jk =>
    obtain ⟨h1, _⟩ := hok
    simp [SV.val, Builtin.append_, run_underlying hu, sizeOf, typeInfo, hie, Builtin.lenOf, hf, h1, storeCells]
/-- A row appended to a row of the call's own. -/
theorem t_appendR {t e : TypeId} {s x : Operand} {sv : SV} {n bytes : Nat} {v : Value} {ie : TypeInfo} {z : Value} (pre post : List (Nat × Obj)) (hs : ev l s = some (sv.val n)) (hx : ev l x = some v) (hm : m = pre ++ (sv.mem e (xs.map enc) ++ post)) (hok : sv.ok 1 n (xs.map enc))
    (hu : P.underlying t = some (.slice e)) (hie : P.info? e = some ie) (hz : ie.zero = some z) (hsz : ie.size = 1) (hby : ie.bytes = bytes) (hzs : z.cells.size = 1)
    (hnew : ∀ w, Hp w0 w1 m w → RdV enc w v ys) (h1 : ∀ y : α, (enc y).oneCell' = true) (hn : (n + ys.length) * bytes ≤ 140737488355328) (h63 : n + ys.length ≤ maxLen) :
    Tr (ι := SV × List (Nat × Obj)) P ro N ds l w0 w1 m ⟨dst, .call ⟨.builtin .append, #[s, x], #[t, t]⟩, ty, pos, aft, gd⟩ (fun y => y.1.ok 1 (n + ys.length) ((xs ++ ys).map enc)) (fun y => y.1.val (n + ys.length)) (fun _ => w1) (fun y => pre ++ (y.1.mem e ((xs ++ ys).map enc) ++ (y.2 ++ post))) := fun a w ha hw => by
  obtain ⟨A, c, rfl, hc, hrd⟩ := hnew w hw
  by_cases h0 : ys = []
  · subst h0
    refine .inl ⟨sv.val n, w, ?_, (sv, []), by simpa using hok, rfl, ?_⟩
    · simp only [execOp, resolve, List.map_toArray, List.map_cons, List.map_nil, ha.eval hs, ha.eval hx]
      exact ok_value (run_append_empty hok hu hie w)
    · subst hm
      simpa using hw
  · have hk : 0 < ys.length := by
      cases ys with
      | nil => exact absurd rfl h0
      | cons y ys => simp
    obtain ⟨ad, rfl⟩ : ∃ ad, A = some ad := by
      obtain ⟨ad, ha, _⟩ := hrd 0 ys[0] (List.getElem?_eq_getElem hk)
      exact ⟨ad, ha⟩
    have hx' : ev l x = some (.slice (some ad) ys.length c) := hx
    have hG : Tr (ι := SV × List (Nat × Obj)) P ro N ds l w w m ⟨dst, .call ⟨.builtin .append, #[s, x], #[t, t]⟩, ty, pos, aft, gd⟩ _ _ _ _ :=
      t_append (P := P) (ro := ro) (N := N) (ds := ds) (l := l) (w0 := w) (w1 := w) (m := m) (dst := dst) (ty := ty) (pos := pos) (aft := aft) (gd := gd) (news := ys.map enc) pre post hs hx' hm hok hu hie hz hsz hby hzs (by decide)
        (fun w' h' j u hj => by
          rw [List.getElem?_map] at hj
          cases hy : ys[j]? with
          | none => simp [hy] at hj
          | some y =>
            simp [hy] at hj; subst hj
            obtain ⟨ad', e1, h2⟩ := hrd j y hy
            cases e1
            exact cell_below h'.below h2) (by simp) (by simpa using fun y _ => h1 y) hk hn h63
    have := t_append (P := P) (ro := ro) (N := N) (ds := ds) (l := l) (w0 := w0) (w1 := w1) (m := m) (dst := dst) (ty := ty) (pos := pos) (aft := aft) (gd := gd) (news := ys.map enc) pre post hs hx' hm hok hu hie hz hsz hby hzs (by decide)
        (fun w' h' j u hj => by
          rw [List.getElem?_map] at hj
          cases hy : ys[j]? with
          | none => simp [hy] at hj
          | some y =>
            simp [hy] at hj; subst hj
            obtain ⟨A', c', e0, _, hrd'⟩ := hnew w' h'
            obtain ⟨ad', e1, h2⟩ := hrd' j y hy
            simp only [Value.slice.injEq] at e0
            rw [← e0.1] at e1
            cases e1
            exact h2) (by simp) (by simpa using fun y _ => h1 y) hk hn h63
    have h2 := this a w ha hw
    simp only [List.map_append]
    exact h2.mono fun v' w' ⟨y, hy, hv, hh⟩ => ⟨y, hy.1, hv, hh⟩

/-! ### cuts -/
theorem add_add (ad : Addr) (i j : Nat) : (ad.add i).add j = ad.add (i + j) := by
  unfold Addr.add
  by_cases h1 : i = 0 <;> by_cases h2 : j = 0 <;> simp [h1, h2, Nat.add_assoc]
theorem RdL.drop {w : World} {A : Option Addr} (h : RdL enc w A xs) (i : Nat) : RdL enc w (A.map (·.add i)) (xs.drop i) := fun j x hj => by
  rw [List.getElem?_drop] at hj
  obtain ⟨ad, rfl, hc⟩ := h (i + j) x hj
  exact ⟨ad.add i, rfl, by rw [add_add]; exact hc⟩
theorem RdL.cut {w : World} {A : Option Addr} (h : RdL enc w A xs) (i n : Nat) : RdL enc w (A.map (·.add i)) ((xs.take n).drop i) := (h.take n).drop i
/-- x[lo:hi] within the row. -/
theorem run_cut {t e : TypeId} {ie : TypeInfo} {v : Value} {w : World} (hv : RdV enc w v xs) (hu : P.underlying t = some (.slice e)) (hie : P.info? e = some ie) (hsz : ie.size = 1) (lo hi : Nat) (h1 : lo ≤ hi) (h2 : hi ≤ xs.length) :
    ∃ v', (∀ W : World, (Instr.slice t v (some (.int .i64 lo)) (some (.int .i64 hi)) none).run P W = .ok v' W) ∧ ∀ W : World, RdV enc W v xs → RdV enc W v' ((xs.take hi).drop lo) := by
  obtain ⟨A, c, rfl, hc, hr⟩ := hv
  have hel : P.elem t = e := by simp [Program.elem, hu]
  have hu' : P.underlying t = some (.slice (P.elem t)) := by rw [hel]; exact hu
  refine ⟨.slice (if c = lo then A else A.map (·.add lo)) (hi - lo) (c - lo), fun W => ?_, ?_⟩
  · rw [run_slice_lh W t A xs.length c hu' .i64 .i64 (lo : Int) (hi : Int) (by omega) (by omega) (by omega), hel]
    simp [sizeOf, typeInfo, hie, hsz, sliced, Result.andThen]
  · rintro W ⟨A', c', e0, _, hr'⟩
    simp only [Value.slice.injEq, true_and] at e0
    obtain ⟨rfl, rfl⟩ := e0
    have hl : ((xs.take hi).drop lo).length = hi - lo := by simp; omega
    refine ⟨_, _, by rw [hl], by rw [hl]; omega, ?_⟩
    split
    · rename_i h
      have : (xs.take hi).drop lo = [] := List.drop_eq_nil_of_le (by simp; omega)
      rw [this]; intro j x hj; simp at hj
    · exact hr'.cut lo hi
theorem run_cut_hi {t e : TypeId} {ie : TypeInfo} {v : Value} {w : World} (hv : RdV enc w v xs) (hu : P.underlying t = some (.slice e)) (hie : P.info? e = some ie) (hsz : ie.size = 1) (hi : Nat) (h2 : hi ≤ xs.length) :
    ∃ v', (∀ W : World, (Instr.slice t v none (some (.int .i64 hi)) none).run P W = .ok v' W) ∧ ∀ W : World, RdV enc W v xs → RdV enc W v' (xs.take hi) := by
  obtain ⟨A, c, rfl, hc, hr⟩ := hv
  have hel : P.elem t = e := by simp [Program.elem, hu]
  have hu' : P.underlying t = some (.slice (P.elem t)) := by rw [hel]; exact hu
  refine ⟨.slice (if c = 0 then A else A.map (·.add 0)) (hi - 0) (c - 0), fun W => ?_, ?_⟩
  · rw [run_slice_h W t A xs.length c hu' .i64 (hi : Int) (by omega) (by omega), hel]
    simp [sizeOf, typeInfo, hie, hsz, sliced, Result.andThen]
  · rintro W ⟨A', c', e0, _, hr'⟩
    simp only [Value.slice.injEq, true_and] at e0
    obtain ⟨rfl, rfl⟩ := e0
    have hl : (xs.take hi).length = hi := by simp; omega
    refine ⟨_, _, by rw [hl]; rfl, by rw [hl]; omega, ?_⟩
    split
    · rename_i h
      have : xs.take hi = [] := by rw [show hi = 0 by omega]; rfl
      rw [this]; intro j x hj; simp at hj
    · have := hr'.cut 0 hi; simpa using this
theorem run_cut_lo {t e : TypeId} {ie : TypeInfo} {v : Value} {w : World} (hv : RdV enc w v xs) (hu : P.underlying t = some (.slice e)) (hie : P.info? e = some ie) (hsz : ie.size = 1) (lo : Nat) (h1 : lo ≤ xs.length) :
    ∃ v', (∀ W : World, (Instr.slice t v (some (.int .i64 lo)) none none).run P W = .ok v' W) ∧ ∀ W : World, RdV enc W v xs → RdV enc W v' (xs.drop lo) := by
  obtain ⟨A, c, rfl, hc, hr⟩ := hv
  have hel : P.elem t = e := by simp [Program.elem, hu]
  have hu' : P.underlying t = some (.slice (P.elem t)) := by rw [hel]; exact hu
  refine ⟨.slice (if c = lo then A else A.map (·.add lo)) (xs.length - lo) (c - lo), fun W => ?_, ?_⟩
  · rw [run_slice_l W t A xs.length c hu' .i64 (lo : Int) (by omega) (by omega), hel]
    simp [sizeOf, typeInfo, hie, hsz, sliced, Result.andThen]
  · rintro W ⟨A', c', e0, _, hr'⟩
    simp only [Value.slice.injEq, true_and] at e0
    obtain ⟨rfl, rfl⟩ := e0
    refine ⟨_, _, by rw [List.length_drop], by rw [List.length_drop]; omega, ?_⟩
    split
    · rename_i h
      have : xs.drop lo = [] := List.drop_eq_nil_of_le (by omega)
      rw [this]; intro j x hj; simp at hj
    · exact hr'.drop lo
theorem y_slice {x v t v'} {lo hi : Option Operand} {lv hv : Option Value} (hx : ev l x = some v) (hlo : ∀ a : Act, Has N ds l a → lo.map a.eval = lv) (hhi : ∀ a : Act, Has N ds l a → hi.map a.eval = hv) (hr : ∀ W : World, (Instr.slice t v lv hv none).run P W = .ok v' W) (hu : P.underlying t = some (.slice (P.elem t))) :
    Yv P N ds l C ⟨dst, .slice t x lo hi none, ty, pos, aft, gd⟩ v' := fun a w ha _ => by
  show Sem.run P (do pure (Next.value (← Instr.sliceAt t (a.eval x) (lo.map a.eval) (hi.map a.eval) none))) w = _
  rw [ha.eval hx, hlo a ha, hhi a ha]
  refine ok_value ?_
  rw [run_sliceAt_slice w t v lv hv none hu]
  exact hr w
theorem some_ev {x : Operand} {v : Value} (hx : ev l x = some v) (a : Act) (ha : Has N ds l a) : (some x).map a.eval = some v := by
  show some (a.eval x) = _
  rw [ha.eval hx]
theorem none_ev (a : Act) (ha : Has N ds l a) : (none : Option Operand).map a.eval = none := rfl
/-- Held against nil. -/
theorem y_eqnil {x y A n c t t'} (hx : ev l x = some (.slice A n c)) (hy : ev l y = some (.slice none 0 0)) (hu : P.underlying t = some (.slice (P.elem t))) (hg : ∀ w, (eqGuard .eql t x y (.slice A n c) (.slice none 0 0)).run P w = .ok () w) : Yv P N ds l C ⟨dst, .binOp .eql t x y t', ty, pos, aft, gd⟩ (.bool A.isNone) :=
  y_bin hx hy hg fun w => by
    have h : (Op.equal t (.slice A n c) (.slice none 0 0)).run P w = .ok A.isNone w := by
      unfold Op.equal Op.maxDepth
      rw [show (10000 : Nat) = 9999 + 1 from rfl]
      unfold Op.equalIn
      cases A <;> simp [run_underlying hu]
    show Sem.run P (do pure (Value.bool (← Op.equal t (.slice A n c) (.slice none 0 0)))) w = _
    rw [Sem.run_bind, h]; rfl
theorem fill_one {v : Value} {g : Nat → Value} (hv : v.cells = [v].toArray) : Instr.fill (fun i => some (i * 1, 1)) ((Array.range (1 * 1)).map g) [(0, v)] = some [v].toArray := by
  have e : (Array.range (1 * 1)).map g = [g 0].toArray := by apply Array.ext' ; simp [List.range_succ]
  rw [e]
  simp only [Instr.fill]
  rw [hv]
  rfl
theorem fill_two {v v' : Value} {g : Nat → Value} (hv : v.cells = [v].toArray) (hv' : v'.cells = [v'].toArray) : Instr.fill (fun i => some (i * 1, 1)) ((Array.range (2 * 1)).map g) [(0, v), (1, v')] = some [v, v'].toArray := by
  have e : (Array.range (2 * 1)).map g = [g 0, g 1].toArray := by apply Array.ext'; simp [List.range_succ]
  rw [e]
  simp only [Instr.fill]
  rw [hv, hv']
  rfl
/-! ### comparisons whose answer is known -/
theorem y_eql_t {x y k i j t t'} (hx : ev l x = some (.int k i)) (hy : ev l y = some (.int k j)) (h : i = j) : Yv P N ds l C ⟨dst, .binOp .eql t x y t', ty, pos, aft, gd⟩ (.bool true) := by
  have := y_eql (C := C) (N := N) (P := P) (ds := ds) (dst := dst) (ty := ty) (pos := pos) (aft := aft) (gd := gd) (t := t) (t' := t') hx hy
  simpa [h] using this
theorem y_eql_f {x y k i j t t'} (hx : ev l x = some (.int k i)) (hy : ev l y = some (.int k j)) (h : i ≠ j) : Yv P N ds l C ⟨dst, .binOp .eql t x y t', ty, pos, aft, gd⟩ (.bool false) := by
  have := y_eql (C := C) (N := N) (P := P) (ds := ds) (dst := dst) (ty := ty) (pos := pos) (aft := aft) (gd := gd) (t := t) (t' := t') hx hy
  simpa [h] using this
theorem y_neq_t {x y k i j t t'} (hx : ev l x = some (.int k i)) (hy : ev l y = some (.int k j)) (h : i ≠ j) : Yv P N ds l C ⟨dst, .binOp .neq t x y t', ty, pos, aft, gd⟩ (.bool true) := by
  have := y_neq (C := C) (N := N) (P := P) (ds := ds) (dst := dst) (ty := ty) (pos := pos) (aft := aft) (gd := gd) (t := t) (t' := t') hx hy
  simpa [h] using this
theorem y_neq_f {x y k i j t t'} (hx : ev l x = some (.int k i)) (hy : ev l y = some (.int k j)) (h : i = j) : Yv P N ds l C ⟨dst, .binOp .neq t x y t', ty, pos, aft, gd⟩ (.bool false) := by
  have := y_neq (C := C) (N := N) (P := P) (ds := ds) (dst := dst) (ty := ty) (pos := pos) (aft := aft) (gd := gd) (t := t) (t' := t') hx hy
  simpa [h] using this
theorem y_lss_t {x y k i j t t'} (hx : ev l x = some (.int k i)) (hy : ev l y = some (.int k j)) (h : i < j) : Yv P N ds l C ⟨dst, .binOp .lss t x y t', ty, pos, aft, gd⟩ (.bool true) := by
  have := y_lss (C := C) (N := N) (P := P) (ds := ds) (dst := dst) (ty := ty) (pos := pos) (aft := aft) (gd := gd) (t := t) (t' := t') hx hy
  simpa [h] using this
theorem y_lss_f {x y k i j t t'} (hx : ev l x = some (.int k i)) (hy : ev l y = some (.int k j)) (h : ¬ i < j) : Yv P N ds l C ⟨dst, .binOp .lss t x y t', ty, pos, aft, gd⟩ (.bool false) := by
  have := y_lss (C := C) (N := N) (P := P) (ds := ds) (dst := dst) (ty := ty) (pos := pos) (aft := aft) (gd := gd) (t := t) (t' := t') hx hy
  simpa [h] using this
theorem y_leq_t {x y k i j t t'} (hx : ev l x = some (.int k i)) (hy : ev l y = some (.int k j)) (h : i ≤ j) : Yv P N ds l C ⟨dst, .binOp .leq t x y t', ty, pos, aft, gd⟩ (.bool true) := by
  have := y_leq (C := C) (N := N) (P := P) (ds := ds) (dst := dst) (ty := ty) (pos := pos) (aft := aft) (gd := gd) (t := t) (t' := t') hx hy
  simpa [h] using this
theorem y_leq_f {x y k i j t t'} (hx : ev l x = some (.int k i)) (hy : ev l y = some (.int k j)) (h : ¬ i ≤ j) : Yv P N ds l C ⟨dst, .binOp .leq t x y t', ty, pos, aft, gd⟩ (.bool false) := by
  have := y_leq (C := C) (N := N) (P := P) (ds := ds) (dst := dst) (ty := ty) (pos := pos) (aft := aft) (gd := gd) (t := t) (t' := t') hx hy
  simpa [h] using this
theorem y_gtr_t {x y k i j t t'} (hx : ev l x = some (.int k i)) (hy : ev l y = some (.int k j)) (h : i > j) : Yv P N ds l C ⟨dst, .binOp .gtr t x y t', ty, pos, aft, gd⟩ (.bool true) := by
  have := y_gtr (C := C) (N := N) (P := P) (ds := ds) (dst := dst) (ty := ty) (pos := pos) (aft := aft) (gd := gd) (t := t) (t' := t') hx hy
  simpa [h] using this
theorem y_gtr_f {x y k i j t t'} (hx : ev l x = some (.int k i)) (hy : ev l y = some (.int k j)) (h : ¬ i > j) : Yv P N ds l C ⟨dst, .binOp .gtr t x y t', ty, pos, aft, gd⟩ (.bool false) := by
  have := y_gtr (C := C) (N := N) (P := P) (ds := ds) (dst := dst) (ty := ty) (pos := pos) (aft := aft) (gd := gd) (t := t) (t' := t') hx hy
  simpa [h] using this
theorem y_geq_t {x y k i j t t'} (hx : ev l x = some (.int k i)) (hy : ev l y = some (.int k j)) (h : i ≥ j) : Yv P N ds l C ⟨dst, .binOp .geq t x y t', ty, pos, aft, gd⟩ (.bool true) := by
  have := y_geq (C := C) (N := N) (P := P) (ds := ds) (dst := dst) (ty := ty) (pos := pos) (aft := aft) (gd := gd) (t := t) (t' := t') hx hy
  simpa [h] using this
theorem y_geq_f {x y k i j t t'} (hx : ev l x = some (.int k i)) (hy : ev l y = some (.int k j)) (h : ¬ i ≥ j) : Yv P N ds l C ⟨dst, .binOp .geq t x y t', ty, pos, aft, gd⟩ (.bool false) := by
  have := y_geq (C := C) (N := N) (P := P) (ds := ds) (dst := dst) (ty := ty) (pos := pos) (aft := aft) (gd := gd) (t := t) (t' := t') hx hy
  simpa [h] using this
theorem rdI_ext {xs ys : List Int} (hl : xs.length = ys.length) (h : ∀ j : Nat, j < xs.length → rdI xs (j : Int) = rdI ys (j : Int)) : xs = ys := by
  apply List.ext_getElem hl
  intro j h1 h2
  have := h j h1
  simpa [rdI_nat, List.getD_eq_getElem?_getD, h1, h2] using this
theorem y_remt {x y i j t t'} (hx : ev l x = some (.int .i64 i)) (hy : ev l y = some (.int .i64 j)) (h2 : 1 ≤ j) : Yv P N ds l C ⟨dst, .binOp .rem t x y t', ty, pos, aft, gd⟩ (.int .i64 (Int.tmod i j)) :=
  y_bin hx hy guard_int fun w => by
    have hj : j ≠ 0 := by omega
    simp [binOp, Op.intDiv, hj]
theorem rdI_set {xs : List Int} {i j : Nat} {v : Int} (hi : i < xs.length) : rdI (xs.set (i : Int).toNat v) (j : Int) = if i = j then v else rdI xs (j : Int) := by
  rw [rdI_nat, rdI_nat, Int.toNat_natCast, List.getD_eq_getElem?_getD, List.getD_eq_getElem?_getD, List.getElem?_set]
  by_cases c : i = j
  · subst c; simp [hi]
  · simp [c]
theorem rdI_setI {xs : List Int} {i : Int} {j : Nat} {v : Int} (h0 : 0 ≤ i) (hi : i < xs.length) : rdI (xs.set i.toNat v) (j : Int) = if i = j then v else rdI xs (j : Int) := by
  obtain ⟨k, rfl⟩ := Int.eq_ofNat_of_zero_le h0
  rw [rdI_set (by omega)]
  by_cases c : k = j
  · subst c; simp
  · rw [if_neg c, if_neg (by omega)]
theorem rdI_map {f : Nat → Int} {n k : Nat} (h : k < n) : rdI ((List.range n).map f) (k : Int) = f k := by
  simp [rdI, List.getD_eq_getElem?_getD, h]
theorem rdI_replicate {n : Nat} {k : Int} : rdI (List.replicate n 0) k = 0 := by
  simp [rdI, List.getD_eq_getElem?_getD, List.getElem?_replicate]
  split <;> rfl
theorem eq_map {xs : List Int} {n : Nat} {f : Nat → Int} (hl : xs.length = n) (h : ∀ j : Nat, j < n → rdI xs (j : Int) = f j) : xs = (List.range n).map f :=
  rdI_ext (by simpa using hl) fun j hj => by rw [h j (by omega), rdI_map (by omega)]
theorem t_appendR0 {t e : TypeId} {s x : Operand} {sv : SV} {n bytes : Nat} {v : Value} {ie : TypeInfo} {z : Value} (post : List (Nat × Obj)) (hs : ev l s = some (sv.val n)) (hx : ev l x = some v) (hm : m = sv.mem e (xs.map enc) ++ post) (hok : sv.ok 1 n (xs.map enc))
    (hu : P.underlying t = some (.slice e)) (hie : P.info? e = some ie) (hz : ie.zero = some z) (hsz : ie.size = 1) (hby : ie.bytes = bytes) (hzs : z.cells.size = 1)
    (hnew : ∀ w, Hp w0 w1 m w → RdV enc w v ys) (h1 : ∀ y : α, (enc y).oneCell' = true) (hn : (n + ys.length) * bytes ≤ 140737488355328) (h63 : n + ys.length ≤ maxLen) :
    Tr (ι := SV × List (Nat × Obj)) P ro N ds l w0 w1 m ⟨dst, .call ⟨.builtin .append, #[s, x], #[t, t]⟩, ty, pos, aft, gd⟩ (fun y => y.1.ok 1 (n + ys.length) ((xs ++ ys).map enc)) (fun y => y.1.val (n + ys.length)) (fun _ => w1) (fun y => y.1.mem e ((xs ++ ys).map enc) ++ (y.2 ++ post)) :=
  t_appendR [] post hs hx hm hok hu hie hz hsz hby hzs hnew h1 hn h63
theorem t_appendL0 {t e : TypeId} {s x : Operand} {sv : SV} {n c bytes : Nat} {v : α} {ad : Addr} {ie : TypeInfo} {z : Value} (post : List (Nat × Obj)) (hs : ev l s = some (sv.val n)) (hx : ev l x = some (.slice (some ad) 1 c)) (hm : m = sv.mem e (xs.map enc) ++ post) (hok : sv.ok 1 n (xs.map enc))
    (hu : P.underlying t = some (.slice e)) (hie : P.info? e = some ie) (hz : ie.zero = some z) (hsz : ie.size = 1) (hby : ie.bytes = bytes) (hzs : z.cells.size = 1)
    (hnew : ∀ w, Hp w0 w1 m w → w.cell? (ad.add 0) = some (enc v)) (h1 : (enc v).oneCell' = true) (hn : (n + 1) * bytes ≤ 140737488355328) (h63 : n + 1 ≤ maxLen) :
    Tr (ι := SV × List (Nat × Obj)) P ro N ds l w0 w1 m ⟨dst, .call ⟨.builtin .append, #[s, x], #[t, t]⟩, ty, pos, aft, gd⟩ (fun y => y.1.ok 1 (n + 1) ((xs ++ [v]).map enc) ∧ ∃ b cap j, y.1 = .own b cap j) (fun y => y.1.val (n + 1)) (fun _ => w1) (fun y => y.1.mem e ((xs ++ [v]).map enc) ++ (y.2 ++ post)) :=
  t_appendL [] post hs hx hm hok hu hie hz hsz hby hzs hnew h1 hn h63
theorem rdI_snoc {zs : List Int} {v : Int} {k : Nat} : rdI (zs ++ [v]) (k : Int) = if k = zs.length then v else rdI zs (k : Int) := by
  rw [rdI_nat, rdI_nat, List.getD_eq_getElem?_getD, List.getD_eq_getElem?_getD]
  by_cases c : k = zs.length
  · subst c; simp
  · rw [if_neg c]
    rcases Nat.lt_or_ge k zs.length with h | h
    · rw [List.getElem?_append_left h]
    · rw [List.getElem?_eq_none (by simp; omega), List.getElem?_eq_none (by omega)]
theorem y_remu {k x y i j t t'} (hx : ev l x = some (.int k i)) (hy : ev l y = some (.int k j)) (h1 : 0 ≤ i) (h2 : 1 ≤ j) : Yv P N ds l C ⟨dst, .binOp .rem t x y t', ty, pos, aft, gd⟩ (.int k (i % j)) :=
  y_bin hx hy guard_int fun w => by
    have hj : j ≠ 0 := by omega
    simp [binOp, Op.intDiv, hj, Int.tmod_eq_emod_of_nonneg h1]
theorem u64_range (x : Int) : 0 ≤ IntKind.u64.wrap x ∧ IntKind.u64.wrap x < 18446744073709551616 := by
  have e : IntKind.u64.wrap x = x % 18446744073709551616 := by
    unfold IntKind.wrap
    simp [IntKind.bits, IntKind.signed]
  rw [e]; omega
theorem or_nat {i j : Int} (h0 : 0 ≤ i) (h1 : i < 4611686018427387904) (h2 : 0 ≤ j) (h3 : j < 4611686018427387904) : IntKind.i64.wrap ((BitVec.ofInt 64 i ||| BitVec.ofInt 64 j).toNat : Int) = ((i.toNat ||| j.toNat : Nat) : Int) := by
  obtain ⟨a, rfl⟩ := Int.eq_ofNat_of_zero_le h0
  obtain ⟨b, rfl⟩ := Int.eq_ofNat_of_zero_le h2
  have ha : a < 2 ^ 62 := by omega
  have hb : b < 2 ^ 62 := by omega
  have e : (BitVec.ofInt 64 (a : Int) ||| BitVec.ofInt 64 (b : Int)).toNat = a ||| b := by
    rw [BitVec.toNat_or, BitVec.ofInt_natCast, BitVec.ofInt_natCast, BitVec.toNat_ofNat, BitVec.toNat_ofNat, Nat.mod_eq_of_lt (by omega), Nat.mod_eq_of_lt (by omega)]
  have hlt : a ||| b < 2 ^ 62 := Nat.or_lt_two_pow ha hb
  rw [e]
  simp only [Int.toNat_natCast]
  exact i64_eq (by omega) (by omega)
theorem y_or {x y i j t t'} (hx : ev l x = some (.int .i64 i)) (hy : ev l y = some (.int .i64 j)) (h0 : 0 ≤ i ∧ i < 4611686018427387904) (h1 : 0 ≤ j ∧ j < 4611686018427387904) : Yv P N ds l C ⟨dst, .binOp .or t x y t', ty, pos, aft, gd⟩ (.int .i64 ((i.toNat ||| j.toNat : Nat) : Int)) :=
  y_bin hx hy guard_int fun w => by
    have := or_nat h0.1 h0.2 h1.1 h1.2
    simp only [binOp, Op.intBits, ne_eq, not_true, if_false]
    show Sem.run P (pure (Value.int .i64 (IntKind.i64.wrap ((BitVec.ofInt 64 i ||| BitVec.ofInt 64 j).toNat : Int)))) w = _
    rw [this]; rfl
theorem andnot_nat {i j : Int} (h0 : 0 ≤ i) (h1 : i < 9223372036854775808) (h2 : 0 ≤ j) (h3 : j < 9223372036854775808) : IntKind.i64.wrap ((BitVec.ofInt 64 i &&& ~~~BitVec.ofInt 64 j).toNat : Int) = ((i.toNat - (i.toNat &&& j.toNat) : Nat) : Int) := by
  obtain ⟨a, rfl⟩ := Int.eq_ofNat_of_zero_le h0
  obtain ⟨b, rfl⟩ := Int.eq_ofNat_of_zero_le h2
  have ha : a < 2 ^ 63 := by omega
  have hb : b < 2 ^ 63 := by omega
  have e : (BitVec.ofInt 64 (a : Int) &&& ~~~BitVec.ofInt 64 (b : Int)).toNat = a - (a &&& b) := by
    have h4 : (BitVec.ofNat 64 a &&& ~~~BitVec.ofNat 64 b).toNat + (BitVec.ofNat 64 a &&& BitVec.ofNat 64 b).toNat = (BitVec.ofNat 64 a).toNat := by
      have h5 : (BitVec.ofNat 64 a &&& ~~~BitVec.ofNat 64 b) + (BitVec.ofNat 64 a &&& BitVec.ofNat 64 b) = BitVec.ofNat 64 a := by
        rw [BitVec.add_eq_or_of_and_eq_zero]
        · ext i hi
          simp only [BitVec.getElem_or, BitVec.getElem_and, BitVec.getElem_not]
          cases (BitVec.ofNat 64 a)[i] <;> cases (BitVec.ofNat 64 b)[i] <;> rfl
        · ext i hi
          simp only [BitVec.getElem_and, BitVec.getElem_not, BitVec.getElem_zero]
          cases (BitVec.ofNat 64 a)[i] <;> cases (BitVec.ofNat 64 b)[i] <;> rfl
      have h6 := congrArg BitVec.toNat h5
      rw [BitVec.toNat_add] at h6
      rw [Nat.mod_eq_of_lt] at h6
      · exact h6
      · have h7 : (BitVec.ofNat 64 a &&& ~~~BitVec.ofNat 64 b).toNat ≤ (BitVec.ofNat 64 a).toNat := by rw [BitVec.toNat_and]; exact Nat.and_le_left
        have h8 : (BitVec.ofNat 64 a &&& BitVec.ofNat 64 b).toNat ≤ (BitVec.ofNat 64 a).toNat := by rw [BitVec.toNat_and]; exact Nat.and_le_left
        have h9 : (BitVec.ofNat 64 a).toNat = a := by rw [BitVec.toNat_ofNat, Nat.mod_eq_of_lt (by omega)]
        omega
    rw [BitVec.ofInt_natCast, BitVec.ofInt_natCast]
    rw [BitVec.toNat_and (BitVec.ofNat 64 a) (BitVec.ofNat 64 b), BitVec.toNat_ofNat, BitVec.toNat_ofNat, Nat.mod_eq_of_lt (by omega), Nat.mod_eq_of_lt (by omega)] at h4
    omega
  rw [e]
  simp only [Int.toNat_natCast]
  exact i64_eq (by omega) (by omega)
theorem y_andnot {x y i j t t'} (hx : ev l x = some (.int .i64 i)) (hy : ev l y = some (.int .i64 j)) (h0 : 0 ≤ i ∧ i < 9223372036854775808) (h1 : 0 ≤ j ∧ j < 9223372036854775808) : Yv P N ds l C ⟨dst, .binOp .andNot t x y t', ty, pos, aft, gd⟩ (.int .i64 ((i.toNat - (i.toNat &&& j.toNat) : Nat) : Int)) :=
  y_bin hx hy guard_int fun w => by
    have := andnot_nat h0.1 h0.2 h1.1 h1.2
    simp only [binOp, Op.intBits, ne_eq, not_true, if_false]
    show Sem.run P (pure (Value.int .i64 (IntKind.i64.wrap ((BitVec.ofInt 64 i &&& ~~~BitVec.ofInt 64 j).toNat : Int)))) w = _
    rw [this]; rfl
theorem guard_bool {op : BinOp} {t : TypeId} {x y : Operand} {b b' : Bool} (w : World) : (eqGuard op t x y (.bool b) (.bool b')).run P w = .ok () w := by
  cases op <;> rfl
theorem y_beql {x y t t'} {b b' : Bool} (hx : ev l x = some (.bool b)) (hy : ev l y = some (.bool b')) (hu : P.underlying t = some .bool) : Yv P N ds l C ⟨dst, .binOp .eql t x y t', ty, pos, aft, gd⟩ (.bool (b == b')) :=
  y_bin hx hy guard_bool fun w => by
    have h : (Op.equal t (.bool b) (.bool b')).run P w = .ok (b == b') w := by
      unfold Op.equal Op.maxDepth
      rw [show (10000 : Nat) = 9999 + 1 from rfl]
      unfold Op.equalIn
      simp [run_underlying hu]
    show Sem.run P (do pure (Value.bool (← Op.equal t (.bool b) (.bool b')))) w = _
    rw [Sem.run_bind, h]; rfl
theorem y_beql_t {x y t t'} {b b' : Bool} (hx : ev l x = some (.bool b)) (hy : ev l y = some (.bool b')) (hu : P.underlying t = some .bool) (h : b = b') : Yv P N ds l C ⟨dst, .binOp .eql t x y t', ty, pos, aft, gd⟩ (.bool true) := by
  have := y_beql (C := C) (N := N) (P := P) (ds := ds) (dst := dst) (ty := ty) (pos := pos) (aft := aft) (gd := gd) (t := t) (t' := t') hx hy hu
  rwa [beq_iff_eq.2 h] at this
theorem y_bneq {x y t t'} {b b' : Bool} (hx : ev l x = some (.bool b)) (hy : ev l y = some (.bool b')) (hu : P.underlying t = some .bool) : Yv P N ds l C ⟨dst, .binOp .neq t x y t', ty, pos, aft, gd⟩ (.bool (!(b == b'))) :=
  y_bin hx hy guard_bool fun w => by
    have h : (Op.equal t (.bool b) (.bool b')).run P w = .ok (b == b') w := by
      unfold Op.equal Op.maxDepth
      rw [show (10000 : Nat) = 9999 + 1 from rfl]
      unfold Op.equalIn
      simp [run_underlying hu]
    show Sem.run P (do pure (Value.bool (!(← Op.equal t (.bool b) (.bool b'))))) w = _
    rw [Sem.run_bind, h]; rfl
theorem rdVal_snoc {zs : List Value} {v : Value} {k : Nat} : rdVal (zs ++ [v]) (k : Int) = if k = zs.length then v else rdVal zs (k : Int) := by
  unfold rdVal
  rw [Int.toNat_natCast, List.getD_eq_getElem?_getD, List.getD_eq_getElem?_getD]
  by_cases c : k = zs.length
  · subst c; simp
  · rw [if_neg c]
    rcases Nat.lt_or_ge k zs.length with h | h
    · rw [List.getElem?_append_left h]
    · rw [List.getElem?_eq_none (by simp; omega), List.getElem?_eq_none (by omega)]
theorem OwnV.mono {v : Value} {mm mm' : List (Nat × Obj)} (h : OwnV enc v xs mm) (hs : ∀ p ∈ mm, p ∈ mm') : OwnV enc v xs mm' := ⟨h.1, fun W hW => h.2 W fun p hp => hW p (hs p hp)⟩
end
end Go.Sx
