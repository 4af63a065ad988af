/- Two that may come up in either order; permutations; reading by membership; calls that turn the caller's blocks. -/
import Derived.Test.YtnhflahgbkmloaaSxF
namespace Go.Sx
open Go.RowKit
set_option linter.unusedVariables false
set_option linter.unusedSimpArgs false
section
variable {N : Nat} {ds : List Deferred} {l : List (Nat × Value)} {w0 w1 : World} {m : List (Nat × Obj)} {P : Program} {ro : Option Nat} {ops : Array Oper} {Q : Exit → Act → World → Prop} {rest : List Oper} {C : World → Prop} {X : Act → World → Prop}
variable {dst : Option Tmp} {ty : TypeId} {pos : String} {aft : Array Edge} {gd : Option (Nat × Bool)} {q f : Nat} {L : Array Bool}

/-- The step of one that may come up now. -/
abbrev GI (N : Nat) (ds : List Deferred) (l : List (Nat × Value)) (w0 w1 : World) (m : List (Nat × Obj)) (P : Program) (ro : Option Nat) (ops : Array Oper) (Q : Exit → Act → World → Prop) (q : Nat) (C : World → Prop) (f : Nat) (L : Array Bool) (i : Nat) : Prop :=
  G N ds l w0 w1 m fun a w => Closed ops (L.setIfInBounds i true) → opJ P ro ops i (fun a' w' => Jq q C (L.setIfInBounds i true) w' ∧ AnyJ P ro ops Q q C f (L.setIfInBounds i true) a' w') a w
theorem j_two (i k : Nat) (hr : Region.ready .any ops L = [i, k]) (h1 : GI N ds l w0 w1 m P ro ops Q q C f L i) (h2 : GI N ds l w0 w1 m P ro ops Q q C f L k) : GJ N ds l w0 w1 m P ro ops Q q C (f + 1) L := fun a w ha hw hc => by
  refine ⟨fun h => (by rw [hr] at h; cases h), fun j hj => ?_⟩
  have hcj := closed_set hc hj
  rw [hr] at hj
  simp only [List.mem_cons, List.not_mem_nil, or_false] at hj
  rcases hj with rfl | rfl
  · exact h1 a w ha hw hcj
  · exact h2 a w ha hw hcj
theorem j_three (i k n : Nat) (hr : Region.ready .any ops L = [i, k, n]) (h1 : GI N ds l w0 w1 m P ro ops Q q C f L i) (h2 : GI N ds l w0 w1 m P ro ops Q q C f L k) (h3 : GI N ds l w0 w1 m P ro ops Q q C f L n) : GJ N ds l w0 w1 m P ro ops Q q C (f + 1) L := fun a w ha hw hc => by
  refine ⟨fun h => (by rw [hr] at h; cases h), fun j hj => ?_⟩
  have hcj := closed_set hc hj
  rw [hr] at hj
  simp only [List.mem_cons, List.not_mem_nil, or_false] at hj
  rcases hj with rfl | rfl | rfl
  · exact h1 a w ha hw hcj
  · exact h2 a w ha hw hcj
  · exact h3 a w ha hw hcj
theorem i_do {i : Nat} {o : Oper} (hi : ops[i]? = some o) (hg : wants ops l o.guard = some true) (hp : plainOp o.op = true)
    (hs : ∀ a w, Has N ds l a → Hp w0 w1 m w → Stp P ro o a w (fun v w' => Jq q C (L.setIfInBounds i true) w' ∧ (Closed ops (L.setIfInBounds i true) → AnyJ P ro ops Q q C f (L.setIfInBounds i true) (a.put o.dst v) w'))) : GI N ds l w0 w1 m P ro ops Q q C f L i := fun a w ha hw hc => by
  unfold opJ
  simp only [hi]
  refine ⟨hp, ?_⟩
  rw [if_pos (wants_spec ha hg)]
  exact (hs a w ha hw).mono fun v w' h => ⟨h.1, h.2 hc⟩
theorem i_tr {ι : Type} {A : ι → Prop} {vf wf mf} {i d} {o : Oper} (hi : ops[i]? = some o) (hs : Tr (ι := ι) P ro N ds l w0 w1 m o A vf wf mf) (hg : wants ops l o.guard = some true) (hp : plainOp o.op = true) (hd : o.dst = some d) (hdN : Nat.blt d N = true)
    (hJ : (L.setIfInBounds i true).getD q false = true ∨ ∀ x w, A x → Hp w0 (wf x) (mf x) w → C w)
    (k : ∀ x, A x → GJ N ds ((d, vf x) :: l) w0 (wf x) (mf x) P ro ops Q q C f (L.setIfInBounds i true)) : GI N ds l w0 w1 m P ro ops Q q C f L i :=
  i_do hi hg hp fun a w ha hw => (hs a w ha hw).mono fun v w' ⟨x, hx, hv, hh⟩ => by
    have hdN' : d < N := by simpa [Nat.blt_eq] using hdN
    refine ⟨fun h => ?_, ?_⟩
    · rcases hJ with h' | h'
      · rw [h'] at h; cases h
      · exact h' x _ hx hh
    · rw [hd, hv]; exact k x hx _ _ (ha.put hdN' _) hh
/-- A row put in another order. -/
theorem perm_idx {α : Type} (σ : List Nat) (l : List α) (h : σ.isPerm (List.range l.length) = true) : (σ.filterMap (l[·]?)).Perm l := by
  have h1 : (σ.filterMap (l[·]?)).Perm ((List.range l.length).filterMap (l[·]?)) := (List.isPerm_iff.1 h).filterMap _
  have h2 : (List.range l.length).filterMap (l[·]?) = l := by
    clear h h1
    induction l with
    | nil => rfl
    | cons x l ih =>
      rw [List.length_cons, List.range_succ_eq_map, List.filterMap_cons]
      simp only [List.getElem?_cons_zero, List.filterMap_map]
      exact congrArg (x :: ·) ih
  rwa [h2] at h1
/-- A load out of a block that the list has somewhere. -/
theorem y_ldM {x t b off v t' fr} {c : List Value} (hm : (b, Obj.cells c.toArray t' fr) ∈ m) (hx : ev l x = some (.pointer (some ⟨b, off, none⟩))) (ht : isAggB P t = some false) (hc : c[off]? = some v) : Yv P N ds l (Hp w0 w1 m) ⟨dst, .load t x, ty, pos, aft, gd⟩ v := by
  obtain ⟨i, hi, he⟩ := List.getElem_of_mem hm
  exact y_ld1 i hx (by rw [List.getElem?_eq_getElem hi, he]) ht hc
/-- .. by what the class says. -/
theorem y_ldC {x t b off v t' fr} {c : List Value} (hb : ∀ w, C w → w.heap[b]? = some (Obj.cells c.toArray t' fr)) (hx : ev l x = some (.pointer (some ⟨b, off, none⟩))) (ht : isAggB P t = some false) (hc : c[off]? = some v) : Yv P N ds l C ⟨dst, .load t x, ty, pos, aft, gd⟩ v :=
  y_load hx fun w h => run_load1 ht (by
    have := hb w h
    simp [World.cell?, this, hc])
theorem g_drawC {id : Nat} {lo : List Oper} (q : Nat) (C : World → Prop) (hm : P.follows .mixedOrders = true)
    (h : GJ N ds l w0 w1 m P ro lo.toArray Q q C lo.length (Array.replicate lo.length false)) : G N ds l w0 w1 m ((Code.region id lo.toArray true).wpIn (Wd ro) 0 P Q) :=
  fun a w ha hw => wpIn_region_any hm (anyJ_sound (q := q) (C := C) _ _ _ _ (by
    have := h a _ ha hw.drewN
    simp only [List.size_toArray]
    exact this (by have := closed_none lo.toArray; simpa using this)))
/-- Some of the blocks, in another order, from here on. -/
theorem Hq.pick {w : World} {m2 m' : List (Nat × Obj)} (h : Hq w0 w1 m w) (hp : m2.Perm m) (hs : m'.Sublist m2) : Hp w0 w m' w := (h.perm hp.symm).lookSub hs
/-- A function's contract out of its body, where it turns blocks of its caller's own. -/
theorem enterM {f : FuncId} {fn : Func} {c : Code} {vs : List Value} {w : World} {R : Ending → World → Prop} (hf : P.funcs[f]? = some fn) (hb : fn.body = some c) (hN : fn.ntmps = N) (hle : Nat.ble vs.length N = true) (hw : Hp w0 w1 m w)
    (h : G N [] (enum 0 vs) w0 w1 m (c.wpIn (Wd none) 0 P (bodyPostM (Wd none) 0 P fn R))) : Calls P f vs.toArray w R := by
  have hle' : vs.length ≤ N := Nat.le_of_ble_eq_true hle
  have := callsIn_of_wp_marks (F := Wd none) (n := 0) (args := vs.toArray) (w := w) (R := R) hf hb trivial (h _ w ⟨by simp [hN]; omega, rfl, fun t v ht => by
    obtain ⟨_, h2⟩ := enum_get vs 0 t v ht
    simp at h2
    have := (List.getElem?_eq_some_iff.1 h2).1
    rw [Array.getElem?_append_left (by simpa using this)]
    simpa using h2⟩ hw) rfl
  exact fun cs => let ⟨e, w', fr, r, s, x⟩ := this.2 cs (wd_room _ _); ⟨e, w', fr, r, s.comes, x⟩
end
end Go.Sx
