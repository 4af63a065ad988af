/- Calls that turn one block and hand over new ones; results in cells; in the words of Sx. -/
import Derived.Test.YtolalckejnijkaaSxRec
namespace Go.Sx
open Go.RowKit
set_option linter.unusedVariables false
set_option linter.unusedSimpArgs false
section
variable {N : Nat} {ds : List Deferred} {l : List (Nat × Value)} {w0 w1 : World} {m : List (Nat × Obj)} {P : Program} {ro : Option Nat} {C : World → Prop} {X : Act → World → Prop}
variable {dst : Option Tmp} {ty : TypeId} {pos : String} {aft : Array Edge} {gd : Option (Nat × Bool)} {b : Nat}
theorem g_perm' {m' : List (Nat × Obj)} (hp : m'.Perm m) (h : G N ds l w0 w1 m' X) : G N ds l w0 w1 m X := fun a w ha hw =>
  h a w ha ⟨hw.toHq.perm hp.symm, hw.marks⟩
/-- A result that lies in a cell. -/
theorem res_cell {fn : Func} {a : Act} {w : World} {p ty t' fr b} {v : Value} (i : Nat) (ha : Has N ds l a) (hw : Hq w0 w1 m w) (hr : fn.results = #[.cell p ty]) (h1 : get p l = some (.pointer (some ⟨b, 0, none⟩)))
    (hm : m[i]? = some (b, .cells #[v] t' fr)) (ht : isAggB P ty = some false) : (results fn a.tmps).run P w = .ok v w := by
  have e1 := ha.eval (x := .tmp p) h1
  simp only [Act.eval] at e1
  have q1 : (loadVar ty ⟨b, 0, none⟩).run P w = .ok v w := run_load1 ht (by have := hw.at_ _ (List.mem_of_getElem? hm); simp [World.cell?, this])
  have e1' : a.tmps[p]?.getD undef = .pointer (some ⟨b, 0, none⟩) := by simpa using e1
  simp [results, hr, e1', asAddr, q1]
/-- What a call leaves that turns one block of the list, and hands over new ones. -/
theorem hp_call2 {w w' : World} {o o' : Obj} {mm : List (Nat × Obj)} (i : Nat) (hm : m[i]? = some (b, o)) (hw : Hp w0 w1 m w) (hmm : ∀ p ∈ mm, w.heap.size ≤ p.1) (h3 : Hp w0 w ((b, o') :: (mm ++ [])) w') : Hp w0 w1 (m.set i (b, o') ++ (mm ++ [])) w' := by
  have hi := (List.getElem?_eq_some_iff.1 hm).1
  have hids : (m.set i (b, o')).map (·.1) = m.map (·.1) := by
    rw [List.map_set]
    apply List.ext_getElem?
    intro k
    rw [List.getElem?_set]
    by_cases e : i = k
    · subst e
      rw [if_pos rfl, if_pos (by simpa using hi), List.getElem?_map, hm]; rfl
    · rw [if_neg e]
  have hmb : (b, o) ∈ m := List.mem_of_getElem? hm
  have hin : (b, o') ∈ m.set i (b, o') := List.mem_set hi _
  have hnd : ((m.set i (b, o')).map (·.1)).Nodup := hids ▸ hw.nodup
  have hlt : ∀ p ∈ m.set i (b, o'), p.1 < w.heap.size := fun p hp => by
    obtain ⟨q, hq, e⟩ := List.mem_map.1 (ids_sub hids p.1 (List.mem_map.2 ⟨p, hp, rfl⟩))
    have := hw.toHq.lt hq; rw [← e]; exact this
  refine ⟨⟨h3.below, Nat.le_trans hw.size h3.size, ?_, ?_, ?_, ?_, ?_⟩, fun k o' hk ho => h3.marks k o' (hw.marks k o' hk ho) ho⟩
  · intro k hk hne hg
    have hk1 : w.heap[k]? = w1.heap[k]? := hw.keep k hk (fun p hp => by
      obtain ⟨q, hq, e⟩ := List.mem_map.1 (ids_sub hids.symm p.1 (List.mem_map.2 ⟨p, hp, rfl⟩))
      rw [← e]; exact hne q (List.mem_append_left _ hq)) hg
    refine (h3.keep k (Nat.lt_of_lt_of_le hk hw.size) (fun p hp => ?_) (fun o' ho => hg o' (hk1 ▸ ho))).trans hk1
    rcases List.mem_cons.1 hp with rfl | hp
    · exact hne _ (List.mem_append_left _ hin)
    · exact hne _ (List.mem_append_right _ hp)
  · intro p hp
    rcases List.mem_append.1 hp with hp | hp
    · by_cases e : p.1 = b
      · have : p = (b, o') := by
          obtain ⟨j, hj, hje⟩ := List.getElem_of_mem hp
          obtain ⟨j2, hj2, hje2⟩ := List.getElem_of_mem hin
          have a1 : ((m.set i (b, o')).map (·.1))[j]? = some b := by rw [List.getElem?_map, List.getElem?_eq_getElem hj, hje]; simp [e]
          have a2 : ((m.set i (b, o')).map (·.1))[j2]? = some b := by rw [List.getElem?_map, List.getElem?_eq_getElem hj2, hje2]; rfl
          have := (List.getElem?_inj (by simpa using hj) hnd).1 (a1.trans a2.symm)
          subst this
          exact hje.symm.trans hje2
        rw [this]; exact h3.at_ _ (List.mem_cons_self ..)
      · have hpm : p ∈ m := by
          rcases List.mem_or_eq_of_mem_set hp with h | h
          · exact h
          · exact absurd (by rw [h]) e
        have h4 := hw.at_ p hpm
        refine (h3.keep p.1 (lt_of_heap h4) (fun q hq e2 => ?_) (fun o' ho => by rw [h4] at ho; cases ho; exact hw.good p hpm)).trans h4
        rcases List.mem_cons.1 hq with rfl | hq
        · exact e e2.symm
        · have h5 := hmm q (by simpa using hq)
          have h6 := lt_of_heap h4
          omega
    · exact h3.at_ p (List.mem_cons_of_mem _ hp)
  · intro p hp
    rcases List.mem_append.1 hp with hp | hp
    · rcases List.mem_or_eq_of_mem_set hp with h | h
      · exact hw.ge p h
      · rw [h]; exact (show w0.heap.size ≤ b from hw.ge (b, o) hmb)
    · exact h3.ge p (List.mem_cons_of_mem _ hp)
  · rw [List.map_append]
    have h7 := h3.nodup
    simp only [List.map_cons, List.nodup_cons] at h7
    refine List.nodup_append.2 ⟨hnd, h7.2, fun a ha c hc e => ?_⟩
    obtain ⟨p, hp, rfl⟩ := List.mem_map.1 ha
    obtain ⟨q, hq, rfl⟩ := List.mem_map.1 hc
    have h5 := hmm q (by simpa using hq)
    have h6 := hlt p hp
    omega
  · intro p hp
    rcases List.mem_append.1 hp with hp | hp
    · rcases List.mem_or_eq_of_mem_set hp with h | h
      · exact hw.good p h
      · rw [h]; exact h3.good _ (List.mem_cons_self ..)
    · exact h3.good p (List.mem_cons_of_mem _ hp)
theorem t_callK2 {ι : Type} {A : ι → Prop} {fo : ι → Obj} {mm : ι → List (Nat × Obj)} {v : Value} {o : Obj} {fn fid xs ts vs} {cap : List Value} (i : Nat) (hm : m[i]? = some (b, o)) (hf : ev l fn = some (.func (.func fid) #[] cap.toArray)) (hx : evs l xs = some vs) (he : Enters P fid)
    (hc : ∀ w, Hp w0 w1 m w → Calls P fid (vs ++ cap).toArray w fun e w' => ∃ y, A y ∧ (∀ p ∈ mm y, w.heap.size ≤ p.1) ∧ e = .returned v ∧ Hp w0 w ((b, fo y) :: (mm y ++ [])) w') :
    Tr (ι := ι) P ro N ds l w0 w1 m ⟨dst, .call ⟨.value fn, xs.toArray, ts⟩, ty, pos, aft, gd⟩ (fun y => A y ∧ ∀ p ∈ mm y, w1.heap.size ≤ p.1) (fun _ => v) (fun _ => w1) (fun y => m.set i (b, fo y) ++ (mm y ++ [])) :=
  t_callx hf hx he fun w hw => by
    simp only [List.append_toArray, Array.empty_append]
    exact (hc w hw).mono fun e w' ⟨y, h1, hmm, h2, h3⟩ => ⟨y, ⟨h1, fun p hp => Nat.le_trans hw.size (hmm p hp)⟩, h2, hp_call2 i hm hw hmm h3⟩
/-- .. and may as well turn nothing. -/
theorem t_call2 {ι : Type} {P1 : Prop} {A2 : ι → Prop} {fo : ι → Obj} {mm : ι → List (Nat × Obj)} {o : Obj} {fn fid xs ts vs} (i : Nat) (hm : m[i]? = some (b, o)) (hf : ev l fn = some (.func (.func fid) #[] #[])) (hx : evs l xs = some vs) (he : Enters P fid)
    (hc : ∀ w, Hp w0 w1 m w → Calls P fid vs.toArray w fun e w' => ∃ bb : Bool, e = .returned (.bool bb) ∧ ((bb = true ∧ P1 ∧ Hp w0 w [(b, o)] w') ∨ (bb = false ∧ ∃ y : ι, A2 y ∧ (∀ p ∈ mm y, w.heap.size ≤ p.1) ∧ Hp w0 w ((b, fo y) :: (mm y ++ [])) w'))) :
    Tr (ι := Option ι) P ro N ds l w0 w1 m ⟨dst, .call ⟨.value fn, xs.toArray, ts⟩, ty, pos, aft, gd⟩ (fun q => match q with | none => P1 | some y => A2 y ∧ ∀ p ∈ mm y, w1.heap.size ≤ p.1) (fun q => .bool q.isNone) (fun _ => w1) (fun q => match q with | none => m | some y => m.set i (b, fo y) ++ (mm y ++ [])) :=
  t_callx hf hx he fun w hw => by
    simp only [Array.append_empty, Array.empty_append]
    refine (hc w hw).mono ?_
    rintro e w' ⟨bb, he, (⟨rfl, h1, h2⟩ | ⟨rfl, y, h1, hmm, h2⟩)⟩
    · refine ⟨none, h1, he, ?_⟩
      have h3 := hp_call2 (mm := []) i hm hw (by intro p hp; cases hp) h2
      have e1 : m.set i (b, o) = m := by
        apply List.ext_getElem?
        intro k
        rw [List.getElem?_set]
        by_cases e : i = k
        · subst e
          rw [if_pos rfl, if_pos (List.getElem?_eq_some_iff.1 hm).1, hm]
        · rw [if_neg e]
      rw [e1, List.append_nil, List.append_nil] at h3
      exact h3
    · exact ⟨some y, ⟨h1, fun p hp => Nat.le_trans hw.size (hmm p hp)⟩, he, hp_call2 i hm hw hmm h2⟩
theorem mm_ids {n : Nat} {l1 mm : List (Nat × Obj)} {l2 : List Nat} (h : ∀ p ∈ mm, n ≤ p.1) (hl : l1.map (·.1) = l2) : ∀ x ∈ (l1 ++ (mm ++ []) : List (Nat × Obj)).map (fun p => p.1), x ∈ l2 ∨ n ≤ x := fun x hx => by
  rw [List.map_append] at hx
  rcases List.mem_append.1 hx with hx | hx
  · exact .inl (hl ▸ hx)
  · obtain ⟨p, hp, rfl⟩ := List.mem_map.1 hx
    exact .inr (h p (by simpa using hp))
theorem ids_app {l1 m1 mm : List (Nat × Obj)} (hl : l1.map (·.1) = m1.map (·.1)) : ∀ x ∈ m1.map (·.1), x ∈ (l1 ++ (mm ++ []) : List (Nat × Obj)).map (fun p => p.1) := fun x hx => by
  rw [List.map_append, hl]; exact List.mem_append_left _ hx
theorem Hq.kcO {wE w : World} {ob : Nat} {oo : Obj} (h : Hq w0 w1 m w) (hk : KeepC wE w1) (hm : wE.heap[ob]? = some oo) (hs : ∀ p ∈ m, p = (ob, oo) ∨ wE.heap.size ≤ p.1) : KeepC wE w := fun b c t f hb => by
  have h1 := hk b c t f hb
  by_cases e : ∃ p ∈ m, p.1 = b
  · obtain ⟨p, hp, e⟩ := e
    rcases hs p hp with h2 | h2
    · subst h2
      simp only at e; subst e
      have := h.at_ _ hp
      simp only at this
      rw [this, ← hm, hb]
    · have := lt_of_heap hb; omega
  · exact (h.keep b (lt_of_heap h1) (fun p hp e2 => e ⟨p, hp, e2⟩) (fun o ho => by rw [h1] at ho; cases ho; rfl)).trans h1
theorem so_nil {n : Nat} {q : Nat × Obj} : ∀ p ∈ ([] : List (Nat × Obj)), p = q ∨ n ≤ p.1 := fun _ h => by cases h
theorem so_cons {n b : Nat} {o : Obj} {q : Nat × Obj} (h : n ≤ b) (hs : ∀ p ∈ m, p = q ∨ n ≤ p.1) : ∀ p ∈ (b, o) :: m, p = q ∨ n ≤ p.1 := fun p hp => by
  rcases List.mem_cons.1 hp with rfl | hp
  · exact .inr h
  · exact hs p hp
theorem so_ob {n : Nat} {q : Nat × Obj} (hs : ∀ p ∈ m, p = q ∨ n ≤ p.1) : ∀ p ∈ q :: m, p = q ∨ n ≤ p.1 := fun p hp => by
  rcases List.mem_cons.1 hp with rfl | hp
  · exact .inl rfl
  · exact hs p hp
/-- What is known, when the call ends, of all that it had; new blocks among it. -/
theorem hp_close2 {wE we W w : World} {m0 m1 mf : List (Nat × Obj)} (hwe : Hp w0 wE m0 we) (hq : Hq w0 we m1 W) (h : Hq w0 W mf w) (hbk : Bk wE w) (e1 : ∀ x ∈ m0.map (·.1), x ∈ m1.map (·.1)) (e2 : ∀ x ∈ m1.map (·.1), x ∈ mf.map (·.1)) : Hp w0 wE mf w := by
  have f : ∀ {m m' : List (Nat × Obj)}, (∀ x ∈ m.map (·.1), x ∈ m'.map (·.1)) → ∀ p ∈ m, ∃ p' ∈ m', p'.1 = p.1 := fun h p hp => by
    obtain ⟨p', hp', e⟩ := List.mem_map.1 (h p.1 (List.mem_map.2 ⟨p, hp, rfl⟩))
    exact ⟨p', hp', e⟩
  exact ⟨(hwe.toHq.trans hq fun p hp _ => f e1 p hp).trans h fun p hp _ => f e2 p hp, hbk⟩
end
end Go.Sx
