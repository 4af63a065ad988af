/- Calls of oneself that turn a map of the caller's; ends and rounds for them; in the words of Sx. -/
import Derived.Test.YtnnpdgegejklpaaSxRangeF
import Derived.Test.YtnnpdgegejklpaaSxMapG
namespace Go.Sx
open Go.RowKit Go.WideMaps Go.WideElems
set_option linter.unusedVariables false
set_option linter.unusedSimpArgs false
/-- Every row of cells lies as it lay. -/
def KeepC (w W : World) : Prop := ∀ (b : Nat) (c : Array Value) (t : TypeId) (f : Nat × Nat), w.heap[b]? = some (Obj.cells c t f) → W.heap[b]? = some (Obj.cells c t f)
theorem KeepC.refl (w : World) : KeepC w w := fun _ _ _ _ h => h
theorem KeepC.trans {a b c : World} (h : KeepC a b) (h' : KeepC b c) : KeepC a c := fun k x t f hk => h' k x t f (h k x t f hk)
theorem KeepC.of_below {a b : World} (h : Below a.heap.size a b) : KeepC a b := fun k c t f hk => (h.block k (lt_of_heap hk)).trans hk
theorem RdV.keepC {α : Type} {enc : α → Value} {xs : List α} {w W : World} {v : Value} (h : RdV enc w v xs) (hk : KeepC w W) : RdV enc W v xs := by
  obtain ⟨A, c, h1, h2, h3⟩ := h
  refine ⟨A, c, h1, h2, fun j x hj => ?_⟩
  obtain ⟨ad, e, h4⟩ := h3 j x hj
  refine ⟨ad, e, ?_⟩
  unfold World.cell? at h4 ⊢
  cases hq : w.heap[(ad.add j).block]? with
  | none => rw [hq] at h4; cases h4
  | some o =>
    rw [hq] at h4
    cases o with
    | cells c t f => rw [hk _ _ _ _ hq]; exact h4
    | _ => cases h4
theorem Hq.kc {w0 w1 wE w : World} {m : List (Nat × Obj)} {mb clock : Nat} {es : Array MapEntry} (h : Hq w0 w1 m w) (hk : KeepC wE w1) (hm : wE.heap[mb]? = some (.map es clock)) (hs : ∀ p ∈ m, p.1 = mb ∨ wE.heap.size ≤ p.1) : KeepC wE w := fun b c t f hb => by
  have h1 := hk b c t f hb
  refine (h.keep b (lt_of_heap h1) (fun p hp e => ?_) (fun o ho => by rw [h1] at ho; cases ho; rfl)).trans h1
  rcases hs p hp with h2 | h2
  · rw [← e, h2, hm] at hb; cases hb
  · have := lt_of_heap hb; omega
theorem Hp.start {w0 wE : World} {mb clock : Nat} {es : Array MapEntry} (hb : Below w0.heap.size w0 wE) (hge : w0.heap.size ≤ mb) (hm : wE.heap[mb]? = some (.map es clock)) : Hp w0 wE [(mb, .map es clock)] wE :=
  ⟨⟨hb, Nat.le_refl _, fun _ _ _ _ => rfl, fun p hp => by rw [List.mem_singleton] at hp; subst hp; exact hm, fun p hp => by rw [List.mem_singleton] at hp; subst hp; exact hge, by simp, fun p hp => by rw [List.mem_singleton] at hp; subst hp; rfl⟩, fun _ _ h _ => h⟩
theorem Hp.drops {w0 w1 w : World} : ∀ {nw m : List (Nat × Obj)}, Hp w0 w1 (nw ++ m) w → (∀ p ∈ nw, w1.heap.size ≤ p.1) → Hp w0 w1 m w
  | [], m, h, _ => h
  | p :: nw, m, h, hs => Hp.drops (nw := nw) (h.tail (hs p (List.mem_cons_self ..))) fun q hq => hs q (List.mem_cons_of_mem _ hq)
theorem Hq.drops {w0 w1 w : World} : ∀ {nw m : List (Nat × Obj)}, Hq w0 w1 (nw ++ m) w → (∀ p ∈ nw, w1.heap.size ≤ p.1) → Hq w0 w1 m w
  | [], m, h, _ => h
  | p :: nw, m, h, hs => Hq.drops (nw := nw) (h.tail (hs p (List.mem_cons_self ..))) fun q hq => hs q (List.mem_cons_of_mem _ hq)
theorem ids_sub {m m' : List (Nat × Obj)} (h : m.map (·.1) = m'.map (·.1)) : ∀ x ∈ m.map (·.1), x ∈ m'.map (·.1) := fun x hx => h ▸ hx
theorem OwnM.ids {m m' : List (Nat × Obj)} {W : World} (h : m.map (·.1) = m'.map (·.1)) : OwnM m' W m := fun p hp => by
  have : p.1 ∈ m'.map (·.1) := h ▸ List.mem_map.2 ⟨p, hp, rfl⟩
  obtain ⟨q, hq, e⟩ := List.mem_map.1 this
  exact .inl ⟨q, hq, e⟩
/-- The end of a round that has let go of its own blocks. -/
theorem rf_close {w0 we W1 W2 W : World} {m1 m2 mf : List (Nat × Obj)} (hq : Hq w0 we m1 W1) (h2 : Hq w0 W1 m2 W2) (h4 : Hp w0 W2 mf W) (e2 : m2.map (·.1) = m1.map (·.1)) (e3 : mf.map (·.1) = m1.map (·.1)) :
    Bk W2 W ∧ Hq w0 we mf W ∧ OwnM m1 W1 mf ∧ KpO (fun b => ∃ q ∈ m1, q.1 = b) W1 W ∧ W1.heap.size ≤ W.heap.size :=
  ⟨fun k o h ho => h4.marks k o h ho, hq.round h2 h4 (ids_sub e2.symm) (ids_sub (e2.trans e3.symm)), OwnM.ids e3, kp_round (we := we) h2 h4 (OwnM.ids e2) (OwnM.ids e3), Nat.le_trans h2.size h4.size⟩
/-- What is known, when the call ends, of all that it had. -/
theorem hp_close {w0 wE we W w : World} {m0 m1 mf : List (Nat × Obj)} (hwe : Hp w0 wE m0 we) (hq : Hq w0 we m1 W) (h : Hq w0 W mf w) (hbk : Bk wE w) (e1 : m1.map (·.1) = m0.map (·.1)) (e2 : mf.map (·.1) = m0.map (·.1)) : Hp w0 wE mf w := by
  have f : ∀ {m m' : List (Nat × Obj)}, m.map (·.1) = m'.map (·.1) → ∀ p ∈ m, ∃ p' ∈ m', p'.1 = p.1 := fun h p hp => by
    obtain ⟨p', hp', e⟩ := List.mem_map.1 (ids_sub h p.1 (List.mem_map.2 ⟨p, hp, rfl⟩))
    exact ⟨p', hp', e⟩
  exact ⟨(hwe.toHq.trans hq fun p hp _ => f e1.symm p hp).trans h fun p hp _ => f (e1.trans e2.symm) p hp, hbk⟩
section
variable {N : Nat} {ds : List Deferred} {l : List (Nat × Value)} {w0 w1 : World} {m : List (Nat × Obj)} {P : Program} {ro : Option Nat} {C : World → Prop}
variable {dst : Option Tmp} {ty : TypeId} {pos : String} {aft : Array Edge} {gd : Option (Nat × Bool)} {t K E : TypeId} {es : Array MapEntry} {clock b : Nat} {κ : Type} [DecidableEq κ] {kenc : κ → Value} {kok : κ → Prop} {z : Value} {F : κ → Option Value}
theorem leavesK {wE : World} {fn : Func} {tmps : Array Value} {R : Ending → World → Prop} {v : Value} (hres : ∀ w, (Hq w0 w1 m w) → (results fn tmps).run P w = .ok v w) (hR : ∀ w, Hq w0 w1 m w → Bk wE w → R (.returned v) w) :
    ∀ (ds : List Deferred) (w : World), Marks w0 w1 ds → (∀ d ∈ ds, ∀ D, d.target = .collected D → wE.heap.size ≤ D) → Hq w0 w1 m w → Bk wE w → (∀ D, (∃ d ∈ ds, d.target = .collected D) → w1.heap[D]? = some (Obj.deferred (some [])) → w.heap[D]? = some (Obj.deferred (some []))) → LeavesInM (Wd none) 0 P fn tmps R ds .returning w
  | [], w, _, _, hw, hb, _ => ⟨v, hres w hw, hR w hw hb⟩
  | d :: ds, w, ⟨D, hd, hge, hD, hne, hM⟩, hE, hw, hb, hk => by
    have hD' := hk D ⟨d, List.mem_cons_self .., by rw [hd]⟩ hD
    refine ⟨by simp, .inl ⟨D, _, by rw [hd], run_takeDeferred hD', ?_⟩⟩
    have hDE := hE d (List.mem_cons_self ..) D (by rw [hd])
    refine leavesK hres hR ds _ hM (fun d' hd' => hE d' (List.mem_cons_of_mem _ hd')) (hw.putMark hD' hge (fun o ho => by rw [hD] at ho; injection ho with ho; rw [← ho]; rfl)) ?_ ?_
    · intro k o hk ho
      have := lt_of_heap hk
      rw [World.putObj_heap_other (show k ≠ D by omega)]
      exact hb k o hk ho
    · intro D2 ⟨d2, hd2, ht2⟩ h2
      have : D2 ≠ D := fun e => hne d2 hd2 (by rw [ht2, e])
      rw [World.putObj_heap_other this]
      exact hk D2 ⟨d2, List.mem_cons_of_mem _ hd2, ht2⟩ h2
/-- The end of a body that leaves the marks of the world wE as they lay. -/
theorem g_endK {wE : World} {fn : Func} {R : Ending → World → Prop} {v : Value} (hM : Marks w0 w1 ds) (hE : ∀ d ∈ ds, ∀ D, d.target = .collected D → wE.heap.size ≤ D) (hb : Bk wE w1) (hres : ∀ a w, Has N ds l a → Hq w0 w1 m w → (results fn a.tmps).run P w = .ok v w) (hR : ∀ w, Hq w0 w1 m w → Bk wE w → R (.returned v) w) :
    G N ds l w0 w1 m (bodyPostM (Wd none) 0 P fn R .ret) := fun a w ha hw => by
  show LeavesInM (Wd none) 0 P fn a.tmps R a.defers .returning w
  rw [ha.defers]
  exact leavesK (fun w' h => hres a w' ha h) hR ds w hM hE hw.toHq (fun k o h ho => hw.marks k o (hb k o h ho) ho) (fun D _ h => hw.marks D _ h rfl)
/-- A call that turns one block of the list alone. -/
theorem t_callK {ι : Type} {A : ι → Prop} {fo : ι → Obj} {v : Value} {o : Obj} {fn fid xs ts vs} (i : Nat) (hm : m[i]? = some (b, o)) (hf : ev l fn = some (.func (.func fid) #[] #[])) (hx : evs l xs = some vs) (he : Enters P fid)
    (hc : ∀ w, Hp w0 w1 m w → Calls P fid vs.toArray w fun e w' => ∃ y, A y ∧ e = .returned v ∧ Hp w0 w [(b, fo y)] w') :
    Tr (ι := ι) P ro N ds l w0 w1 m ⟨dst, .call ⟨.value fn, xs.toArray, ts⟩, ty, pos, aft, gd⟩ A (fun _ => v) (fun _ => w1) (fun y => m.set i (b, fo y)) :=
  t_callx hf hx he fun w hw => by
    simp only [Array.append_empty, Array.empty_append]
    refine (hc w hw).mono fun e w' ⟨y, h1, h2, h3⟩ => ⟨y, h1, h2, ?_⟩
    have hi := (List.getElem?_eq_some_iff.1 hm).1
    have hids : (m.set i (b, fo y)).map (·.1) = m.map (·.1) := by
      rw [List.map_set]
      apply List.ext_getElem?
      intro k
      rw [List.getElem?_set]
      by_cases e : i = k
      · subst e
        rw [if_pos rfl, if_pos (by simpa using hi), List.getElem?_map, hm]; rfl
      · rw [if_neg e]
    have hmb : (b, o) ∈ m := List.mem_of_getElem? hm
    have hin : (b, fo y) ∈ m.set i (b, fo y) := List.mem_set hi _
    refine ⟨⟨h3.below, Nat.le_trans hw.size h3.size, ?_, ?_, ?_, ?_, ?_⟩, fun k o' hk ho => h3.marks k o' (hw.marks k o' hk ho) ho⟩
    · intro k hk hne hg
      have hk1 : w.heap[k]? = w1.heap[k]? := hw.keep k hk (fun p hp => by
        obtain ⟨q, hq, e⟩ := List.mem_map.1 (ids_sub hids.symm p.1 (List.mem_map.2 ⟨p, hp, rfl⟩))
        rw [← e]; exact hne q hq) hg
      refine (h3.keep k (Nat.lt_of_lt_of_le hk hw.size) (fun p hp => ?_) (fun o' ho => hg o' (hk1 ▸ ho))).trans hk1
      rw [List.mem_singleton] at hp; subst hp; exact hne _ hin
    · intro p hp
      by_cases e : p.1 = b
      · have hnd : ((m.set i (b, fo y)).map (·.1)).Nodup := hids ▸ hw.nodup
        have : p = (b, fo y) := by
          obtain ⟨j, hj, hje⟩ := List.getElem_of_mem hp
          obtain ⟨j2, hj2, hje2⟩ := List.getElem_of_mem hin
          have a1 : ((m.set i (b, fo y)).map (·.1))[j]? = some b := by rw [List.getElem?_map, List.getElem?_eq_getElem hj, hje]; simp [e]
          have a2 : ((m.set i (b, fo y)).map (·.1))[j2]? = some b := by rw [List.getElem?_map, List.getElem?_eq_getElem hj2, hje2]; rfl
          have := (List.getElem?_inj (by simpa using hj) hnd).1 (a1.trans a2.symm)
          subst this
          exact hje.symm.trans hje2
        rw [this]; exact h3.at_ _ (List.mem_singleton_self _)
      · have hpm : p ∈ m := by
          rcases List.mem_or_eq_of_mem_set hp with h | h
          · exact h
          · exact absurd (by rw [h]) e
        have h4 := hw.at_ p hpm
        refine (h3.keep p.1 (lt_of_heap h4) (fun q hq e2 => ?_) (fun o' ho => by rw [h4] at ho; cases ho; exact hw.good p hpm)).trans h4
        rw [List.mem_singleton] at hq; subst hq; exact e e2.symm
    · intro p hp
      rcases List.mem_or_eq_of_mem_set hp with h | h
      · exact hw.ge p h
      · rw [h]; exact (show w0.heap.size ≤ b from hw.ge (b, o) hmb)
    · rw [hids]; exact hw.nodup
    · intro p hp
      rcases List.mem_or_eq_of_mem_set hp with h | h
      · exact hw.good p h
      · rw [h]; exact h3.good _ (List.mem_singleton_self _)
theorem y_lookS {xm xk : Operand} {k : κ} {kvl v : Value} (hF : F k = some v) (PM : KeyG P t K E kenc kok z) (M : MapG kenc kok es F) (hm : ∀ w, C w → w.heap[b]? = some (.map es clock)) (hx : ev l xm = some (.map (some b))) (hk : ev l xk = some kvl) (he : kvl = kenc k) (hok : kok k) :
    Yv P N ds l C ⟨dst, .lookup t xm xk true, ty, pos, aft, gd⟩ (.tuple #[v, .bool true]) := by
  have h := y_lookG2 (P := P) (N := N) (ds := ds) (l := l) (C := C) (dst := dst) (ty := ty) (pos := pos) (aft := aft) (gd := gd) PM M hm hx hk he hok
  rw [hF] at h; exact h
theorem y_lookN {xm xk : Operand} {k : κ} {kvl : Value} (hF : F k = none) (PM : KeyG P t K E kenc kok z) (M : MapG kenc kok es F) (hm : ∀ w, C w → w.heap[b]? = some (.map es clock)) (hx : ev l xm = some (.map (some b))) (hk : ev l xk = some kvl) (he : kvl = kenc k) (hok : kok k) :
    Yv P N ds l C ⟨dst, .lookup t xm xk true, ty, pos, aft, gd⟩ (.tuple #[z, .bool false]) := by
  have h := y_lookG2 (P := P) (N := N) (ds := ds) (l := l) (C := C) (dst := dst) (ty := ty) (pos := pos) (aft := aft) (gd := gd) PM M hm hx hk he hok
  rw [hF] at h; exact h
theorem at_all {w : World} {L : List (Nat × Obj)} (h : Hp w0 w1 m w) (hs : L.Sublist m) : ∀ p ∈ L, w.heap[p.1]? = some p.2 := fun p hp => h.at_ p (hs.subset hp)
end
end Go.Sx
namespace Go.Sx
section
variable {m : List (Nat × Obj)} {n b mb : Nat} {o : Obj}
theorem ge_nil : ∀ p ∈ ([] : List (Nat × Obj)), n ≤ p.1 := fun _ h => by cases h
theorem ge_cons (h : n ≤ b) (hs : ∀ p ∈ m, n ≤ p.1) : ∀ p ∈ (b, o) :: m, n ≤ p.1 := fun p hp => by
  rcases List.mem_cons.1 hp with rfl | hp
  · exact h
  · exact hs p hp
theorem sd_nil : ∀ p ∈ ([] : List (Nat × Obj)), p.1 = mb ∨ n ≤ p.1 := fun _ h => by cases h
theorem sd_cons (h : n ≤ b) (hs : ∀ p ∈ m, p.1 = mb ∨ n ≤ p.1) : ∀ p ∈ (b, o) :: m, p.1 = mb ∨ n ≤ p.1 := fun p hp => by
  rcases List.mem_cons.1 hp with rfl | hp
  · exact .inr h
  · exact hs p hp
theorem sd_mb (hs : ∀ p ∈ m, p.1 = mb ∨ n ≤ p.1) : ∀ p ∈ (mb, o) :: m, p.1 = mb ∨ n ≤ p.1 := fun p hp => by
  rcases List.mem_cons.1 hp with rfl | hp
  · exact .inl rfl
  · exact hs p hp
end
end Go.Sx
