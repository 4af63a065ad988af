/- A call that turns one row of cells of its caller's, and whose rows lie elsewhere; in the words of Sx. -/
import Derived.Test.YtolalckejnijkaaSxRecB
namespace Go.Sx
open Go.RowKit
set_option linter.unusedVariables false
set_option linter.unusedSimpArgs false
section
variable {N : Nat} {ds : List Deferred} {l : List (Nat × Value)} {w0 w1 : World} {m : List (Nat × Obj)} {P : Program} {ro : Option Nat} {α : Type} {enc : α → Value} {xs : List α}
variable {dst : Option Tmp} {ty : TypeId} {pos : String} {aft : Array Edge} {gd : Option (Nat × Bool)} {b fb n : Nat} {v : Value}
/-- A slice whose block is new and not fb. -/
def At0 (n fb : Nat) (v : Value) : Prop := ∀ a k c, v = .slice (some a) k c → a.block ≠ fb ∧ n ≤ a.block
theorem At0.nil {k c : Nat} : At0 n fb (.slice none k c) := fun a k c h => by simp at h
theorem At0.own {bN k c : Nat} (h1 : bN ≠ fb) (h2 : n ≤ bN) : At0 n fb (.slice (some ⟨bN, 0, none⟩) k c) := fun a k c h => by
  simp only [Value.slice.injEq, Option.some.injEq] at h
  obtain ⟨rfl, _, _⟩ := h
  exact ⟨h1, h2⟩
/-- Every row of cells but fb lies as it lay. -/
def KeepX (fb : Nat) (w W : World) : Prop := ∀ (b : Nat) (c : Array Value) (t : TypeId) (f : Nat × Nat), b ≠ fb → w.heap[b]? = some (Obj.cells c t f) → W.heap[b]? = some (Obj.cells c t f)
theorem KeepX.refl (w : World) : KeepX fb w w := fun _ _ _ _ _ h => h
theorem RdV.keepX {w W : World} (h : RdV enc w v xs) (hk : KeepX fb w W) (ha : At0 n fb v) : RdV enc W v xs := by
  obtain ⟨A, c, h1, h2, h3⟩ := h
  refine ⟨A, c, h1, h2, fun j x hj => ?_⟩
  obtain ⟨ad, e, h4⟩ := h3 j x hj
  refine ⟨ad, e, ?_⟩
  have hb : (ad.add j).block = ad.block := by unfold Addr.add; split <;> rfl
  have hne := (ha ad _ _ (by rw [h1, e])).1
  unfold World.cell? at h4 ⊢
  rw [hb] at h4 ⊢
  cases hq : w.heap[ad.block]? with
  | none => rw [hq] at h4; cases h4
  | some o =>
    rw [hq] at h4
    cases o with
    | cells c t f => rw [hk _ _ _ _ hne hq]; exact h4
    | _ => cases h4
theorem Hq.kx {w : World} (h : Hq w0 w1 m w) (hs : ∀ p ∈ m, p.1 = fb ∨ w1.heap.size ≤ p.1) : KeepX fb w1 w := fun b c t f hne hb => by
  refine (h.keep b (lt_of_heap hb) (fun p hp e => ?_) (fun o ho => by rw [hb] at ho; cases ho; rfl)).trans hb
  rcases hs p hp with h2 | h2
  · omega
  · have := lt_of_heap hb; omega
theorem hp_chain {wE W : World} {o o' : Obj} (h : Hp w0 wE [(b, o)] w1) (h' : Hp w0 w1 [(b, o')] W) : Hp w0 wE [(b, o')] W :=
  ⟨h.toHq.trans h'.toHq fun p hp _ => ⟨(b, o'), List.mem_singleton_self _, by rw [List.mem_singleton] at hp; subst hp; rfl⟩, fun k q hk hq => h'.marks k q (h.marks k q hk hq) hq⟩
theorem t_callKW {ι : Type} {A : ι → World → Prop} {fo : ι → Obj} {v : Value} {fn fid xs ts vs} (hf : ev l fn = some (.func (.func fid) #[] #[])) (hx : evs l xs = some vs) (he : Enters P fid)
    (hc : ∀ w, Hp w0 w1 m w → Calls P fid vs.toArray w fun e w' => ∃ y, A y w' ∧ e = .returned v ∧ Hp w0 w [(b, fo y)] w') :
    Tr (ι := ι × World) P ro N ds l w0 w1 m ⟨dst, .call ⟨.value fn, xs.toArray, ts⟩, ty, pos, aft, gd⟩ (fun y => A y.1 y.2) (fun _ => v) (fun y => y.2) (fun y => [(b, fo y.1)]) :=
  t_callx hf hx he fun w hw => by
    simp only [Array.append_empty, Array.empty_append]
    exact (hc w hw).mono fun e w' ⟨y, h1, h2, h3⟩ => ⟨(y, w'), h1, h2, h3.toHq.look⟩
theorem g_end0n {l : List (Nat × Value)} {fn : Func} {R : Ending → World → Prop} {v : Value} (hres : ∀ a w, Has N [] l a → Hq w0 w1 m w → (results fn a.tmps).run P w = .ok v w) (hR : ∀ w, Hp w0 w1 m w → R (.returned v) w) :
    G N [] l w0 w1 m (bodyPostM (Wd none) 0 P fn R .normal) := g_end0 hres hR
/-- What reads in the end, and lies in a new block, is the call's own. -/
theorem hq_own {w W : World} (hb : Below w.heap.size w W) (h : RdV enc W v xs) (ha : ∀ a k c, v = .slice (some a) k c → w.heap.size ≤ a.block) : ∃ mm : List (Nat × Obj), (OwnV enc v xs mm ∧ ∃ W : World, ∀ p ∈ mm, W.heap[p.1]? = some p.2) ∧ Hq w w mm W := by
  obtain ⟨A, c, rfl, h2, h3⟩ := h
  cases xs with
  | nil => exact ⟨[], ⟨⟨⟨A, c, rfl⟩, fun W _ => ⟨A, c, rfl, h2, fun j x hj => by simp at hj⟩⟩, W, fun p hp => by cases hp⟩, Hq.of_below hb⟩
  | cons x xs =>
    obtain ⟨ad, rfl, h4⟩ := h3 0 x rfl
    have hbl : ∀ j, (ad.add j).block = ad.block := fun j => by unfold Addr.add; split <;> rfl
    have h5 := h4
    unfold World.cell? at h5
    rw [hbl] at h5
    cases hq : W.heap[ad.block]? with
    | none => rw [hq] at h5; cases h5
    | some o =>
      rw [hq] at h5
      cases o with
      | cells cs t f =>
        refine ⟨[(ad.block, .cells cs t f)], ⟨⟨⟨some ad, c, rfl⟩, fun W2 hW2 => ⟨some ad, c, rfl, h2, fun j y hj => ?_⟩⟩, W, fun p hp => by rw [List.mem_singleton] at hp; subst hp; exact hq⟩,
          ⟨hb, hb.size, fun k hk _ _ => hb.block k hk, fun p hp => by rw [List.mem_singleton] at hp; subst hp; exact hq, fun p hp => by rw [List.mem_singleton] at hp; subst hp; exact ha ad _ _ rfl, by simp, fun p hp => by rw [List.mem_singleton] at hp; subst hp; rfl⟩⟩
        obtain ⟨ad', e, h6⟩ := h3 j y hj
        cases e
        refine ⟨ad, rfl, ?_⟩
        have h7 := hW2 _ (List.mem_singleton_self _)
        simp only at h7
        unfold World.cell? at h6 ⊢
        rw [hbl, h7]
        rw [hbl, hq] at h6
        exact h6
      | _ => cases h5
end
end Go.Sx
