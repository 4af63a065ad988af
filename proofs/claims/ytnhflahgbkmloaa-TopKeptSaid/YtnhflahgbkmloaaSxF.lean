/- Small words for loops and rounds; in the words of Sx. -/
import Derived.Test.YtnhflahgbkmloaaSxE
namespace Go.Sx
open Go.RowKit
set_option linter.unusedVariables false
set_option linter.unusedSimpArgs false

section
variable {N : Nat} {ds : List Deferred} {l : List (Nat × Value)} {w0 w1 : World} {m : List (Nat × Obj)} {P : Program} {ro : Option Nat} {ops : Array Oper} {Q : Exit → Act → World → Prop} {rest : List Oper} {C : World → Prop} {X : Act → World → Prop}

theorem g_go {a : Act} {w : World} (ha : Has N ds l a) (hw : Hp w0 w1 m w) (h : G N ds l w0 w1 m X) : X a w := h a w ha hw

theorem Marks.look {w} : ∀ {ds : List Deferred}, Marks w0 w1 ds → (∀ (k : Nat) (o : Obj), w1.heap[k]? = some o → isBook o = true → w.heap[k]? = some o) → Marks w0 w ds
  | [], _, _ => trivial
  | d :: ds, ⟨D, hd, hge, hD, hne, hM⟩, hw => ⟨D, hd, hge, hw D _ hD rfl, hne, hM.look hw⟩
theorem Marks.lt : ∀ {ds : List Deferred}, Marks w0 w1 ds → ∀ d ∈ ds, ∀ D, d.target = .collected D → D < w1.heap.size
  | [], _, d, hd, _, _ => by cases hd
  | d :: ds, ⟨D, hd, hge, hD, hne, hM⟩, d', hd', D', e => by
    rcases List.mem_cons.1 hd' with rfl | h
    · rw [hd] at e; simp only [Target.collected.injEq] at e; subst e; exact lt_of_heap hD
    · exact Marks.lt hM d' h D' e
theorem Marks.next {we W : World} {D : Nat} (hM : Marks w0 w1 ds) (he : Hp w0 w1 m we) (hk : Bk we W) (hD : we.heap.size ≤ D) (hW : W.heap[D]? = some (Obj.deferred (some []))) :
    Marks w0 W ({ target := .collected D, args := #[] } :: ds) :=
  ⟨D, rfl, Nat.le_trans he.below.size hD, hW, fun d' hd' e => by have := hM.lt d' hd' D e; have := he.size; omega,
    hM.look fun k o h hb => hk k o (he.marks k o h hb) hb⟩
theorem Hq.tail {w p} (h : Hq w0 w1 (p :: m) w) (hge : w1.heap.size ≤ p.1) : Hq w0 w1 m w :=
  ⟨h.below, h.size, fun k hk hm hg => h.keep k hk (fun q hq => by
      rcases List.mem_cons.1 hq with rfl | hq
      · omega
      · exact hm q hq) hg, fun q hq => h.at_ q (List.mem_cons_of_mem _ hq), fun q hq => h.ge q (List.mem_cons_of_mem _ hq), by have := h.nodup; simp only [List.map_cons, List.nodup_cons] at this; exact this.2, fun q hq => h.good q (List.mem_cons_of_mem _ hq)⟩
/-- A round: from its first world to its last one. -/
theorem Hq.round {we W1 W2 w : World} {m1 m2 m3 : List (Nat × Obj)} (h1 : Hq w0 we m1 W1) (h2 : Hq w0 W1 m2 W2) (h3 : Hp w0 W2 m3 w) (s1 : ∀ x ∈ m1.map (·.1), x ∈ m2.map (·.1)) (s2 : ∀ x ∈ m2.map (·.1), x ∈ m3.map (·.1)) : Hq w0 we m3 w := by
  have f : ∀ {m m' : List (Nat × Obj)}, (∀ x ∈ m.map (·.1), x ∈ m'.map (·.1)) → ∀ p ∈ m, ∃ p' ∈ m', p'.1 = p.1 := fun h p hp => by
    obtain ⟨p', hp', e⟩ := List.mem_map.1 (h p.1 (List.mem_map.2 ⟨p, hp, rfl⟩))
    exact ⟨p', hp', e⟩
  exact (h1.trans h2 fun p hp _ => f s1 p hp).trans h3.toHq fun p hp _ => f s2 p hp
theorem Hq.base {w} (h : Hq w0 w1 m w) : Hq w0 w0 m w := ⟨h.below, h.below.size, fun k hk _ _ => h.below.block k hk, h.at_, h.ge, h.nodup, h.good⟩
theorem Hq.of_below {w w'} (h : Below w.heap.size w w') : Hq w w [] w' := ⟨h, h.size, fun k hk _ _ => h.block k hk, by simp, by simp, by simp, by simp⟩
theorem info_of {t : TypeId} {z : Value} {n b : Nat} (h : ((P.info? t).map fun i => (i.size, i.bytes)) = some (n, b)) (hz : (P.info? t).bind (·.zero) = some z) : ∃ ie, P.info? t = some ie ∧ ie.zero = some z ∧ ie.size = n ∧ ie.bytes = b := by
  cases hi : P.info? t with
  | none => simp [hi] at h
  | some i => simp [hi] at h hz; exact ⟨i, rfl, hz, h.1, h.2⟩
end
end Go.Sx
