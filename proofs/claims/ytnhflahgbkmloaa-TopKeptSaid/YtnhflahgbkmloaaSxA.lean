/- A way of walking a body with what is known kept in two short lists: the slots that hold something, and the blocks that are the call's own. -/
import Derived.RangeFuncIn
import Derived.RangeFuncLeaves
import Derived.RangeFuncRecord
import Derived.OrdersIn
import Derived.TacticsIn
import Derived.OwnWalkIn
import Derived.Below
import Derived.WalkKit
import Derived.KernelRfl
import Derived.Deep.LoopGhost
import Derived.WalkLawsBesides
import Derived.WalkSpells
namespace Go.Sx
open Go.RowKit
set_option linter.unusedVariables false
set_option linter.unusedSimpArgs false

/-- The wide fence, in a function's own frame or in a round of loop ro. -/
abbrev Wd (ro : Option Nat) : Fence := { fn := fun _ => True, depth := none, alive := false, round := ro }
theorem wd_room (ro : Option Nat) (k : Nat) : (Wd ro).room k := fun d hd => by cases hd

def get (t : Nat) : List (Nat × Value) → Option Value
  | [] => none
  | (k, v) :: l => bif Nat.beq k t then some v else get t l

/-- The slots that are known. -/
structure Has (N : Nat) (ds : List Deferred) (l : List (Nat × Value)) (a : Act) : Prop where
  size : a.tmps.size = N
  defers : a.defers = ds
  at_ : ∀ t v, get t l = some v → a.tmps[t]? = some v

def ev (l : List (Nat × Value)) : Operand → Option Value
  | .tmp t => get t l
  | .const v => some v
  | .global g => some (.pointer (some ⟨g, 0, none⟩))
  | .func f => some (.func (.func f) #[] #[])

def evs (l : List (Nat × Value)) : List Operand → Option (List Value)
  | [] => some []
  | x :: xs => match ev l x, evs l xs with
    | some v, some vs => some (v :: vs)
    | _, _ => none

theorem Has.eval {N ds l a} (h : Has N ds l a) {x : Operand} {v : Value} (hx : ev l x = some v) : a.eval x = v := by
  cases x with
  | tmp t =>
    have := h.at_ t v hx
    simp [Act.eval, Array.getD_eq_getD_getElem?, this]
  | const u => cases hx; rfl
  | global g => cases hx; rfl
  | func f => cases hx; rfl

theorem Has.evals {N ds l a} (h : Has N ds l a) : ∀ {xs : List Operand} {vs : List Value}, evs l xs = some vs → xs.map a.eval = vs
  | [], vs, hx => by simp [evs] at hx; simp [hx]
  | x :: xs, vs, hx => by
    simp only [evs] at hx
    cases h1 : ev l x with
    | none => simp [h1] at hx
    | some v =>
      cases h2 : evs l xs with
      | none => simp [h1, h2] at hx
      | some us =>
        simp [h1, h2] at hx
        subst hx
        simp [h.eval h1, h.evals h2]

theorem Has.put {N ds l a} (h : Has N ds l a) {d : Nat} (hd : d < N) (v : Value) : Has N ds ((d, v) :: l) (a.put (some d) v) := by
  refine ⟨by simp [Act.put, h.size], h.defers, ?_⟩
  intro t u ht
  simp only [get] at ht
  simp only [Act.put, Array.getElem?_setIfInBounds]
  by_cases e : d = t
  · subst e
    have : Nat.beq d d = true := Nat.beq_refl d
    simp [this] at ht
    simp [h.size, hd, ht]
  · have : Nat.beq d t = false := by
      cases hb : Nat.beq d t with
      | false => rfl
      | true => exact absurd (Nat.eq_of_beq_eq_true hb) e
    simp [this] at ht
    simp [e, h.at_ t u ht]

theorem Has.weak {N ds l l' a} (h : Has N ds l a) (hl : ∀ t v, get t l' = some v → get t l = some v) : Has N ds l' a :=
  ⟨h.size, h.defers, fun t v ht => h.at_ t v (hl t v ht)⟩

/-- Each entry of l' is what l says of that slot. -/
def sub (l : List (Nat × Value)) : List (Nat × Value) → Prop
  | [] => True
  | (k, v) :: l' => get k l = some v ∧ sub l l'
theorem sub_get {l : List (Nat × Value)} : ∀ {l' : List (Nat × Value)}, sub l l' → ∀ t v, get t l' = some v → get t l = some v
  | [], _, t, v, ht => by simp [get] at ht
  | (k, u) :: l', ⟨h1, h2⟩, t, v, ht => by
    simp only [get] at ht
    cases hb : Nat.beq k t with
    | true =>
      have := Nat.eq_of_beq_eq_true hb
      subst this
      simp [hb] at ht
      subst ht; exact h1
    | false => simp [hb] at ht; exact sub_get h2 t v ht

/-- Book-keeping of ranges over functions. -/
def isBook : Obj → Bool
  | .loop _ => true
  | .deferred _ => true
  | _ => false

/-- What is known of the heap: w0: when the call began; w1: the last look round; m: the blocks that are the call's own and are known whole. -/
structure Hq (w0 w1 : World) (m : List (Nat × Obj)) (w : World) : Prop where
  below : Below w0.heap.size w0 w
  size : w1.heap.size ≤ w.heap.size
  keep : ∀ k, k < w1.heap.size → (∀ p ∈ m, p.1 ≠ k) → (∀ o, w1.heap[k]? = some o → isBook o = false) → w.heap[k]? = w1.heap[k]?
  at_ : ∀ p ∈ m, w.heap[p.1]? = some p.2
  ge : ∀ p ∈ m, w0.heap.size ≤ p.1
  nodup : (m.map (·.1)).Nodup
  good : ∀ p ∈ m, isBook p.2 = false
/-- .. and the blocks for the rounds' deferred calls lie as they lay. -/
structure Hp (w0 w1 : World) (m : List (Nat × Obj)) (w : World) : Prop extends Hq w0 w1 m w where
  marks : ∀ k : Nat, ∀ o : Obj, w1.heap[k]? = some o → isBook o = true → w.heap[k]? = some o

theorem Hp.refl (w : World) : Hp w w [] w := ⟨⟨Below.refl _ _, Nat.le_refl _, fun _ _ _ _ => rfl, by simp, by simp, by simp, by simp⟩, fun _ _ h _ => h⟩

theorem Hq.lt {w0 w1 m w} (h : Hq w0 w1 m w) {p : Nat × Obj} (hp : p ∈ m) : p.1 < w.heap.size := (Array.getElem?_eq_some_iff.1 (h.at_ p hp)).1

theorem Hp.drewN {w0 w1 m w} (h : Hp w0 w1 m w) : Hp w0 w1 m { w with drawn := w.drawn + 1 } :=
  ⟨⟨⟨h.below.os, h.below.tape, h.below.output, h.below.size, h.below.block⟩, h.size, h.keep, h.at_, h.ge, h.nodup, h.good⟩, h.marks⟩

/-- A step that turns nothing that stood. -/
theorem Hq.grow {w0 w1 m w w'} (h : Hq w0 w1 m w) (hb : Below w.heap.size w w') : Hq w0 w1 m w' := by
  refine ⟨h.below.trans (hb.mono h.below.size), Nat.le_trans h.size hb.size, ?_, ?_, h.ge, h.nodup, h.good⟩
  · intro k hk hm hg
    rw [hb.block k (Nat.lt_of_lt_of_le hk h.size)]; exact h.keep k hk hm hg
  · intro p hp
    rw [hb.block p.1 (h.lt hp)]; exact h.at_ p hp
theorem lt_of_heap {w : World} {k : Nat} {o : Obj} (h : w.heap[k]? = some o) : k < w.heap.size := (Array.getElem?_eq_some_iff.1 h).1
theorem Hp.grow {w0 w1 m w w'} (h : Hp w0 w1 m w) (hb : Below w.heap.size w w') : Hp w0 w1 m w' :=
  ⟨h.toHq.grow hb, fun k o hk ho => by have := h.marks k o hk ho; rw [hb.block k (lt_of_heap this)]; exact this⟩

/-- Another block that stands is looked at from here on. -/
theorem Hq.focus {w0 w1 m w} (h : Hq w0 w1 m w) {b : Nat} {o : Obj} (hb : w.heap[b]? = some o) (hge : w0.heap.size ≤ b) (hn : ∀ p ∈ m, p.1 ≠ b) (ho : isBook o = false) : Hq w0 w1 ((b, o) :: m) w := by
  refine ⟨h.below, h.size, fun k hk hm => h.keep k hk (fun p hp => hm p (List.mem_cons_of_mem _ hp)), ?_, ?_, ?_, ?_⟩
  · intro p hp
    rcases List.mem_cons.1 hp with rfl | hp
    · exact hb
    · exact h.at_ p hp
  · intro p hp
    rcases List.mem_cons.1 hp with rfl | hp
    · exact hge
    · exact h.ge p hp
  · simp only [List.map_cons, List.nodup_cons]
    refine ⟨?_, h.nodup⟩
    intro hc
    obtain ⟨p, hp, e⟩ := List.mem_map.1 hc
    exact hn p hp e
  · intro p hp
    rcases List.mem_cons.1 hp with rfl | hp
    · exact ho
    · exact h.good p hp
theorem Hp.focus {w0 w1 m w} (h : Hp w0 w1 m w) {b : Nat} {o : Obj} (hb : w.heap[b]? = some o) (hge : w0.heap.size ≤ b) (hn : ∀ p ∈ m, p.1 ≠ b) (ho : isBook o = false) : Hp w0 w1 ((b, o) :: m) w :=
  ⟨h.toHq.focus hb hge hn ho, h.marks⟩

theorem Hp.alloc {w0 w1 m w} (h : Hp w0 w1 m w) {o : Obj} (ho : isBook o = false) : Hp w0 w1 ((w.heap.size, o) :: m) (w.alloc o) :=
  (h.grow ((Below.refl _ _).alloc (Nat.le_refl _) o)).focus (World.alloc_heap_new w o) h.below.size (fun p hp e => by have := h.lt hp; omega) ho

/-- A look round: from here on the blocks that are not in m lie as they lie now. -/
theorem Hq.look {w0 w1 m w} (h : Hq w0 w1 m w) : Hp w0 w m w := ⟨⟨h.below, Nat.le_refl _, fun _ _ _ _ => rfl, h.at_, h.ge, h.nodup, h.good⟩, fun _ _ h _ => h⟩
theorem Hq.lookSub {w0 w1 m m' w} (h : Hq w0 w1 m w) (hs : m'.Sublist m) : Hp w0 w m' w :=
  ⟨⟨h.below, Nat.le_refl _, fun _ _ _ _ => rfl, fun p hp => h.at_ p (hs.subset hp), fun p hp => h.ge p (hs.subset hp), h.nodup.sublist (hs.map _), fun p hp => h.good p (hs.subset hp)⟩, fun _ _ h _ => h⟩
theorem Hp.tail {w0 w1 p m w} (h : Hp w0 w1 (p :: m) w) (hge : w1.heap.size ≤ p.1) : Hp w0 w1 m w :=
  ⟨⟨h.below, h.size, fun k hk hm hg => h.keep k hk (fun q hq => by
      rcases List.mem_cons.1 hq with rfl | hq
      · omega
      · exact hm q hq) hg, fun q hq => h.at_ q (List.mem_cons_of_mem _ hq), fun q hq => h.ge q (List.mem_cons_of_mem _ hq), by have := h.nodup; simp only [List.map_cons, List.nodup_cons] at this; exact this.2, fun q hq => h.good q (List.mem_cons_of_mem _ hq)⟩, h.marks⟩

/-- What is turned is block number i of the list alone. -/
theorem Hp.turn {w0 w1 m w w'} (h : Hp w0 w1 m w) {i b : Nat} {o o' : Obj} (hi : m[i]? = some (b, o)) (ho' : isBook o' = false) (hos : w'.os = w.os) (htape : w'.tape = w.tape) (hout : w'.output = w.output) (hsz : w.heap.size ≤ w'.heap.size)
    (hk : ∀ k, k < w.heap.size → k ≠ b → w'.heap[k]? = w.heap[k]?) (hb : w'.heap[b]? = some o') : Hp w0 w1 (m.set i (b, o')) w' := by
  have hmem : (b, o) ∈ m := List.mem_of_getElem? hi
  have hil : i < m.length := (List.getElem?_eq_some_iff.1 hi).1
  have hfst : (m.set i (b, o')).map (·.1) = m.map (·.1) := by
    rw [List.map_set]
    apply List.ext_getElem?
    intro j
    rw [List.getElem?_set]
    by_cases e : i = j
    · subst e
      have : m[i].fst = b := by rw [List.getElem?_eq_getElem hil] at hi; injection hi with hi; rw [hi]
      simp [hil, this]
    · simp [e]
  have hmem' : ∀ p ∈ m.set i (b, o'), p = (b, o') ∨ (p ∈ m ∧ p.1 ≠ b) := by
    intro p hp
    obtain ⟨j, hj⟩ := List.getElem?_of_mem hp
    rw [List.getElem?_set] at hj
    by_cases e : i = j
    · subst e; simp [hil] at hj; exact .inl hj.symm
    · simp [e] at hj
      refine .inr ⟨List.mem_of_getElem? hj, fun hpb => e ?_⟩
      have hn := h.nodup
      have h1 : (m.map (·.1))[i]? = some b := by simp [hi]
      have h2 : (m.map (·.1))[j]? = some b := by simp [hj, hpb]
      exact (List.getElem?_inj (by simpa using hil) hn).1 (h1.trans h2.symm)
  have hnew : ∀ p ∈ m, p.1 ≠ b → p ∈ m.set i (b, o') := by
    intro p hp hne
    obtain ⟨j, hj⟩ := List.getElem?_of_mem hp
    apply List.mem_of_getElem? (i := j)
    rw [List.getElem?_set]
    by_cases e2 : i = j
    · subst e2; rw [hi] at hj; cases hj; exact absurd rfl hne
    · simp [e2, hj]
  have hself : (b, o') ∈ m.set i (b, o') := by
    apply List.mem_of_getElem? (i := i)
    rw [List.getElem?_set]; simp [hil]
  refine ⟨⟨?_, Nat.le_trans h.size hsz, ?_, ?_, ?_, by rw [hfst]; exact h.nodup, ?_⟩, ?_⟩
  · refine h.below.trans ⟨hos, htape, hout, hsz, fun k hk' => hk k (Nat.lt_of_lt_of_le hk' h.below.size) ?_⟩
    have := h.ge _ hmem
    intro e; subst e; exact absurd hk' (by simp at this ⊢; omega)
  · intro k hk' hm hg
    have hkb : k ≠ b := fun e => hm _ hself e.symm
    rw [hk k (Nat.lt_of_lt_of_le hk' h.size) hkb]
    exact h.keep k hk' (fun p hp e => hm p (hnew p hp (by rw [e]; exact hkb)) e) hg
  · intro p hp
    rcases hmem' p hp with rfl | ⟨hp, hne⟩
    · exact hb
    · rw [hk p.1 (h.lt hp) hne]; exact h.at_ p hp
  · intro p hp
    rcases hmem' p hp with rfl | ⟨hp, hne⟩
    · exact h.ge (b, o) hmem
    · exact h.ge p hp
  · intro p hp
    rcases hmem' p hp with rfl | ⟨hp, hne⟩
    · exact ho'
    · exact h.good p hp
  · intro k ob hk' hob
    have h1 := h.marks k ob hk' hob
    have hkb : k ≠ b := by
      intro e; subst e
      have h2 := h.at_ _ hmem
      have h3 := h.good _ hmem
      simp only at h2 h3
      rw [h1] at h2; injection h2 with h2; rw [← h2, hob] at h3; cases h3
    rw [hk k (lt_of_heap h1) hkb]; exact h1

/-- A turn of book-keeping that is no mark. -/
theorem Hp.putBook {w0 w1 m w} (h : Hp w0 w1 m w) {b : Nat} {o : Obj} (hb : w.heap[b]? = some o) (ho : isBook o = true) (hge : w0.heap.size ≤ b) (h1 : w1.heap.size ≤ b) (o' : Obj) : Hp w0 w1 m (w.putObj b o') := by
  have hne : ∀ k, k ≠ b → (w.putObj b o').heap[k]? = w.heap[k]? := fun k hk => World.putObj_heap_other hk
  refine ⟨⟨?_, by rw [show (w.putObj b o').heap.size = w.heap.size from by simp]; exact h.size, ?_, ?_, h.ge, h.nodup, h.good⟩, ?_⟩
  · exact h.below.trans ⟨rfl, rfl, rfl, by simp, fun k hk => hne k (by omega)⟩
  · intro k hk hm hg; rw [hne k (by omega)]; exact h.keep k hk hm hg
  · intro p hp
    rw [hne p.1 (fun e => ?_)]
    · exact h.at_ p hp
    · have h2 := h.at_ p hp
      rw [e, hb] at h2
      injection h2 with h2
      have := h.good p hp
      rw [← h2, ho] at this; cases this
  · intro k ob hk hob
    have : k < w1.heap.size := lt_of_heap hk
    rw [hne k (by omega)]; exact h.marks k ob hk hob

theorem setCell_heap_same {w : World} {b off : Nat} {c : Array Value} {t : TypeId} {fr : Nat × Nat} (hb : w.heap[b]? = some (.cells c t fr)) (v : Value) :
    (w.setCell ⟨b, off, none⟩ v).heap[b]? = some (.cells (c.setIfInBounds off v) t fr) := by
  obtain ⟨hlt, hk⟩ := Array.getElem?_eq_some_iff.1 hb
  show (w.heap.modify b _)[b]? = _
  rw [Array.getElem?_eq_getElem (by rw [Array.size_modify]; exact hlt), Array.getElem_modify_self, hk]
  rfl

theorem Hp.setCell {w0 w1 m w} (h : Hp w0 w1 m w) {i b off : Nat} {c : Array Value} {t : TypeId} {fr : Nat × Nat} (hi : m[i]? = some (b, .cells c t fr)) (v : Value) :
    Hp w0 w1 (m.set i (b, .cells (c.setIfInBounds off v) t fr)) (w.setCell ⟨b, off, none⟩ v) :=
  h.turn hi rfl rfl rfl rfl (by show w.heap.size ≤ (w.heap.modify _ _).size; rw [Array.size_modify]; exact Nat.le_refl _) (fun k _ hkb => Below.heap_setCell _ _ _ _ hkb) (setCell_heap_same (h.at_ _ (List.mem_of_getElem? hi)) v)

theorem Hq.cell {w0 w1 m w} (h : Hq w0 w1 m w) {i b off : Nat} {c : Array Value} {t : TypeId} {fr : Nat × Nat} {v : Value} (hi : m[i]? = some (b, .cells c t fr)) (hc : c[off]? = some v) : w.cell? ⟨b, off, none⟩ = some v := by
  have := h.at_ _ (List.mem_of_getElem? hi)
  simp at this
  simp [World.cell?, this, hc]

/-- Two looks in a row: what the first list names of the elder blocks, the second names too. -/
theorem Hq.trans {w0 we m w m' w'} (h : Hq w0 we m w) (h' : Hq w0 w m' w') (hs : ∀ p ∈ m, p.1 < we.heap.size → ∃ p' ∈ m', p'.1 = p.1) : Hq w0 we m' w' := by
  refine ⟨h'.below, Nat.le_trans h.size h'.size, ?_, h'.at_, h'.ge, h'.nodup, h'.good⟩
  intro k hk hm hg
  have h1 : ∀ p ∈ m, p.1 ≠ k := fun p hp e => by
    obtain ⟨p', hp', e'⟩ := hs p hp (by omega)
    exact hm p' hp' (e'.trans e)
  have h2 := h.keep k hk h1 hg
  rw [h'.keep k (Nat.lt_of_lt_of_le hk h.size) hm (fun o ho => hg o (by rw [← h2]; exact ho)), h2]

/-- The state: for every frame with these slots and every world with these blocks. -/
def G (N : Nat) (ds : List Deferred) (l : List (Nat × Value)) (w0 w1 : World) (m : List (Nat × Obj)) (X : Act → World → Prop) : Prop :=
  ∀ a w, Has N ds l a → Hp w0 w1 m w → X a w

section
variable {N : Nat} {ds : List Deferred} {l : List (Nat × Value)} {w0 w1 : World} {m : List (Nat × Obj)} {P : Program} {ro : Option Nat} {ops : Array Oper} {Q : Exit → Act → World → Prop} {rest : List Oper} {X : Act → World → Prop}

theorem G.weak {l'} (hs : sub l l') (h : G N ds l' w0 w1 m X) : G N ds l w0 w1 m X := fun a w ha hw => h a w (ha.weak (sub_get hs)) hw

/-! ### control -/
theorem g_seq {x y : Code} (h : G N ds l w0 w1 m (x.wpIn (Wd ro) 0 P (Exit.then (y.wpIn (Wd ro) 0 P Q) Q))) : G N ds l w0 w1 m ((Code.seq x y).wpIn (Wd ro) 0 P Q) :=
  fun a w ha hw => wpIn_seq (h a w ha hw)
/-- A seam: what is known behind x is said anew. -/
theorem g_seam {x y : Code} (K : Act → World → Prop) (h : G N ds l w0 w1 m (x.wpIn (Wd ro) 0 P (Exit.then K Q))) (hk : ∀ a w, K a w → y.wpIn (Wd ro) 0 P Q a w) : G N ds l w0 w1 m ((Code.seq x y).wpIn (Wd ro) 0 P Q) :=
  fun a w ha hw => wpIn_seq (wpIn_mono (h a w ha hw) (fun e a w hq => by cases e <;> first | exact hk _ _ hq | exact hq))
theorem g_skip (h : G N ds l w0 w1 m (Q .normal)) : G N ds l w0 w1 m (Code.skip.wpIn (Wd ro) 0 P Q) := fun a w ha hw => wpIn_skip (h a w ha hw)
theorem g_ret (h : G N ds l w0 w1 m (Q .ret)) : G N ds l w0 w1 m (Code.ret.wpIn (Wd ro) 0 P Q) := fun a w ha hw => wpIn_ret (h a w ha hw)
theorem g_exit {id : Nat} (h : G N ds l w0 w1 m (Q (.exit id))) : G N ds l w0 w1 m ((Code.exit id).wpIn (Wd ro) 0 P Q) := fun a w ha hw => wpIn_exit (h a w ha hw)
theorem g_block {id : Nat} {c : Code} (h : G N ds l w0 w1 m (c.wpIn (Wd ro) 0 P (Exit.inBlock id Q))) : G N ds l w0 w1 m ((Code.block id c).wpIn (Wd ro) 0 P Q) := fun a w ha hw => wpIn_block (h a w ha hw)
theorem g_cond {c : Operand} {x y : Code} {b : Bool} (hc : ev l c = some (.bool b)) (ht : b = true → G N ds l w0 w1 m (x.wpIn (Wd ro) 0 P Q)) (hf : b = false → G N ds l w0 w1 m (y.wpIn (Wd ro) 0 P Q)) :
    G N ds l w0 w1 m ((Code.cond c x y).wpIn (Wd ro) 0 P Q) := fun a w ha hw => by
  refine wpIn_cond (t := b) (ha.eval hc) ?_
  cases b with
  | true => exact ht rfl a w ha hw
  | false => exact hf rfl a w ha hw
theorem g_cond_t {c : Operand} {x y : Code} (hc : ev l c = some (.bool true)) (ht : G N ds l w0 w1 m (x.wpIn (Wd ro) 0 P Q)) :
    G N ds l w0 w1 m ((Code.cond c x y).wpIn (Wd ro) 0 P Q) := g_cond hc (fun _ => ht) (fun h => by cases h)
theorem g_cond_f {c : Operand} {x y : Code} (hc : ev l c = some (.bool false)) (hf : G N ds l w0 w1 m (y.wpIn (Wd ro) 0 P Q)) :
    G N ds l w0 w1 m ((Code.cond c x y).wpIn (Wd ro) 0 P Q) := g_cond hc (fun h => by cases h) (fun _ => hf)
/-- A Bool in a slot: both ways. -/
theorem g_bool (t : Nat) {b : Bool} (hc : get t l = some (.bool b)) (ht : b = true → G N ds ((t, .bool true) :: l) w0 w1 m X) (hf : b = false → G N ds ((t, .bool false) :: l) w0 w1 m X) : G N ds l w0 w1 m X := fun a w ha hw => by
  have key : ∀ b' : Bool, b = b' → Has N ds ((t, .bool b') :: l) a := fun b' e => by
    subst e
    refine ha.weak (fun s v hs => ?_)
    simp only [get] at hs
    cases hb : Nat.beq t s with
    | true =>
      have := Nat.eq_of_beq_eq_true hb
      subst this
      simp [hb] at hs; subst hs; exact hc
    | false => simpa [hb] using hs
  cases b with
  | true => exact ht rfl a w (key _ rfl) hw
  | false => exact hf rfl a w (key _ rfl) hw

theorem g_then {K : Act → World → Prop} (h : G N ds l w0 w1 m K) : G N ds l w0 w1 m (Exit.then K Q .normal) := h
theorem g_thenx {K : Act → World → Prop} {id : Nat} (h : G N ds l w0 w1 m (Q (.exit id))) : G N ds l w0 w1 m (Exit.then K Q (.exit id)) := h
theorem g_thenr {K : Act → World → Prop} (h : G N ds l w0 w1 m (Q .ret)) : G N ds l w0 w1 m (Exit.then K Q .ret) := h
theorem g_inb {id : Nat} (h : G N ds l w0 w1 m (Q .normal)) : G N ds l w0 w1 m (Exit.inBlock id Q .normal) := h
theorem g_inbr {id : Nat} (h : G N ds l w0 w1 m (Q .ret)) : G N ds l w0 w1 m (Exit.inBlock id Q .ret) := h
theorem g_inbx {id : Nat} (h : G N ds l w0 w1 m (Q .normal)) : G N ds l w0 w1 m (Exit.inBlock id Q (.exit id)) := fun a w ha hw => by
  simp only [Exit.inBlock, if_true]; exact h a w ha hw
theorem g_inbo {id id' : Nat} (hne : Nat.beq id' id = false) (h : G N ds l w0 w1 m (Q (.exit id'))) : G N ds l w0 w1 m (Exit.inBlock id Q (.exit id')) := fun a w ha hw => by
  have : id' ≠ id := fun e => by subst e; rw [Nat.beq_refl] at hne; cases hne
  simp only [Exit.inBlock, this, if_false]; exact h a w ha hw

/-- A loop: its states are told by an index; each round comes to one of a smaller number. -/
theorem g_loop {ι : Type} (St : ι → Act → World → Prop) (μ : ι → Nat) {c : Code} (i0 : ι) (h0 : G N ds l w0 w1 m (St i0))
    (round : ∀ i a w, St i a w → c.wpIn (Wd ro) 0 P (Exit.then (fun a' w' => ∃ i', μ i' < μ i ∧ St i' a' w') Q) a w) : G N ds l w0 w1 m ((Code.loop c).wpIn (Wd ro) 0 P Q) := fun a w ha hw => by
  refine wpIn_loop (fun a w => ∃ n i, μ i = n ∧ St i a w) (fun a w => leastOf (fun n => ∃ i, μ i = n ∧ St i a w)) ⟨_, i0, rfl, h0 a w ha hw⟩ ?_
  intro a w hI
  obtain ⟨i, hi, hs⟩ := (leastOf_spec hI).1
  refine wpIn_mono (round i a w hs) ?_
  intro e a' w' hq
  cases e with
  | normal =>
    obtain ⟨i', hlt, hs'⟩ := hq
    refine ⟨⟨_, i', rfl, hs'⟩, Nat.lt_of_le_of_lt ((leastOf_spec ⟨_, i', rfl, hs'⟩).2 _ ⟨i', rfl, hs'⟩) (by rw [← hi]; exact hlt)⟩
  | exit id => exact hq
  | goto l => exact hq
  | ret => exact hq
  | panic ch => exact hq
  | outgrown => exact hq

/-! ### a region in the order of the text -/
theorem g_region {id : Nat} {lo : List Oper} (h : G N ds l w0 w1 m (wpListIn (Wd ro) 0 P lo.toArray Q lo)) : G N ds l w0 w1 m ((Code.region id lo.toArray false).wpIn (Wd ro) 0 P Q) :=
  fun a w ha hw => wpIn_region_lit (h a w ha hw)
theorem s_nil (h : G N ds l w0 w1 m (Q .normal)) : G N ds l w0 w1 m (wpListIn (Wd ro) 0 P ops Q []) := h

/-- Is the operation wanted, by its guard? -/
def wants (ops : Array Oper) (l : List (Nat × Value)) : Option (Nat × Bool) → Option Bool
  | none => some true
  | some (j, want) => match (ops[j]?).bind (·.dst) with
    | some t => match get t l with
      | some (.bool b) => some (b == want)
      | _ => none
    | none => none

theorem wants_spec {a : Act} (ha : Has N ds l a) {o : Oper} {b : Bool} (h : wants ops l o.guard = some b) : Region.wanted o (yielded ops a.tmps) = b := by
  unfold wants at h
  unfold Region.wanted
  cases hg : o.guard with
  | none => simp [hg] at h; simp [h]
  | some g =>
    obtain ⟨j, want⟩ := g
    simp only [hg] at h
    simp only [yielded]
    cases hd : (ops[j]?).bind (·.dst) with
    | none => simp [hd] at h
    | some t =>
      simp only [hd] at h
      cases hv : get t l with
      | none => simp [hv] at h
      | some v =>
        cases v <;> simp [hv] at h
        rename_i c
        have := ha.at_ t _ hv
        simp [this]
        cases c <;> cases want <;> simp_all

def plainOp : Op → Bool
  | .defer _ => false
  | _ => true
theorem plain_ne {o : Oper} (h : plainOp o.op = true) : ∀ c, o.op ≠ .defer c := fun c hc => by rw [hc] at h; cases h
theorem semAt_plain {ro : Option Nat} {ρ : Operand → Value} {o : Oper} (h : plainOp o.op = true) : o.semAt (Wd ro).round ρ = execOp ρ o := Oper.semAt_eq _ _ _ (plain_ne h)

/-- What an operation yields, the world left alone, in every world of a class. -/
def Yv (P : Program) (N : Nat) (ds : List Deferred) (l : List (Nat × Value)) (C : World → Prop) (o : Oper) (v : Value) : Prop :=
  ∀ a w, Has N ds l a → C w → (execOp a.eval o).run P w = .ok (.value v) w

theorem s_y {d v} {o : Oper} (hy : Yv P N ds l (Hp w0 w1 m) o v) (hg : wants ops l o.guard = some true) (hp : plainOp o.op = true) (hd : o.dst = some d) (hdN : Nat.blt d N = true)
    (k : G N ds ((d, v) :: l) w0 w1 m (wpListIn (Wd ro) 0 P ops Q rest)) : G N ds l w0 w1 m (wpListIn (Wd ro) 0 P ops Q (o :: rest)) := fun a w ha hw => by
  have hdN' : d < N := by simpa [Nat.blt_eq] using hdN
  simp only [wpListIn, wants_spec ha hg, if_true]
  refine ⟨fun _ _ => trivial, ?_⟩
  rw [semAt_plain hp, hy a w ha hw, Oper.uponIn_value, hd]
  exact k _ _ (ha.put hdN' v) hw

/-- An operation passed over. -/
theorem s_no {d} {o : Oper} (hg : wants ops l o.guard = some false) (hd : o.dst = some d) (hdN : Nat.blt d N = true)
    (k : G N ds ((d, undef) :: l) w0 w1 m (wpListIn (Wd ro) 0 P ops Q rest)) : G N ds l w0 w1 m (wpListIn (Wd ro) 0 P ops Q (o :: rest)) := fun a w ha hw => by
  have hdN' : d < N := by simpa [Nat.blt_eq] using hdN
  have := wants_spec ha hg
  simp only [wpListIn, this]
  refine ⟨fun _ _ => trivial, ?_⟩
  rw [hd]
  exact k _ _ (ha.put hdN' _) hw

/-- One operation's run: a value, nothing, a call that returns, a round that returns; never a panic. -/
def Stp (P : Program) (ro : Option Nat) (o : Oper) (a : Act) (w : World) (R : Value → World → Prop) : Prop :=
  (∃ v w', (execOp a.eval o).run P w = .ok (.value v) w' ∧ R v w') ∨ (∃ w', (execOp a.eval o).run P w = .ok .skip w' ∧ R undef w') ∨
    (∃ f args w1, (execOp a.eval o).run P w = .ok (.enter f args) w1 ∧ Calls P f args w1 (fun e w' => ∃ v, e = .returned v ∧ R v w')) ∨
    (∃ l f tmps assign body w1, (execOp a.eval o).run P w = .ok (.round l f tmps assign body) w1 ∧ RoundIn (Wd ro) 0 P l f tmps assign body w1 (fun e w' => ∃ v, e = .returned v ∧ R v w'))

theorem Stp.mono {o : Oper} {a : Act} {w : World} {R R' : Value → World → Prop} (h : Stp P ro o a w R) (hr : ∀ v w', R v w' → R' v w') : Stp P ro o a w R' := by
  rcases h with ⟨v, w', h1, h2⟩ | ⟨w', h1, h2⟩ | ⟨f, args, w1, h1, h2⟩ | ⟨l, f, tmps, assign, body, w1, h1, h2⟩
  · exact .inl ⟨v, w', h1, hr _ _ h2⟩
  · exact .inr (.inl ⟨w', h1, hr _ _ h2⟩)
  · exact .inr (.inr (.inl ⟨f, args, w1, h1, h2.mono fun e w' ⟨v, e1, e2⟩ => ⟨v, e1, hr _ _ e2⟩⟩))
  · exact .inr (.inr (.inr ⟨l, f, tmps, assign, body, w1, h1, h2.mono fun e w' ⟨v, e1, e2⟩ => ⟨v, e1, hr _ _ e2⟩⟩))
theorem Stp.congr {o : Oper} {a a' : Act} {w : World} {R : Value → World → Prop} (h : Stp P ro o a w R) (he : execOp a'.eval o = execOp a.eval o) : Stp P ro o a' w R := by
  unfold Stp at *; rw [he]; exact h

theorem callsIn_of {f args w R} (h : Calls P f args w R) : CallsIn (Wd ro) 0 P f args w R :=
  ⟨trivial, fun cs _ => let ⟨e, w', fr, r, s, x⟩ := h cs; ⟨e, w', fr, r, comesIn_wide.2 s, x⟩⟩

theorem wp_of_step {o : Oper} {R : Value → World → Prop} {a : Act} {w : World} {K : Act → World → Prop} (hp : plainOp o.op = true)
    (h : Stp P ro o a w R) (k : ∀ v w', R v w' → K (a.put o.dst v) w') : o.wpIn (Wd ro) 0 P a w K Q := by
  refine ⟨fun _ _ => trivial, ?_⟩
  rw [semAt_plain hp]
  rcases h with ⟨v, w', hr, hR⟩ | ⟨w', hr, hR⟩ | ⟨f, args, w1, hr, hc⟩ | ⟨l, f, tmps, assign, body, w1, hr, hc⟩
  · rw [hr, Oper.uponIn_value]; exact k _ _ hR
  · rw [hr, Oper.uponIn_skip]; exact k _ _ hR
  · rw [hr, Oper.uponIn_enter]
    refine ⟨fun h => by simp at h, (callsIn_of hc).mono ?_⟩
    rintro e w' ⟨v, rfl, hR⟩
    exact k _ _ hR
  · rw [hr, Oper.uponIn_round]
    refine ⟨fun h => by simp at h, hc.mono ?_⟩
    rintro e w' ⟨v, rfl, hR⟩
    exact k _ _ hR

theorem s_do {o : Oper} (hg : wants ops l o.guard = some true) (hp : plainOp o.op = true)
    (hs : ∀ a w, Has N ds l a → Hp w0 w1 m w → Stp P ro o a w (fun v w' => wpListIn (Wd ro) 0 P ops Q rest (a.put o.dst v) w')) : G N ds l w0 w1 m (wpListIn (Wd ro) 0 P ops Q (o :: rest)) := fun a w ha hw => by
  simp only [wpListIn, wants_spec ha hg, if_true]
  exact wp_of_step hp (hs a w ha hw) (fun v w' hR => hR)

/-! ### a region in whatever order -/
def Closed (ops : Array Oper) (L : Array Bool) : Prop :=
  L.size = ops.size ∧ ∀ j oj, ops[j]? = some oj → L.getD j false = true → ∀ e ∈ oj.after, Region.binds .any e = true → L.getD e.on false = true
/-- What holds of the world while operation q has not come up. -/
def Jq (q : Nat) (C : World → Prop) (L : Array Bool) (w : World) : Prop := L.getD q false = false → C w
def anc (ops : Array Oper) : Nat → Nat → Nat → Bool
  | 0, _, _ => false
  | f + 1, q, i => match ops[q]? with
    | some o => o.after.any fun e => Region.binds .any e && (e.on == i || anc ops f e.on i)
    | none => false
theorem anc_spec {L : Array Bool} (hc : Closed ops L) : ∀ (f q i : Nat), anc ops f q i = true → L.getD q false = true → L.getD i false = true
  | 0, _, _, h, _ => by simp [anc] at h
  | f + 1, q, i, h, hq => by
    simp only [anc] at h
    cases ho : ops[q]? with
    | none => simp [ho] at h
    | some o =>
      simp only [ho] at h
      obtain ⟨e, he, hb⟩ := Array.any_eq_true'.1 h
      simp only [Bool.and_eq_true, Bool.or_eq_true, beq_iff_eq] at hb
      have h1 := hc.2 q o ho hq e he hb.1
      rcases hb.2 with h2 | h2
      · rw [← h2]; exact h1
      · exact anc_spec hc f e.on i h2 h1

theorem getD_false_of {L : Array Bool} {i : Nat} (h : L.getD i true = false) : L.getD i false = false := by
  rcases Nat.lt_or_ge i L.size with h' | h'
  · simp [h'] at h ⊢; exact h
  · simp [Array.getElem?_eq_none h'] at h

theorem closed_set {L : Array Bool} {i : Nat} (hc : Closed ops L) (hi : i ∈ Region.ready .any ops L) : Closed ops (L.setIfInBounds i true) := by
  obtain ⟨_, oi, hoi, hall⟩ := mem_ready.1 hi
  refine ⟨by simp [hc.1], fun j oj hj hl e he hb => ?_⟩
  by_cases hij : i = j
  · subst hij
    have : oj = oi := Option.some.inj (hj.symm.trans hoi)
    subst this
    exact getD_set_true (hall e he hb)
  · rw [getD_set_ne false hij] at hl
    exact getD_set_true (hc.2 j oj hj hl e he hb)

def opJ (P : Program) (ro : Option Nat) (ops : Array Oper) (i : Nat) (K : Act → World → Prop) (a : Act) (w : World) : Prop :=
  match ops[i]? with
  | none => False
  | some o => plainOp o.op = true ∧ if Region.wanted o (yielded ops a.tmps) = true then Stp P ro o a w (fun v w' => K (a.put o.dst v) w') else K (a.put o.dst undef) w

def AnyJ (P : Program) (ro : Option Nat) (ops : Array Oper) (Q : Exit → Act → World → Prop) (q : Nat) (C : World → Prop) : Nat → Array Bool → Act → World → Prop
  | 0, L, a, w => Region.ready .any ops L = [] ∧ Q .normal a w
  | f + 1, L, a, w => (Region.ready .any ops L = [] → Q .normal a w) ∧
      ∀ i ∈ Region.ready .any ops L, opJ P ro ops i (fun a' w' => Jq q C (L.setIfInBounds i true) w' ∧ AnyJ P ro ops Q q C f (L.setIfInBounds i true) a' w') a w

theorem opJ_mono {i : Nat} {K K' : Act → World → Prop} {a : Act} {w : World} (h : ∀ a w, K a w → K' a w) (hh : opJ P ro ops i K a w) : opJ P ro ops i K' a w := by
  unfold opJ at *
  split
  · rename_i ho; simp [ho] at hh
  · rename_i o ho
    simp only [ho] at hh
    refine ⟨hh.1, ?_⟩
    have hh := hh.2
    split
    · rename_i hw; simp only [hw, if_true] at hh; exact hh.mono fun v w' => h _ _
    · rename_i hw; simp only [hw] at hh; exact h _ _ hh

theorem anyJ_sound {q : Nat} {C : World → Prop} : ∀ (f : Nat) (L : Array Bool) (a : Act) (w : World), AnyJ P ro ops Q q C f L a w → wpAnyIn (Wd ro) 0 P .any ops Q f L a w
  | 0, _, _, _, h => h
  | f + 1, L, a, w, h => ⟨h.1, fun i hi => by
      have := h.2 i hi
      unfold opJ at this
      unfold wpOpIn
      split
      · rename_i ho; simp [ho] at this
      · rename_i o ho
        simp only [ho] at this
        obtain ⟨hp, this⟩ := this
        split
        · rename_i hw; simp only [hw, if_true] at this
          exact wp_of_step hp this (fun v w' hR => anyJ_sound f _ _ _ hR.2)
        · rename_i hw; simp only [hw] at this
          exact ⟨fun _ _ => trivial, anyJ_sound f _ _ _ this.2⟩⟩

/-- In frame a: operation i yields v in every world that may be met before it. -/
def YJ (P : Program) (ops : Array Oper) (q : Nat) (C : World → Prop) (i : Nat) (o : Oper) (v : Value) (a : Act) : Prop :=
  (Region.wanted o (yielded ops a.tmps) = true ∧ ∀ (L : Array Bool) (w : World), Closed ops L → L.getD i true = false → Jq q C L w → (execOp a.eval o).run P w = .ok (.value v) w) ∨
  (Region.wanted o (yielded ops a.tmps) = false ∧ v = undef)

theorem YJ.opJ {q : Nat} {C : World → Prop} {i : Nat} {o : Oper} {v : Value} {a : Act} {L : Array Bool} {w : World} {K : Act → World → Prop} (hi : ops[i]? = some o) (hp : plainOp o.op = true) (hy : YJ P ops q C i o v a)
    (hc : Closed ops L) (hun : L.getD i true = false) (hJ : Jq q C L w) (h : K (a.put o.dst v) w) : Sx.opJ P ro ops i K a w := by
  unfold Sx.opJ
  simp only [hi]
  refine ⟨hp, ?_⟩
  rcases hy with ⟨hw, hv⟩ | ⟨hw, rfl⟩
  · simp only [hw, if_true]; exact .inl ⟨v, w, hv L w hc hun hJ, h⟩
  · simp only [hw]; exact h

theorem opJ_put {q : Nat} {C : World → Prop} {i j : Nat} {oi oj : Oper} {v : Value} (hj : ops[j]? = some oj) (hap : oi.apart ops oj = true)
    (hsi : ∀ cs b, oi.op ≠ .select cs b) (hsj : ∀ cs b, oj.op ≠ .select cs b) {K : Act → World → Prop} {a : Act} {w : World}
    (hy : YJ P ops q C i oi v a) (h : opJ P ro ops j K (a.put oi.dst v) w) :
    opJ P ro ops j (fun a' w' => YJ P ops q C i oi v a' ∧ K (a'.put oi.dst v) w') a w := by
  obtain ⟨h1, h2, h3⟩ := Oper.apart_spec hap
  have keep : ∀ u, YJ P ops q C i oi v (a.put oj.dst u) := fun u => by
    unfold YJ at *
    rw [execOp_put oi hsi a oj.dst u h3, wanted_put oi a oj.dst u h3]
    exact hy
  unfold opJ at *
  simp only [hj] at *
  rw [wanted_put oj a oi.dst v h1] at h
  refine ⟨h.1, ?_⟩
  have h := h.2
  split
  · rename_i hw
    simp only [hw, if_true] at h
    refine Stp.mono (Stp.congr h (execOp_put oj hsj a oi.dst v h1).symm) ?_
    intro u w' hK
    exact ⟨keep u, by rw [← Act.put_comm a v u h2]; exact hK⟩
  · rename_i hw
    simp only [hw] at h
    exact ⟨keep _, by rw [← Act.put_comm a v undef h2]; exact h⟩

theorem anyJ_first {q : Nat} {C : World → Prop} {i : Nat} {oi : Oper} {v : Value} (hi : ops[i]? = some oi) (hp : plainOp oi.op = true) (hiq : i ≠ q)
    (hsel : ∀ (j : Nat) (o : Oper) cs b, ops[j]? = some o → o.op ≠ .select cs b) :
    ∀ (f : Nat) (L : Array Bool) (a : Act) (w : World), Closed ops L →
      (∀ j oj, ops[j]? = some oj → j ≠ i → L.getD j true = false → (∀ e ∈ oj.after, Region.binds .any e = true → e.on ≠ i) → oi.apart ops oj = true) →
      i ∈ Region.ready .any ops L → YJ P ops q C i oi v a → Jq q C L w →
      AnyJ P ro ops Q q C f (L.setIfInBounds i true) (a.put oi.dst v) w → AnyJ P ro ops Q q C (f + 1) L a w := by
  have hJs : ∀ (L : Array Bool) (w : World), Jq q C L w → Jq q C (L.setIfInBounds i true) w := fun L w h h' => h (by rw [getD_set_ne false hiq] at h'; exact h')
  have hJb : ∀ (L : Array Bool) (w : World), Jq q C (L.setIfInBounds i true) w → Jq q C L w := fun L w h h' => h (by rw [getD_set_ne false hiq]; exact h')
  intro f
  induction f with
  | zero =>
    intro L a w hc _ hr hy hJ H
    refine ⟨fun h => (by rw [h] at hr; cases hr), fun j hj => ?_⟩
    by_cases hji : j = i
    · subst hji; exact hy.opJ hi hp hc (mem_ready.1 hr).1 hJ ⟨hJs _ _ hJ, H⟩
    · have := ready_mono hj hji
      rw [H.1] at this
      cases this
  | succ f ih =>
    intro L a w hc hfree hr hy hJ H
    refine ⟨fun h => (by rw [h] at hr; cases hr), fun j hj => ?_⟩
    by_cases hji : j = i
    · subst hji; exact hy.opJ hi hp hc (mem_ready.1 hr).1 hJ ⟨hJs _ _ hJ, H⟩
    · have h1 := H.2 j (ready_mono hj hji)
      obtain ⟨hjun, oj, hoj, hall⟩ := mem_ready.1 hj
      have hnot : ∀ e ∈ oj.after, Region.binds .any e = true → e.on ≠ i := fun e he hb heq => by
        have h1 := hall e he hb
        rw [heq, getD_false_of (mem_ready.1 hr).1] at h1
        cases h1
      have h2 := opJ_put hoj (hfree j oj hoj hji hjun hnot) (fun cs b => hsel i oi cs b hi) (fun cs b => hsel j oj cs b hoj) hy h1
      have hfree' : ∀ k ok, ops[k]? = some ok → k ≠ i → (L.setIfInBounds j true).getD k true = false →
          (∀ e ∈ ok.after, Region.binds .any e = true → e.on ≠ i) → oi.apart ops ok = true := fun k ok hk hki hun hno => by
        refine hfree k ok hk hki ?_ hno
        by_cases hjk : j = k
        · subst hjk; exact hjun
        · rw [getD_set_ne true hjk] at hun; exact hun
      refine opJ_mono (fun a' w' h3 => ?_) h2
      have h4 : (L.setIfInBounds i true).setIfInBounds j true = (L.setIfInBounds j true).setIfInBounds i true := (Array.setIfInBounds_comm _ _ hji).symm
      have h5 := h3.2
      rw [h4] at h5
      have h6 : Jq q C (L.setIfInBounds j true) w' := hJb _ _ h5.1
      exact ⟨h6, ih (L.setIfInBounds j true) a' w' (closed_set hc hj) hfree' (ready_mono hr (Ne.symm hji)) h3.1 h6 h5.2⟩

/-- The state before the rest of such a region. -/
abbrev GJ (N : Nat) (ds : List Deferred) (l : List (Nat × Value)) (w0 w1 : World) (m : List (Nat × Obj)) (P : Program) (ro : Option Nat) (ops : Array Oper) (Q : Exit → Act → World → Prop) (q : Nat) (C : World → Prop) (f : Nat) (L : Array Bool) : Prop :=
  G N ds l w0 w1 m fun a w => Closed ops L → AnyJ P ro ops Q q C f L a w

variable {q : Nat} {C : World → Prop} {f : Nat} {L : Array Bool}

theorem closed_none (ops : Array Oper) : Closed ops (Array.replicate ops.size false) := ⟨by simp, fun j oj _ hl => (by
  rcases Nat.lt_or_ge j ops.size with h | h
  · simp [h] at hl
  · simp [h] at hl)⟩

theorem g_draw {id : Nat} {lo : List Oper} (q : Nat) (hm : P.follows .mixedOrders = true)
    (h : GJ N ds l w0 w1 m P ro lo.toArray Q q (Hp w0 w1 m) lo.length (Array.replicate lo.length false)) : G N ds l w0 w1 m ((Code.region id lo.toArray true).wpIn (Wd ro) 0 P Q) :=
  fun a w ha hw => wpIn_region_any hm (anyJ_sound (q := q) (C := Hp w0 w1 m) _ _ _ _ (by
    have := h a _ ha hw.drewN
    simp only [List.size_toArray]
    exact this (by have := closed_none lo.toArray; simpa using this)))

theorem j_nil (hr : Region.ready .any ops L = []) (h : G N ds l w0 w1 m (Q .normal)) : GJ N ds l w0 w1 m P ro ops Q q C f L := fun a w ha hw _ => by
  cases f with
  | zero => exact ⟨hr, h a w ha hw⟩
  | succ f => exact ⟨fun _ => h a w ha hw, by rw [hr]; simp⟩

theorem j_core {i d : Nat} {v : Value} {o : Oper} (hi : ops[i]? = some o) (hs : Region.noSelect ops = true) (hf : Region.free .any ops L i = true) (hr : (Region.ready .any ops L).contains i = true)
    (hp : plainOp o.op = true) (hiq : Nat.beq i q = false) (hd : o.dst = some d) (hdN : Nat.blt d N = true) (hC : L.getD q false = true ∨ ∀ w, Hp w0 w1 m w → C w)
    (hY : ∀ a, Has N ds l a → YJ P ops q C i o v a)
    (k : GJ N ds ((d, v) :: l) w0 w1 m P ro ops Q q C f (L.setIfInBounds i true)) : GJ N ds l w0 w1 m P ro ops Q q C (f + 1) L := fun a w ha hw hc => by
  have hdN' : d < N := by simpa [Nat.blt_eq] using hdN
  have hr' : i ∈ Region.ready .any ops L := by simpa using hr
  have hJ : Jq q C L w := fun h => by
    rcases hC with h' | h'
    · rw [h'] at h; cases h
    · exact h' w hw
  have hne : i ≠ q := fun e => by subst e; rw [Nat.beq_refl] at hiq; cases hiq
  refine anyJ_first hi hp hne (Region.noSelect_spec hs) f L a w hc (Region.free_spec hi hf) hr' (hY a ha) hJ ?_
  have := k _ _ (ha.put hdN' v) hw (closed_set hc hr')
  rw [hd]; exact this

/-- What yields in whatever world. -/
theorem j_p {i d : Nat} {v : Value} {o : Oper} (hi : ops[i]? = some o) (hy : Yv P N ds l (fun _ => True) o v) (hs : Region.noSelect ops = true) (hf : Region.free .any ops L i = true) (hr : (Region.ready .any ops L).contains i = true)
    (hg : wants ops l o.guard = some true) (hp : plainOp o.op = true) (hiq : Nat.beq i q = false) (hd : o.dst = some d) (hdN : Nat.blt d N = true) (hC : L.getD q false = true ∨ ∀ w, Hp w0 w1 m w → C w)
    (k : GJ N ds ((d, v) :: l) w0 w1 m P ro ops Q q C f (L.setIfInBounds i true)) : GJ N ds l w0 w1 m P ro ops Q q C (f + 1) L :=
  j_core hi hs hf hr hp hiq hd hdN hC (fun a ha => .inl ⟨wants_spec ha hg, fun _ w _ _ _ => hy a w ha trivial⟩) k
/-- What yields in every world of the class: q waits for it. -/
theorem j_l {i d : Nat} {v : Value} {o : Oper} (hi : ops[i]? = some o) (hy : Yv P N ds l C o v) (ha : (Nat.ble ops.size q || anc ops 12 q i) = true) (hs : Region.noSelect ops = true) (hf : Region.free .any ops L i = true) (hr : (Region.ready .any ops L).contains i = true)
    (hg : wants ops l o.guard = some true) (hp : plainOp o.op = true) (hiq : Nat.beq i q = false) (hd : o.dst = some d) (hdN : Nat.blt d N = true) (hC : L.getD q false = true ∨ ∀ w, Hp w0 w1 m w → C w)
    (k : GJ N ds ((d, v) :: l) w0 w1 m P ro ops Q q C f (L.setIfInBounds i true)) : GJ N ds l w0 w1 m P ro ops Q q C (f + 1) L :=
  j_core hi hs hf hr hp hiq hd hdN hC (fun a haa => .inl ⟨wants_spec haa hg, fun L' w hc hun hJ => hy a w haa (hJ (by
    cases hq : L'.getD q false with
    | false => rfl
    | true =>
      simp only [Bool.or_eq_true] at ha
      rcases ha with h | h
      · have h := Nat.le_of_ble_eq_true h
        rw [← hc.1] at h
        simp [Array.getElem?_eq_none h] at hq
      · have := anc_spec hc 12 q i h hq
        rw [getD_false_of hun] at this; cases this))⟩) k
theorem j_no {i d : Nat} {o : Oper} (hi : ops[i]? = some o) (hs : Region.noSelect ops = true) (hf : Region.free .any ops L i = true) (hr : (Region.ready .any ops L).contains i = true)
    (hg : wants ops l o.guard = some false) (hp : plainOp o.op = true) (hiq : Nat.beq i q = false) (hd : o.dst = some d) (hdN : Nat.blt d N = true) (hC : L.getD q false = true ∨ ∀ w, Hp w0 w1 m w → C w)
    (k : GJ N ds ((d, undef) :: l) w0 w1 m P ro ops Q q C f (L.setIfInBounds i true)) : GJ N ds l w0 w1 m P ro ops Q q C (f + 1) L :=
  j_core hi hs hf hr hp hiq hd hdN hC (fun a haa => .inr ⟨wants_spec haa hg, rfl⟩) k

/-- The one that may come up now. -/
theorem j_do {i : Nat} {o : Oper} (hi : ops[i]? = some o) (hr : Region.ready .any ops L = [i]) (hg : wants ops l o.guard = some true) (hp : plainOp o.op = true)
    (hs : ∀ a w, Has N ds l a → Hp w0 w1 m w → Stp P ro o a w (fun v w' => Jq q C (L.setIfInBounds i true) w' ∧ (Closed ops (L.setIfInBounds i true) → AnyJ P ro ops Q q C f (L.setIfInBounds i true) (a.put o.dst v) w'))) : GJ N ds l w0 w1 m P ro ops Q q C (f + 1) L := fun a w ha hw hc => by
  refine ⟨fun h => (by rw [hr] at h; cases h), fun j hj => ?_⟩
  rw [hr] at hj
  have hji : j = i := by simpa using hj
  subst hji
  unfold opJ
  simp only [hi]
  refine ⟨hp, ?_⟩
  rw [if_pos (wants_spec ha hg)]
  have hc' : Closed ops (L.setIfInBounds j true) := closed_set hc (by rw [hr]; simp)
  exact (hs a w ha hw).mono fun v w' ⟨h1, h2⟩ => ⟨h1, h2 hc'⟩
end
end Go.Sx
