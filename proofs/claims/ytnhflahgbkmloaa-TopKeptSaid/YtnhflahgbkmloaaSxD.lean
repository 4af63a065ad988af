/- A range over a function, in the words of Sx: the iterator's contract, and the statement's law. -/
import Derived.Test.YtnhflahgbkmloaaSxC
namespace Go.Sx
open Go.RowKit
set_option linter.unusedVariables false
set_option linter.unusedSimpArgs false

section
variable {N : Nat} {ds : List Deferred} {l : List (Nat × Value)} {w0 w1 : World} {m : List (Nat × Obj)} {P : Program} {Q : Exit → Act → World → Prop}

/-- The iterator gf, with lb captured, hands on xs, in its order, in every world that S lets in, and turns nothing that stood. -/
def IterC {α : Type} (P : Program) (gf : FuncId) (lb : List Value) (encs : α → List Value) (xs : List α) (S : World → Prop) : Prop :=
  ∀ (lp : Nat) (J Jx : Nat → World → Prop), (∀ k W, J k W → S W) → (∀ k W W', J k W → Below W.heap.size W W' → J k W') → (∀ k W W', Jx k W → Below W.heap.size W W' → Jx k W') →
    (∀ k x W, J k W → xs[k]? = some x → YieldAt (Wd none) 0 P lp (encs x).toArray W fun e W' => (e = .returned (.bool true) ∧ J (k + 1) W') ∨ (e = .returned (.bool false) ∧ Jx (k + 1) W')) →
    ∀ W, J 0 W → Calls P gf (.func (.yield lp) #[] #[] :: lb).toArray W fun e W' => (∃ v, e = .returned v) ∧ (J xs.length W' ∨ ∃ k, k ≤ xs.length ∧ Jx k W')

/-- The book-keeping lies as it lay. -/
def Bk (w w' : World) : Prop := ∀ (k : Nat) (o : Obj), w.heap[k]? = some o → isBook o = true → w'.heap[k]? = some o

/-- How a round may be left. -/
def RQ (w0 we : World) (MI : Nat → List (Nat × Obj) → Prop) (MX : Code → Nat → List (Nat × Obj) → Prop) (k : Nat) (W : World) : Exit → Act → World → Prop
  | .normal, _, w => Bk W w ∧ ∃ m, MI (k + 1) m ∧ Hq w0 we m w
  | .ret, _, w => Bk W w ∧ ∃ m, MX .ret (k + 1) m ∧ Hq w0 we m w
  | .exit id, _, w => Bk W w ∧ ∃ m, MX (.exit id) (k + 1) m ∧ Hq w0 we m w
  | _, _, _ => False

theorem bk_trans {a b c : World} (h : Bk a b) (h' : Bk b c) : Bk a c := fun k o hk ho => h' k o (h k o hk ho) ho
theorem bk_below {a b : World} (h : Below a.heap.size a b) : Bk a b := fun k o hk ho => (h.block k (lt_of_heap hk)).trans hk

/-- A turn of one block of book-keeping. -/
theorem Hq.putBk {w} (h : Hq w0 w1 m w) {b : Nat} {o : Obj} (hb : w.heap[b]? = some o) (ho : isBook o = true) (hge : w0.heap.size ≤ b) (h1 : ∀ o, w1.heap[b]? = some o → isBook o = true) (o' : Obj) : Hq w0 w1 m (w.putObj b o') := by
  have hne : ∀ k, k ≠ b → (w.putObj b o').heap[k]? = w.heap[k]? := fun k hk => World.putObj_heap_other hk
  refine ⟨?_, by rw [show (w.putObj b o').heap.size = w.heap.size from by simp]; exact h.size, ?_, ?_, h.ge, h.nodup, h.good⟩
  · exact h.below.trans ⟨rfl, rfl, rfl, by simp, fun k hk => hne k (by omega)⟩
  · intro k hk hm hg
    rw [hne k (fun e => ?_)]
    · exact h.keep k hk hm hg
    · subst e
      cases ho' : w1.heap[k]? with
      | none => have := Array.getElem?_eq_none_iff.1 ho'; omega
      | some o2 => have h2 := h1 _ ho'; have h3 := hg _ ho'; rw [h2] at h3; cases h3
  · intro p hp
    rw [hne p.1 (fun e => ?_)]
    · exact h.at_ p hp
    · have h2 := h.at_ p hp
      rw [e, hb] at h2
      injection h2 with h2
      have := h.good p hp
      rw [← h2, ho] at this; cases this

theorem has_params : ∀ (ps : List Tmp) (vs : List Value) (l' : List (Nat × Value)) (T : Array Value), Has N [] l' { tmps := T, defers := [] } → (∀ p ∈ ps, p < N) →
    Has N [] ((ps.zip vs).reverse ++ l') { tmps := (ps.zip vs).foldl (fun t (p, v) => t.setIfInBounds p v) T, defers := [] }
  | [], _, l', T, h, _ => by simpa using h
  | p :: ps, [], l', T, h, _ => by simpa using h
  | p :: ps, v :: vs, l', T, h, hp => by
    have h1 := h.put (d := p) (hp p (List.mem_cons_self ..)) v
    have := has_params ps vs ((p, v) :: l') (T.setIfInBounds p v) h1 (fun q hq => hp q (List.mem_cons_of_mem _ hq))
    simpa using this

/-- 'for x := range g { body }', in a function's own frame. -/
theorem g_range {α : Type} {g : Operand} {ps : List Tmp} {assign body : Code} {gf : FuncId} {lb : List Value} {encs : α → List Value} {xs : List α}
    (hg : ev l g = some (.func (.func gf) #[] lb.toArray)) (he : Enters P gf) (hps : ∀ x, (encs x).length = ps.length) (hpN : ∀ p ∈ ps, p < N)
    (S : World → World → Prop) (MI : Nat → List (Nat × Obj) → Prop) (MX : Code → Nat → List (Nat × Obj) → Prop)
    (hit : ∀ we, Hp w0 w1 m we → IterC P gf lb encs xs (S we))
    (hS : ∀ we k m' w, Hp w0 w1 m we → MI k m' → Hq w0 we m' w → S we w)
    (h0 : MI 0 m)
    (hround : ∀ we W1, Hp w0 w1 m we → ∀ lp k x m', xs[k]? = some x → MI k m' → Hq w0 we m' W1 → ∀ K : Act → World → Prop,
      (∀ l' m'', (∀ W2, Hq w0 W1 m'' W2 → G N [] l' w0 W2 m'' (body.wpIn (Wd (some lp)) 0 P (RQ w0 we MI MX k W2))) → G N [] l' w0 W1 m'' K) →
      G N [] ((ps.zip (encs x)).reverse ++ l) w0 W1 m' (assign.wpIn (Wd (some lp)) 0 P (Exit.then K (fun _ _ _ => False))))
    (hdone : ∀ we W D m', Hp w0 w1 m we → MI xs.length m' → Hq w0 we m' W → we.heap.size ≤ D → W.heap[D]? = some (Obj.deferred (some [])) → Bk we W → G N ({ target := .collected D, args := #[] } :: ds) l w0 W m' (Q .normal))
    (hstop : ∀ we W D c k m', Hp w0 w1 m we → MX c k m' → Hq w0 we m' W → we.heap.size ≤ D → W.heap[D]? = some (Obj.deferred (some [])) → Bk we W → G N ({ target := .collected D, args := #[] } :: ds) l w0 W m' (c.wpIn (Wd none) 0 P Q)) :
    G N ds l w0 w1 m ((Code.rangeFunc g ps.toArray assign body).wpIn (Wd none) 0 P Q) := by
  intro a we ha hwe
  refine wpIn_rangeFunc ?_
  intro fn hfn
  obtain ⟨rec, hrec⟩ : ∃ rec : LoopState → Option Code → Loop, rec = fun st pe => { state := st, pending := pe, fn, tmps := a.tmps, params := ps.toArray, assign, body, defers := we.heap.size } := ⟨_, rfl⟩
  obtain ⟨W1, hW1⟩ : ∃ W1, (we.alloc (.deferred (some []))).alloc (.loop (rec .ready none)) = W1 := ⟨_, rfl⟩
  have hL1 : W1.heap[we.heap.size + 1]? = some (.loop (rec .ready none)) := by
    rw [← hW1]; have := World.alloc_heap_new (we.alloc (.deferred (some []))) (.loop (rec .ready none)); rwa [World.size_alloc] at this
  have hK1 : W1.heap[we.heap.size]? = some (.deferred (some [])) := by
    rw [← hW1]; exact (Below.heap_alloc _ _ _ (by simp)).trans (World.alloc_heap_new we _)
  have hb1 : Below we.heap.size we W1 := by
    rw [← hW1]; exact (((Below.refl _ we).alloc (Nat.le_refl _) _).alloc (by simp) _)
  have hge : w0.heap.size ≤ we.heap.size := hwe.below.size
  have hnone : ∀ b, we.heap.size ≤ b → ∀ o, we.heap[b]? = some o → isBook o = true := fun b hb o ho => by have := lt_of_heap ho; omega
  have hnone0 : ∀ b, we.heap.size ≤ b → ∀ o, we.heap[b]? = some o → False := fun b hb o ho => by have := lt_of_heap ho; omega
  refine ⟨we.heap.size + 1, [{ target := .collected we.heap.size, args := #[] }], W1, { target := .fn (.func gf) lb.toArray, args := #[.func (.yield (we.heap.size + 1)) #[] #[]] }, W1, gf,
    #[.func (.yield (we.heap.size + 1)) #[] #[]] ++ lb.toArray, W1, ?_, ?_, fun _ _ => trivial, ?_, fun h => by simp at h, ?_⟩
  · rw [← hW1, hrec]; exact run_enterLoop_outer _ _ _ _ _
  · simp only [resolve, ha.eval hg, Deferred.ofValue]
    show Sem.run P (pure _) W1 = _
    simp [Sem.run]
    rfl
  · exact he _ W1
  · -- the iterator, at the caller's invariant
    refine callsIn_of ?_
    have hcall := hit we hwe (we.heap.size + 1)
      (fun k W => (∃ m', MI k m' ∧ Hq w0 we m' W) ∧ W.heap[we.heap.size + 1]? = some (.loop (rec .ready none)) ∧ W.heap[we.heap.size]? = some (Obj.deferred (some [])) ∧ Bk we W)
      (fun k W => ∃ c, (∃ m', MX c k m' ∧ Hq w0 we m' W) ∧ W.heap[we.heap.size + 1]? = some (.loop (rec .done (some c))) ∧ W.heap[we.heap.size]? = some (Obj.deferred (some [])) ∧ Bk we W)
      (fun k W ⟨⟨m', h1, h2⟩, _⟩ => hS we k m' W hwe h1 h2)
      (fun k W W' ⟨⟨m', h1, h2⟩, h3, h4, h5⟩ hb => ⟨⟨m', h1, h2.grow hb⟩, (hb.block _ (lt_of_heap h3)).trans h3, (hb.block _ (lt_of_heap h4)).trans h4, bk_trans h5 (bk_below hb)⟩)
      (fun k W W' ⟨c, ⟨m', h1, h2⟩, h3, h4, h5⟩ hb => ⟨c, ⟨m', h1, h2.grow hb⟩, (hb.block _ (lt_of_heap h3)).trans h3, (hb.block _ (lt_of_heap h4)).trans h4, bk_trans h5 (bk_below hb)⟩)
      ?_ W1 ⟨⟨m, h0, (hwe.toHq.look.toHq.grow hb1)⟩, hL1, hK1, bk_below hb1⟩
    · rw [show #[Value.func (.yield (we.heap.size + 1)) #[] #[]] ++ lb.toArray = (Value.func (.yield (we.heap.size + 1)) #[] #[] :: lb).toArray by simp]
      refine hcall.mono ?_
      rintro e W2 ⟨⟨v, rfl⟩, (⟨⟨m', h1, h2⟩, hl, hk, hbk⟩ | ⟨k, _, c, ⟨m', h1, h2⟩, hl, hk, hbk⟩)⟩
      · refine ⟨none, _, by have := run_endLoop (P := P) hl (by rw [hrec]; simp); rw [hrec] at this; exact this, ?_⟩
        have h3 := h2.putBk hl rfl (by omega) (hnone _ (by omega)) (.loop { rec .ready none with state := .exhausted })
        have hk3 := (World.putObj_heap_other (w := W2) (o := .loop { rec .ready none with state := .exhausted }) (show we.heap.size ≠ we.heap.size + 1 by omega)).trans hk
        have hbk3 : Bk we (W2.putObj (we.heap.size + 1) (.loop { rec .ready none with state := .exhausted })) := fun k o ho hb => (World.putObj_heap_other (fun e => hnone0 k (by omega) o ho)).trans (hbk k o ho hb)
        rw [hrec] at h3 hk3 hbk3
        exact hdone we _ we.heap.size m' hwe h1 h3 (Nat.le_refl _) hk3 hbk3 _ _ ⟨ha.size, by simp [ha.defers], ha.at_⟩ h3.look
      · refine ⟨some c, _, by have := run_endLoop (P := P) hl (by rw [hrec]; simp); rw [hrec] at this; exact this, ?_⟩
        have h3 := h2.putBk hl rfl (by omega) (hnone _ (by omega)) (.loop { rec .done (some c) with state := .exhausted })
        have hk3 := (World.putObj_heap_other (w := W2) (o := .loop { rec .done (some c) with state := .exhausted }) (show we.heap.size ≠ we.heap.size + 1 by omega)).trans hk
        have hbk3 : Bk we (W2.putObj (we.heap.size + 1) (.loop { rec .done (some c) with state := .exhausted })) := fun k o ho hb => (World.putObj_heap_other (fun e => hnone0 k (by omega) o ho)).trans (hbk k o ho hb)
        rw [hrec] at h3 hk3 hbk3
        exact hstop we _ we.heap.size c k m' hwe h1 h3 (Nat.le_refl _) hk3 hbk3 _ _ ⟨ha.size, by simp [ha.defers], ha.at_⟩ h3.look
    · -- one round
      rintro k x W ⟨⟨m', h1, h2⟩, hl, hk, hbk⟩ hx
      have hy := run_yield (P := P) (args := (encs x).toArray) hl (by rw [hrec]; simp [hps x])
      rw [hrec] at hy
      refine ⟨fn, _, assign, body, hy, roundIn_of_wpIn hfn ?_⟩
      refine (hround we W hwe (we.heap.size + 1) k x m' hx h1 h2 _ ?_) _ W ?_ h2.look
      rotate_left
      · have := has_params (N := N) ps (encs x) l a.tmps ⟨ha.size, rfl, ha.at_⟩ hpN
        simpa using this
      · intro l' m'' hbody a' w' ha' hw'
        have hl' : w'.heap[we.heap.size + 1]? = some (.loop (rec .ready none)) := hw'.marks _ _ hl rfl
        have hk' : w'.heap[we.heap.size]? = some (Obj.deferred (some [])) := hw'.marks _ _ hk rfl
        refine ⟨_, run_beginRound hl' (by rw [hrec]), ?_⟩
        have h3 : Hq w0 W m'' (w'.putObj (we.heap.size + 1) (.loop { rec .ready none with state := .busy })) := hw'.toHq.putBk hl' rfl (by omega) (fun o ho => by rw [hl] at ho; injection ho with ho; rw [← ho]; rfl) _
        refine wpIn_mono (hbody _ h3 a' _ ha' h3.look) ?_
        have hl2 : (w'.putObj (we.heap.size + 1) (.loop { rec .ready none with state := .busy })).heap[we.heap.size + 1]? = some (.loop { rec .ready none with state := .busy }) := World.putObj_heap_same (lt_of_heap hl')
        have hk2 : (w'.putObj (we.heap.size + 1) (.loop { rec .ready none with state := .busy })).heap[we.heap.size]? = some (Obj.deferred (some [])) := (World.putObj_heap_other (by omega)).trans hk'
        have hbk2 : Bk we (w'.putObj (we.heap.size + 1) (.loop { rec .ready none with state := .busy })) := fun k o ho hb => (World.putObj_heap_other (fun e => hnone0 k (by omega) o ho)).trans (hw'.marks k o (hbk k o ho hb) hb)
        have fin : ∀ (jump : Option Code) (W3 : World), Bk (w'.putObj (we.heap.size + 1) (.loop { rec .ready none with state := .busy })) W3 →
            (Instr.endRound (we.heap.size + 1) jump).run P W3 = .ok (.bool jump.isNone) (W3.putObj (we.heap.size + 1) (.loop (rec (if jump.isNone then .ready else .done) jump))) ∧
            W3.heap[we.heap.size + 1]? = some (.loop { rec .ready none with state := .busy }) ∧
            (W3.putObj (we.heap.size + 1) (.loop (rec (if jump.isNone then .ready else .done) jump))).heap[we.heap.size + 1]? = some (.loop (rec (if jump.isNone then .ready else .done) jump)) ∧
            (W3.putObj (we.heap.size + 1) (.loop (rec (if jump.isNone then .ready else .done) jump))).heap[we.heap.size]? = some (Obj.deferred (some [])) ∧
            Bk we (W3.putObj (we.heap.size + 1) (.loop (rec (if jump.isNone then .ready else .done) jump))) := fun jump W3 hb3 => by
          have hl3 := hb3 _ _ hl2 rfl
          have := run_endRound (P := P) jump hl3
          rw [hrec] at this ⊢
          exact ⟨this, by rw [hrec] at hl3; exact hl3, World.putObj_heap_same (lt_of_heap hl3), (World.putObj_heap_other (by omega)).trans (hb3 _ _ hk2 rfl),
            fun k o ho hb => (World.putObj_heap_other (fun e => hnone0 k (by omega) o ho)).trans (hb3 _ _ (hbk2 k o ho hb) hb)⟩
        rintro e a3 W3 hp
        cases e with
        | normal =>
          obtain ⟨hb3, m3, hm3, hq3⟩ := hp
          obtain ⟨hr, hl3, hl4, hk4, hb4⟩ := fin none W3 hb3
          exact ⟨_, _, hr, .inl ⟨rfl, ⟨m3, hm3, hq3.putBk hl3 rfl (by omega) (hnone _ (by omega)) _⟩, hl4, hk4, hb4⟩⟩
        | ret =>
          obtain ⟨hb3, m3, hm3, hq3⟩ := hp
          obtain ⟨hr, hl3, hl4, hk4, hb4⟩ := fin (some .ret) W3 hb3
          exact ⟨_, _, hr, .inr ⟨rfl, .ret, ⟨m3, hm3, hq3.putBk hl3 rfl (by omega) (hnone _ (by omega)) _⟩, hl4, hk4, hb4⟩⟩
        | exit id =>
          obtain ⟨hb3, m3, hm3, hq3⟩ := hp
          obtain ⟨hr, hl3, hl4, hk4, hb4⟩ := fin (some (.exit id)) W3 hb3
          exact ⟨_, _, hr, .inr ⟨rfl, .exit id, ⟨m3, hm3, hq3.putBk hl3 rfl (by omega) (hnone _ (by omega)) _⟩, hl4, hk4, hb4⟩⟩
        | goto t => exact hp.elim
        | panic ch => exact hp.elim
        | outgrown => exact hp.elim
end
end Go.Sx
