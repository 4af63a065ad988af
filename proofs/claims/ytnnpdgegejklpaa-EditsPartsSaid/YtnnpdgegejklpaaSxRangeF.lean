/- A range over a function with blocks of its own: the iterator's contract tells whose blocks a round may turn. -/
import Derived.Test.YtnnpdgegejklpaaSxPair
namespace Go.Sx
open Go.RowKit
set_option linter.unusedVariables false
set_option linter.unusedSimpArgs false
section
variable {N : Nat} {ds : List Deferred} {l : List (Nat × Value)} {w0 w1 : World} {m : List (Nat × Obj)} {P : Program} {Q : Exit → Act → World → Prop}
/-- What lay and is not among O lies as it lay. -/
def KpO (O : Nat → Prop) (W w : World) : Prop := ∀ b, b < W.heap.size → ¬ O b → (∀ o, W.heap[b]? = some o → isBook o = false) → w.heap[b]? = W.heap[b]?
/-- The iterator gf, with fs ahead of its argument and lb captured, hands on xs; a round turns blocks of O alone. -/
def IterF {α : Type} (P : Program) (gf : FuncId) (fs lb : List Value) (encs : α → List Value) (xs : List α) (S : World → Prop) : Prop :=
  ∀ (lp : Nat) (J Jx : Nat → (Nat → Prop) → World → Prop), (∀ k O W, J k O W → S W) → (∀ k O W, J k O W → ∀ b, O b → b < W.heap.size) →
    (∀ k O W W', J k O W → Below W.heap.size W W' → J k O W') → (∀ k O W W', Jx k O W → Below W.heap.size W W' → Jx k O W') →
    (∀ k x O W, J k O W → xs[k]? = some x → YieldAt (Wd none) 0 P lp (encs x).toArray W fun e W' => ∃ O' : Nat → Prop, ((∀ b, O' b → O b ∨ W.heap.size ≤ b) ∧ KpO O W W' ∧ W.heap.size ≤ W'.heap.size) ∧ ((e = .returned (.bool true) ∧ J (k + 1) O' W') ∨ (e = .returned (.bool false) ∧ Jx (k + 1) O' W'))) →
    ∀ O W, J 0 O W → Calls P gf (fs ++ (.func (.yield lp) #[] #[] :: lb)).toArray W fun e W' => (∃ v, e = .returned v) ∧ ((∃ O', J xs.length O' W') ∨ ∃ k O', k ≤ xs.length ∧ Jx k O' W')
/-- The blocks of m are those of m', or new. -/
def OwnM (m' : List (Nat × Obj)) (W : World) (m : List (Nat × Obj)) : Prop := ∀ p ∈ m, (∃ q ∈ m', q.1 = p.1) ∨ W.heap.size ≤ p.1
/-- How a round may be left. -/
def RQF (w0 we : World) (MI : Nat → List (Nat × Obj) → Prop) (MX : Code → Nat → List (Nat × Obj) → Prop) (k : Nat) (m' : List (Nat × Obj)) (W1 W : World) : Exit → Act → World → Prop
  | .normal, _, w => Bk W w ∧ ∃ m, MI (k + 1) m ∧ Hq w0 we m w ∧ OwnM m' W1 m ∧ KpO (fun b => ∃ q ∈ m', q.1 = b) W1 w ∧ W1.heap.size ≤ w.heap.size
  | .ret, _, w => Bk W w ∧ ∃ m, MX .ret (k + 1) m ∧ Hq w0 we m w ∧ OwnM m' W1 m ∧ KpO (fun b => ∃ q ∈ m', q.1 = b) W1 w ∧ W1.heap.size ≤ w.heap.size
  | .exit id, _, w => Bk W w ∧ ∃ m, MX (.exit id) (k + 1) m ∧ Hq w0 we m w ∧ OwnM m' W1 m ∧ KpO (fun b => ∃ q ∈ m', q.1 = b) W1 w ∧ W1.heap.size ≤ w.heap.size
  | _, _, _ => False
/-- A round's two stretches keep what is not theirs. -/
theorem kp_round {we W1 W2 w : World} {m1 m2 m3 : List (Nat × Obj)} (h2 : Hq w0 W1 m2 W2) (h3 : Hp w0 W2 m3 w) (o2 : OwnM m1 W1 m2) (o3 : OwnM m1 W1 m3) : KpO (fun b => ∃ q ∈ m1, q.1 = b) W1 w := by
  intro b hb hO hg
  have n2 : ∀ p ∈ m2, p.1 ≠ b := fun p hp e => by
    rcases o2 p hp with ⟨q, hq, e2⟩ | h
    · exact hO ⟨q, hq, e2.trans e⟩
    · omega
  have n3 : ∀ p ∈ m3, p.1 ≠ b := fun p hp e => by
    rcases o3 p hp with ⟨q, hq, e2⟩ | h
    · exact hO ⟨q, hq, e2.trans e⟩
    · omega
  have k2 := h2.keep b hb n2 hg
  have k3 := h3.keep b (Nat.lt_of_lt_of_le hb h2.size) n3 (fun o ho => hg o (k2 ▸ ho))
  exact k3.trans k2
theorem KpO.put {O : Nat → Prop} {W w : World} (h : KpO O W w) {b : Nat} {o : Obj} (hb : ∃ o', W.heap[b]? = some o' ∧ isBook o' = true) : KpO O W (w.putObj b o) := fun k hk hO hg => by
  have hne : k ≠ b := fun e => by
    subst e
    obtain ⟨o', h1, h2⟩ := hb
    have := hg o' h1; rw [h2] at this; cases this
  rw [World.putObj_heap_other hne]; exact h k hk hO hg

theorem g_rangeF {α : Type} {g : Operand} {ps : List Tmp} {assign body : Code} {gf : FuncId} {fs lb : List Value} {encs : α → List Value} {xs : List α}
    (hg : ev l g = some (.func (.func gf) fs.toArray lb.toArray)) (he : Enters P gf) (hps : ∀ x, (encs x).length = ps.length) (hpN : ∀ p ∈ ps, p < N)
    (S : World → World → Prop) (MI : Nat → List (Nat × Obj) → Prop) (MX : Code → Nat → List (Nat × Obj) → Prop)
    (hit : ∀ we, Hp w0 w1 m we → IterF P gf fs lb encs xs (S we))
    (hS : ∀ we k m' w, Hp w0 w1 m we → MI k m' → Hq w0 we m' w → S we w)
    (h0 : MI 0 m)
    (hround : ∀ we W1, Hp w0 w1 m we → ∀ lp k x m', xs[k]? = some x → MI k m' → Hq w0 we m' W1 → ∀ K : Act → World → Prop,
      (∀ l' m'', (∀ W2, Hq w0 W1 m'' W2 → G N [] l' w0 W2 m'' (body.wpIn (Wd (some lp)) 0 P (RQF w0 we MI MX k m' W1 W2))) → G N [] l' w0 W1 m'' K) →
      G N [] ((ps.zip (encs x)).reverse ++ l) w0 W1 m' (assign.wpIn (Wd (some lp)) 0 P (Exit.then K (fun _ _ _ => False))))
    (hdone : ∀ we W D m', Hp w0 w1 m we → MI xs.length m' → Hq w0 we m' W → we.heap.size ≤ D → W.heap[D]? = some (Obj.deferred (some [])) → Bk we W → G N ({ target := .collected D, args := #[] } :: ds) l w0 W m' (Q .normal))
    (hstop : ∀ we W D c k m', Hp w0 w1 m we → MX c k m' → Hq w0 we m' W → we.heap.size ≤ D → W.heap[D]? = some (Obj.deferred (some [])) → Bk we W → G N ({ target := .collected D, args := #[] } :: ds) l w0 W m' (c.wpIn (Wd none) 0 P Q)) :
    G N ds l w0 w1 m ((Code.rangeFunc g ps.toArray assign body).wpIn (Wd none) 0 P Q) := by
  intro a we ha hwe
  refine wpIn_rangeFunc ?_
  intro fn hfn
  obtain ⟨rec, hrec⟩ : ∃ rec : LoopState → Option Code → Loop, rec = fun st pe => { state := st, pending := pe, fn, tmps := a.tmps, params := ps.toArray, assign, body, defers := we.heap.size } := ⟨_, rfl⟩
  obtain ⟨W1, hW1⟩ : ∃ W1, (we.alloc (.deferred (some []))).alloc (.loop (rec .ready none)) = W1 := ⟨_, rfl⟩
  have hL1 : W1.heap[we.heap.size + 1]? = some (.loop (rec .ready none)) := by
    rw [← hW1]; have := World.alloc_heap_new (we.alloc (.deferred (some []))) (.loop (rec .ready none)); rwa [World.size_alloc] at this
  have hK1 : W1.heap[we.heap.size]? = some (.deferred (some [])) := by
    rw [← hW1]; exact (Below.heap_alloc _ _ _ (by simp)).trans (World.alloc_heap_new we _)
  have hb1 : Below we.heap.size we W1 := by
    rw [← hW1]; exact (((Below.refl _ we).alloc (Nat.le_refl _) _).alloc (by simp) _)
  have hge : w0.heap.size ≤ we.heap.size := hwe.below.size
  have hnone : ∀ b, we.heap.size ≤ b → ∀ o, we.heap[b]? = some o → isBook o = true := fun b hb o ho => by have := lt_of_heap ho; omega
  have hnone0 : ∀ b, we.heap.size ≤ b → ∀ o, we.heap[b]? = some o → False := fun b hb o ho => by have := lt_of_heap ho; omega
  refine ⟨we.heap.size + 1, [{ target := .collected we.heap.size, args := #[] }], W1, { target := .fn (.func gf) lb.toArray, args := fs.toArray ++ #[.func (.yield (we.heap.size + 1)) #[] #[]] }, W1, gf,
    fs.toArray ++ #[.func (.yield (we.heap.size + 1)) #[] #[]] ++ lb.toArray, W1, ?_, ?_, fun _ _ => trivial, ?_, fun h => by simp at h, ?_⟩
  · rw [← hW1, hrec]; exact run_enterLoop_outer _ _ _ _ _
  · simp only [resolve, ha.eval hg, Deferred.ofValue]
    show Sem.run P (pure _) W1 = _
    simp [Sem.run]
    rfl
  · exact he _ W1
  · refine callsIn_of ?_
    have hcall := hit we hwe (we.heap.size + 1)
      (fun k O W => (∃ m', MI k m' ∧ Hq w0 we m' W ∧ ∀ b, O b → ∃ q ∈ m', q.1 = b) ∧ (∃ m', MI k m' ∧ Hq w0 we m' W ∧ ∀ b, O b ↔ ∃ q ∈ m', q.1 = b) ∧ W.heap[we.heap.size + 1]? = some (.loop (rec .ready none)) ∧ W.heap[we.heap.size]? = some (Obj.deferred (some [])) ∧ Bk we W)
      (fun k O W => ∃ c, (∃ m', MX c k m' ∧ Hq w0 we m' W) ∧ W.heap[we.heap.size + 1]? = some (.loop (rec .done (some c))) ∧ W.heap[we.heap.size]? = some (Obj.deferred (some [])) ∧ Bk we W)
      (fun k O W ⟨⟨m', h1, h2, _⟩, _⟩ => hS we k m' W hwe h1 h2)
      (fun k O W ⟨⟨m', h1, h2, h3⟩, _⟩ b hb => by obtain ⟨q, hq, rfl⟩ := h3 b hb; exact lt_of_heap (h2.at_ q hq))
      (fun k O W W' ⟨⟨m', h1, h2, h2'⟩, ⟨m2, g1, g2, g3⟩, h3, h4, h5⟩ hb => ⟨⟨m', h1, h2.grow hb, h2'⟩, ⟨m2, g1, g2.grow hb, g3⟩, (hb.block _ (lt_of_heap h3)).trans h3, (hb.block _ (lt_of_heap h4)).trans h4, bk_trans h5 (bk_below hb)⟩)
      (fun k O W W' ⟨c, ⟨m', h1, h2⟩, h3, h4, h5⟩ hb => ⟨c, ⟨m', h1, h2.grow hb⟩, (hb.block _ (lt_of_heap h3)).trans h3, (hb.block _ (lt_of_heap h4)).trans h4, bk_trans h5 (bk_below hb)⟩)
      ?_ (fun b => ∃ q ∈ m, q.1 = b) W1 ⟨⟨m, h0, (hwe.toHq.look.toHq.grow hb1), fun b hb => hb⟩, ⟨m, h0, (hwe.toHq.look.toHq.grow hb1), fun b => Iff.rfl⟩, hL1, hK1, bk_below hb1⟩
    · rw [show fs.toArray ++ #[Value.func (.yield (we.heap.size + 1)) #[] #[]] ++ lb.toArray = (fs ++ (Value.func (.yield (we.heap.size + 1)) #[] #[] :: lb)).toArray by simp]
      refine hcall.mono ?_
      rintro e W2 ⟨⟨v, rfl⟩, (⟨O', _, ⟨m', h1, h2, _⟩, hl, hk, hbk⟩ | ⟨k, O', _, c, ⟨m', h1, h2⟩, hl, hk, hbk⟩)⟩
      · refine ⟨none, _, by have := run_endLoop (P := P) hl (by rw [hrec]; simp); rw [hrec] at this; exact this, ?_⟩
        have h3 := h2.putBk hl rfl (by omega) (hnone _ (by omega)) (.loop { rec .ready none with state := .exhausted })
        have hk3 := (World.putObj_heap_other (w := W2) (o := .loop { rec .ready none with state := .exhausted }) (show we.heap.size ≠ we.heap.size + 1 by omega)).trans hk
        have hbk3 : Bk we (W2.putObj (we.heap.size + 1) (.loop { rec .ready none with state := .exhausted })) := fun k o ho hb => (World.putObj_heap_other (fun e => hnone0 k (by omega) o ho)).trans (hbk k o ho hb)
        rw [hrec] at h3 hk3 hbk3
        exact hdone we _ we.heap.size m' hwe h1 h3 (Nat.le_refl _) hk3 hbk3 _ _ ⟨ha.size, by simp [ha.defers], ha.at_⟩ h3.look
      · refine ⟨some c, _, by have := run_endLoop (P := P) hl (by rw [hrec]; simp); rw [hrec] at this; exact this, ?_⟩
        have h3 := h2.putBk hl rfl (by omega) (hnone _ (by omega)) (.loop { rec .done (some c) with state := .exhausted })
        have hk3 := (World.putObj_heap_other (w := W2) (o := .loop { rec .done (some c) with state := .exhausted }) (show we.heap.size ≠ we.heap.size + 1 by omega)).trans hk
        have hbk3 : Bk we (W2.putObj (we.heap.size + 1) (.loop { rec .done (some c) with state := .exhausted })) := fun k o ho hb => (World.putObj_heap_other (fun e => hnone0 k (by omega) o ho)).trans (hbk k o ho hb)
        rw [hrec] at h3 hk3 hbk3
        exact hstop we _ we.heap.size c k m' hwe h1 h3 (Nat.le_refl _) hk3 hbk3 _ _ ⟨ha.size, by simp [ha.defers], ha.at_⟩ h3.look
    · -- one round
      rintro k x O W ⟨_, ⟨m', h1, h2, hOm⟩, hl, hk, hbk⟩ hx
      have hOe : O = fun b => ∃ q ∈ m', q.1 = b := by funext b; exact propext (hOm b)
      subst hOe
      have hy := run_yield (P := P) (args := (encs x).toArray) hl (by rw [hrec]; simp [hps x])
      rw [hrec] at hy
      refine ⟨fn, _, assign, body, hy, roundIn_of_wpIn hfn ?_⟩
      refine (hround we W hwe (we.heap.size + 1) k x m' hx h1 h2 _ ?_) _ W ?_ h2.look
      rotate_left
      · have := has_params (N := N) ps (encs x) l a.tmps ⟨ha.size, rfl, ha.at_⟩ hpN
        simpa using this
      · intro l' m'' hbody a' w' ha' hw'
        have hl' : w'.heap[we.heap.size + 1]? = some (.loop (rec .ready none)) := hw'.marks _ _ hl rfl
        have hk' : w'.heap[we.heap.size]? = some (Obj.deferred (some [])) := hw'.marks _ _ hk rfl
        refine ⟨_, run_beginRound hl' (by rw [hrec]), ?_⟩
        have h3 : Hq w0 W m'' (w'.putObj (we.heap.size + 1) (.loop { rec .ready none with state := .busy })) := hw'.toHq.putBk hl' rfl (by omega) (fun o ho => by rw [hl] at ho; injection ho with ho; rw [← ho]; rfl) _
        refine wpIn_mono (hbody _ h3 a' _ ha' h3.look) ?_
        have hl2 : (w'.putObj (we.heap.size + 1) (.loop { rec .ready none with state := .busy })).heap[we.heap.size + 1]? = some (.loop { rec .ready none with state := .busy }) := World.putObj_heap_same (lt_of_heap hl')
        have hk2 : (w'.putObj (we.heap.size + 1) (.loop { rec .ready none with state := .busy })).heap[we.heap.size]? = some (Obj.deferred (some [])) := (World.putObj_heap_other (by omega)).trans hk'
        have hbk2 : Bk we (w'.putObj (we.heap.size + 1) (.loop { rec .ready none with state := .busy })) := fun k o ho hb => (World.putObj_heap_other (fun e => hnone0 k (by omega) o ho)).trans (hw'.marks k o (hbk k o ho hb) hb)
        have hsz2 : W.heap.size ≤ (w'.putObj (we.heap.size + 1) (.loop { rec .ready none with state := .busy })).heap.size := h3.size
        have fin : ∀ (jump : Option Code) (W3 : World), Bk (w'.putObj (we.heap.size + 1) (.loop { rec .ready none with state := .busy })) W3 →
            (Instr.endRound (we.heap.size + 1) jump).run P W3 = .ok (.bool jump.isNone) (W3.putObj (we.heap.size + 1) (.loop (rec (if jump.isNone then .ready else .done) jump))) ∧
            W3.heap[we.heap.size + 1]? = some (.loop { rec .ready none with state := .busy }) ∧
            (W3.putObj (we.heap.size + 1) (.loop (rec (if jump.isNone then .ready else .done) jump))).heap[we.heap.size + 1]? = some (.loop (rec (if jump.isNone then .ready else .done) jump)) ∧
            (W3.putObj (we.heap.size + 1) (.loop (rec (if jump.isNone then .ready else .done) jump))).heap[we.heap.size]? = some (Obj.deferred (some [])) ∧
            Bk we (W3.putObj (we.heap.size + 1) (.loop (rec (if jump.isNone then .ready else .done) jump))) := fun jump W3 hb3 => by
          have hl3 := hb3 _ _ hl2 rfl
          have := run_endRound (P := P) jump hl3
          rw [hrec] at this ⊢
          exact ⟨this, by rw [hrec] at hl3; exact hl3, World.putObj_heap_same (lt_of_heap hl3), (World.putObj_heap_other (by omega)).trans (hb3 _ _ hk2 rfl),
            fun k o ho hb => (World.putObj_heap_other (fun e => hnone0 k (by omega) o ho)).trans (hb3 _ _ (hbk2 k o ho hb) hb)⟩
        have side : ∀ (m3 : List (Nat × Obj)) (W3 : World) (j : Obj), Hq w0 we m3 W3 → OwnM m' W m3 → KpO (fun b => ∃ q ∈ m', q.1 = b) W W3 → W.heap.size ≤ W3.heap.size →
            (∀ b, (∃ q ∈ m3, q.1 = b) → (∃ q ∈ m', q.1 = b) ∨ W.heap.size ≤ b) ∧ KpO (fun b => ∃ q ∈ m', q.1 = b) W (W3.putObj (we.heap.size + 1) j) ∧ W.heap.size ≤ (W3.putObj (we.heap.size + 1) j).heap.size := fun m3 W3 j hq ho hk hs =>
          ⟨fun b ⟨q, hq, e⟩ => by rw [← e]; exact ho q hq, hk.put ⟨_, hl, rfl⟩, by rw [show (W3.putObj (we.heap.size + 1) j).heap.size = W3.heap.size from by simp]; exact hs⟩
        rintro e a3 W3 hp
        cases e with
        | normal =>
          obtain ⟨hb3, m3, hm3, hq3, ho3, hk3, hs3⟩ := hp
          obtain ⟨hr, hl3, hl4, hk4, hb4⟩ := fin none W3 hb3
          have hq4 := hq3.putBk hl3 rfl (by omega) (hnone _ (by omega)) (.loop (rec .ready none))
          exact ⟨_, _, hr, (fun b => ∃ q ∈ m3, q.1 = b), side m3 W3 _ hq3 ho3 hk3 hs3, .inl ⟨rfl, ⟨m3, hm3, hq4, fun b hb => hb⟩, ⟨m3, hm3, hq4, fun b => Iff.rfl⟩, hl4, hk4, hb4⟩⟩
        | ret =>
          obtain ⟨hb3, m3, hm3, hq3, ho3, hk3, hs3⟩ := hp
          obtain ⟨hr, hl3, hl4, hk4, hb4⟩ := fin (some .ret) W3 hb3
          exact ⟨_, _, hr, (fun b => ∃ q ∈ m3, q.1 = b), side m3 W3 _ hq3 ho3 hk3 hs3, .inr ⟨rfl, .ret, ⟨m3, hm3, hq3.putBk hl3 rfl (by omega) (hnone _ (by omega)) _⟩, hl4, hk4, hb4⟩⟩
        | exit id =>
          obtain ⟨hb3, m3, hm3, hq3, ho3, hk3, hs3⟩ := hp
          obtain ⟨hr, hl3, hl4, hk4, hb4⟩ := fin (some (.exit id)) W3 hb3
          exact ⟨_, _, hr, (fun b => ∃ q ∈ m3, q.1 = b), side m3 W3 _ hq3 ho3 hk3 hs3, .inr ⟨rfl, .exit id, ⟨m3, hm3, hq3.putBk hl3 rfl (by omega) (hnone _ (by omega)) _⟩, hl4, hk4, hb4⟩⟩
        | goto t => exact hp.elim
        | panic ch => exact hp.elim
        | outgrown => exact hp.elim
end
end Go.Sx
