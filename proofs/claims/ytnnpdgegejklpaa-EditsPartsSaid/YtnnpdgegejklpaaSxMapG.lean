/- A map of the call's own, of any sort of key that is told by a law; in the words of Sx. -/
import Derived.Test.YtnnpdgegejklpaaSxPair
namespace Go.Sx
open Go.RowKit Go.WideMaps Go.WideElems
open Go.ChangeMaps (modify_eq_set)
set_option linter.unusedVariables false
set_option linter.unusedSimpArgs false
set_option linter.unusedSectionVars false
section
variable {κ : Type} [DecidableEq κ]
/-- What such a map needs of a program. -/
structure KeyG (P : Program) (t K E : TypeId) (kenc : κ → Value) (kok : κ → Prop) (z : Value) : Prop where
  ht : P.underlying t = some (.map K E)
  law : KeyLaw P K
  key : ∀ k, kok k → ∃ l, keyOf P K (kenc k) = some l
  zero : ∀ u : World, (zeroValue E).run P u = .ok z u
  inj : ∀ k k', kenc k = kenc k' → k = k'
/-- What a map holds. -/
structure MapG (kenc : κ → Value) (kok : κ → Prop) (es : Array MapEntry) (F : κ → Option Value) : Prop where
  keys : ∀ e ∈ es.toList, ∃ k, e.key = kenc k ∧ kok k ∧ F k = some e.val
  has : ∀ k v, F k = some v → ∃ e ∈ es.toList, e.key = kenc k
  uniq : (es.toList.map (·.key)).Nodup
def putG (F : κ → Option Value) (k : κ) (v : Value) : κ → Option Value := fun k' => if k' = k then some v else F k'
theorem putG_self (F : κ → Option Value) (k : κ) (v : Value) : putG F k v k = some v := if_pos rfl
theorem putG_ne (F : κ → Option Value) {k k' : κ} (v : Value) (h : k' ≠ k) : putG F k v k' = F k' := if_neg h
variable {N : Nat} {ds : List Deferred} {l : List (Nat × Value)} {w0 w1 : World} {m : List (Nat × Obj)} {P : Program} {ro : Option Nat} {C : World → Prop}
variable {dst : Option Tmp} {ty : TypeId} {pos : String} {aft : Array Edge} {gd : Option (Nat × Bool)} {t K E : TypeId} {es : Array MapEntry} {clock b : Nat} {kenc : κ → Value} {kok : κ → Prop} {z : Value} {F : κ → Option Value}
theorem MapG.empty : MapG kenc kok #[] (fun _ => none) := ⟨by simp, by simp, by simp⟩
theorem MapG.good (M : MapG kenc kok es F) (PM : KeyG P t K E kenc kok z) : ∀ e ∈ es.toList, ∃ l, keyOf P K e.key = some l := fun e he => by
  obtain ⟨k, h1, h2, _⟩ := M.keys e he
  rw [h1]; exact PM.key k h2
theorem run_lookG (PM : KeyG P t K E kenc kok z) (M : MapG kenc kok es F) {w : World} (hb : w.heap[b]? = some (.map es clock)) {k : κ} (hk : kok k) :
    (Instr.lookup t (.map (some b)) (kenc k) false).run P w = .ok ((F k).getD z) w ∧ (Instr.lookup t (.map (some b)) (kenc k) true).run P w = .ok (.tuple #[(F k).getD z, .bool (F k).isSome]) w := by
  obtain ⟨kl, hkey⟩ := PM.key k hk
  rcases PM.law.find w hkey es.toList (M.good PM) with ⟨h1, h2⟩ | ⟨n, e0, h1, h2, h3⟩
  · have hF : F k = none := by
      cases h : F k with
      | none => rfl
      | some v => obtain ⟨e, he, hk'⟩ := M.has k v h; exact absurd hk' (h2 e he)
    constructor <;> simp [Instr.lookup, run_underlying PM.ht, MapKept.run_getObj_map hb, PM.law.check w _ hkey, h1, PM.zero, Result.andThen, hF]
  · obtain ⟨k', q1, _, q3⟩ := M.keys e0 (List.mem_of_getElem? h2)
    obtain rfl := PM.inj _ _ (h3.symm.trans q1)
    constructor <;> simp [Instr.lookup, run_underlying PM.ht, MapKept.run_getObj_map hb, PM.law.check w _ hkey, h1, Result.andThen, q3]
theorem run_putG (PM : KeyG P t K E kenc kok z) (M : MapG kenc kok es F) {w : World} (hb : w.heap[b]? = some (.map es clock)) {k : κ} (hk : kok k) (v : Value) :
    ∃ es1 clock1, (Instr.mapUpdate t (.map (some b)) (kenc k) v).run P w = .ok () (w.putObj b (.map es1 clock1)) ∧ MapG kenc kok es1 (putG F k v) := by
  obtain ⟨kl, hkey⟩ := PM.key k hk
  rcases PM.law.find w hkey es.toList (M.good PM) with ⟨h1, h2⟩ | ⟨n, e0, h1, h2, h3⟩
  · refine ⟨es.push ⟨kenc k, v, clock⟩, clock + 1, ?_, ⟨?_, ?_, ?_⟩⟩
    · simp [Instr.mapUpdate, run_underlying PM.ht, MapKept.run_getObj_map hb, PM.law.check w false hkey, h1, MapKept.run_setObj_map _ hb, Result.andThen, World.putObj]
    · intro e he
      simp only [Array.toList_push, List.mem_append, List.mem_singleton] at he
      rcases he with he | rfl
      · obtain ⟨k', q1, q2, q3⟩ := M.keys e he
        exact ⟨k', q1, q2, by rw [putG_ne F v (fun hc => h2 e he (by rw [q1, hc]))]; exact q3⟩
      · exact ⟨k, rfl, hk, putG_self ..⟩
    · intro k' v' hv
      by_cases hc : k' = k
      · exact ⟨⟨kenc k, v, clock⟩, by simp, by rw [hc]⟩
      · rw [putG_ne F v hc] at hv
        obtain ⟨e, he, hk'⟩ := M.has k' v' hv; exact ⟨e, by simp [he], hk'⟩
    · simp only [Array.toList_push, List.map_append, List.map_cons, List.map_nil]
      refine List.nodup_append.2 ⟨M.uniq, by simp, fun a ha c hc e1 => ?_⟩
      simp only [List.mem_singleton] at hc
      obtain ⟨x, hx, rfl⟩ := List.mem_map.1 ha
      exact h2 x hx (e1.trans hc)
  · obtain ⟨k', q1, _, q3⟩ := M.keys e0 (List.mem_of_getElem? h2)
    obtain rfl := PM.inj _ _ (h3.symm.trans q1)
    have hjj : es[n]? = some e0 := by simpa using h2
    have hl : (es.modify n fun e => { e with key := kenc k, val := v }).toList = es.toList.set n { e0 with key := kenc k, val := v } := by
      rw [Array.toList_modify, modify_eq_set _ _ _ _ h2]
    have hlen : n < es.toList.length := (List.getElem?_eq_some_iff.1 h2).1
    have hget := (List.getElem?_eq_some_iff.1 h2).2
    have huniq : ∀ n' e', es.toList[n']? = some e' → e'.key = kenc k → n' = n := fun n' e' h' hk' => by
      have a1 : (es.toList.map (·.key))[n']? = some (kenc k) := by rw [List.getElem?_map, h']; simp [hk']
      have a2 : (es.toList.map (·.key))[n]? = some (kenc k) := by rw [List.getElem?_map, h2]; simp [h3]
      exact (List.getElem?_inj (List.getElem?_eq_some_iff.1 a1).1 M.uniq).1 (a1.trans a2.symm)
    refine ⟨es.modify n fun e => { e with key := kenc k, val := v }, clock, ?_, ⟨?_, ?_, ?_⟩⟩
    · simp [Instr.mapUpdate, run_underlying PM.ht, MapKept.run_getObj_map hb, PM.law.check w false hkey, h1, hjj, h3, PM.law.stays w hkey, MapKept.run_setObj_map _ hb, Result.andThen, World.putObj]
    · intro e he
      rw [hl] at he
      obtain ⟨q, hq⟩ := List.getElem?_of_mem he
      by_cases hqn : q = n
      · subst hqn
        rw [List.getElem?_set_self hlen] at hq
        cases hq
        exact ⟨k, rfl, hk, putG_self ..⟩
      · rw [List.getElem?_set_ne (Ne.symm hqn)] at hq
        obtain ⟨k', p1, p2, p3⟩ := M.keys e (List.mem_of_getElem? hq)
        refine ⟨k', p1, p2, ?_⟩
        rw [putG_ne F v (fun hc => hqn (huniq q e hq (by rw [p1, hc])))]; exact p3
    · intro k' v' hv
      rw [hl]
      by_cases hc : k' = k
      · exact ⟨_, List.mem_set hlen _, by rw [hc]⟩
      · rw [putG_ne F v hc] at hv
        obtain ⟨e, he, hk'⟩ := M.has k' v' hv
        obtain ⟨q, hq⟩ := List.getElem?_of_mem he
        have hqn : q ≠ n := fun h => by
          subst h
          rw [h2] at hq; cases hq
          exact hc (PM.inj _ _ (hk'.symm.trans h3))
        exact ⟨e, List.mem_of_getElem? (i := q) (by rw [List.getElem?_set_ne (Ne.symm hqn)]; exact hq), hk'⟩
    · rw [hl, List.map_set]
      have : ({ e0 with key := kenc k, val := v } : MapEntry).key = (es.toList.map (·.key))[n]'(by simpa using hlen) := by simp [hget, h3]
      rw [this, List.set_getElem_self]; exact M.uniq
/-- Looked up, and whether it was there. -/
theorem y_lookG {xm xk : Operand} {k : κ} {kvl : Value} (PM : KeyG P t K E kenc kok z) (M : MapG kenc kok es F) (hm : ∀ w, C w → w.heap[b]? = some (.map es clock)) (hx : ev l xm = some (.map (some b))) (hk : ev l xk = some kvl) (he : kvl = kenc k) (hok : kok k) :
    Yv P N ds l C ⟨dst, .lookup t xm xk false, ty, pos, aft, gd⟩ ((F k).getD z) := fun a w ha hC => by
  show Sem.run P (do pure (Next.value (← Instr.lookup t (a.eval xm) (a.eval xk) false))) w = _
  rw [ha.eval hx, ha.eval hk, he]
  exact ok_value (run_lookG PM M (hm w hC) hok).1
theorem y_lookG2 {xm xk : Operand} {k : κ} {kvl : Value} (PM : KeyG P t K E kenc kok z) (M : MapG kenc kok es F) (hm : ∀ w, C w → w.heap[b]? = some (.map es clock)) (hx : ev l xm = some (.map (some b))) (hk : ev l xk = some kvl) (he : kvl = kenc k) (hok : kok k) :
    Yv P N ds l C ⟨dst, .lookup t xm xk true, ty, pos, aft, gd⟩ (.tuple #[(F k).getD z, .bool (F k).isSome]) := fun a w ha hC => by
  show Sem.run P (do pure (Next.value (← Instr.lookup t (a.eval xm) (a.eval xk) true))) w = _
  rw [ha.eval hx, ha.eval hk, he]
  exact ok_value (run_lookG PM M (hm w hC) hok).2
/-- Written. -/
theorem t_putG {xm xk xv : Operand} {k : κ} {v kvl : Value} (n : Nat) (PM : KeyG P t K E kenc kok z) (M : MapG kenc kok es F) (hm : m[n]? = some (b, .map es clock)) (hx : ev l xm = some (.map (some b))) (hk : ev l xk = some kvl) (he : kvl = kenc k) (hv : ev l xv = some v) (hok : kok k) :
    Tr (ι := Array MapEntry × Nat) P ro N ds l w0 w1 m ⟨dst, .mapUpdate t xm xk xv, ty, pos, aft, gd⟩ (fun y => MapG kenc kok y.1 (putG F k v)) (fun _ => undef) (fun _ => w1) (fun y => m.set n (b, .map y.1 y.2)) := fun a w ha hw => by
  have hb := hw.at_ _ (List.mem_of_getElem? hm)
  obtain ⟨es1, clock1, hr, h1⟩ := run_putG PM M hb hok v
  refine .inr (.inl ⟨_, ?_, (es1, clock1), h1, rfl, hw.turn (w' := w.putObj b (.map es1 clock1)) (o' := .map es1 clock1) hm rfl rfl rfl rfl (by simp) (fun k _ hk' => World.putObj_heap_other hk') (World.putObj_heap_same (lt_of_heap hb))⟩)
  show Sem.run P (do Instr.mapUpdate t (a.eval xm) (a.eval xk) (a.eval xv); pure Next.skip) w = _
  rw [ha.eval hx, ha.eval hk, he, ha.eval hv]
  exact ok_skip hr
end
/-- Pairs of whole numbers as keys. -/
def kvp (p : Int × Int) : Value := kv p.1 p.2
def okp (p : Int × Int) : Prop := (Lit.int .i64 p.1).wf = true ∧ (Lit.int .i64 p.2).wf = true
theorem kvp_inj (k k' : Int × Int) (h : kvp k = kvp k') : k = k' := by
  obtain ⟨h1, h2⟩ := kv_inj h; exact Prod.ext h1 h2
end Go.Sx
