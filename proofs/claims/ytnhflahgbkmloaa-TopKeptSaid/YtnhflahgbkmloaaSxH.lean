/- A map of the call's own whose keys are pairs of whole numbers; in the words of Sx. -/
import Derived.Test.YtnhflahgbkmloaaSxG
import Derived.DeepKeys5
import Derived.WideKeyEntry
namespace Go.Sx
open Go.RowKit Go.WideMaps Go.WideElems
open Go.ChangeMaps (modify_eq_set)
set_option linter.unusedVariables false
set_option linter.unusedSimpArgs false

def kv (i j : Int) : Value := .agg #[.int .i64 i, .int .i64 j]
theorem kv_inj {i j i' j' : Int} (h : kv i j = kv i' j') : i = i' ∧ j = j' := by
  unfold kv at h
  simp at h
  exact h
theorem key_pair {P : Program} {K E : TypeId} (hu : P.underlying K = some (.array 2 E)) (he : P.underlying E = some (.int .i64)) (hkt : P.keyType K = true) (hsz : Nat.ble 1 P.types.size = true) (hK : P.cellsOf K = 2) (hE : P.cellsOf E = 1)
    (hf : ∀ i j, (kv i j).formed P K = true) {i j : Int} (hi : (Lit.int .i64 i).wf = true) (hj : (Lit.int .i64 j).wf = true) : ∃ l, keyOf P K (kv i j) = some l := by
  obtain ⟨n, hn⟩ : ∃ n, P.types.size = n + 1 := ⟨P.types.size - 1, by have := Nat.le_of_ble_eq_true hsz; omega⟩
  have hk : P.keyLits (P.types.size + 1) K (kv i j).cells.toList = some [.int .i64 i, .int .i64 j] := by
    rw [hn]
    have e0 : P.keyLits (n + 1) E [.int .i64 i] = some [.int .i64 i] := by simp [Program.keyLits, he, hi]
    have e1 : P.keyLits (n + 1) E [.int .i64 j] = some [.int .i64 j] := by simp [Program.keyLits, he, hj]
    unfold Program.keyLits
    simp only [hu]
    simp [hK, hE, kv, Value.cells, List.range_succ, e0, e1]
  unfold keyOf
  simp only [hu]
  rw [if_pos (by simp [hkt, hf]), hk]
  exact ⟨_, rfl⟩

/-- What a map holds. -/
structure MapIs (es : Array MapEntry) (clock : Nat) (F : Int → Int → Option Int) : Prop where
  keys : ∀ e ∈ es.toList, ∃ i j v, e.key = kv i j ∧ (Lit.int .i64 i).wf = true ∧ (Lit.int .i64 j).wf = true ∧ e.val = .int .i64 v ∧ F i j = some v
  has : ∀ i j v, F i j = some v → ∃ e ∈ es.toList, e.key = kv i j
  born : (es.toList.map (·.born)).Nodup
  lt : ∀ e ∈ es.toList, e.born < clock
/-- What the pairs' map needs of a program. -/
structure PairMap (P : Program) (t K E : TypeId) : Prop where
  ht : P.underlying t = some (.map K E)
  law : KeyLaw P K
  key : ∀ {i j : Int}, (Lit.int .i64 i).wf = true → (Lit.int .i64 j).wf = true → ∃ l, keyOf P K (kv i j) = some l
  zero : ∀ u : World, (zeroValue E).run P u = .ok (.int .i64 0) u

variable {N : Nat} {ds : List Deferred} {l : List (Nat × Value)} {w0 w1 : World} {m : List (Nat × Obj)} {P : Program} {ro : Option Nat} {ops : Array Oper} {Q : Exit → Act → World → Prop} {rest : List Oper} {C : World → Prop} {X : Act → World → Prop}
variable {dst : Option Tmp} {ty : TypeId} {pos : String} {aft : Array Edge} {gd : Option (Nat × Bool)} {t K E : TypeId} {es : Array MapEntry} {clock b : Nat} {F : Int → Int → Option Int}

theorem MapIs.good (M : MapIs es clock F) (PM : PairMap P t K E) : ∀ e ∈ es.toList, ∃ l, keyOf P K e.key = some l := fun e he => by
  obtain ⟨i, j, v, h1, h2, h3, _⟩ := M.keys e he
  rw [h1]; exact PM.key h2 h3
theorem MapIs.empty : MapIs #[] 0 (fun _ _ => none) := ⟨by simp, by simp, by simp, by simp⟩

theorem run_look (PM : PairMap P t K E) (M : MapIs es clock F) {w : World} (hb : w.heap[b]? = some (.map es clock)) {i j : Int} (hi : (Lit.int .i64 i).wf = true) (hj : (Lit.int .i64 j).wf = true) :
    (Instr.lookup t (.map (some b)) (kv i j) false).run P w = .ok (.int .i64 ((F i j).getD 0)) w := by
  obtain ⟨kl, hkey⟩ := PM.key hi hj
  rcases PM.law.find w hkey es.toList (M.good PM) with ⟨h1, h2⟩ | ⟨n, e0, h1, h2, h3⟩
  · have hF : F i j = none := by
      cases h : F i j with
      | none => rfl
      | some v => obtain ⟨e, he, hk⟩ := M.has i j v h; exact absurd hk (h2 e he)
    simp [Instr.lookup, run_underlying PM.ht, MapKept.run_getObj_map hb, PM.law.check w _ hkey, h1, PM.zero, Result.andThen, hF]
  · obtain ⟨i', j', v, q1, _, _, q4, q5⟩ := M.keys e0 (List.mem_of_getElem? h2)
    obtain ⟨rfl, rfl⟩ := kv_inj (h3.symm.trans q1)
    simp [Instr.lookup, run_underlying PM.ht, MapKept.run_getObj_map hb, PM.law.check w _ hkey, h1, Result.andThen, q4, q5]

def putF (F : Int → Int → Option Int) (i j v : Int) : Int → Int → Option Int := fun a c => if a = i ∧ c = j then some v else F a c
/-- The entry that a stamp names. -/
def Stamp (es : Array MapEntry) (st : Nat) (i j : Int) : Prop := ∃ (n : Nat) (e : MapEntry), es.toList[n]? = some e ∧ e.born = st ∧ e.key = kv i j ∧ ∀ (n' : Nat) (e' : MapEntry), es.toList[n']? = some e' → e'.key = kv i j → n' = n

theorem run_entry (PM : PairMap P t K E) (M : MapIs es clock F) (hn : (es.toList.map (·.key)).Nodup) {w : World} (hb : w.heap[b]? = some (.map es clock)) {i j : Int} (hi : (Lit.int .i64 i).wf = true) (hj : (Lit.int .i64 j).wf = true) :
    ∃ (st : Nat) (es1 : Array MapEntry) (clock1 : Nat), (Instr.mapEntry t (.map (some b)) (kv i j)).run P w = .ok (.tuple #[.int .i64 ((F i j).getD 0), .int .i64 st]) (w.putObj b (.map es1 clock1)) ∧
      MapIs es1 clock1 (putF F i j ((F i j).getD 0)) ∧ (es1.toList.map (·.key)).Nodup ∧ Stamp es1 st i j := by
  obtain ⟨kl, hkey⟩ := PM.key hi hj
  rcases PM.law.find w hkey es.toList (M.good PM) with ⟨h1, h2⟩ | ⟨n, e0, h1, h2, h3⟩
  · have hF : F i j = none := by
      cases h : F i j with
      | none => rfl
      | some v => obtain ⟨e, he, hk⟩ := M.has i j v h; exact absurd hk (h2 e he)
    refine ⟨clock, es.push ⟨kv i j, .int .i64 0, clock⟩, clock + 1, ?_, ⟨?_, ?_, ?_, ?_⟩, ?_, ?_⟩
    · simp [Instr.mapEntry, run_underlying PM.ht, MapKept.run_getObj_map hb, PM.law.check w false hkey, h1, PM.zero, MapKept.run_setObj_map _ hb, Result.andThen, World.putObj, hF, goInt]
    · intro e he
      simp only [Array.toList_push, List.mem_append, List.mem_singleton] at he
      rcases he with he | rfl
      · obtain ⟨i', j', v, q1, q2, q3, q4, q5⟩ := M.keys e he
        refine ⟨i', j', v, q1, q2, q3, q4, ?_⟩
        unfold putF
        rw [if_neg (fun hc => h2 e he (by rw [q1, hc.1, hc.2])), q5]
      · exact ⟨i, j, 0, rfl, hi, hj, rfl, by unfold putF; rw [if_pos ⟨rfl, rfl⟩, hF]; rfl⟩
    · intro i' j' v hv
      unfold putF at hv
      split at hv
      · rename_i hc; exact ⟨⟨kv i j, .int .i64 0, clock⟩, by simp, by rw [hc.1, hc.2]⟩
      · obtain ⟨e, he, hk⟩ := M.has i' j' v hv; exact ⟨e, by simp [he], hk⟩
    · simp only [Array.toList_push, List.map_append, List.map_cons, List.map_nil]
      refine List.nodup_append.2 ⟨M.born, by simp, fun a ha c hc e1 => ?_⟩
      simp only [List.mem_singleton] at hc
      obtain ⟨x, hx, rfl⟩ := List.mem_map.1 ha
      have := M.lt x hx
      omega
    · intro e he
      simp only [Array.toList_push, List.mem_append, List.mem_singleton] at he
      rcases he with he | rfl
      · have := M.lt e he; omega
      · exact Nat.lt_succ_self _
    · simp only [Array.toList_push, List.map_append, List.map_cons, List.map_nil]
      refine List.nodup_append.2 ⟨hn, by simp, fun a ha c hc e1 => ?_⟩
      simp only [List.mem_singleton] at hc
      obtain ⟨x, hx, rfl⟩ := List.mem_map.1 ha
      exact h2 x hx (e1.trans hc)
    · refine ⟨es.size, ⟨kv i j, .int .i64 0, clock⟩, by simp, rfl, rfl, fun n' e' h' hk => ?_⟩
      rw [Array.toList_push] at h'
      rcases Nat.lt_or_ge n' es.toList.length with hl | hl
      · rw [List.getElem?_append_left hl] at h'
        exact absurd hk (h2 e' (List.mem_of_getElem? h'))
      · rw [List.getElem?_append_right hl] at h'
        rcases Nat.lt_or_ge 0 (n' - es.toList.length) with hl2 | hl2
        · rw [List.getElem?_eq_none (by simp; simp at hl2; omega)] at h'; cases h'
        · simp only [Array.length_toList] at hl hl2; omega
  · obtain ⟨i', j', v, q1, _, _, q4, q5⟩ := M.keys e0 (List.mem_of_getElem? h2)
    obtain ⟨rfl, rfl⟩ := kv_inj (h3.symm.trans q1)
    have hjj : es[n]? = some e0 := by simpa using h2
    have hsame : es.modify n (fun e => { e with key := kv i j }) = es := by
      apply Array.ext'
      rw [Array.toList_modify, modify_eq_set _ _ _ _ h2]
      have : ({ e0 with key := kv i j } : MapEntry) = e0 := by rw [← h3]
      rw [this]
      exact set_self _ _ _ h2
    have hF2 : putF F i j ((F i j).getD 0) = F := by
      funext a c
      unfold putF
      split
      · rename_i hc; rw [hc.1, hc.2, q5]; rfl
      · rfl
    refine ⟨e0.born, es, clock, ?_, by rw [hF2]; exact M, hn, ⟨n, e0, h2, rfl, h3, fun n' e' h' hk => ?_⟩⟩
    · simp [Instr.mapEntry, run_underlying PM.ht, MapKept.run_getObj_map hb, PM.law.check w false hkey, h1, hjj, h3, PM.law.stays w hkey, hsame, MapKept.run_setObj_map _ hb, Result.andThen, World.putObj, goInt, q4, q5]
    · have a1 : (es.toList.map (·.key))[n']? = some (kv i j) := by rw [List.getElem?_map, h']; simp [hk]
      have a2 : (es.toList.map (·.key))[n]? = some (kv i j) := by rw [List.getElem?_map, h2]; simp [h3]
      have b1 := (List.getElem?_eq_some_iff.1 a1).1
      exact (List.getElem?_inj b1 hn).1 (a1.trans a2.symm)
theorem run_entrySet (M : MapIs es clock F) (hn : (es.toList.map (·.key)).Nodup) {w : World} (hb : w.heap[b]? = some (.map es clock)) {i j v : Int} {st : Nat} (hi : (Lit.int .i64 i).wf = true) (hj : (Lit.int .i64 j).wf = true) (hS : Stamp es st i j) :
    ∃ (es1 : Array MapEntry), (Instr.entryStore t (.map (some b)) (.int .i64 st) (.int .i64 v)).run P w = .ok () (w.putObj b (.map es1 clock)) ∧ MapIs es1 clock (putF F i j v) ∧ (es1.toList.map (·.key)).Nodup := by
  obtain ⟨n, e0, h2, hborn, hkey, huniq⟩ := hS
  have hidx : es.findIdx? (fun e => ((e.born : Nat) : Int) == ((st : Nat) : Int)) = some n := by
    rw [findIdx_arr, ← hborn]
    exact findIdx_born M.born h2
  have hl : (es.modify n fun e => { e with val := .int .i64 v }).toList = es.toList.set n { e0 with val := .int .i64 v } := by
    rw [Array.toList_modify, modify_eq_set _ _ _ _ h2]
  have hlen : n < es.toList.length := (List.getElem?_eq_some_iff.1 h2).1
  have hget := (List.getElem?_eq_some_iff.1 h2).2
  refine ⟨es.modify n fun e => { e with val := .int .i64 v }, ?_, ⟨?_, ?_, ?_, ?_⟩, ?_⟩
  · simp [Instr.entryStore, MapKept.run_getObj_map hb, asInt, asIntOf, goInt, hidx, MapKept.run_setObj_map _ hb, Result.andThen, World.putObj]
  · intro e he
    rw [hl] at he
    obtain ⟨k, hk⟩ := List.getElem?_of_mem he
    by_cases hkn : k = n
    · subst hkn
      rw [List.getElem?_set_self hlen] at hk
      cases hk
      exact ⟨i, j, v, hkey, hi, hj, rfl, by unfold putF; rw [if_pos ⟨rfl, rfl⟩]⟩
    · rw [List.getElem?_set_ne (Ne.symm hkn)] at hk
      obtain ⟨i', j', v', q1, q2, q3, q4, q5⟩ := M.keys e (List.mem_of_getElem? hk)
      refine ⟨i', j', v', q1, q2, q3, q4, ?_⟩
      unfold putF
      rw [if_neg (fun hc => hkn (huniq k e hk (by rw [q1, hc.1, hc.2]))), q5]
  · intro i' j' v' hv
    rw [hl]
    by_cases hc : i' = i ∧ j' = j
    · exact ⟨_, List.mem_set hlen _, by rw [hc.1, hc.2]; exact hkey⟩
    · unfold putF at hv
      rw [if_neg hc] at hv
      obtain ⟨e, he, hk⟩ := M.has i' j' v' hv
      obtain ⟨k, hk2⟩ := List.getElem?_of_mem he
      have hkn : k ≠ n := fun h => by
        subst h
        rw [h2] at hk2; cases hk2
        exact hc (by obtain ⟨a, b⟩ := kv_inj (hk.symm.trans hkey); exact ⟨a, b⟩)
      exact ⟨e, List.mem_of_getElem? (i := k) (by rw [List.getElem?_set_ne (Ne.symm hkn)]; exact hk2), hk⟩
  · rw [hl, List.map_set]
    have : ({ e0 with val := .int .i64 v } : MapEntry).born = (es.toList.map (·.born))[n]'(by simpa using hlen) := by simp [hget]
    rw [this, List.set_getElem_self]; exact M.born
  · intro e he
    rw [hl] at he
    rcases List.mem_or_eq_of_mem_set he with h | rfl
    · exact M.lt e h
    · exact M.lt e0 (List.mem_of_getElem? h2)
  · rw [hl, List.map_set]
    have : ({ e0 with val := .int .i64 v } : MapEntry).key = (es.toList.map (·.key))[n]'(by simpa using hlen) := by simp [hget]
    rw [this, List.set_getElem_self]; exact hn

theorem run_put (PM : PairMap P t K E) {w : World} (hb : w.heap[b]? = some (.map #[] 0)) {i j v : Int} (hi : (Lit.int .i64 i).wf = true) (hj : (Lit.int .i64 j).wf = true) :
    (Instr.mapUpdate t (.map (some b)) (kv i j) (.int .i64 v)).run P w = .ok () (w.putObj b (.map #[⟨kv i j, .int .i64 v, 0⟩] 1)) := by
  obtain ⟨kl, hkey⟩ := PM.key hi hj
  rcases PM.law.find w hkey [] (by simp) with ⟨h1, h2⟩ | ⟨n, e0, h1, h2, h3⟩
  · simp [Instr.mapUpdate, run_underlying PM.ht, MapKept.run_getObj_map hb, PM.law.check w false hkey, h1, MapKept.run_setObj_map _ hb, Result.andThen, World.putObj]
  · simp at h2
theorem MapIs.one {i j v : Int} (hi : (Lit.int .i64 i).wf = true) (hj : (Lit.int .i64 j).wf = true) : MapIs #[⟨kv i j, .int .i64 v, 0⟩] 1 (putF (fun _ _ => none) i j v) := by
  refine ⟨?_, ?_, by simp, by simp⟩
  · intro e he
    simp only [List.mem_singleton] at he
    subst he
    exact ⟨i, j, v, rfl, hi, hj, rfl, by unfold putF; rw [if_pos ⟨rfl, rfl⟩]⟩
  · intro i' j' v' hv
    unfold putF at hv
    split at hv
    · rename_i hc; exact ⟨⟨kv i j, .int .i64 v, 0⟩, by simp, by rw [hc.1, hc.2]⟩
    · cases hv

theorem t_makeMap : Tr (ι := Nat) P ro N ds l w0 w1 m ⟨dst, .makeMap t none, ty, pos, aft, gd⟩ (New w0 w1) (fun b => .map (some b)) (fun _ => w1) (fun b => (b, .map #[] 0) :: m) := fun a w ha hw => by
  refine .inl ⟨.map (some w.heap.size), w.alloc (.map #[] 0), ?_, w.heap.size, ⟨hw.below.size, hw.size⟩, rfl, hw.alloc rfl⟩
  show Sem.run P (do pure (Next.value (← Instr.makeMap t none))) w = _
  exact ok_value rfl
theorem t_insert {xm xk xv : Operand} {i j v : Int} (n : Nat) (PM : PairMap P t K E) (hx : ev l xm = some (.map (some b))) (hk : ev l xk = some (kv i j)) (hv : ev l xv = some (.int .i64 v)) (hm : m[n]? = some (b, .map #[] 0)) (hi : (Lit.int .i64 i).wf = true) (hj : (Lit.int .i64 j).wf = true) :
    Tr (ι := Unit) P ro N ds l w0 w1 m ⟨dst, .insert t xm xk xv, ty, pos, aft, gd⟩ (fun _ => True) (fun _ => undef) (fun _ => w1) (fun _ => m.set n (b, .map #[⟨kv i j, .int .i64 v, 0⟩] 1)) := fun a w ha hw => by
  have hb := hw.at_ _ (List.mem_of_getElem? hm)
  refine .inr (.inl ⟨_, ?_, (), trivial, rfl, hw.turn (w' := w.putObj b (.map #[⟨kv i j, .int .i64 v, 0⟩] 1)) (o' := .map #[⟨kv i j, .int .i64 v, 0⟩] 1) hm rfl rfl rfl rfl (by simp) (fun k _ hk' => World.putObj_heap_other hk') (World.putObj_heap_same (lt_of_heap hb))⟩)
  show Sem.run P (do Instr.mapUpdate t (a.eval xm) (a.eval xk) (a.eval xv); pure Next.skip) w = _
  rw [ha.eval hx, ha.eval hk, ha.eval hv]
  exact ok_skip (run_put PM hb hi hj)
theorem y_look {xm xk : Operand} {i j : Int} (PM : PairMap P t K E) (M : MapIs es clock F) (hm : ∀ w, C w → w.heap[b]? = some (.map es clock)) (hx : ev l xm = some (.map (some b))) (hk : ev l xk = some (kv i j)) (hi : (Lit.int .i64 i).wf = true) (hj : (Lit.int .i64 j).wf = true) :
    Yv P N ds l C ⟨dst, .lookup t xm xk false, ty, pos, aft, gd⟩ (.int .i64 ((F i j).getD 0)) := fun a w ha hC => by
  show Sem.run P (do pure (Next.value (← Instr.lookup t (a.eval xm) (a.eval xk) false))) w = _
  rw [ha.eval hx, ha.eval hk]
  exact ok_value (run_look PM M (hm w hC) hi hj)
theorem t_entry {xm xk : Operand} {i j : Int} (n : Nat) (PM : PairMap P t K E) (M : MapIs es clock F) (hn : (es.toList.map (·.key)).Nodup) (hm : m[n]? = some (b, .map es clock)) (hx : ev l xm = some (.map (some b))) (hk : ev l xk = some (kv i j)) (hi : (Lit.int .i64 i).wf = true) (hj : (Lit.int .i64 j).wf = true) :
    Tr (ι := Nat × Array MapEntry × Nat) P ro N ds l w0 w1 m ⟨dst, .mapEntry t xm xk, ty, pos, aft, gd⟩ (fun y => MapIs y.2.1 y.2.2 (putF F i j ((F i j).getD 0)) ∧ (y.2.1.toList.map (·.key)).Nodup ∧ Stamp y.2.1 y.1 i j) (fun y => .tuple #[.int .i64 ((F i j).getD 0), .int .i64 y.1]) (fun _ => w1) (fun y => m.set n (b, .map y.2.1 y.2.2)) := fun a w ha hw => by
  have hb := hw.at_ _ (List.mem_of_getElem? hm)
  obtain ⟨st, es1, clock1, hr, h1, h2, h3⟩ := run_entry PM M hn hb hi hj
  refine .inl ⟨_, _, ?_, (st, es1, clock1), ⟨h1, h2, h3⟩, rfl, hw.turn (w' := w.putObj b (.map es1 clock1)) (o' := .map es1 clock1) hm rfl rfl rfl rfl (by simp) (fun k _ hk' => World.putObj_heap_other hk') (World.putObj_heap_same (lt_of_heap hb))⟩
  show Sem.run P (do pure (Next.value (← Instr.mapEntry t (a.eval xm) (a.eval xk)))) w = _
  rw [ha.eval hx, ha.eval hk]
  exact ok_value hr
theorem t_entrySet {xm xs xv : Operand} {i j v : Int} {st : Nat} (n : Nat) (M : MapIs es clock F) (hn : (es.toList.map (·.key)).Nodup) (hS : Stamp es st i j) (hi : (Lit.int .i64 i).wf = true) (hj : (Lit.int .i64 j).wf = true) (hm : m[n]? = some (b, .map es clock)) (hx : ev l xm = some (.map (some b))) (hs : ev l xs = some (.int .i64 st)) (hv : ev l xv = some (.int .i64 v)) :
    Tr (ι := Array MapEntry) P ro N ds l w0 w1 m ⟨dst, .entryStore t xm xs xv, ty, pos, aft, gd⟩ (fun y => MapIs y clock (putF F i j v) ∧ (y.toList.map (·.key)).Nodup) (fun _ => undef) (fun _ => w1) (fun y => m.set n (b, .map y clock)) := fun a w ha hw => by
  have hb := hw.at_ _ (List.mem_of_getElem? hm)
  obtain ⟨es1, hr, h1, h2⟩ := run_entrySet (P := P) (t := t) M hn hb hi hj hS (v := v)
  refine .inr (.inl ⟨_, ?_, es1, ⟨h1, h2⟩, rfl, hw.turn (w' := w.putObj b (.map es1 clock)) (o' := .map es1 clock) hm rfl rfl rfl rfl (by simp) (fun k _ hk' => World.putObj_heap_other hk') (World.putObj_heap_same (lt_of_heap hb))⟩)
  show Sem.run P (do Instr.entryStore t (a.eval xm) (a.eval xs) (a.eval xv); pure Next.skip) w = _
  rw [ha.eval hx, ha.eval hs, ha.eval hv]
  exact ok_skip hr
theorem putF_same (F : Int → Int → Option Int) (i j a c : Int) : (putF F i j ((F i j).getD 0) a c).getD 0 = (F a c).getD 0 := by
  unfold putF
  split
  · rename_i h; rw [h.1, h.2]; rfl
  · rfl
theorem t_look {xm xk : Operand} {i j v : Int} (n : Nat) (PM : PairMap P t K E) (M : MapIs es clock F) (hm : m[n]? = some (b, .map es clock)) (hx : ev l xm = some (.map (some b))) (hk : ev l xk = some (kv i j)) (hi : (Lit.int .i64 i).wf = true) (hj : (Lit.int .i64 j).wf = true) (hv : (F i j).getD 0 = v) :
    Tr (ι := Unit) P ro N ds l w0 w1 m ⟨dst, .lookup t xm xk false, ty, pos, aft, gd⟩ (fun _ => True) (fun _ => .int .i64 v) (fun _ => w1) (fun _ => m) := fun a w ha hw => by
  have hb := hw.at_ _ (List.mem_of_getElem? hm)
  refine .inl ⟨_, w, ?_, (), trivial, rfl, hw⟩
  show Sem.run P (do pure (Next.value (← Instr.lookup t (a.eval xm) (a.eval xk) false))) w = _
  rw [ha.eval hx, ha.eval hk, ← hv]
  exact ok_value (run_look PM M hb hi hj)
end Go.Sx
