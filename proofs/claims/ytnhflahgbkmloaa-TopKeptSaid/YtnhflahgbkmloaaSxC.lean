/- The rules of Sx for what turns the world: new blocks, stores, calls; a function's entry and its return; a range over a function. -/
import Derived.Test.YtnhflahgbkmloaaSxB
import Derived.RangeFuncSeq
namespace Go.Sx
open Go.RowKit
set_option linter.unusedVariables false
set_option linter.unusedSimpArgs false

section
variable {N : Nat} {ds : List Deferred} {l : List (Nat × Value)} {w0 w1 : World} {m : List (Nat × Obj)} {P : Program} {ro : Option Nat} {ops : Array Oper} {Q : Exit → Act → World → Prop} {rest : List Oper} {C : World → Prop} {X : Act → World → Prop}
variable {dst : Option Tmp} {ty : TypeId} {pos : String} {aft : Array Edge} {gd : Option (Nat × Bool)}
variable {q f i : Nat} {L : Array Bool}

/-- An operation that turns the world: behind it there is an x with A x, the value is v x, and the heap is told by (w1 x, m x). -/
def Tr {ι : Type} (P : Program) (ro : Option Nat) (N : Nat) (ds : List Deferred) (l : List (Nat × Value)) (w0 w1 : World) (m : List (Nat × Obj)) (o : Oper) (A : ι → Prop) (vf : ι → Value) (wf : ι → World) (mf : ι → List (Nat × Obj)) : Prop :=
  ∀ a w, Has N ds l a → Hp w0 w1 m w → Stp P ro o a w (fun v w' => ∃ x, A x ∧ v = vf x ∧ Hp w0 (wf x) (mf x) w')

theorem s_tr {ι : Type} {A : ι → Prop} {vf wf mf} {d} {o : Oper} (hs : Tr (ι := ι) P ro N ds l w0 w1 m o A vf wf mf) (hg : wants ops l o.guard = some true) (hp : plainOp o.op = true) (hd : o.dst = some d) (hdN : Nat.blt d N = true)
    (k : ∀ x, A x → G N ds ((d, vf x) :: l) w0 (wf x) (mf x) (wpListIn (Wd ro) 0 P ops Q rest)) : G N ds l w0 w1 m (wpListIn (Wd ro) 0 P ops Q (o :: rest)) :=
  s_do hg hp fun a w ha hw => (hs a w ha hw).mono fun v w' ⟨x, hx, hv, hh⟩ => by
    have hdN' : d < N := by simpa [Nat.blt_eq] using hdN
    rw [hd, hv]
    exact k x hx _ _ (ha.put hdN' _) hh
/-- .. whose value is dropped. -/
theorem s_tr0 {ι : Type} {A : ι → Prop} {vf wf mf} {o : Oper} (hs : Tr (ι := ι) P ro N ds l w0 w1 m o A vf wf mf) (hg : wants ops l o.guard = some true) (hp : plainOp o.op = true) (hd : o.dst = none)
    (k : ∀ x, A x → G N ds l w0 (wf x) (mf x) (wpListIn (Wd ro) 0 P ops Q rest)) : G N ds l w0 w1 m (wpListIn (Wd ro) 0 P ops Q (o :: rest)) :=
  s_do hg hp fun a w ha hw => (hs a w ha hw).mono fun v w' ⟨x, hx, hv, hh⟩ => by
    rw [hd]
    exact k x hx _ _ ha hh
theorem j_tr {ι : Type} {A : ι → Prop} {vf wf mf} {d} {o : Oper} (hi : ops[i]? = some o) (hs : Tr (ι := ι) P ro N ds l w0 w1 m o A vf wf mf) (hr : Region.ready .any ops L = [i]) (hg : wants ops l o.guard = some true) (hp : plainOp o.op = true) (hd : o.dst = some d) (hdN : Nat.blt d N = true)
    (hJ : (L.setIfInBounds i true).getD q false = true ∨ ∀ x w, A x → Hp w0 (wf x) (mf x) w → C w)
    (k : ∀ x, A x → GJ N ds ((d, vf x) :: l) w0 (wf x) (mf x) P ro ops Q q C f (L.setIfInBounds i true)) : GJ N ds l w0 w1 m P ro ops Q q C (f + 1) L :=
  j_do hi hr hg hp fun a w ha hw => (hs a w ha hw).mono fun v w' ⟨x, hx, hv, hh⟩ => by
    have hdN' : d < N := by simpa [Nat.blt_eq] using hdN
    refine ⟨fun h => ?_, ?_⟩
    · rcases hJ with h' | h'
      · rw [h'] at h; cases h
      · exact h' x _ hx hh
    · rw [hd, hv]; exact k x hx _ _ (ha.put hdN' _) hh
theorem j_tr0 {ι : Type} {A : ι → Prop} {vf wf mf} {o : Oper} (hi : ops[i]? = some o) (hs : Tr (ι := ι) P ro N ds l w0 w1 m o A vf wf mf) (hr : Region.ready .any ops L = [i]) (hg : wants ops l o.guard = some true) (hp : plainOp o.op = true) (hd : o.dst = none)
    (hJ : (L.setIfInBounds i true).getD q false = true ∨ ∀ x w, A x → Hp w0 (wf x) (mf x) w → C w)
    (k : ∀ x, A x → GJ N ds l w0 (wf x) (mf x) P ro ops Q q C f (L.setIfInBounds i true)) : GJ N ds l w0 w1 m P ro ops Q q C (f + 1) L :=
  j_do hi hr hg hp fun a w ha hw => (hs a w ha hw).mono fun v w' ⟨x, hx, hv, hh⟩ => by
    refine ⟨fun h => ?_, ?_⟩
    · rcases hJ with h' | h'
      · rw [h'] at h; cases h
      · exact h' x _ hx hh
    · rw [hd]; exact k x hx _ _ ha hh

/-! ### new blocks -/
theorem run_zero {t : TypeId} {z : Value} (h : (P.info? t).bind (·.zero) = some z) (w : World) : (zeroValue t).run P w = .ok z w := by
  cases hi : P.info? t with
  | none => simp [hi] at h
  | some i0 =>
    simp [hi] at h
    simp [zeroValue, typeInfo, hi, h]
def New (w0 w1 : World) (b : Nat) : Prop := w0.heap.size ≤ b ∧ w1.heap.size ≤ b
theorem t_alloc {t z} {cs : List Value} (hz : (P.info? t).bind (·.zero) = some z) (hc : z.cells = cs.toArray) : Tr (ι := Nat) P ro N ds l w0 w1 m ⟨dst, .alloc t, ty, pos, aft, gd⟩ (New w0 w1) (fun b => .pointer (some ⟨b, 0, none⟩)) (fun _ => w1) (fun b => (b, .cells cs.toArray t (0, 0)) :: m) := fun a w ha hw => by
  rw [← hc]
  refine .inl ⟨.pointer (some ⟨w.heap.size, 0, none⟩), w.alloc (.cells z.cells t (0, 0)), ?_, w.heap.size, ⟨hw.below.size, hw.size⟩, rfl, hw.alloc rfl⟩
  show Sem.run P (do pure (Next.value (← Instr.alloc t true (.tuple #[])))) w = _
  refine ok_value ?_
  simp [Instr.alloc, run_zero hz, newVar, newRow]
theorem t_box {t x v} {cs : List Value} (hx : ev l x = some v) (hc : v.cells = cs.toArray) : Tr (ι := Nat) P ro N ds l w0 w1 m ⟨dst, .box t x, ty, pos, aft, gd⟩ (New w0 w1) (fun b => .pointer (some ⟨b, 0, none⟩)) (fun _ => w1) (fun b => (b, .cells cs.toArray t (0, 0)) :: m) := fun a w ha hw => by
  rw [← hc]
  refine .inl ⟨.pointer (some ⟨w.heap.size, 0, none⟩), w.alloc (.cells v.cells t (0, 0)), ?_, w.heap.size, ⟨hw.below.size, hw.size⟩, rfl, hw.alloc rfl⟩
  show Sem.run P (do pure (Next.value (← Instr.box t (a.eval x)))) w = _
  rw [ha.eval hx]
  refine ok_value ?_
  simp [Instr.box, newVar, newRow]

/-! ### stores -/
def setCs : List Value → Nat → List Value → List Value
  | c, _, [] => c
  | [], _, _ => []
  | _ :: c, 0, v :: vs => v :: setCs c 0 vs
  | x :: c, o + 1, vs => x :: setCs c o vs
theorem setCs_nil (c : List Value) (o : Nat) : setCs c o [] = c := by cases c <;> rfl
theorem setCs_cons : ∀ (c : List Value) (o : Nat) (v : Value) (vs : List Value), setCs c o (v :: vs) = setCs (c.set o v) (o + 1) vs
  | [], o, v, vs => by cases vs <;> rfl
  | x :: c, 0, v, vs => by
    cases vs with
    | nil => simp [setCs, setCs_nil]
    | cons u us => simp [setCs]
  | x :: c, o + 1, v, vs => by
    cases vs with
    | nil =>
      have := setCs_cons c o v []
      simp [setCs, setCs_nil] at this ⊢
      exact this
    | cons u us =>
      have := setCs_cons c o v (u :: us)
      simp [setCs] at this ⊢
      exact this
theorem setCs_len : ∀ (c : List Value) (o : Nat) (vs : List Value), (setCs c o vs).length = c.length
  | c, o, [] => by rw [setCs_nil]
  | c, o, v :: vs => by rw [setCs_cons, setCs_len]; simp
/-- The heap behind stores of several cells into block number i. -/
theorem stores (P : Program) (w0 w1 : World) (i b : Nat) (t : TypeId) : ∀ (vs : List Value) (c : List Value) (off : Nat) (w : World) (m : List (Nat × Obj)) (j : Nat), Hp w0 w1 m w → m[i]? = some (b, .cells c.toArray t (0, 0)) → off + j + vs.length ≤ c.length → (∀ v ∈ vs, v.oneCell' = true) →
    ∃ w', (storeCells ⟨b, off, none⟩ vs j).run P w = .ok () w' ∧ Hp w0 w1 (m.set i (b, .cells (setCs c (off + j) vs).toArray t (0, 0))) w'
  | [], c, off, w, m, j, hw, hi, hl, _ => ⟨w, rfl, by
      rw [setCs_nil]
      have : m.set i (b, .cells c.toArray t (0, 0)) = m := by
        apply List.ext_getElem?
        intro k
        rw [List.getElem?_set]
        by_cases e : i = k
        · subst e
          have hlt := (List.getElem?_eq_some_iff.1 hi).1
          simp only [hlt, if_true]
          exact hi.symm
        · simp [e]
      rw [this]; exact hw⟩
  | v :: vs, c, off, w, m, j, hw, hi, hl, h1 => by
    simp only [List.length_cons] at hl
    have hil : i < m.length := (List.getElem?_eq_some_iff.1 hi).1
    have hb := hw.at_ _ (List.mem_of_getElem? hi)
    simp only at hb
    have hcell : w.cell? ⟨b, off + j, none⟩ = some (c[off + j]'(by omega)) := by
      simp [World.cell?, hb, show off + j < c.length by omega]
    have hfr : w.frozen? ⟨b, off + j, none⟩ = false := by simp [World.frozen?, hb]
    have hw2 := hw.setCell (off := off + j) hi v
    have hset : c.toArray.setIfInBounds (off + j) v = (c.set (off + j) v).toArray := by simp
    rw [hset] at hw2
    obtain ⟨w', hr, hh⟩ := stores P w0 w1 i b t vs (c.set (off + j) v) off _ _ (j + 1) hw2 (by rw [List.getElem?_set]; simp [hil]) (by simp; omega) (fun u hu => h1 u (List.mem_cons_of_mem _ hu))
    refine ⟨w', ?_, ?_⟩
    · have hv := h1 v (List.mem_cons_self ..)
      simp only [storeCells, add_at]
      show Sem.run P (store ⟨b, off + j, none⟩ v >>= fun _ => storeCells ⟨b, off, none⟩ vs (j + 1)) w = _
      rw [Sem.run_bind]
      have : (store ⟨b, off + j, none⟩ v).run P w = .ok () (w.setCell ⟨b, off + j, none⟩ v) := by
        cases v <;> first | (simp [Value.oneCell'] at hv; done) | simp [store, Sem.run, hcell, hfr]
      rw [this]; exact hr
    · rw [List.set_set] at hh
      rw [setCs_cons]
      exact hh
theorem t_store {t t' x y b off v} {c vs : List Value} (i : Nat) (hx : ev l x = some (.pointer (some ⟨b, off, none⟩))) (hy : ev l y = some v) (hm : m[i]? = some (b, .cells c.toArray t' (0, 0))) (hv : v.cells = vs.toArray) (hsz : (P.info? t).map (·.size) = some vs.length)
    (hl : Nat.ble (off + vs.length) c.length = true) (h1 : vs.all (·.oneCell') = true) :
    Tr (ι := Unit) P ro N ds l w0 w1 m ⟨dst, .store t x y, ty, pos, aft, gd⟩ (fun _ => True) (fun _ => undef) (fun _ => w1) (fun _ => m.set i (b, .cells (setCs c off vs).toArray t' (0, 0))) := fun a w ha hw => by
  have hl' : off + vs.length ≤ c.length := Nat.le_of_ble_eq_true hl
  obtain ⟨w', hr, hh⟩ := stores P w0 w1 i b t' vs c off w m 0 hw hm (by omega) (by simpa using h1)
  refine .inr (.inl ⟨w', ?_, (), trivial, rfl, hh⟩)
  show Sem.run P (do Instr.storeAt t (a.eval x) (a.eval y); pure Next.skip) w = _
  rw [ha.eval hx, ha.eval hy]
  refine ok_skip ?_
  have hn : v.cells.size = vs.length := by rw [hv]; simp
  simp only [Instr.storeAt, Instr.sureAddr, storeVar]
  simp [run_size hsz, hn]
  rw [hv]; exact hr

/-! ### calls of Go functions -/
def Enters (P : Program) (f : FuncId) : Prop := ∀ (args : Array Value) (w : World), (callFunc f args).run P w = .ok (.enter f args) w
theorem enters_of {f : FuncId} {fn : Func} {c : Code} (hf : P.funcs[f]? = some fn) (hname : (fn.name == "runtime.NumGoroutine") = false) (hb : fn.body = some c) : Enters P f := by
  intro args w
  have h1 : fn.name ≠ "runtime.NumGoroutine" := by simpa using hname
  simp [callFunc, hf, h1, hb, mark]
theorem call_run {a : Act} {w : World} {fn : Operand} {xs : List Operand} {ts : Array TypeId} {fid : FuncId} {fs cap : Array Value} {vs : List Value} (ha : Has N ds l a) (hf : ev l fn = some (.func (.func fid) fs cap)) (hx : evs l xs = some vs) (he : Enters P fid) :
    (execOp a.eval ⟨dst, .call ⟨.value fn, xs.toArray, ts⟩, ty, pos, aft, gd⟩).run P w = .ok (.enter fid (fs ++ vs.toArray ++ cap)) w := by
  simp only [execOp, resolve, List.map_toArray, ha.evals hx, ha.eval hf, Deferred.ofValue]
  show Sem.run P (do let d ← pure ({ target := .fn (.func fid) cap, args := fs ++ vs.toArray } : Deferred); invoke d.target d.args) w = _
  simp only [Sem.run_bind]
  exact he _ w
/-- A call of a function that hands back v and turns nothing that stood. -/
theorem t_call {fn fid xs ts vs v} (hf : ev l fn = some (.func (.func fid) #[] #[])) (hx : evs l xs = some vs) (he : Enters P fid) (hc : ∀ w, Hp w0 w1 m w → Calls P fid vs.toArray w fun e w' => e = .returned v ∧ Below w.heap.size w w') :
    Tr (ι := Unit) P ro N ds l w0 w1 m ⟨dst, .call ⟨.value fn, xs.toArray, ts⟩, ty, pos, aft, gd⟩ (fun _ => True) (fun _ => v) (fun _ => w1) (fun _ => m) := fun a w ha hw => by
  refine .inr (.inr (.inl ⟨fid, _, w, call_run ha hf hx he, ?_⟩))
  have := hc w hw
  simp only [Array.append_empty, Array.empty_append]
  exact this.mono fun e w' ⟨h1, h2⟩ => ⟨v, h1, (), trivial, rfl, hw.grow h2⟩
/-- .. whatever it leaves. -/
theorem t_callx {ι : Type} {A : ι → Prop} {vf wf mf} {fn fid xs ts vs cap} {fs : Array Value} (hf : ev l fn = some (.func (.func fid) fs cap)) (hx : evs l xs = some vs) (he : Enters P fid)
    (hc : ∀ w, Hp w0 w1 m w → Calls P fid (fs ++ vs.toArray ++ cap) w fun e w' => ∃ x, A x ∧ e = .returned (vf x) ∧ Hp w0 (wf x) (mf x) w') :
    Tr (ι := ι) P ro N ds l w0 w1 m ⟨dst, .call ⟨.value fn, xs.toArray, ts⟩, ty, pos, aft, gd⟩ A vf wf mf := fun a w ha hw => by
  refine .inr (.inr (.inl ⟨fid, _, w, call_run ha hf hx he, ?_⟩))
  exact (hc w hw).mono fun e w' ⟨x, h1, h2, h3⟩ => ⟨_, h2, x, h1, rfl, h3⟩
/-- A call of yield. -/
theorem t_yield {ι : Type} {A : ι → Prop} {vf wf mf} {fn lp xs ts vs} (hf : ev l fn = some (.func (.yield lp) #[] #[])) (hx : evs l xs = some vs)
    (hc : ∀ w, Hp w0 w1 m w → YieldAt (Wd ro) 0 P lp vs.toArray w fun e w' => ∃ x, A x ∧ e = .returned (vf x) ∧ Hp w0 (wf x) (mf x) w') :
    Tr (ι := ι) P ro N ds l w0 w1 m ⟨dst, .call ⟨.value fn, xs.toArray, ts⟩, ty, pos, aft, gd⟩ A vf wf mf := fun a w ha hw => by
  obtain ⟨f, tmps, assign, body, hy, hR⟩ := hc w hw
  refine .inr (.inr (.inr ⟨lp, f, tmps, assign, body, w, ?_, ?_⟩))
  · simp only [execOp, resolve, List.map_toArray, ha.evals hx, ha.eval hf, Deferred.ofValue]
    show Sem.run P (do let d ← pure ({ target := .fn (.yield lp) #[], args := #[] ++ vs.toArray } : Deferred); invoke d.target d.args) w = _
    simp only [Sem.run_bind, Array.empty_append]
    exact hy
  · exact hR.mono fun e w' ⟨x, h1, h2, h3⟩ => ⟨_, h2, x, h1, rfl, h3⟩

/-! ### entry and return -/
def enum : Nat → List Value → List (Nat × Value)
  | _, [] => []
  | k, v :: vs => (k, v) :: enum (k + 1) vs
theorem enum_get : ∀ (vs : List Value) (k t : Nat) (v : Value), get t (enum k vs) = some v → k ≤ t ∧ vs[t - k]? = some v
  | [], k, t, v, h => by simp [enum, get] at h
  | u :: vs, k, t, v, h => by
    simp only [enum, get] at h
    cases hb : Nat.beq k t with
    | true =>
      have := Nat.eq_of_beq_eq_true hb
      subst this
      simp [hb] at h
      exact ⟨Nat.le_refl _, by simp [h]⟩
    | false =>
      simp [hb] at h
      obtain ⟨h1, h2⟩ := enum_get vs (k + 1) t v h
      refine ⟨by omega, ?_⟩
      rw [show t - k = (t - (k + 1)) + 1 by omega]
      simpa using h2

/-- A function's contract out of its body. -/
theorem enter {f : FuncId} {fn : Func} {c : Code} {vs : List Value} {w : World} {R : Ending → World → Prop} (hf : P.funcs[f]? = some fn) (hb : fn.body = some c) (hN : fn.ntmps = N) (hle : Nat.ble vs.length N = true)
    (h : G N [] (enum 0 vs) w w [] (c.wpIn (Wd none) 0 P (bodyPostM (Wd none) 0 P fn R))) : Calls P f vs.toArray w R := by
  have hle' : vs.length ≤ N := Nat.le_of_ble_eq_true hle
  have := callsIn_of_wp_marks (F := Wd none) (n := 0) (args := vs.toArray) (w := w) (R := R) hf hb trivial (h _ w ⟨by simp [hN]; omega, rfl, fun t v ht => by
    obtain ⟨_, h2⟩ := enum_get vs 0 t v ht
    simp at h2
    have := (List.getElem?_eq_some_iff.1 h2).1
    rw [Array.getElem?_append_left (by simpa using this)]
    simpa using h2⟩ (Hp.refl w)) rfl
  exact fun cs => let ⟨e, w', fr, r, s, x⟩ := this.2 cs (wd_room _ _); ⟨e, w', fr, r, s.comes, x⟩

/-- The marks that this activation has among its deferred calls. -/
def Marks (w0 w1 : World) : List Deferred → Prop
  | [] => True
  | d :: ds => ∃ D, d = { target := .collected D, args := #[] } ∧ w0.heap.size ≤ D ∧ w1.heap[D]? = some (Obj.deferred (some [])) ∧ (∀ d' ∈ ds, d'.target ≠ .collected D) ∧ Marks w0 w1 ds
theorem Hq.putMark {w} (h : Hq w0 w1 m w) {D : Nat} {o : Option (List Deferred)} (hD : w.heap[D]? = some (Obj.deferred o)) (hge : w0.heap.size ≤ D) (h1 : ∀ o, w1.heap[D]? = some o → isBook o = true) : Hq w0 w1 m (w.putObj D (.deferred none)) := by
  have hne : ∀ k, k ≠ D → (w.putObj D (.deferred none)).heap[k]? = w.heap[k]? := fun k hk => World.putObj_heap_other hk
  refine ⟨?_, by rw [show (w.putObj D (.deferred none)).heap.size = w.heap.size from by simp]; exact h.size, ?_, ?_, h.ge, h.nodup, h.good⟩
  · exact h.below.trans ⟨rfl, rfl, rfl, by simp, fun k hk => hne k (by omega)⟩
  · intro k hk hm hg
    rw [hne k (fun e => ?_)]
    · exact h.keep k hk hm hg
    · subst e
      cases ho : w1.heap[k]? with
      | none => have := Array.getElem?_eq_none_iff.1 ho; omega
      | some o' => have h2 := h1 _ ho; have h3 := hg _ ho; rw [h2] at h3; cases h3
  · intro p hp
    rw [hne p.1 (fun e => ?_)]
    · exact h.at_ p hp
    · have h2 := h.at_ p hp
      rw [e, hD] at h2
      injection h2 with h2
      have := h.good p hp
      rw [← h2] at this; cases this
theorem leaves {fn : Func} {tmps : Array Value} {R : Ending → World → Prop} {v : Value} (hres : ∀ w, (Hq w0 w1 m w) → (results fn tmps).run P w = .ok v w) (hR : ∀ w, Hq w0 w1 m w → R (.returned v) w) :
    ∀ (ds : List Deferred) (w : World), Marks w0 w1 ds → Hq w0 w1 m w → (∀ D, (∃ d ∈ ds, d.target = .collected D) → w1.heap[D]? = some (Obj.deferred (some [])) → w.heap[D]? = some (Obj.deferred (some []))) → LeavesInM (Wd none) 0 P fn tmps R ds .returning w
  | [], w, _, hw, _ => ⟨v, hres w hw, hR w hw⟩
  | d :: ds, w, ⟨D, hd, hge, hD, hne, hM⟩, hw, hk => by
    have hD' := hk D ⟨d, List.mem_cons_self .., by rw [hd]⟩ hD
    refine ⟨by simp, .inl ⟨D, _, by rw [hd], run_takeDeferred hD', ?_⟩⟩
    refine leaves hres hR ds _ hM (hw.putMark hD' hge (fun o ho => by rw [hD] at ho; injection ho with ho; rw [← ho]; rfl)) ?_
    intro D2 ⟨d2, hd2, ht2⟩ h2
    have : D2 ≠ D := fun e => hne d2 hd2 (by rw [ht2, e])
    rw [World.putObj_heap_other this]
    exact hk D2 ⟨d2, List.mem_cons_of_mem _ hd2, ht2⟩ h2
theorem res0 {fn : Func} {a : Act} (hr : fn.results = #[]) (w : World) : (results fn a.tmps).run P w = .ok (.tuple #[]) w := results_none hr _ _ _
theorem res1 {fn : Func} {a : Act} {t v} (ha : Has N ds l a) (hr : fn.results = #[.tmp t]) (h1 : get t l = some v) (w : World) : (results fn a.tmps).run P w = .ok v w := by
  have := ha.eval (x := .tmp t) h1
  rw [results_tmp hr]
  simp only [Act.eval] at this
  rw [this]
theorem res2 {fn : Func} {a : Act} {t t' v v'} (ha : Has N ds l a) (hr : fn.results = #[.tmp t, .tmp t']) (h1 : get t l = some v) (h2 : get t' l = some v') (w : World) : (results fn a.tmps).run P w = .ok (.tuple #[v, v']) w := by
  have e1 := ha.eval (x := .tmp t) h1
  have e2 := ha.eval (x := .tmp t') h2
  rw [results_tmp2 hr]
  simp only [Act.eval] at e1 e2
  rw [e1, e2]
theorem res3 {fn : Func} {a : Act} {t t' t'' v v' v''} (ha : Has N ds l a) (hr : fn.results = #[.tmp t, .tmp t', .tmp t'']) (h1 : get t l = some v) (h2 : get t' l = some v') (h3 : get t'' l = some v'') (w : World) : (results fn a.tmps).run P w = .ok (.tuple #[v, v', v'']) w := by
  have e1 := ha.eval (x := .tmp t) h1
  have e2 := ha.eval (x := .tmp t') h2
  have e3 := ha.eval (x := .tmp t'') h3
  rw [results_tmp3 hr]
  simp only [Act.eval] at e1 e2 e3
  rw [e1, e2, e3]
/-- The end of a body. -/
theorem g_end {fn : Func} {R : Ending → World → Prop} {v : Value} (hM : Marks w0 w1 ds) (hres : ∀ a w, Has N ds l a → Hq w0 w1 m w → (results fn a.tmps).run P w = .ok v w) (hR : ∀ w, Hq w0 w1 m w → R (.returned v) w) :
    G N ds l w0 w1 m (bodyPostM (Wd none) 0 P fn R .ret) := fun a w ha hw => by
  show LeavesInM (Wd none) 0 P fn a.tmps R a.defers .returning w
  rw [ha.defers]
  exact leaves (fun w' h => hres a w' ha h) hR ds w hM hw.toHq (fun D _ h => hw.marks D _ h rfl)
theorem g_endn {fn : Func} {R : Ending → World → Prop} {v : Value} (hM : Marks w0 w1 ds) (hres : ∀ a w, Has N ds l a → Hq w0 w1 m w → (results fn a.tmps).run P w = .ok v w) (hR : ∀ w, Hq w0 w1 m w → R (.returned v) w) :
    G N ds l w0 w1 m (bodyPostM (Wd none) 0 P fn R .normal) := g_end hM hres hR
end
end Go.Sx
