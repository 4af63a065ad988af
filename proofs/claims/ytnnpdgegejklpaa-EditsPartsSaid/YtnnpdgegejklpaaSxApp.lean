/- A row without room appended to: always a new block. And the cut that leaves no room. -/
import Derived.Test.YtnnpdgegejklpaaSxPair
namespace Go.Sx
open Go.RowKit
set_option linter.unusedVariables false
set_option linter.unusedSimpArgs false
section
variable {N : Nat} {ds : List Deferred} {l : List (Nat × Value)} {w0 w1 : World} {m : List (Nat × Obj)} {P : Program} {ro : Option Nat} {C : World → Prop}
variable {dst : Option Tmp} {ty : TypeId} {pos : String} {aft : Array Edge} {gd : Option (Nat × Bool)}
variable {α : Type} {enc : α → Value} {xs : List α}
theorem t_appendN {t e : TypeId} {s x : Operand} {A : Option Addr} {c bytes : Nat} {v : α} {ad : Addr} {ie : TypeInfo} {z : Value} (hs : ev l s = some (.slice A xs.length xs.length)) (hx : ev l x = some (.slice (some ad) 1 c))
    (hu : P.underlying t = some (.slice e)) (hie : P.info? e = some ie) (hz : ie.zero = some z) (hsz : ie.size = 1) (hby : ie.bytes = bytes) (hzs : z.cells.size = 1)
    (hold : ∀ w, Hp w0 w1 m w → RdV enc w (.slice A xs.length xs.length) xs) (hnew : ∀ w, Hp w0 w1 m w → w.cell? (ad.add 0) = some (enc v)) (h1 : (enc v).oneCell' = true) (hn : (xs.length + 1) * bytes ≤ 140737488355328) (h63 : xs.length + 1 ≤ maxLen) :
    Tr (ι := SV) P ro N ds l w0 w1 m ⟨dst, .call ⟨.builtin .append, #[s, x], #[t, t]⟩, ty, pos, aft, gd⟩ (fun y => y.ok 1 (xs.length + 1) ((xs ++ [v]).map enc) ∧ ∃ b cap j, y = .own b cap j ∧ w1.heap.size ≤ b) (fun y => y.val (xs.length + 1)) (fun _ => w1) (fun y => y.mem e ((xs ++ [v]).map enc) ++ m) := fun a w ha hw => by
  subst hby
  have hsmall : xs.length + 1 ≤ 9223372036854775807 := by simp only [maxLen] at h63; omega
  have hrun : ∀ v' w', (Builtin.append_ #[t, t] ty #[.slice A xs.length xs.length, .slice (some ad) 1 c]).run P w = .ok v' w' → (execOp a.eval ⟨dst, .call ⟨.builtin .append, #[s, x], #[t, t]⟩, ty, pos, aft, gd⟩).run P w = .ok (.value v') w' := by
    intro v' w' h
    simp only [execOp, resolve, List.map_toArray, List.map_cons, List.map_nil, ha.eval hs, ha.eval hx]
    exact ok_value h
  have grownok : ∀ (old : Nat), (SV.own w.heap.size (grownCap w (xs.length + 1) old e) (Builtin.zeroCells z.cells (grownCap w (xs.length + 1) old e - (xs.length + 1))).toList).ok 1 (xs.length + 1) ((xs ++ [v]).map enc) := by
    intro old
    have hge := grownCap_ge w (xs.length + 1) old e
    refine ⟨hge, grownCap_le_maxLen w (xs.length + 1) old e h63, by simp, ?_⟩
    simp only [List.length_map, List.length_append, List.length_cons, List.length_nil, Array.length_toList, size_zeroCells, hzs]
    omega
  have hnews : ∀ j u, [enc v][j]? = some u → w.cell? (ad.add j) = some u := fun j u hj => match j, hj with
    | 0, hj => by cases hj; exact hnew w hw
    | j + 1, hj => by simp at hj
  obtain ⟨A', c', e0, _, hrd⟩ := hold w hw
  simp only [Value.slice.injEq, true_and] at e0
  obtain ⟨rfl, rfl⟩ := e0
  cases A with
  | none =>
    have hnil : xs = [] := by
      cases xs with
      | nil => rfl
      | cons y ys => obtain ⟨ad', h, _⟩ := hrd 0 y rfl; cases h
    subst hnil
    have hr := run_append_nil (P := P) w t ty e ie z hu hie hz ad 1 c [enc v] (by rw [hsz]; rfl) hnews (by decide) (by decide) (by have := hn; simp only [List.length_nil, Nat.zero_add] at this; omega)
    refine .inl ⟨_, _, hrun _ _ hr, (.own w.heap.size (grownCap w 1 0 e) (Builtin.zeroCells z.cells (grownCap w 1 0 e - 1)).toList), ⟨by simpa using grownok 0, _, _, _, rfl, hw.size⟩, by simp [SV.val], ?_⟩
    have h2 := (hw.drewN.alloc (o := .cells ([enc v].toArray ++ Builtin.zeroCells z.cells (grownCap w 1 0 e - 1)) e (0, 0)) rfl)
    simp only [SV.mem, List.nil_append, List.map_cons, List.map_nil, List.cons_append]
    have e1 : (enc v :: (Builtin.zeroCells z.cells (grownCap w 1 0 e - 1)).toList).toArray = [enc v].toArray ++ Builtin.zeroCells z.cells (grownCap w 1 0 e - 1) := by
      apply Array.toList_inj.1; simp
    rw [e1]
    exact h2
  | some b =>
    have holds : ∀ j u, (xs.map enc)[j]? = some u → w.cell? (b.add j) = some u := by
      intro j u hj
      rw [List.getElem?_map] at hj
      cases hy : xs[j]? with
      | none => simp [hy] at hj
      | some y =>
        simp [hy] at hj; subst hj
        obtain ⟨ad', e1, h2⟩ := hrd j y hy
        cases e1
        exact h2
    have hr := run_append_grow (P := P) w t ty e ie z hu hie hz b xs.length xs.length (xs.map enc) (by simp [hsz]) holds ad 1 c [enc v] (by rw [hsz]; rfl) hnews (by omega) (by omega) (growslice_fits (by omega) hn)
    refine .inl ⟨_, _, hrun _ _ hr, (.own w.heap.size (grownCap w (xs.length + 1) xs.length e) (Builtin.zeroCells z.cells (grownCap w (xs.length + 1) xs.length e - (xs.length + 1))).toList), ⟨grownok _, _, _, _, rfl, hw.size⟩, by simp [SV.val], ?_⟩
    have h2 := (hw.drewN.alloc (o := .cells ((xs.map enc).toArray ++ [enc v].toArray ++ Builtin.zeroCells z.cells (grownCap w (xs.length + 1) xs.length e - (xs.length + 1))) e (0, 0)) rfl)
    simp only [SV.mem, List.cons_append, List.nil_append]
    have e1 : ((xs ++ [v]).map enc ++ (Builtin.zeroCells z.cells (grownCap w (xs.length + 1) xs.length e - (xs.length + 1))).toList).toArray = (xs.map enc).toArray ++ [enc v].toArray ++ Builtin.zeroCells z.cells (grownCap w (xs.length + 1) xs.length e - (xs.length + 1)) := by
      apply Array.toList_inj.1; simp
    rw [e1]
    exact h2
theorem sv_tail {y : SV} {e : TypeId} {zs : List Value} {w : World} (hy : ∃ b cap j, y = .own b cap j ∧ w1.heap.size ≤ b) (h : Hp w0 w1 (y.mem e zs ++ m) w) : Hp w0 w1 m w := by
  obtain ⟨b, cap, j, rfl, hb⟩ := hy
  exact Hp.tail (p := (b, _)) h hb
theorem t_callcm {ι : Type} {A : ι → Prop} {vf : ι → Value} {mm : ι → List (Nat × Obj)} {fn fid xs ts vs} {cap : List Value} (hf : ev l fn = some (.func (.func fid) #[] cap.toArray)) (hx : evs l xs = some vs) (he : Enters P fid)
    (hc : ∀ w, Hp w0 w1 m w → Calls P fid (vs ++ cap).toArray w fun e w' => ∃ x, A x ∧ e = .returned (vf x) ∧ Hq w w (mm x) w') :
    Tr (ι := ι) P ro N ds l w0 w1 m ⟨dst, .call ⟨.value fn, xs.toArray, ts⟩, ty, pos, aft, gd⟩ A vf (fun _ => w1) (fun x => mm x ++ m) :=
  t_callx hf hx he fun w hw => by
    rw [show (#[] ++ vs.toArray ++ cap.toArray : Array Value) = (vs ++ cap).toArray by simp]
    exact (hc w hw).mono fun e w' ⟨x, h1, h2, h3⟩ => ⟨x, h1, h2, hw.callee h3⟩
theorem add_zero' (a : Addr) : a.add 0 = a := by
  unfold Addr.add; split <;> (cases a; simp_all)
theorem y_full {x y z : Operand} {t e : TypeId} {A : Option Addr} {n c : Nat} {ie : TypeInfo} (hx : ev l x = some (.slice A n c)) (hy : ev l y = some (.int .i64 (n : Int))) (hz : ev l z = some (.int .i64 (n : Int))) (hc : n ≤ c) (hu : P.underlying t = some (.slice e)) (hie : P.info? e = some ie) (hsz : ie.size = 1) :
    Yv P N ds l C ⟨dst, .slice t x none (some y) (some z), ty, pos, aft, gd⟩ (.slice A n n) := fun a w ha _ => by
  have hel : P.elem t = e := by simp [Program.elem, hu]
  have hu' : P.underlying t = some (.slice (P.elem t)) := by rw [hel]; exact hu
  show Sem.run P (do pure (Next.value (← Instr.sliceAt t (a.eval x) ((none : Option Operand).map a.eval) ((some y).map a.eval) ((some z).map a.eval)))) w = _
  rw [ha.eval hx, none_ev a ha, some_ev hy a ha, some_ev hz a ha]
  refine ok_value ?_
  rw [run_sliceAt_slice w t _ _ _ _ hu', run_slice_hm w t A n c hu' .i64 .i64 (n : Int) (n : Int) (by omega) (by omega) (by omega), hel]
  have e0 : A.map (·.add 0) = A := by cases A with | none => rfl | some a => simp [add_zero']
  simp [sizeOf, typeInfo, hie, hsz, sliced, Result.andThen, e0]
end
end Go.Sx
