/- A new row that begins with one number and goes on with another row; calls that turn a map and hand over rows; in the words of Sx. -/
import Derived.Test.YtolalckejnijkaaSxAppO
import Derived.Test.YtolalckejnijkaaSxRecB
namespace Go.Sx
open Go.RowKit
set_option linter.unusedVariables false
set_option linter.unusedSimpArgs false
/-- A row of cells. -/
def IsC (p : Nat × Obj) : Prop := ∃ c t f, p.2 = Obj.cells c t f
section
variable {N : Nat} {ds : List Deferred} {l : List (Nat × Value)} {w0 w1 : World} {m : List (Nat × Obj)} {P : Program} {ro : Option Nat}
variable {dst : Option Tmp} {ty : TypeId} {pos : String} {aft : Array Edge} {gd : Option (Nat × Bool)} {b : Nat}
theorem t_consR {α : Type} {enc : α → Value} {x : α} {ys : List α} {t e : TypeId} {xs xr : Operand} {v : Value} {ie : TypeInfo} {z : Value} {bytes : Nat} (post : List (Nat × Obj)) (hs : ev l xs = some (.slice (some ⟨b, 0, none⟩) 1 1)) (hx : ev l xr = some v) (hm : m = (b, .cells [enc x].toArray e (0, 0)) :: post)
    (hu : P.underlying t = some (.slice e)) (hie : P.info? e = some ie) (hz : ie.zero = some z) (hsz : ie.size = 1) (hby : ie.bytes = bytes) (hzs : z.cells.size = 1) (h1 : ∀ a, (enc a).oneCell' = true)
    (hnew : ∀ w, Hp w0 w1 m w → RdV enc w v ys) (hn : (1 + ys.length) * bytes ≤ 140737488355328) (h63 : 1 + ys.length ≤ maxLen) (hb : w1.heap.size ≤ b) :
    Tr (ι := Option Addr × Nat × List (Nat × Obj)) P ro N ds l w0 w1 m ⟨dst, .call ⟨.builtin .append, #[xs, xr], #[t, t]⟩, ty, pos, aft, gd⟩ (fun y => (OwnV enc (.slice y.1 (x :: ys).length y.2.1) (x :: ys) y.2.2 ∧ ∀ p ∈ y.2.2, IsC p) ∧ ∀ p ∈ y.2.2, w1.heap.size ≤ p.1) (fun y => .slice y.1 (x :: ys).length y.2.1) (fun _ => w1) (fun y => y.2.2 ++ post) := fun a w ha hw => by
  obtain ⟨A, c, rfl, hc, hrd⟩ := hnew w hw
  have hok : (SV.own b 1 []).ok 1 1 ([x].map enc) := ⟨Nat.le_refl _, by unfold maxLen; omega, rfl, rfl⟩
  have hm' : m = [] ++ ((SV.own b 1 []).mem e ([x].map enc) ++ post) := hm
  by_cases h0 : ys = []
  · subst h0
    have hempty : (Builtin.append_ #[t, t] ty #[(SV.own b 1 []).val 1, .slice A 0 c]).run P w = .ok ((SV.own b 1 []).val 1) w := by
      have hf : (Builtin.firstCells ie.size 0 (.slice A 0 c)).run P w = .ok #[] w := by
        cases A with
        | none => simpa using run_firstCells_none (P := P) w ie.size 0 0 c
        | some a => simpa using run_firstCells_some (P := P) w ie.size 0 a 0 c [] (by simp) (fun j v h => by simp at h)
      obtain ⟨h1, _⟩ := hok
      simp [SV.val, Builtin.append_, run_underlying hu, sizeOf, typeInfo, hie, Builtin.lenOf, hf, h1, storeCells]
    refine .inl ⟨(SV.own b 1 []).val 1, w, ?_, (some ⟨b, 0, none⟩, 1, [(b, .cells [enc x].toArray e (0, 0))]), ⟨⟨OwnV.sv (sv := .own b 1 []) (n := 1) (xs := [x]) (e := e) hok, fun p hp => by rw [List.mem_singleton] at hp; subst hp; exact ⟨_, _, _, rfl⟩⟩, fun p hp => by rw [List.mem_singleton] at hp; subst hp; exact hb⟩, rfl, ?_⟩
    · simp only [execOp, resolve, List.map_toArray, List.map_cons, List.map_nil, ha.eval hs, ha.eval hx]
      exact ok_value hempty
    · subst hm; exact hw
  · have hk : 0 < ys.length := by
      cases ys with
      | nil => exact absurd rfl h0
      | cons y ys => simp
    obtain ⟨ad, rfl⟩ : ∃ ad, A = some ad := by
      obtain ⟨ad, ha, _⟩ := hrd 0 ys[0] (List.getElem?_eq_getElem hk)
      exact ⟨ad, ha⟩
    have hx' : ev l xr = some (.slice (some ad) ys.length c) := hx
    have h := t_appendNO (P := P) (ro := ro) (N := N) (ds := ds) (l := l) (w0 := w0) (w1 := w1) (m := m) (dst := dst) (ty := ty) (pos := pos) (aft := aft) (gd := gd) (sv := .own b 1 []) (n := 1) (xs := [x].map enc) (news := ys.map enc) (k := ys.length) [] post hs hx' hm' hok hu hie hz hsz hby hzs (by decide)
      (fun w' h' j u hj => by
        rw [List.getElem?_map] at hj
        cases hd : ys[j]? with
        | none => rw [hd] at hj; cases hj
        | some q =>
          rw [hd] at hj; cases hj
          obtain ⟨A', c', e0, _, hrd'⟩ := hnew w' h'
          obtain ⟨ad', e1, h2⟩ := hrd' j q hd
          simp only [Value.slice.injEq] at e0
          obtain ⟨e2, _, _⟩ := e0
          rw [e1] at e2; cases e2
          exact h2) (by simp) (by simpa using fun a _ => h1 a) hk hn h63
    refine (h a w ha hw).mono ?_
    rintro v' w' ⟨⟨sv, gs⟩, ⟨⟨hok2, b2, cap2, j2, he2⟩, hn1, hn2⟩, rfl, hp⟩
    simp only at he2
    subst he2
    have hnl : (1 + ys.length) = (x :: ys).length := by simp [Nat.add_comm]
    have hge : ∀ p ∈ (SV.own b2 cap2 j2).mem e ([x].map enc ++ ys.map enc) ++ gs, w1.heap.size ≤ p.1 := fun p hp2 => by
      rcases hn2 p.1 (List.mem_map.2 ⟨p, hp2, rfl⟩) with h4 | h4
      · have h5 : p.1 = b := by simpa [SV.mem] using h4
        omega
      · exact h4
    have hp3 : Hp w0 w1 ((SV.own b2 cap2 j2).mem e ([x].map enc ++ ys.map enc) ++ post) w' := by
      have h6 : Hp w0 w1 (gs ++ ((SV.own b2 cap2 j2).mem e ([x].map enc ++ ys.map enc) ++ post)) w' := ⟨hp.toHq.perm (by simpa using List.perm_append_comm_assoc _ gs post), hp.marks⟩
      exact h6.drops fun p hp => hge p (List.mem_append_right _ hp)
    refine ⟨(some ⟨b2, 0, none⟩, cap2, (SV.own b2 cap2 j2).mem e ((x :: ys).map enc)), ⟨⟨?_, fun p hp => ?_⟩, fun p hp2 => hge p (List.mem_append_left _ hp2)⟩, by simp only [SV.val, hnl], hp3⟩
    · have h3 := OwnV.sv (enc := enc) (sv := .own b2 cap2 j2) (e := e) (n := 1 + ys.length) (xs := x :: ys) hok2
      rw [hnl] at h3
      exact h3
    · simp only [SV.mem, List.mem_singleton] at hp
      subst hp; exact ⟨_, _, _, rfl⟩
theorem perm_mv (A C B : List (Nat × Obj)) : (B ++ ((A ++ C) ++ [])).Perm (A ++ (B ++ (C ++ []))) := by
  simp only [List.append_nil]
  exact List.perm_append_comm_assoc B A C
/-- A call that turns one block of the list, and hands over new ones that join those behind. -/
theorem t_callB {ι : Type} {A : ι → Prop} {fo : ι → Obj} {vf : ι → Value} {mm : ι → List (Nat × Obj)} {o : Obj} {fn fid xs ts vs} {pre mq : List (Nat × Obj)} (i : Nat) (hm : m = pre ++ (mq ++ [])) (hi : pre[i]? = some (b, o)) (hf : ev l fn = some (.func (.func fid) #[] #[])) (hx : evs l xs = some vs) (he : Enters P fid)
    (hc : ∀ w, Hp w0 w1 m w → Calls P fid vs.toArray w fun e w' => ∃ y, A y ∧ (∀ p ∈ mm y, w.heap.size ≤ p.1) ∧ e = .returned (vf y) ∧ Hp w0 w ((b, fo y) :: (mm y ++ [])) w') :
    Tr (ι := ι) P ro N ds l w0 w1 m ⟨dst, .call ⟨.value fn, xs.toArray, ts⟩, ty, pos, aft, gd⟩ (fun y => A y ∧ ∀ p ∈ mm y, w1.heap.size ≤ p.1) vf (fun _ => w1) (fun y => pre.set i (b, fo y) ++ ((mm y ++ mq) ++ [])) :=
  t_callx hf hx he fun w hw => by
    simp only [Array.append_empty, Array.empty_append]
    refine (hc w hw).mono fun e w' ⟨y, h1, hmm, h2, h3⟩ => ⟨y, ⟨h1, fun p hp => Nat.le_trans hw.size (hmm p hp)⟩, h2, ?_⟩
    subst hm
    have hil := (List.getElem?_eq_some_iff.1 hi).1
    have h4 := hp_call2 i (by rw [List.getElem?_append_left hil]; exact hi) hw hmm h3
    rw [List.set_append_left _ _ hil] at h4
    simp only [List.append_nil] at h4 ⊢
    refine ⟨h4.toHq.perm ?_, h4.marks⟩
    rw [List.append_assoc]
    exact (List.perm_append_comm (l₁ := mm y) (l₂ := mq)).symm.append_left _
theorem ids_mq {n : Nat} {l1 l2 mq nw : List (Nat × Obj)} (hl : l2.map (·.1) = l1.map (·.1)) (hn : ∀ p ∈ nw, n ≤ p.1) :
    (∀ x ∈ (l1 ++ (mq ++ []) : List (Nat × Obj)).map (fun p => p.1), x ∈ (l2 ++ ((nw ++ mq) ++ []) : List (Nat × Obj)).map (fun p => p.1)) ∧ ∀ x ∈ (l2 ++ ((nw ++ mq) ++ []) : List (Nat × Obj)).map (fun p => p.1), x ∈ (l1 ++ (mq ++ []) : List (Nat × Obj)).map (fun p => p.1) ∨ n ≤ x := by
  simp only [List.append_nil, List.map_append, List.mem_append]
  rw [hl]
  constructor
  · rintro x (h | h)
    · exact .inl h
    · exact .inr (.inr h)
  · rintro x (h | h | h)
    · exact .inl (.inl h)
    · obtain ⟨p, hp, rfl⟩ := List.mem_map.1 h
      exact .inr (hn p hp)
    · exact .inl (.inr h)
theorem ge_app {n : Nat} {a b : List (Nat × Obj)} (h1 : ∀ p ∈ a, n ≤ p.1) (h2 : ∀ p ∈ b, n ≤ p.1) : ∀ p ∈ a ++ b, n ≤ p.1 := fun p hp => (List.mem_append.1 hp).elim (h1 p) (h2 p)
theorem ge_mono {n k : Nat} {a : List (Nat × Obj)} (h1 : ∀ p ∈ a, n ≤ p.1) (h : k ≤ n) : ∀ p ∈ a, k ≤ p.1 := fun p hp => Nat.le_trans h (h1 p hp)
theorem sd_all {n mb : Nat} {a : List (Nat × Obj)} (h1 : ∀ p ∈ a, n ≤ p.1) : ∀ p ∈ a ++ [], p.1 = mb ∨ n ≤ p.1 := fun p hp => .inr (h1 p (by simpa using hp))
end
end Go.Sx
