/- slices.Compact, off the shelf; a slice cut by its first element; flat rows. -/
import Derived.Test.YtncenmgkdodioaaWhJ
import Derived.Shelf.Slices.CompactI
set_option linter.unusedVariables false
set_option linter.unusedSimpArgs false
namespace Go.Proofs
open Go.Shelf Go.Lib Go.Sort Go.RowKit
def Ytncenmgkdodioaa.laysCompact_ren : Go.Shelf.Ren := ⟨fun | 20 => 73 | n => n, fun | 22 => 32 | 3 => 3 | 4 => 4 | 0 => 0 | n => n, fun n => n⟩
theorem Ytncenmgkdodioaa.laysCompact : Lays2.n20 Try.prog Ytncenmgkdodioaa.laysCompact_ren where
  mixed := by kernel_rfl
  f20 := Try.func73.trans (congrArg some (by kernel_rfl))
  t0 := Try.underlying0
  a0 := Try.isAgg0
  z0 := Try.sizeOf0
  v0 := Try.zeroValue0
  t3 := Try.underlying3
  a3 := Try.isAgg3
  z3 := Try.sizeOf3
  v3 := Try.zeroValue3
  t4 := Try.underlying4
  a4 := Try.isAgg4
  z4 := Try.sizeOf4
  v4 := Try.zeroValue4
  t22 := Try.underlying32
  a22 := Try.isAgg32
  z22 := Try.sizeOf32
  v22 := Try.zeroValue32
  i3 := by kernel_rfl
end Go.Proofs
namespace Go.Proofs.Ytncenmgkdodioaa
open Go.RowKit Go.Sx Go.Sort Go.Lib
theorem holds_of {w : World} {b off : Nat} {c : List Value} {t : TypeId} {zs : List Int} (hb : w.heap[b]? = some (.cells c.toArray t (0, 0))) (hc : ∀ j, j < zs.length → c[off + j]? = some (Value.int .i64 (zs.getD j 0))) : Holds (Value.int .i64) w b off zs.toArray := by
  intro j hj
  have hj' : j < zs.length := by simpa using hj
  refine ⟨?_, ?_⟩
  · simp only [World.cell?, hb]
    have := hc j hj'
    simp only [List.getElem?_toArray, this]
    rw [List.getD_eq_getElem?_getD, List.getElem?_eq_getElem hj']
    simp [hj']
  · simp [World.frozen?, hb]
theorem putRow_heap {w : World} {b off : Nat} {c : Array Value} {t : TypeId} {fr : Nat × Nat} (hb : w.heap[b]? = some (.cells c t fr)) (q : Nat) (d : Array Int) : (putRow (Value.int .i64) (Go.Sort.ahead w q) b off d).heap[b]? = some (.cells (putCells (Value.int .i64) off d c) t fr) := by
  obtain ⟨hlt, hk⟩ := Array.getElem?_eq_some_iff.1 hb
  show (w.heap.modify b _)[b]? = _
  rw [Array.getElem?_eq_getElem (by rw [Array.size_modify]; exact hlt), Array.getElem_modify_self, hk]
  rfl
theorem compact_call {w0 w1 w : World} {m : List (Nat × Obj)} {b cap : Nat} {x : Int} {ys : List Int} (h : Hp w0 w1 ((b, .cells ((x :: ys).map (Value.int .i64) ++ []).toArray 3 (0, 0)) :: m) w) (hl : ys.length ≤ 1000) (hc : ys.length ≤ cap) :
    Calls Try.prog 73 [.slice (some ⟨b, 1, none⟩) ys.length cap].toArray w fun e w' => ∃ W : World, True ∧ e = .returned (.slice (some ⟨b, 1, none⟩) (Lib.compact ys).length cap) ∧ Hp w0 W m w' := by
  have hb := h.at_ _ (List.mem_cons_self ..)
  have hH : Holds (Value.int .i64) w b 1 ys.toArray := holds_of hb fun j hj => by
    rw [List.append_nil, List.map_cons, show 1 + j = j + 1 by omega, List.getElem?_cons_succ, List.getElem?_map, List.getElem?_eq_getElem hj, List.getD_eq_getElem?_getD, List.getElem?_eq_getElem hj]; rfl
  have := Any.slices_Compact_int laysCompact b 1 cap ys w hH (by omega) hc
  refine Calls.mono this ?_
  rintro e w' ⟨h1, q, h2⟩
  have hne : ∀ k, k ≠ b → w'.heap[k]? = w.heap[k]? := fun k hk => by
    rw [h2]
    show (w.heap.modify b _)[k]? = _
    rw [Array.getElem?_modify, if_neg (fun e => hk e.symm)]
  have hp : Hp w0 w1 ((b, _) :: m) w' := h.turn (i := 0) (o' := .cells (putCells (Value.int .i64) 1 _ _) 3 (0, 0)) rfl rfl (by rw [h2]; rfl) (by rw [h2]; rfl) (by rw [h2]; rfl) (by rw [h2]; show w.heap.size ≤ (w.heap.modify _ _).size; rw [Array.size_modify]; exact Nat.le_refl _) (fun k _ hk => hne k hk) (by rw [h2]; exact putRow_heap hb q _)
  exact ⟨w', trivial, h1, hp.toHq.lookSub (List.Sublist.cons _ (List.Sublist.refl _))⟩
theorem compact_row {w0 w1 w : World} {m : List (Nat × Obj)} {b n : Nat} {zs : List Int} (hz : zs.length = n) (h1 : 1 ≤ n) (h2 : n ≤ 1000) (h : Hp w0 w1 ((b, .cells (zs.map (Value.int .i64) ++ []).toArray 3 (0, 0)) :: m) w) :
    Calls Try.prog 73 [.slice (some ⟨b, 1, none⟩) (n - 1) (n - 1)].toArray w fun e w' => ∃ W : World, True ∧ e = .returned (.slice (some ⟨b, 1, none⟩) (Go.Lib.compact (zs.drop 1)).length (n - 1)) ∧ Hp w0 W m w' := by
  cases zs with
  | nil => simp at hz; omega
  | cons x ys =>
    have hl : ys.length = n - 1 := by simp at hz; omega
    have := compact_call (cap := n - 1) h (by omega) (by omega)
    rw [hl] at this
    exact this
theorem cut_run {t e : TypeId} {ie : TypeInfo} {b n : Nat} {P : Program} (W : World) (hu : P.underlying t = some (.slice e)) (hie : P.info? e = some ie) (hsz : ie.size = 1) (h : 2 ≤ n) : (Instr.slice t (.slice (some ⟨b, 0, none⟩) n n) (some (.int .i64 1)) none none).run P W = .ok (.slice (some ⟨b, 1, none⟩) (n - 1) (n - 1)) W := by
  have hel : P.elem t = e := by simp [Program.elem, hu]
  have hu' : P.underlying t = some (.slice (P.elem t)) := by rw [hel]; exact hu
  rw [run_slice_l W t (some ⟨b, 0, none⟩) n n hu' .i64 1 (by omega) (by omega), hel]
  simp [sizeOf, typeInfo, hie, hsz, sliced, Result.andThen, show ¬ n = 1 by omega, add_at]
section
variable {N : Nat} {ds : List Deferred} {l : List (Nat × Value)} {P : Program} {C : World → Prop} {dst : Option Tmp} {ty : TypeId} {pos : String} {aft : Array Edge} {gd : Option (Nat × Bool)}
theorem y_idx1 {x y b n c k i t e} (hx : ev l x = some (.slice (some ⟨b, 1, none⟩) n c)) (hy : ev l y = some (.int k i)) (ht : P.underlying t = some (.slice e)) (hsz : (P.info? e).map (·.size) = some 1) (h0 : 0 ≤ i) (h1 : i < n) :
    Yv P N ds l C ⟨dst, .indexAddr t x y, ty, pos, aft, gd⟩ (.pointer (some ⟨b, (1 + i).toNat, none⟩)) := by
  have := y_idxa (C := C) (N := N) (ds := ds) (dst := dst) (ty := ty) (pos := pos) (aft := aft) (gd := gd) hx hy ht hsz h0 h1
  rw [add_at, Nat.mul_one, show 1 + i.toNat = (1 + i).toNat by omega] at this
  exact this
end
theorem compact_one {ys : List Int} (h : 0 < ys.length) : (Lib.compact ys).length = 1 ↔ ∀ j : Nat, j + 1 < ys.length → ys.getD (j + 1) 0 = ys.getD j 0 := by
  obtain ⟨m, hm⟩ : ∃ m, ys.length = m + 1 := ⟨ys.length - 1, by omega⟩
  have e : (Lib.compact ys).length = ((List.range m).filter fun j => keeps ys.toArray (j + 1)).length + 1 := by
    unfold Lib.compact Lib.compactUpTo
    rw [List.length_map, hm, List.range_succ_eq_map, List.filter_cons_of_pos (by simp [keeps]), List.length_cons, List.filter_map, List.length_map]
    rfl
  have g : ∀ j, j < ys.length → ys.toArray[j]! = ys.getD j 0 := fun j hj => by simp [hj, List.getD_eq_getElem?_getD]
  rw [e]
  constructor
  · intro h1 j hj
    have h2 : ((List.range m).filter fun j => keeps ys.toArray (j + 1)) = [] := List.length_eq_zero_iff.1 (by omega)
    have h3 := List.filter_eq_nil_iff.1 h2 j (List.mem_range.2 (by omega))
    simp only [keeps, Nat.add_sub_cancel, decide_eq_true_eq, not_or] at h3
    have h4 := Classical.not_not.1 h3.2
    rw [g _ hj, g _ (by omega)] at h4
    exact h4
  · intro h1
    have h2 : ((List.range m).filter fun j => keeps ys.toArray (j + 1)) = [] := List.filter_eq_nil_iff.2 fun j hj => by
      have hj' := List.mem_range.1 hj
      simp only [keeps, Nat.add_sub_cancel, decide_eq_true_eq, not_or]
      refine ⟨by omega, Classical.not_not.2 ?_⟩
      rw [g _ (by omega), g _ (by omega)]
      exact h1 j (by omega)
    rw [h2]; rfl
/-- A row without its first one is even. -/
def flatB (zs : List Int) : Bool := decide (((Lib.compact (zs.drop 1)).length : Nat) = (1 : Nat))
theorem flat_iff {zs : List Int} (h : 2 ≤ zs.length) : flatB zs = true ↔ ∀ j : Nat, 1 ≤ j → j < zs.length → rdI zs (j : Int) = rdI zs 1 := by
  unfold flatB
  rw [decide_eq_true_iff, compact_one (by rw [List.length_drop]; omega)]
  have g : ∀ j : Nat, j + 1 < zs.length → (zs.drop 1).getD j 0 = rdI zs ((j + 1 : Nat) : Int) := fun j hj => by
    rw [rdI_nat, List.getD_eq_getElem?_getD, List.getElem?_drop, List.getD_eq_getElem?_getD, show 1 + j = j + 1 by omega]
  rw [List.length_drop]
  constructor
  · intro h1 j hj hj2
    obtain ⟨k, rfl⟩ : ∃ k, j = k + 1 := ⟨j - 1, by omega⟩
    clear hj
    induction k with
    | zero => rfl
    | succ k ih =>
      have := h1 k (by omega)
      rw [g _ (by omega), g _ (by omega)] at this
      rw [this]; exact ih (by omega)
  · intro h1 j hj
    rw [g _ (by omega), g _ (by omega), h1 (j + 1 + 1) (by omega) (by omega), h1 (j + 1) (by omega) (by omega)]
end Go.Proofs.Ytncenmgkdodioaa
