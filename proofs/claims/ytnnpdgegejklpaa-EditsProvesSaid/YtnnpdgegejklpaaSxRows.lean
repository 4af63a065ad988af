/- Rows of rows of whole numbers: read; in the words of Sx. -/
import Derived.Test.YtnnpdgegejklpaaSxPair
namespace Go.Sx
open Go.RowKit
set_option linter.unusedVariables false
set_option linter.unusedSimpArgs false
section
variable {N : Nat} {ds : List Deferred} {l : List (Nat × Value)} {w0 w1 : World} {m : List (Nat × Obj)} {P : Program} {C : World → Prop} {dst : Option Tmp} {ty : TypeId} {pos : String} {aft : Array Edge} {gd : Option (Nat × Bool)}
def rdR (hs : List (List Int)) (i : Int) : List Int := hs.getD i.toNat []
theorem rdR_at {hs : List (List Int)} {i : Int} (h0 : 0 ≤ i) (h1 : i < hs.length) : hs[i.toNat]? = some (rdR hs i) := by
  have h : i.toNat < hs.length := by omega
  simp [rdR, List.getD_eq_getElem?_getD, h]
theorem rdR_getElem {hs : List (List Int)} {k : Nat} (h : k < hs.length) : rdR hs (k : Int) = hs[k] := by
  simp [rdR, List.getD_eq_getElem?_getD, h]
theorem rdR_mem {hs : List (List Int)} {i : Int} (h0 : 0 ≤ i) (h1 : i < hs.length) : rdR hs i ∈ hs := List.mem_of_getElem? (rdR_at h0 h1)
/-- A slice of slices, read through the row vs of its elements. -/
structure RdVV (w : World) (v : Value) (vs : List Value) (hs : List (List Int)) : Prop where
  shape : ∃ A c, v = .slice A hs.length c
  len : vs.length = hs.length
  rdl : RdL encV w (adrOf v) vs
  row : ∀ (j : Nat) (r : Value) (h : List Int), vs[j]? = some r → hs[j]? = some h → RdV (Value.int .i64) w r h
theorem RdVV.below {w w1 : World} {v : Value} {vs : List Value} {hs : List (List Int)} (h : RdVV w v vs hs) (hb : Below w.heap.size w w1) : RdVV w1 v vs hs :=
  ⟨h.shape, h.len, h.rdl.below hb, fun j r x h1 h2 => (h.row j r x h1 h2).below hb⟩
theorem RdVV.at_ {w : World} {v : Value} {vs : List Value} {hs : List (List Int)} (h : RdVV w v vs hs) {i : Int} (h0 : 0 ≤ i) (h1 : i < hs.length) : RdV (Value.int .i64) w (rdVal vs i) (rdR hs i) :=
  h.row i.toNat _ _ (rdVal_at h0 (by rw [h.len]; exact h1)) (rdR_at h0 h1)
theorem RdVV.nil {w : World} : RdVV w (.slice none 0 0) [] [] := ⟨⟨none, 0, rfl⟩, rfl, fun j x hj => by simp at hj, fun j r h hj => by simp at hj⟩
theorem RdVV.cells1 {w : World} {v : Value} {vs hs} (h : RdVV w v vs hs) : v.cells = [v].toArray := by
  obtain ⟨A, c, rfl⟩ := h.shape; rfl
theorem RdVV.one {w : World} {v : Value} {vs hs} (h : RdVV w v vs hs) : v.oneCell' = true := by
  obtain ⟨A, c, rfl⟩ := h.shape; rfl
theorem RdVV.sv {w : World} {sv : SV} {e : TypeId} {n : Nat} {vs : List Value} {hs : List (List Int)} (hok : sv.ok 1 n (vs.map encV)) (hm : ∀ p ∈ sv.mem e (vs.map encV), w.heap[p.1]? = some p.2) (hl : vs.length = hs.length)
    (hr : ∀ (j : Nat) (r : Value) (h : List Int), vs[j]? = some r → hs[j]? = some h → RdV (Value.int .i64) w r h) : RdVV w (sv.val n) vs hs := by
  have h := RdV.sv (e := e) hok hm
  obtain ⟨A, c, e1, _, h3⟩ := h
  refine ⟨⟨A, c, by rw [e1, hl]⟩, hl, ?_, hr⟩
  rw [e1]; exact h3
/-- An element's address. -/
theorem y_idxR {x y v k i t e w vs hs} (hx : ev l x = some v) (hy : ev l y = some (.int k i)) (hr : RdVV w v vs hs) (ht : P.underlying t = some (.slice e)) (hsz : (P.info? e).map (·.size) = some 1) (h0 : 0 ≤ i) (h1 : i < hs.length) :
    Yv P N ds l C ⟨dst, .indexAddr t x y, ty, pos, aft, gd⟩ (.pointer (some (elemA (adrOf v) i.toNat))) := by
  obtain ⟨A, c, hv⟩ := hr.shape
  have hr2 := hr.rdl
  rw [hv] at hr2
  obtain ⟨ad, ha⟩ := hr2.some_ h0 (by rw [hr.len]; exact h1)
  have ha' : A = some ad := ha
  subst ha'
  rw [hv] at hx
  have := y_idxa (C := C) (N := N) (ds := ds) (dst := dst) (ty := ty) (pos := pos) (aft := aft) (gd := gd) hx hy ht hsz h0 (by exact_mod_cast h1)
  rw [Nat.mul_one] at this
  rw [hv]; exact this
/-- Three results, each out of a cell. -/
theorem res_c3 {l : List (Nat × Value)} {fn : Func} {a : Act} {w : World} {p1 p2 p3 t1 t2 t3 b1 b2 b3 v1 v2 v3 ty1 ty2 ty3 fr1 fr2 fr3} (i1 i2 i3 : Nat) (ha : Has N ds l a) (hw : Hq w0 w1 m w) (hr : fn.results = #[.cell p1 t1, .cell p2 t2, .cell p3 t3])
    (h1 : get p1 l = some (.pointer (some ⟨b1, 0, none⟩))) (h2 : get p2 l = some (.pointer (some ⟨b2, 0, none⟩))) (h3 : get p3 l = some (.pointer (some ⟨b3, 0, none⟩)))
    (m1 : m[i1]? = some (b1, .cells #[v1] ty1 fr1)) (m2 : m[i2]? = some (b2, .cells #[v2] ty2 fr2)) (m3 : m[i3]? = some (b3, .cells #[v3] ty3 fr3)) (g1 : isAggB P t1 = some false) (g2 : isAggB P t2 = some false) (g3 : isAggB P t3 = some false) :
    (results fn a.tmps).run P w = .ok (.tuple #[v1, v2, v3]) w := by
  have e1 := ha.eval (x := .tmp p1) h1
  have e2 := ha.eval (x := .tmp p2) h2
  have e3 := ha.eval (x := .tmp p3) h3
  simp only [Act.eval] at e1 e2 e3
  have q1 : (loadVar t1 ⟨b1, 0, none⟩).run P w = .ok v1 w := run_load1 g1 (by have := hw.at_ _ (List.mem_of_getElem? m1); simp [World.cell?, this])
  have q2 : (loadVar t2 ⟨b2, 0, none⟩).run P w = .ok v2 w := run_load1 g2 (by have := hw.at_ _ (List.mem_of_getElem? m2); simp [World.cell?, this])
  have q3 : (loadVar t3 ⟨b3, 0, none⟩).run P w = .ok v3 w := run_load1 g3 (by have := hw.at_ _ (List.mem_of_getElem? m3); simp [World.cell?, this])
  have f1 : a.tmps[p1]?.getD undef = .pointer (some ⟨b1, 0, none⟩) := by simpa using e1
  have f2 : a.tmps[p2]?.getD undef = .pointer (some ⟨b2, 0, none⟩) := by simpa using e2
  have f3 : a.tmps[p3]?.getD undef = .pointer (some ⟨b3, 0, none⟩) := by simpa using e3
  simp [results, hr, f1, f2, f3, asAddr, q1, q2, q3]
theorem rdI_take {xs : List Int} {k : Nat} (h : k < xs.length) : xs.take (k + 1) = xs.take k ++ [rdI xs (k : Int)] := by
  rw [List.take_succ_eq_append_getElem h]
  simp [rdI_nat, List.getD_eq_getElem?_getD, h]
theorem rdR_take {hs : List (List Int)} {k : Nat} (h : k < hs.length) : hs.take (k + 1) = hs.take k ++ [rdR hs (k : Int)] := by
  rw [rdR_getElem h, List.take_succ_eq_append_getElem h]
/-- A row of rows as long as the blocks m lie as told. -/
def OwnVV (v : Value) (vs : List Value) (hs : List (List Int)) (m : List (Nat × Obj)) : Prop := ∀ W : World, (∀ p ∈ m, W.heap[p.1]? = some p.2) → RdVV W v vs hs
end
end Go.Sx
