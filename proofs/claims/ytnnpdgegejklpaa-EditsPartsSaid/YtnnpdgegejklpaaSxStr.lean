/- Strings cut, and rows of strings. -/
import Derived.Test.YtnnpdgegejklpaaSxJ
import Derived.Laws.Slices
namespace Go.Sx
open Go.RowKit
set_option linter.unusedVariables false
section
variable {N : Nat} {ds : List Deferred} {l : List (Nat × Value)} {P : Program} {C : World → Prop} {dst : Option Tmp} {ty : TypeId} {pos : String} {aft : Array Edge} {gd : Option (Nat × Bool)}
theorem y_strh {x hi : Operand} {s : ByteArray} {h : Int} {t : TypeId} (hx : ev l x = some (.string s)) (hy : ev l hi = some (.int .i64 h)) (ht : P.underlying t = some .string) (h0 : 0 ≤ h) (h1 : h ≤ s.size) :
    Yv P N ds l C ⟨dst, .slice t x none (some hi) none, ty, pos, aft, gd⟩ (.string (s.extract 0 h.toNat)) := fun a w ha _ => by
  show Sem.run P (do pure (Next.value (← Instr.sliceAt t (a.eval x) ((none : Option Operand).map a.eval) ((some hi).map a.eval) none))) w = _
  rw [ha.eval hx, none_ev a ha, some_ev hy a ha]
  refine ok_value ?_
  rw [run_sliceAt_string w t _ _ _ _ ht]
  exact run_slice_string_h w t s ht .i64 h h0 h1
end
theorem res_c {N : Nat} {ds : List Deferred} {l : List (Nat × Value)} {w0 w1 : World} {m : List (Nat × Obj)} {P : Program} {fn : Func} {a : Act} {w : World} {p ty n t' fr b} {c : List Value} (i : Nat) (ha : Has N ds l a) (hw : Hq w0 w1 m w) (hr : fn.results = #[.cell p ty]) (h1 : get p l = some (.pointer (some ⟨b, 0, none⟩)))
    (hm : m[i]? = some (b, .cells c.toArray t' fr)) (ht : isAggB P ty = some true) (hn : (P.info? ty).map (·.size) = some n) (hl : c.length = n) : (results fn a.tmps).run P w = .ok (.agg c.toArray) w := by
  have e1 := ha.eval (x := .tmp p) h1
  simp only [Act.eval] at e1
  have hb := hw.at_ _ (List.mem_of_getElem? hm)
  have h3 := run_loadBlk (P := P) hb ht hn hl
  have e1' : a.tmps[p]?.getD undef = .pointer (some ⟨b, 0, none⟩) := by simpa using e1
  simp [results, hr, e1', asAddr, h3]
theorem y_ldMn {N : Nat} {ds : List Deferred} {l : List (Nat × Value)} {w0 w1 : World} {m : List (Nat × Obj)} {P : Program} {dst : Option Tmp} {ty : TypeId} {pos : String} {aft : Array Edge} {gd : Option (Nat × Bool)} {x t b off n t' fr} {c cs : List Value} (hm : (b, Obj.cells c.toArray t' fr) ∈ m) (hx : ev l x = some (.pointer (some ⟨b, off, none⟩))) (ht : isAggB P t = some true) (hn : (P.info? t).map (·.size) = some n) (hc : (c.drop off).take n = cs) (hl : cs.length = n) : Yv P N ds l (Hp w0 w1 m) ⟨dst, .load t x, ty, pos, aft, gd⟩ (.agg cs.toArray) := by
  obtain ⟨i, hi, he⟩ := List.getElem_of_mem hm
  exact y_ldn i hx (by rw [List.getElem?_eq_getElem hi, he]) ht hn hc hl
theorem g_less {N : Nat} {l : List (Nat × Value)} {w0 w1 : World} {m m' : List (Nat × Obj)} {X : Act → World → Prop} (hs : m'.Sublist m) (h : ∀ w1, G N [] l w0 w1 m' X) : G N [] l w0 w1 m X := fun a w ha hw => h w a w ha (hw.toHq.lookSub hs)
theorem rdS_mem {xs : List ByteArray} {i : Int} (h0 : 0 ≤ i) (h1 : i < xs.length) : rdS xs i ∈ xs := List.mem_of_getElem? (rdS_at h0 h1)
theorem rdS_getElem {xs : List ByteArray} {k : Nat} (h : k < xs.length) : rdS xs (k : Int) = xs[k] := by
  have h1 := rdS_at (xs := xs) (i := (k : Int)) (by omega) (by omega)
  rw [Int.toNat_natCast, List.getElem?_eq_getElem h] at h1
  exact (Option.some.inj h1).symm
theorem rdS_take {xs : List ByteArray} {k : Nat} (h : k < xs.length) : xs.take (k + 1) = xs.take k ++ [rdS xs (k : Int)] := by
  rw [rdS_getElem h, List.take_add_one, List.getElem?_eq_getElem h]; rfl
end Go.Sx
