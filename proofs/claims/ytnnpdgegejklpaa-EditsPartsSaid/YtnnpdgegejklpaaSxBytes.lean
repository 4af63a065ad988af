/- Strings: cut, joined, compared, made of bytes; in the words of Sx. -/
import Derived.Test.YtnnpdgegejklpaaSxPair
import Derived.Test.YtnnpdgegejklpaaSxStr
import Derived.Laws.BytesString
import Derived.Laws.Concat
import Derived.Laws.Strings2
namespace Go.Sx
open Go.RowKit
set_option linter.unusedVariables false
set_option linter.unusedSimpArgs false
section
variable {N : Nat} {ds : List Deferred} {l : List (Nat × Value)} {w0 w1 : World} {m : List (Nat × Obj)} {P : Program} {C : World → Prop} {dst : Option Tmp} {ty : TypeId} {pos : String} {aft : Array Edge} {gd : Option (Nat × Bool)}
theorem y_strl {x lo : Operand} {s : ByteArray} {h : Int} {t : TypeId} (hx : ev l x = some (.string s)) (hy : ev l lo = some (.int .i64 h)) (ht : P.underlying t = some .string) (h0 : 0 ≤ h) (h1 : h ≤ s.size) :
    Yv P N ds l C ⟨dst, .slice t x (some lo) none none, ty, pos, aft, gd⟩ (.string (s.extract h.toNat s.size)) := fun a w ha _ => by
  show Sem.run P (do pure (Next.value (← Instr.sliceAt t (a.eval x) ((some lo).map a.eval) ((none : Option Operand).map a.eval) none))) w = _
  rw [ha.eval hx, none_ev a ha, some_ev hy a ha]
  refine ok_value ?_
  rw [run_sliceAt_string w t _ _ _ _ ht]
  exact run_slice_string_l w t s ht .i64 h h0 h1
theorem y_strlh {x lo hi : Operand} {s : ByteArray} {h k : Int} {t : TypeId} (hx : ev l x = some (.string s)) (hy : ev l lo = some (.int .i64 h)) (hz : ev l hi = some (.int .i64 k)) (ht : P.underlying t = some .string) (h0 : 0 ≤ h) (h1 : h ≤ k) (h2 : k ≤ s.size) :
    Yv P N ds l C ⟨dst, .slice t x (some lo) (some hi) none, ty, pos, aft, gd⟩ (.string (s.extract h.toNat k.toNat)) := fun a w ha _ => by
  show Sem.run P (do pure (Next.value (← Instr.sliceAt t (a.eval x) ((some lo).map a.eval) ((some hi).map a.eval) none))) w = _
  rw [ha.eval hx, some_ev hy a ha, some_ev hz a ha]
  refine ok_value ?_
  rw [run_sliceAt_string w t _ _ _ _ ht]
  exact run_slice_string w t s .i64 .i64 h k ht h0 h1 h2
theorem y_sadd {x y s u t t'} (hx : ev l x = some (.string s)) (hy : ev l y = some (.string u)) (h : s.size + u.size ≤ 9223372036854775807) : Yv P N ds l C ⟨dst, .binOp .add t x y t', ty, pos, aft, gd⟩ (.string (s ++ u)) :=
  y_bin hx hy guard_str fun w => run_string_add_sum w s u h
theorem y_seql_t {x y s t t'} (hx : ev l x = some (.string s)) (hy : ev l y = some (.string s)) : Yv P N ds l C ⟨dst, .binOp .eql t x y t', ty, pos, aft, gd⟩ (.bool true) := by
  have := y_seql (C := C) (N := N) (P := P) (ds := ds) (dst := dst) (ty := ty) (pos := pos) (aft := aft) (gd := gd) (t := t) (t' := t') hx hy
  simpa using this
theorem y_slss {x y s u t t'} (hx : ev l x = some (.string s)) (hy : ev l y = some (.string u)) : Yv P N ds l C ⟨dst, .binOp .lss t x y t', ty, pos, aft, gd⟩ (.bool (Op.bytesLess s.toList u.toList)) :=
  y_bin hx hy guard_str fun w => rfl
theorem snocInd {α : Type} {p : List α → Prop} (h0 : p []) (h1 : ∀ xs x, p xs → p (xs ++ [x])) (xs : List α) : p xs := by
  have : ∀ ys : List α, p ys.reverse := by
    intro ys
    induction ys with
    | nil => exact h0
    | cons y ys ih => rw [List.reverse_cons]; exact h1 _ _ ih
  have := this xs.reverse
  rwa [List.reverse_reverse] at this
theorem u8_eq {x : Int} (h : 0 ≤ x) (h' : x ≤ 255) : IntKind.u8.wrap x = x := by
  unfold IntKind.wrap; simp [IntKind.bits, IntKind.signed]; omega
/-- The string of these bytes. -/
def strOf (ns : List Int) : ByteArray := ns.foldl (fun r n => r.push (UInt8.ofNat n.toNat)) ByteArray.empty
theorem y_convs {x sv src d e} {n : Nat} {ns : List Int} (hx : ev l x = some (SV.val sv n)) (hs : P.underlying src = some (.slice e)) (he : P.underlying e = some (.int .u8)) (hd : P.underlying d = some .string) (hok : sv.ok 1 n (ns.map (Value.int .u8)))
    (hm : ∀ w, C w → ∀ p ∈ sv.mem e (ns.map (Value.int .u8)), w.heap[p.1]? = some p.2) : Yv P N ds l C ⟨dst, .convert src d x, ty, pos, aft, gd⟩ (.string (strOf ns)) := fun a w ha hC => by
  show Sem.run P (do pure (Next.value (← convert src d (a.eval x)))) w = _
  rw [ha.eval hx]
  refine ok_value ?_
  have hm := hm w hC
  cases sv with
  | nil =>
    obtain ⟨rfl, h⟩ := hok
    have : ns = [] := by simpa using h
    subst this
    show (convert src d (.slice none 0 0)).run P w = _
    simp [convert, run_underlying hs, run_underlying hd, run_underlying he, Conv.bytesToString, strOf]
  | own b cap jk =>
    obtain ⟨h1, h2, h3, h4⟩ := hok
    have hb := hm (b, .cells (ns.map (Value.int .u8) ++ jk).toArray e (0, 0)) (by simp [SV.mem])
    show (convert src d (.slice (some ⟨b, 0, none⟩) n cap)).run P w = _
    rw [run_convert_bytes_string w src d e _ _ _ hs he hd]
    refine run_bytesToString w _ n cap ns ?_
    have := run_loadCells_list (P := P) w ⟨b, 0, none⟩ (ns.map (Value.int .u8)) (fun j v hj => by
      have hl := (List.getElem?_eq_some_iff.1 hj).1
      rw [add_at, Nat.zero_add]
      have e2 : (ns.map (Value.int .u8) ++ jk)[j]? = some v := (List.getElem?_append_left hl).trans hj
      simp only [World.cell?, hb]
      simpa using e2)
    rw [h3, Nat.mul_one] at this
    exact this
theorem strOf_snoc (ns : List Int) (n : Int) : strOf (ns ++ [n]) = (strOf ns).push (UInt8.ofNat n.toNat) := by simp [strOf]
theorem strOf_size (ns : List Int) : (strOf ns).size = ns.length :=
  snocInd (p := fun ns => (strOf ns).size = ns.length) rfl (fun ns n ih => by rw [strOf_snoc, ByteArray.size_push, ih]; simp) ns
theorem bt_push (s : ByteArray) (c : UInt8) (k : Nat) : bt (s.push c) k = if k = s.size then (c.toNat : Int) else bt s k := by
  unfold bt
  simp only [Int.toNat_natCast, ByteArray.size_push]
  by_cases h : k = s.size
  · subst h
    rw [dif_pos (by omega), if_pos rfl]
    show (((s.data.push c)[s.data.size]'(by simp)).toNat : Int) = _
    rw [Array.getElem_push_eq]
  · rw [if_neg h]
    by_cases h2 : k < s.size
    · rw [dif_pos (by omega), dif_pos h2]
      show (((s.data.push c)[k]'(by simp; exact Nat.lt_succ_of_lt h2)).toNat : Int) = ((s.data[k]'h2).toNat : Int)
      rw [Array.getElem_push_lt h2]
    · rw [dif_neg (by omega), dif_neg h2]
theorem strOf_bt (ns : List Int) : (∀ n ∈ ns, 0 ≤ n ∧ n ≤ 255) → ∀ k : Nat, k < ns.length → bt (strOf ns) k = rdI ns k :=
  snocInd (p := fun ns => (∀ n ∈ ns, 0 ≤ n ∧ n ≤ 255) → ∀ k : Nat, k < ns.length → bt (strOf ns) k = rdI ns k) (fun _ k hk => by simp at hk) (fun ns n ih h k hk => by
    rw [strOf_snoc, bt_push, strOf_size, rdI_snoc]
    have hn := h n (by simp)
    by_cases c : k = ns.length
    · rw [if_pos c, if_pos c]
      simp
      omega
    · rw [if_neg c, if_neg c]
      exact ih (fun m hm => h m (by simp [hm])) k (by simp at hk; omega)) ns
end
end Go.Sx
