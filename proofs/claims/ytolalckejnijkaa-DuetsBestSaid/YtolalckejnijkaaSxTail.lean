/- Keys of three whole numbers in an array and one more; the copy into such an array; in the words of Sx. -/
import Derived.Test.YtolalckejnijkaaSxMapG
import Derived.Test.YtolalckejnijkaaSxApp
namespace Go.Sx
open Go.RowKit Go.WideMaps Go.WideElems
set_option linter.unusedVariables false
set_option linter.unusedSimpArgs false
abbrev TK : Type := Int × Int × Int × Int
def tkV (k : TK) : Value := .agg #[.int .i64 k.1, .int .i64 k.2.1, .int .i64 k.2.2.1, .int .i64 k.2.2.2]
def tkok (k : TK) : Prop := (Lit.int .i64 k.1).wf = true ∧ (Lit.int .i64 k.2.1).wf = true ∧ (Lit.int .i64 k.2.2.1).wf = true ∧ (Lit.int .i64 k.2.2.2).wf = true
theorem tkV_inj (k k' : TK) (h : tkV k = tkV k') : k = k' := by
  obtain ⟨a, b, c, d⟩ := k
  obtain ⟨a', b', c', d'⟩ := k'
  unfold tkV at h
  simp at h
  obtain ⟨h1, h2, h3, h4⟩ := h
  subst h1 h2 h3 h4
  rfl
theorem key_tail {P : Program} {K AR E : TypeId} {fs : Array Field} {f0 f1 : Field} (hu : P.underlying K = some (.struct fs)) (hfs : fs = #[f0, f1]) (hn0 : (f0.name != "_") = true) (hn1 : (f1.name != "_") = true) (h0 : f0.type = AR ∧ f0.offset = 0) (h1 : f1.type = E ∧ f1.offset = 3)
    (ha : P.underlying AR = some (.array 3 E)) (he : P.underlying E = some (.int .i64)) (hkt : P.keyType K = true) (hsz : Nat.ble 2 P.types.size = true) (hK : P.cellsOf K = 4) (hA : P.cellsOf AR = 3) (hE : P.cellsOf E = 1)
    (hf : ∀ a b c d, (Value.agg #[.int .i64 a, .int .i64 b, .int .i64 c, .int .i64 d]).formed P K = true) (k : TK) (hk : tkok k) : ∃ l, keyOf P K (tkV k) = some l := by
  obtain ⟨a, b, c, d⟩ := k
  obtain ⟨ka, kb, kc, kd⟩ := hk
  simp only at ka kb kc kd
  obtain ⟨n, hn⟩ : ∃ n, P.types.size = n + 2 := ⟨P.types.size - 2, by have := Nat.le_of_ble_eq_true hsz; omega⟩
  have e : ∀ (m : Nat) (x : Int), (Lit.int .i64 x).wf = true → P.keyLits (m + 1) E [.int .i64 x] = some [.int .i64 x] := fun m x hx => by simp [Program.keyLits, he, hx]
  have eA : P.keyLits (n + 2) AR [.int .i64 a, .int .i64 b, .int .i64 c] = some [.int .i64 a, .int .i64 b, .int .i64 c] := by
    unfold Program.keyLits
    simp only [ha]
    simp [hA, hE, List.range_succ, e n a ka, e n b kb, e n c kc]
  have hkl : P.keyLits (P.types.size + 1) K (tkV (a, b, c, d)).cells.toList = some [.int .i64 a, .int .i64 b, .int .i64 c, .int .i64 d] := by
    rw [hn]
    unfold Program.keyLits
    simp only [hu, hfs]
    simp only [bne_iff_ne, ne_eq] at hn0 hn1
    simp [hK, tkV, Value.cells, h0.1, h0.2, h1.1, h1.2, hA, hE, hn0, hn1, eA, e (n + 1) d kd]
  unfold keyOf
  simp only [hu]
  rw [if_pos (by simp only [hkt, Bool.true_and]; exact hf _ _ _ _), hkl]
  exact ⟨_, rfl⟩
section
variable {N : Nat} {ds : List Deferred} {l : List (Nat × Value)} {w0 w1 : World} {m : List (Nat × Obj)} {P : Program} {ro : Option Nat} {C : World → Prop}
variable {dst : Option Tmp} {ty : TypeId} {pos : String} {aft : Array Edge} {gd : Option (Nat × Bool)}
/-- An array's slice, whole. -/
theorem y_sarr {x : Operand} {t e : TypeId} {b n : Nat} (hx : ev l x = some (.pointer (some ⟨b, 0, none⟩))) (hu : P.underlying t = some (.array (n + 1) e)) (hsz : (P.info? e).map (·.size) = some 1) :
    Yv P N ds l C ⟨dst, .slice t x none none none, ty, pos, aft, gd⟩ (.slice (some ⟨b, 0, none⟩) (n + 1) (n + 1)) := fun a w ha _ => by
  show Sem.run P (do pure (Next.value (← Instr.sliceAt t (a.eval x) ((none : Option Operand).map a.eval) ((none : Option Operand).map a.eval) ((none : Option Operand).map a.eval)))) w = _
  rw [ha.eval hx]
  refine ok_value ?_
  cases hq : P.info? e with
  | none => simp [hq] at hsz
  | some i =>
    simp only [Option.map_none]
    simp [Instr.sliceAt, run_underlying hu, Instr.sureAddr, Instr.sliceBounds, sizeOf, typeInfo, hq, add_zero', Result.andThen]
theorem rdI_lt {ys : List Int} {i : Nat} (h : i < ys.length) : rdI ys (i : Int) = ys[i] := by
  rw [rdI_nat, List.getD_eq_getElem?_getD, List.getElem?_eq_getElem h]; rfl
theorem set3 (ys : List Int) (x : Value) (hl : ys.length ≤ 3) : setCs [.int .i64 0, .int .i64 0, .int .i64 0, x] 0 (ys.map (Value.int .i64)) = [.int .i64 (rdI ys 0), .int .i64 (rdI ys 1), .int .i64 (rdI ys 2), x] := by
  match ys, hl with
  | [], _ => rfl
  | [a], _ => rfl
  | [a, b], _ => rfl
  | [a, b, c], _ => rfl
  | _ :: _ :: _ :: _ :: _, hl => simp at hl
/-- The copy of up to three whole numbers into such an array. -/
theorem t_copy3 {x y : Operand} {t t2 e tb : TypeId} {b n : Nat} {v z : Value} {ys : List Int} (i : Nat) (hx : ev l x = some (.slice (some ⟨b, 0, none⟩) 3 n)) (hy : ev l y = some v) (hm : m[i]? = some (b, .cells [Value.int .i64 0, .int .i64 0, .int .i64 0, z].toArray tb (0, 0)))
    (hu : P.underlying t = some (.slice e)) (hsz : (P.info? e).map (·.size) = some 1) (hv : ∀ w, Hp w0 w1 m w → RdV (Value.int .i64) w v ys) (hl : ys.length ≤ 3) :
    Tr (ι := Unit) P ro N ds l w0 w1 m ⟨dst, .call ⟨.builtin .copy, #[x, y], #[t, t2]⟩, ty, pos, aft, gd⟩ (fun _ => True) (fun _ => .int .i64 (ys.length : Int)) (fun _ => w1) (fun _ => m.set i (b, .cells [Value.int .i64 (rdI ys 0), .int .i64 (rdI ys 1), .int .i64 (rdI ys 2), z].toArray tb (0, 0))) := fun a w ha hw => by
  obtain ⟨A, c, rfl, hc, hr⟩ := hv w hw
  have h1 : ∀ u ∈ ys.map (Value.int .i64), u.oneCell' = true := fun u hu => by
    obtain ⟨q, _, rfl⟩ := List.mem_map.1 hu; rfl
  obtain ⟨w', hst, hh⟩ := stores P w0 w1 i b tb (ys.map (Value.int .i64)) _ 0 w m 0 hw hm (by simp; omega) h1
  rw [Nat.zero_add, set3 ys z hl] at hh
  refine .inl ⟨_, w', ?_, (), trivial, rfl, hh⟩
  simp only [execOp, resolve, List.map_toArray, List.map_cons, List.map_nil, ha.eval hx, ha.eval hy]
  refine ok_value ?_
  cases hq : P.info? e with
  | none => simp [hq] at hsz
  | some ie =>
    have hi : ie.size = 1 := by simpa [hq] using hsz
    have hmin : Nat.min ys.length 3 = ys.length := Nat.min_eq_left hl
    cases A with
    | none =>
      have hnil : ys = [] := by
        cases ys with
        | nil => rfl
        | cons y ys => obtain ⟨ad, h, _⟩ := hr 0 y rfl; cases h
      subst hnil
      simp [Builtin.copy_, run_underlying hu, Builtin.lenOf, Builtin.firstCells, sizeOf, typeInfo, hq, hi, goInt, Result.andThen] at hst ⊢
      simp [hst, Result.andThen]
    | some ad =>
      have hl := run_loadCells_list (P := P) w ad (ys.map (Value.int .i64)) (fun j u hj => by
        rw [List.getElem?_map] at hj
        cases hq2 : ys[j]? with
        | none => rw [hq2] at hj; cases hj
        | some y =>
          rw [hq2] at hj; cases hj
          obtain ⟨ad', h, h2⟩ := hr j y hq2
          cases h; exact h2)
      simp only [List.length_map] at hl
      simp [Builtin.copy_, run_underlying hu, Builtin.lenOf, Builtin.firstCells, sizeOf, typeInfo, hq, hi, hmin, hl, hst, goInt, Result.andThen]
end
end Go.Sx
