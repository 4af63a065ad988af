/- What each operation yields, in the words of Sx. -/
import Derived.Test.YtnhflahgbkmloaaSxA
namespace Go.Sx
open Go.RowKit
set_option linter.unusedVariables false
set_option linter.unusedSimpArgs false

section
variable {N : Nat} {ds : List Deferred} {l : List (Nat × Value)} {w0 w1 : World} {m : List (Nat × Obj)} {P : Program} {ro : Option Nat} {ops : Array Oper} {Q : Exit → Act → World → Prop} {rest : List Oper} {C : World → Prop}
variable {dst : Option Tmp} {ty : TypeId} {pos : String} {aft : Array Edge} {gd : Option (Nat × Bool)}

theorem ok_value {s : Sem Value} {w w' : World} {v : Value} (h : s.run P w = .ok v w') : Sem.run P (do pure (Next.value (← s))) w = .ok (.value v) w' := by
  rw [Sem.run_bind, h]; rfl
theorem ok_skip {s : Sem Unit} {w w' : World} (h : s.run P w = .ok () w') : Sem.run P (do s; pure Next.skip) w = .ok .skip w' := by
  show Sem.run P (s >>= fun _ => pure Next.skip) w = _
  rw [Sem.run_bind, h]; rfl

theorem y_move {x v} (hx : ev l x = some v) : Yv P N ds l C ⟨dst, .move x, ty, pos, aft, gd⟩ v := fun a w ha _ => by
  show Sem.run P (pure (Next.value (a.eval x))) w = _
  rw [ha.eval hx]; rfl
theorem y_assign {x v} (hx : ev l x = some v) : Yv P N ds l C ⟨dst, .assign x, ty, pos, aft, gd⟩ v := fun a w ha _ => by
  show Sem.run P (pure (Next.value (a.eval x))) w = _
  rw [ha.eval hx]; rfl
theorem y_pick_t {c x y v} (hc : ev l c = some (.bool true)) (hx : ev l x = some v) : Yv P N ds l C ⟨dst, .pick c x y, ty, pos, aft, gd⟩ v := fun a w ha _ => by
  show Sem.run P (do pure (Next.value (if ← asBool (a.eval c) then a.eval x else a.eval y))) w = _
  rw [ha.eval hc, ha.eval hx]; rfl
theorem y_pick_f {c x y v} (hc : ev l c = some (.bool false)) (hy : ev l y = some v) : Yv P N ds l C ⟨dst, .pick c x y, ty, pos, aft, gd⟩ v := fun a w ha _ => by
  show Sem.run P (do pure (Next.value (if ← asBool (a.eval c) then a.eval x else a.eval y))) w = _
  rw [ha.eval hc, ha.eval hy]; rfl
theorem y_nil {x ad} (hx : ev l x = some (.pointer (some ad))) : Yv P N ds l C ⟨dst, .nilCheck x, ty, pos, aft, gd⟩ (.pointer (some ad)) := fun a w ha _ => by
  simp only [execOp, ha.eval hx]; rfl
theorem y_nilf {x f p q} (hx : ev l x = some (.func (.func f) p q)) : Yv P N ds l C ⟨dst, .nilCheck x, ty, pos, aft, gd⟩ (.func (.func f) p q) := fun a w ha _ => by
  simp only [execOp, ha.eval hx]; rfl
theorem y_not {x b t} (hx : ev l x = some (.bool b)) : Yv P N ds l C ⟨dst, .unOp .not t x, ty, pos, aft, gd⟩ (.bool (!b)) := fun a w ha _ => by
  simp only [execOp, ha.eval hx]; rfl
theorem y_not_t {x t} (hx : ev l x = some (.bool true)) : Yv P N ds l C ⟨dst, .unOp .not t x, ty, pos, aft, gd⟩ (.bool false) := y_not hx
theorem y_not_f {x t} (hx : ev l x = some (.bool false)) : Yv P N ds l C ⟨dst, .unOp .not t x, ty, pos, aft, gd⟩ (.bool true) := y_not hx
theorem y_extract {x vs i v} (hx : ev l x = some (.tuple vs)) (hv : vs[i]? = some v) : Yv P N ds l C ⟨dst, .extract x i, ty, pos, aft, gd⟩ v := fun a w ha _ => by
  simp only [execOp, ha.eval hx]
  exact ok_value (by simp [Instr.extract, hv])
theorem y_func {fn : Fn} {fs cs : List Operand} {us vs : List Value} (hf : evs l fs = some us) (hc : evs l cs = some vs) : Yv P N ds l C ⟨dst, .makeFunc fn fs.toArray cs.toArray, ty, pos, aft, gd⟩ (.func fn us.toArray vs.toArray) := fun a w ha _ => by
  show Sem.run P (do pure (Next.value (← Instr.makeFunc fn (fs.toArray.map a.eval) (cs.toArray.map a.eval)))) w = _
  refine ok_value ?_
  simp only [List.map_toArray, ha.evals hf, ha.evals hc]; rfl

/-! ### numbers -/
theorem i64_eq {x : Int} (h : -9223372036854775808 ≤ x) (h' : x ≤ 9223372036854775807) : IntKind.i64.wrap x = x := IntWalk.i64_in x ⟨h, h'⟩
theorem y_bin {x y op vx vy v t t'} (hx : ev l x = some vx) (hy : ev l y = some vy) (hg : ∀ w, (eqGuard op t x y vx vy).run P w = .ok () w) (h : ∀ w, (binOp op t vx vy).run P w = .ok v w) : Yv P N ds l C ⟨dst, .binOp op t x y t', ty, pos, aft, gd⟩ v := fun a w ha _ => by
  show Sem.run P (do pure (Next.value (← (do eqGuard op t x y (a.eval x) (a.eval y); binOp op t (a.eval x) (a.eval y))))) w = _
  rw [ha.eval hx, ha.eval hy]
  refine ok_value ?_
  rw [Sem.run_bind, hg w]
  exact h w
theorem guard_int {op : BinOp} {t : TypeId} {x y : Operand} {k k' : IntKind} {i j : Int} (w : World) : (eqGuard op t x y (.int k i) (.int k' j)).run P w = .ok () w := by
  cases op <;> rfl
theorem guard_str {op : BinOp} {t : TypeId} {x y : Operand} {s u : ByteArray} (w : World) : (eqGuard op t x y (.string s) (.string u)).run P w = .ok () w := by
  cases op <;> rfl
theorem y_add {x y i j t t'} (hx : ev l x = some (.int .i64 i)) (hy : ev l y = some (.int .i64 j)) (h1 : -9223372036854775808 ≤ i + j) (h2 : i + j ≤ 9223372036854775807) : Yv P N ds l C ⟨dst, .binOp .add t x y t', ty, pos, aft, gd⟩ (.int .i64 (i + j)) :=
  y_bin hx hy guard_int fun w => (show (binOp .add t (.int .i64 i) (.int .i64 j)).run P w = .ok (.int .i64 (IntKind.i64.wrap (i + j))) w from rfl).trans (by rw [i64_eq h1 h2])
theorem y_sub {x y i j t t'} (hx : ev l x = some (.int .i64 i)) (hy : ev l y = some (.int .i64 j)) (h1 : -9223372036854775808 ≤ i - j) (h2 : i - j ≤ 9223372036854775807) : Yv P N ds l C ⟨dst, .binOp .sub t x y t', ty, pos, aft, gd⟩ (.int .i64 (i - j)) :=
  y_bin hx hy guard_int fun w => (show (binOp .sub t (.int .i64 i) (.int .i64 j)).run P w = .ok (.int .i64 (IntKind.i64.wrap (i - j))) w from rfl).trans (by rw [i64_eq h1 h2])
theorem y_mul {x y i j t t'} (hx : ev l x = some (.int .i64 i)) (hy : ev l y = some (.int .i64 j)) (h1 : -9223372036854775808 ≤ i * j) (h2 : i * j ≤ 9223372036854775807) : Yv P N ds l C ⟨dst, .binOp .mul t x y t', ty, pos, aft, gd⟩ (.int .i64 (i * j)) :=
  y_bin hx hy guard_int fun w => (show (binOp .mul t (.int .i64 i) (.int .i64 j)).run P w = .ok (.int .i64 (IntKind.i64.wrap (i * j))) w from rfl).trans (by rw [i64_eq h1 h2])
theorem y_lss {x y k i j t t'} (hx : ev l x = some (.int k i)) (hy : ev l y = some (.int k j)) : Yv P N ds l C ⟨dst, .binOp .lss t x y t', ty, pos, aft, gd⟩ (.bool (decide (i < j))) :=
  y_bin hx hy guard_int fun w => by simp [binOp]; rfl
theorem y_leq {x y k i j t t'} (hx : ev l x = some (.int k i)) (hy : ev l y = some (.int k j)) : Yv P N ds l C ⟨dst, .binOp .leq t x y t', ty, pos, aft, gd⟩ (.bool (decide (i ≤ j))) :=
  y_bin hx hy guard_int fun w => by simp [binOp]; rfl
theorem y_gtr {x y k i j t t'} (hx : ev l x = some (.int k i)) (hy : ev l y = some (.int k j)) : Yv P N ds l C ⟨dst, .binOp .gtr t x y t', ty, pos, aft, gd⟩ (.bool (decide (i > j))) :=
  y_bin hx hy guard_int fun w => by simp [binOp]; rfl
theorem y_geq {x y k i j t t'} (hx : ev l x = some (.int k i)) (hy : ev l y = some (.int k j)) : Yv P N ds l C ⟨dst, .binOp .geq t x y t', ty, pos, aft, gd⟩ (.bool (decide (i ≥ j))) :=
  y_bin hx hy guard_int fun w => by simp [binOp]; rfl
theorem y_eql {x y k i j t t'} (hx : ev l x = some (.int k i)) (hy : ev l y = some (.int k j)) : Yv P N ds l C ⟨dst, .binOp .eql t x y t', ty, pos, aft, gd⟩ (.bool (decide (i = j))) :=
  y_bin hx hy guard_int fun w => by simp [binOp]; rfl
theorem y_neq {x y k i j t t'} (hx : ev l x = some (.int k i)) (hy : ev l y = some (.int k j)) : Yv P N ds l C ⟨dst, .binOp .neq t x y t', ty, pos, aft, gd⟩ (.bool (!decide (i = j))) :=
  y_bin hx hy guard_int fun w => by simp [binOp]; rfl
theorem y_seql {x y s u t t'} (hx : ev l x = some (.string s)) (hy : ev l y = some (.string u)) : Yv P N ds l C ⟨dst, .binOp .eql t x y t', ty, pos, aft, gd⟩ (.bool (s.toList == u.toList)) :=
  y_bin hx hy guard_str fun w => rfl
theorem y_sneq {x y s u t t'} (hx : ev l x = some (.string s)) (hy : ev l y = some (.string u)) : Yv P N ds l C ⟨dst, .binOp .neq t x y t', ty, pos, aft, gd⟩ (.bool (!(s.toList == u.toList))) :=
  y_bin hx hy guard_str fun w => rfl
theorem y_max {x y t t' i j} (hx : ev l x = some (.int .i64 i)) (hy : ev l y = some (.int .i64 j)) : Yv P N ds l C ⟨dst, .call ⟨.builtin .max, #[x, y], #[t, t']⟩, ty, pos, aft, gd⟩ (.int .i64 (if j > i then j else i)) := fun a w ha _ => by
  simp only [execOp, resolve, List.map_toArray, List.map_cons, List.map_nil, ha.eval hx, ha.eval hy]
  rfl
theorem y_min {x y t t' i j} (hx : ev l x = some (.int .i64 i)) (hy : ev l y = some (.int .i64 j)) : Yv P N ds l C ⟨dst, .call ⟨.builtin .min, #[x, y], #[t, t']⟩, ty, pos, aft, gd⟩ (.int .i64 (if j < i then j else i)) := fun a w ha _ => by
  simp only [execOp, resolve, List.map_toArray, List.map_cons, List.map_nil, ha.eval hx, ha.eval hy]
  rfl
theorem y_max3 {x y z t t' t'' i j k} (hx : ev l x = some (.int .i64 i)) (hy : ev l y = some (.int .i64 j)) (hz : ev l z = some (.int .i64 k)) : Yv P N ds l C ⟨dst, .call ⟨.builtin .max, #[x, y, z], #[t, t', t'']⟩, ty, pos, aft, gd⟩ (.int .i64 (if k > (if j > i then j else i) then k else if j > i then j else i)) := fun a w ha _ => by
  simp only [execOp, resolve, List.map_toArray, List.map_cons, List.map_nil, ha.eval hx, ha.eval hy, ha.eval hz]
  rfl
theorem y_min3 {x y z t t' t'' i j k} (hx : ev l x = some (.int .i64 i)) (hy : ev l y = some (.int .i64 j)) (hz : ev l z = some (.int .i64 k)) : Yv P N ds l C ⟨dst, .call ⟨.builtin .min, #[x, y, z], #[t, t', t'']⟩, ty, pos, aft, gd⟩ (.int .i64 (if k < (if j < i then j else i) then k else if j < i then j else i)) := fun a w ha _ => by
  simp only [execOp, resolve, List.map_toArray, List.map_cons, List.map_nil, ha.eval hx, ha.eval hy, ha.eval hz]
  rfl
theorem y_conv {x k k' i j s d} (hx : ev l x = some (.int k i)) (hs : (P.underlying s).isSome = true) (hd : P.underlying d = some (.int k')) (hj : k'.wrap i = j) : Yv P N ds l C ⟨dst, .convert s d x, ty, pos, aft, gd⟩ (.int k' j) := fun a w ha _ => by
  show Sem.run P (do pure (Next.value (← convert s d (a.eval x)))) w = _
  rw [ha.eval hx]
  refine ok_value ?_
  obtain ⟨d', hd'⟩ := Option.isSome_iff_exists.mp hs
  simp [convert, run_underlying hd', run_underlying hd, Conv.intToInt, hj]

/-! ### lengths, indices, cuts -/
theorem y_lens {x t s} (hx : ev l x = some (.string s)) (ht : P.underlying t = some .string) : Yv P N ds l C ⟨dst, .call ⟨.builtin .len, #[x], #[t]⟩, ty, pos, aft, gd⟩ (.int .i64 s.size) := fun a w ha _ => by
  simp only [execOp, resolve, List.map_toArray, List.map_cons, List.map_nil, ha.eval hx]
  exact ok_value (run_len_string w t ty s ht)
theorem y_lensl {x t b n c} (hx : ev l x = some (.slice b n c)) (ht : P.underlying t = some (.slice (P.elem t))) : Yv P N ds l C ⟨dst, .call ⟨.builtin .len, #[x], #[t]⟩, ty, pos, aft, gd⟩ (.int .i64 n) := fun a w ha _ => by
  simp only [execOp, resolve, List.map_toArray, List.map_cons, List.map_nil, ha.eval hx]
  exact ok_value (run_len_slice w t ty b n c ht)
/-- A string's byte. -/
@[irreducible] def bt (s : ByteArray) (i : Int) : Int := if h : i.toNat < s.size then ((s[i.toNat]'h).toNat : Int) else 0
theorem bt_range (s : ByteArray) (i : Int) : 0 ≤ bt s i ∧ bt s i ≤ 255 := by
  unfold bt
  split
  · rename_i h
    have := (s[i.toNat]'h).toNat_lt
    omega
  · omega
theorem y_idxs {x y s k i t} (hx : ev l x = some (.string s)) (hy : ev l y = some (.int k i)) (ht : P.underlying t = some .string) (h0 : 0 ≤ i) (h1 : i < s.size) : Yv P N ds l C ⟨dst, .index t x y, ty, pos, aft, gd⟩ (.int .u8 (bt s i)) := fun a w ha _ => by
  show Sem.run P (do pure (Next.value (← Instr.index t (a.eval x) (a.eval y)))) w = _
  rw [ha.eval hx, ha.eval hy]
  refine ok_value ?_
  have hi : i.toNat < s.size := by omega
  rw [run_index_string w t s k i ht, dif_pos ⟨h0, h1⟩]
  simp [bt, hi]
theorem run_size {t : TypeId} {n : Nat} (h : (P.info? t).map (·.size) = some n) (w : World) : (sizeOf t).run P w = .ok n w := by
  cases hi : P.info? t with
  | none => simp [hi] at h
  | some i0 =>
    simp [hi] at h
    subst h
    simp [sizeOf, typeInfo, hi]
theorem y_idxa {x y b n c k i t e sz} (hx : ev l x = some (.slice (some b) n c)) (hy : ev l y = some (.int k i)) (ht : P.underlying t = some (.slice e)) (hsz : (P.info? e).map (·.size) = some sz) (h0 : 0 ≤ i) (h1 : i < n) :
    Yv P N ds l C ⟨dst, .indexAddr t x y, ty, pos, aft, gd⟩ (.pointer (some (b.add (i.toNat * sz)))) := fun a w ha _ => by
  show Sem.run P (do pure (Next.value (← Instr.indexAt t (a.eval x) (a.eval y)))) w = _
  rw [ha.eval hx, ha.eval hy]
  refine ok_value ?_
  simp [Instr.indexAt, run_underlying ht, asIntOf, h0, h1, run_size hsz]
/-- A field's address. -/
theorem y_fld {x t f ad r} (hx : ev l x = some (.pointer (some ad))) (h : ∀ w, (Instr.fieldAt t (.pointer (some ad)) f).run P w = .ok (.pointer (some r)) w) : Yv P N ds l C ⟨dst, .fieldAddr t x f, ty, pos, aft, gd⟩ (.pointer (some r)) := fun a w ha _ => by
  show Sem.run P (do pure (Next.value (← Instr.fieldAt t (a.eval x) f))) w = _
  rw [ha.eval hx]
  exact ok_value (h w)
theorem y_build {t : TypeId} {ps : List (Nat × Operand)} {vs : List (Nat × Value)} {v} (hp : evs l (ps.map (·.2)) = some (vs.map (·.2))) (hi : ps.map (·.1) = vs.map (·.1)) (h : ∀ w, (Instr.build t vs.toArray).run P w = .ok v w) : Yv P N ds l C ⟨dst, .build t ps.toArray, ty, pos, aft, gd⟩ v := fun a w ha _ => by
  show Sem.run P (do pure (Next.value (← Instr.build t (ps.toArray.map fun (i, x) => (i, a.eval x))))) w = _
  refine ok_value ?_
  have e : ps.map (fun (i, x) => (i, a.eval x)) = vs := by
    have h1 := ha.evals hp
    clear hp h
    induction ps generalizing vs with
    | nil => cases vs <;> simp_all
    | cons p ps ih =>
      cases vs with
      | nil => simp at hi
      | cons u vs =>
        simp only [List.map_cons, List.cons.injEq] at hi h1 ⊢
        exact ⟨Prod.ext hi.1 h1.1, ih hi.2 h1.2⟩
  rw [List.map_toArray, e]
  exact h w

/-! ### loads -/
def isAggB (P : Program) (t : TypeId) : Option Bool := match P.underlying t with
  | some (.struct _) | some (.array _ _) => some true
  | some _ => some false
  | none => none
theorem run_isAgg {t b} (h : isAggB P t = some b) (w : World) : (isAgg t).run P w = .ok b w := by
  unfold isAggB at h
  cases hu : P.underlying t with
  | none => simp [hu] at h
  | some d => cases d <;> simp [hu] at h <;> subst h <;> simp [isAgg, run_underlying hu]
theorem run_load1 {t ad v w} (h : isAggB P t = some false) (hc : w.cell? ad = some v) : (loadVar t ad).run P w = .ok v w := by
  simp [loadVar, run_isAgg h, hc]
theorem run_loadn {t n w} {ad : Addr} {cs : List Value} (h : isAggB P t = some true) (hn : (P.info? t).map (·.size) = some n) (hl : cs.length = n) (hc : ∀ j v, cs[j]? = some v → w.cell? (ad.add j) = some v) : (loadVar t ad).run P w = .ok (.agg cs.toArray) w := by
  have := run_loadCells_list (P := P) w ad cs hc
  rw [hl] at this
  simp [loadVar, run_isAgg h, run_size hn, this]
theorem add_at (b off j : Nat) : (⟨b, off, none⟩ : Addr).add j = ⟨b, off + j, none⟩ := by unfold Addr.add; split <;> simp_all
theorem y_load {x t ad v} (hx : ev l x = some (.pointer (some ad))) (h : ∀ w, C w → (loadVar t ad).run P w = .ok v w) : Yv P N ds l C ⟨dst, .load t x, ty, pos, aft, gd⟩ v := fun a w ha hC => by
  show Sem.run P (do pure (Next.value (← Instr.loadAt t (a.eval x)))) w = _
  rw [ha.eval hx]
  exact ok_value (h w hC)
/-- A slice's element's address, the slice at the head of its block. -/
theorem y_idxb {x y b n c k i t e sz} (hx : ev l x = some (.slice (some ⟨b, 0, none⟩) n c)) (hy : ev l y = some (.int k i)) (ht : P.underlying t = some (.slice e)) (hsz : (P.info? e).map (·.size) = some sz) (h0 : 0 ≤ i) (h1 : i < n) :
    Yv P N ds l C ⟨dst, .indexAddr t x y, ty, pos, aft, gd⟩ (.pointer (some ⟨b, i.toNat * sz, none⟩)) := by
  have := y_idxa (C := C) (N := N) (ds := ds) (dst := dst) (ty := ty) (pos := pos) (aft := aft) (gd := gd) hx hy ht hsz h0 h1
  rw [add_at, Nat.zero_add] at this
  exact this
theorem y_idxb1 {x y b n c k i t e} (hx : ev l x = some (.slice (some ⟨b, 0, none⟩) n c)) (hy : ev l y = some (.int k i)) (ht : P.underlying t = some (.slice e)) (hsz : (P.info? e).map (·.size) = some 1) (h0 : 0 ≤ i) (h1 : i < n) :
    Yv P N ds l C ⟨dst, .indexAddr t x y, ty, pos, aft, gd⟩ (.pointer (some ⟨b, i.toNat, none⟩)) := by
  have := y_idxb (C := C) (N := N) (ds := ds) (dst := dst) (ty := ty) (pos := pos) (aft := aft) (gd := gd) hx hy ht hsz h0 h1
  rw [Nat.mul_one] at this
  exact this
/-- A load of one cell out of block number i of the list. -/
theorem y_ld1 (i : Nat) {x t b off v t' fr} {c : List Value} (hx : ev l x = some (.pointer (some ⟨b, off, none⟩))) (hm : m[i]? = some (b, .cells c.toArray t' fr)) (ht : isAggB P t = some false) (hc : c[off]? = some v) : Yv P N ds l (Hp w0 w1 m) ⟨dst, .load t x, ty, pos, aft, gd⟩ v :=
  y_load hx fun w h => run_load1 ht (h.cell hm (by simpa using hc))
/-- .. of several. -/
theorem y_ldn (i : Nat) {x t b off n t' fr} {c cs : List Value} (hx : ev l x = some (.pointer (some ⟨b, off, none⟩))) (hm : m[i]? = some (b, .cells c.toArray t' fr)) (ht : isAggB P t = some true) (hn : (P.info? t).map (·.size) = some n) (hc : (c.drop off).take n = cs) (hl : cs.length = n) : Yv P N ds l (Hp w0 w1 m) ⟨dst, .load t x, ty, pos, aft, gd⟩ (.agg cs.toArray) :=
  y_load hx fun w h => run_loadn ht hn hl (fun j v hj => by
    subst hc
    rw [add_at]
    refine h.cell hm ?_
    rw [List.getElem?_take] at hj
    split at hj
    · rw [List.getElem?_drop] at hj
      simpa using hj
    · cases hj)
/-- A load out of a block that lay when the call began. -/
theorem y_ldO1 {x t b off v t' fr} {c : List Value} (ho : w0.heap[b]? = some (.cells c.toArray t' fr)) (hx : ev l x = some (.pointer (some ⟨b, off, none⟩))) (ht : isAggB P t = some false) (hc : c[off]? = some v) : Yv P N ds l (Hp w0 w1 m) ⟨dst, .load t x, ty, pos, aft, gd⟩ v :=
  y_load hx fun w h => run_load1 ht (by
    have := (h.below.block b (lt_of_heap ho)).trans ho
    simp [World.cell?, this, hc])
theorem y_ldOn {x t b off n t' fr} {c cs : List Value} (ho : w0.heap[b]? = some (.cells c.toArray t' fr)) (hx : ev l x = some (.pointer (some ⟨b, off, none⟩))) (ht : isAggB P t = some true) (hn : (P.info? t).map (·.size) = some n) (hc : (c.drop off).take n = cs) (hl : cs.length = n) : Yv P N ds l (Hp w0 w1 m) ⟨dst, .load t x, ty, pos, aft, gd⟩ (.agg cs.toArray) :=
  y_load hx fun w h => run_loadn ht hn hl (fun j v hj => by
    subst hc
    rw [add_at]
    have := (h.below.block b (lt_of_heap ho)).trans ho
    rw [List.getElem?_take] at hj
    split at hj
    · rw [List.getElem?_drop] at hj
      simp [World.cell?, this, hj]
    · cases hj)
theorem conv_eq {x : Int} (_ : True) (h : -9223372036854775808 ≤ x) (h' : x ≤ 9223372036854775807) : IntKind.i64.wrap x = x := i64_eq h h'
theorem y_convb {x s d u i} (hx : ev l x = some (.int .u8 (bt u i))) (hs : (P.underlying s).isSome = true) (hd : P.underlying d = some (.int .i64)) : Yv P N ds l C ⟨dst, .convert s d x, ty, pos, aft, gd⟩ (.int .i64 (bt u i)) :=
  y_conv hx hs hd (by have := bt_range u i; exact i64_eq (by omega) (by omega))
theorem y_neg {x i t} (hx : ev l x = some (.int .i64 i)) (h1 : -9223372036854775808 ≤ 0 - i) (h2 : 0 - i ≤ 9223372036854775807) : Yv P N ds l C ⟨dst, .unOp .neg t x, ty, pos, aft, gd⟩ (.int .i64 (0 - i)) := fun a w ha _ => by
  have e : IntKind.i64.wrap (0 - i) = 0 - i := i64_eq h1 h2
  simp only [execOp, ha.eval hx]
  refine ok_value ?_
  show Sem.run P (pure (Value.int .i64 (IntKind.i64.wrap (0 - i)))) w = _
  rw [e]; rfl
/-- The remainder, of what is not negative. -/
theorem y_rem {x y i j t t'} (hx : ev l x = some (.int .i64 i)) (hy : ev l y = some (.int .i64 j)) (h1 : 0 ≤ i) (h2 : 1 ≤ j) : Yv P N ds l C ⟨dst, .binOp .rem t x y t', ty, pos, aft, gd⟩ (.int .i64 (i % j)) :=
  y_bin hx hy guard_int fun w => by
    have hj : j ≠ 0 := by omega
    simp [binOp, Op.intDiv, hj, Int.tmod_eq_emod_of_nonneg h1]
theorem y_quo {x y i j t t'} (hx : ev l x = some (.int .i64 i)) (hy : ev l y = some (.int .i64 j)) (h1 : 0 ≤ i ∧ i ≤ 9223372036854775807) (h2 : 1 ≤ j) : Yv P N ds l C ⟨dst, .binOp .quo t x y t', ty, pos, aft, gd⟩ (.int .i64 (i / j)) :=
  y_bin hx hy guard_int fun w => by
    have hj : j ≠ 0 := by omega
    have e : IntKind.i64.wrap (i / j) = i / j := i64_eq (by have := Int.ediv_nonneg h1.1 (show 0 ≤ j by omega); omega) (by have := Int.ediv_le_self j h1.1; omega)
    simp [binOp, Op.intDiv, hj, Int.tdiv_eq_ediv_of_nonneg h1.1, e]
end
end Go.Sx
