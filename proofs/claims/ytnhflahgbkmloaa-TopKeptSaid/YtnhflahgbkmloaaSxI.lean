/- Rows of one-celled elements, told as lists: read, written, made, appended to; in the words of Sx. -/
import Derived.Test.YtnhflahgbkmloaaSxH
namespace Go.Sx
open Go.RowKit
set_option linter.unusedVariables false
set_option linter.unusedSimpArgs false

section
variable {N : Nat} {ds : List Deferred} {l : List (Nat × Value)} {w0 w1 : World} {m : List (Nat × Obj)} {P : Program} {ro : Option Nat} {ops : Array Oper} {Q : Exit → Act → World → Prop} {rest : List Oper} {C : World → Prop} {X : Act → World → Prop}
variable {dst : Option Tmp} {ty : TypeId} {pos : String} {aft : Array Edge} {gd : Option (Nat × Bool)}
variable {α : Type} {enc : α → Value} {xs : List α}

def rdI (xs : List Int) (i : Int) : Int := xs.getD i.toNat 0
theorem rdI_at {xs : List Int} {i : Int} (h0 : 0 ≤ i) (h1 : i < xs.length) : xs[i.toNat]? = some (rdI xs i) := by
  have h : i.toNat < xs.length := by omega
  simp [rdI, List.getD_eq_getElem?_getD, h]
theorem rdI_nat {xs : List Int} {i : Nat} : rdI xs (i : Int) = xs.getD i 0 := by simp [rdI]

/-- What lies from A on is the row xs. -/
def RdL (enc : α → Value) (w : World) (A : Option Addr) (xs : List α) : Prop := ∀ (j : Nat) (x : α), xs[j]? = some x → ∃ ad, A = some ad ∧ w.cell? (ad.add j) = some (enc x)
/-- A slice that reads as the row xs. -/
def RdV (enc : α → Value) (w : World) (v : Value) (xs : List α) : Prop := ∃ A c, v = .slice A xs.length c ∧ xs.length ≤ c ∧ RdL enc w A xs
def adrOf : Value → Option Addr
  | .slice A _ _ => A
  | _ => none
def elemA (A : Option Addr) (j : Nat) : Addr := (A.getD ⟨0, 0, none⟩).add j

theorem cell_below {w w1 : World} (h : Below w.heap.size w w1) {a : Addr} {v : Value} (hc : w.cell? a = some v) : w1.cell? a = some v := (h.cell (World.block_lt_of_cell? w a hc)).trans hc
theorem RdL.below {w w1 : World} {A : Option Addr} (h : RdL enc w A xs) (hb : Below w.heap.size w w1) : RdL enc w1 A xs := fun j x hj => by
  obtain ⟨ad, ha, hc⟩ := h j x hj
  exact ⟨ad, ha, cell_below hb hc⟩
theorem RdV.below {w w1 : World} {v : Value} (h : RdV enc w v xs) (hb : Below w.heap.size w w1) : RdV enc w1 v xs := by
  obtain ⟨A, c, h1, h2, h3⟩ := h
  exact ⟨A, c, h1, h2, h3.below hb⟩
theorem RdL.take {w : World} {A : Option Addr} (h : RdL enc w A xs) (n : Nat) : RdL enc w A (xs.take n) := fun j x hj => by
  rw [List.getElem?_take] at hj
  split at hj
  · exact h j x hj
  · cases hj
theorem RdL.own {w : World} {b t fr} {jk : List Value} (hb : w.heap[b]? = some (.cells (xs.map enc ++ jk).toArray t fr)) : RdL enc w (some ⟨b, 0, none⟩) xs := fun j x hj => by
  refine ⟨_, rfl, ?_⟩
  have hl := (List.getElem?_eq_some_iff.1 hj).1
  rw [add_at, Nat.zero_add]
  simp [World.cell?, hb, List.getElem?_append_left (show j < (xs.map enc).length by simpa using hl), hj]
theorem RdV.own {w : World} {b t fr n c} {jk : List Value} (hb : w.heap[b]? = some (.cells (xs.map enc ++ jk).toArray t fr)) (hn : n = xs.length) (hc : n ≤ c) : RdV enc w (.slice (some ⟨b, 0, none⟩) n c) xs := ⟨_, c, by rw [hn], by omega, RdL.own hb⟩
theorem RdV.sv {w : World} {sv : SV} {e : TypeId} {n : Nat} (hok : sv.ok 1 n (xs.map enc)) (hm : ∀ p ∈ sv.mem e (xs.map enc), w.heap[p.1]? = some p.2) : RdV enc w (sv.val n) xs := by
  cases sv with
  | nil =>
    obtain ⟨rfl, h⟩ := hok
    have : xs = [] := by simpa using h
    subst this
    exact ⟨none, 0, rfl, Nat.le_refl _, fun j x hj => by simp at hj⟩
  | own b cap jk =>
    obtain ⟨h1, h2, h3, h4⟩ := hok
    have hb := hm (b, .cells (xs.map enc ++ jk).toArray e (0, 0)) (by simp [SV.mem])
    have hn : n = xs.length := by simpa using h3.symm
    exact RdV.own hb hn h1
theorem RdV.val {w : World} {v : Value} (h : RdV enc w v xs) : ∃ c, v = .slice (adrOf v) xs.length c := by
  obtain ⟨A, c, rfl, _, _⟩ := h; exact ⟨c, rfl⟩
theorem RdV.rdl {w : World} {v : Value} (h : RdV enc w v xs) : RdL enc w (adrOf v) xs := by
  obtain ⟨A, c, rfl, _, h⟩ := h; exact h
theorem RdL.some_ {w : World} {A : Option Addr} (h : RdL enc w A xs) {i : Int} (h0 : 0 ≤ i) (h1 : i < xs.length) : ∃ ad, A = some ad := by
  have hi : i.toNat < xs.length := by omega
  obtain ⟨ad, ha, _⟩ := h i.toNat xs[i.toNat] (List.getElem?_eq_getElem hi)
  exact ⟨ad, ha⟩

/-- The length of such a slice. -/
theorem y_lenV {x t v n} (hx : ev l x = some v) (hv : ∃ A c, v = .slice A n c) (ht : P.underlying t = some (.slice (P.elem t))) : Yv P N ds l C ⟨dst, .call ⟨.builtin .len, #[x], #[t]⟩, ty, pos, aft, gd⟩ (.int .i64 (n : Nat)) := by
  obtain ⟨A, c, rfl⟩ := hv
  exact y_lensl hx ht
/-- An element's address. -/
theorem y_idxV {x y v k i t e w} (hx : ev l x = some v) (hy : ev l y = some (.int k i)) (hr : RdV enc w v xs) (ht : P.underlying t = some (.slice e)) (hsz : (P.info? e).map (·.size) = some 1) (h0 : 0 ≤ i) (h1 : i < xs.length) :
    Yv P N ds l C ⟨dst, .indexAddr t x y, ty, pos, aft, gd⟩ (.pointer (some (elemA (adrOf v) i.toNat))) := by
  obtain ⟨c, hv⟩ := hr.val
  obtain ⟨ad, ha⟩ := hr.rdl.some_ h0 h1
  rw [ha] at hv
  rw [hv] at hx
  have := y_idxa (C := C) (N := N) (ds := ds) (dst := dst) (ty := ty) (pos := pos) (aft := aft) (gd := gd) hx hy ht hsz h0 (by exact_mod_cast h1)
  rw [Nat.mul_one] at this
  rw [ha]; exact this
/-- An element. -/
theorem y_ldV {x t A j} {v : α} (hr : ∀ w, C w → RdL enc w A xs) (hx : ev l x = some (.pointer (some (elemA A j)))) (ht : isAggB P t = some false) (hv : xs[j]? = some v) : Yv P N ds l C ⟨dst, .load t x, ty, pos, aft, gd⟩ (enc v) :=
  y_load hx fun w h => run_load1 ht (by
    obtain ⟨ad, ha, hc⟩ := hr w h j v hv
    subst ha
    exact hc)
/-- .. of a block of the list. -/
theorem y_ldL (i : Nat) {x t b off t' fr} {jk : List Value} {v : α} (hx : ev l x = some (.pointer (some ⟨b, off, none⟩))) (hm : m[i]? = some (b, .cells (xs.map enc ++ jk).toArray t' fr)) (ht : isAggB P t = some false) (hv : xs[off]? = some v) : Yv P N ds l (Hp w0 w1 m) ⟨dst, .load t x, ty, pos, aft, gd⟩ (enc v) :=
  y_ld1 i hx hm ht (by
    have hl := (List.getElem?_eq_some_iff.1 hv).1
    rw [List.getElem?_append_left (by simpa using hl), List.getElem?_map, hv]; rfl)

theorem setCs_one : ∀ (c : List Value) (o : Nat) (v : Value), setCs c o [v] = c.set o v
  | c, o, v => by rw [setCs_cons, setCs_nil]
/-- An element stored. -/
theorem t_storeL (i : Nat) {t t' x y b off} {jk : List Value} {v : α} (hx : ev l x = some (.pointer (some ⟨b, off, none⟩))) (hy : ev l y = some (enc v)) (hm : m[i]? = some (b, .cells (xs.map enc ++ jk).toArray t' (0, 0))) (hv : (enc v).cells = #[enc v]) (h1 : (enc v).oneCell' = true) (hsz : (P.info? t).map (·.size) = some 1)
    (hl : off < xs.length) :
    Tr (ι := Unit) P ro N ds l w0 w1 m ⟨dst, .store t x y, ty, pos, aft, gd⟩ (fun _ => True) (fun _ => undef) (fun _ => w1) (fun _ => m.set i (b, .cells ((xs.set off v).map enc ++ jk).toArray t' (0, 0))) := by
  have := t_store (P := P) (ro := ro) (N := N) (ds := ds) (l := l) (w0 := w0) (w1 := w1) (m := m) (dst := dst) (ty := ty) (pos := pos) (aft := aft) (gd := gd) (t := t) (vs := [enc v]) i hx hy hm (by rw [hv]) hsz (Nat.ble_eq_true_of_le (by simp; omega)) (by simp [h1])
  rw [setCs_one, List.set_append_left _ _ (by simpa using hl), ← List.map_set] at this
  exact this
/-- A row made of zeros. -/
theorem t_makeL {t e : TypeId} {x : Operand} {n : Nat} {kl : IntKind} {ie : TypeInfo} {z : α} (hx : ev l x = some (.int kl (n : Int))) (hu : P.underlying t = some (.slice e)) (hie : P.info? e = some ie) (hz : ie.zero = some (enc z)) (hsz : ie.size = 1) (hzc : (enc z).cells = #[enc z])
    (hb : ie.bytes * n ≤ 281474976710656) (hn : n ≤ 9223372036854775807) :
    Tr (ι := Nat) P ro N ds l w0 w1 m ⟨dst, .makeSlice t x x, ty, pos, aft, gd⟩ (New w0 w1) (fun b => .slice (some ⟨b, 0, none⟩) n n) (fun _ => w1) (fun b => (b, .cells ((List.replicate n z).map enc ++ []).toArray e (0, 0)) :: m) := by
  have := t_make (P := P) (ro := ro) (N := N) (ds := ds) (l := l) (w0 := w0) (w1 := w1) (m := m) (dst := dst) (ty := ty) (pos := pos) (aft := aft) (gd := gd) hx hu hie hz hsz hzc hb hn
  simpa only [List.map_replicate, List.append_nil] using this
/-- One element appended. -/
theorem t_appendL {t e : TypeId} {s x : Operand} {sv : SV} {n c bytes : Nat} {v : α} {ad : Addr} {ie : TypeInfo} {z : Value} (pre post : List (Nat × Obj)) (hs : ev l s = some (sv.val n)) (hx : ev l x = some (.slice (some ad) 1 c)) (hm : m = pre ++ (sv.mem e (xs.map enc) ++ post)) (hok : sv.ok 1 n (xs.map enc))
    (hu : P.underlying t = some (.slice e)) (hie : P.info? e = some ie) (hz : ie.zero = some z) (hsz : ie.size = 1) (hby : ie.bytes = bytes) (hzs : z.cells.size = 1)
    (hnew : ∀ w, Hp w0 w1 m w → w.cell? (ad.add 0) = some (enc v)) (h1 : (enc v).oneCell' = true) (hn : (n + 1) * bytes ≤ 140737488355328) (h63 : n + 1 ≤ maxLen) :
    Tr (ι := SV × List (Nat × Obj)) P ro N ds l w0 w1 m ⟨dst, .call ⟨.builtin .append, #[s, x], #[t, t]⟩, ty, pos, aft, gd⟩ (fun y => y.1.ok 1 (n + 1) ((xs ++ [v]).map enc) ∧ ∃ b cap j, y.1 = .own b cap j) (fun y => y.1.val (n + 1)) (fun _ => w1) (fun y => pre ++ (y.1.mem e ((xs ++ [v]).map enc) ++ (y.2 ++ post))) := by
  have := t_append (P := P) (ro := ro) (N := N) (ds := ds) (l := l) (w0 := w0) (w1 := w1) (m := m) (dst := dst) (ty := ty) (pos := pos) (aft := aft) (gd := gd) (news := [enc v]) pre post hs hx hm hok hu hie hz hsz hby hzs (by decide) (fun w h j u hj => match j, hj with | 0, hj => by cases hj; exact hnew w h | j + 1, hj => by simp at hj) rfl (by simp [h1]) (by decide) hn h63
  simpa only [List.map_append, List.map_cons, List.map_nil] using this
/-- The end: some of the blocks are handed on. -/
theorem Hq.hand {w m'} (h : Hq w0 w1 m w) (hs : m'.Sublist m) : Hq w0 w0 m' w := (h.lookSub hs).toHq.base
theorem Hq.hand0 {w} (h : Hq w0 w1 m w) : Hq w0 w0 [] w := h.hand (List.nil_sublist _)
theorem SV.ok_make {xs : List Value} {b n : Nat} (hn : xs.length = n) (hm : n ≤ maxLen) : (SV.own b n []).ok 1 n xs := ⟨Nat.le_refl _, hm, by omega, by simp; omega⟩
def rdS (xs : List ByteArray) (i : Int) : ByteArray := xs.getD i.toNat ByteArray.empty
theorem rdS_at {xs : List ByteArray} {i : Int} (h0 : 0 ≤ i) (h1 : i < xs.length) : xs[i.toNat]? = some (rdS xs i) := by
  have h : i.toNat < xs.length := by omega
  simp [rdS, List.getD_eq_getElem?_getD, h]
theorem sv_slice {sv : SV} {size n : Nat} {xs : List Value} (h : sv.ok size n xs) : ∃ c, sv.val n = .slice (adrOf (sv.val n)) n c := by
  cases sv with
  | nil => obtain ⟨rfl, _⟩ := h; exact ⟨0, rfl⟩
  | own b cap jk => exact ⟨cap, rfl⟩
theorem y_field {x t f v r} (hx : ev l x = some v) (h : ∀ w, (Instr.field t v f).run P w = .ok r w) : Yv P N ds l C ⟨dst, .field t x f, ty, pos, aft, gd⟩ r := fun a w ha _ => by
  show Sem.run P (do pure (Next.value (← Instr.field t (a.eval x) f))) w = _
  rw [ha.eval hx]
  exact ok_value (h w)
theorem y_shr {x y i j t t'} (hx : ev l x = some (.int .i64 i)) (hy : ev l y = some (.int .i64 j)) (h0 : 0 ≤ i) (h1 : 0 ≤ j) (h2 : j ≤ 64) : Yv P N ds l C ⟨dst, .binOp .shr t x y t', ty, pos, aft, gd⟩ (.int .i64 (i / 2 ^ j.toNat)) :=
  y_bin hx hy guard_int fun w => by
    have h3 : ¬ j < 0 := by omega
    have h4 : min j.toNat IntKind.i64.bits = j.toNat := by show min j.toNat 64 = _; omega
    simp only [binOp, Op.shift, h3, if_false, h4, Int.fdiv_eq_ediv_of_nonneg i (show (0 : Int) ≤ 2 ^ j.toNat from Int.pow_nonneg (by decide))]
    rfl
theorem y_shl1 {x y j t t'} (hx : ev l x = some (.int .i64 1)) (hy : ev l y = some (.int .i64 j)) (h1 : 0 ≤ j) (h2 : j ≤ 62) : Yv P N ds l C ⟨dst, .binOp .shl t x y t', ty, pos, aft, gd⟩ (.int .i64 (2 ^ j.toNat)) :=
  y_bin hx hy guard_int fun w => by
    have h3 : ¬ j < 0 := by omega
    have h4 : min j.toNat IntKind.i64.bits = j.toNat := by show min j.toNat 64 = _; omega
    have h5 : (2 : Int) ^ j.toNat ≤ 2 ^ 62 := by
      have : (2 : Nat) ^ j.toNat ≤ 2 ^ 62 := Nat.pow_le_pow_right (by decide) (by omega)
      exact_mod_cast this
    have h6 : (0 : Int) ≤ 2 ^ j.toNat := Int.pow_nonneg (by decide)
    have h7 : IntKind.i64.wrap (1 * 2 ^ j.toNat) = 2 ^ j.toNat := by rw [Int.one_mul]; exact i64_eq (by omega) (by omega)
    simp only [binOp, Op.shift, h3, if_false, h4, h7]
    rfl
theorem and_nat {i j : Int} (h0 : 0 ≤ i) (h1 : i < 9223372036854775808) (h2 : 0 ≤ j) (h3 : j < 9223372036854775808) : IntKind.i64.wrap ((BitVec.ofInt 64 i &&& BitVec.ofInt 64 j).toNat : Int) = ((i.toNat &&& j.toNat : Nat) : Int) := by
  obtain ⟨a, rfl⟩ := Int.eq_ofNat_of_zero_le h0
  obtain ⟨b, rfl⟩ := Int.eq_ofNat_of_zero_le h2
  have ha : a < 2 ^ 63 := by omega
  have hb : b < 2 ^ 63 := by omega
  have e : (BitVec.ofInt 64 (a : Int) &&& BitVec.ofInt 64 (b : Int)).toNat = a &&& b := by
    rw [BitVec.toNat_and, BitVec.ofInt_natCast, BitVec.ofInt_natCast, BitVec.toNat_ofNat, BitVec.toNat_ofNat, Nat.mod_eq_of_lt (by omega), Nat.mod_eq_of_lt (by omega)]
  have hlt : a &&& b < 2 ^ 63 := Nat.lt_of_le_of_lt Nat.and_le_left ha
  rw [e]
  simp only [Int.toNat_natCast]
  exact i64_eq (by omega) (by omega)
theorem y_and {x y i j t t'} (hx : ev l x = some (.int .i64 i)) (hy : ev l y = some (.int .i64 j)) (h0 : 0 ≤ i ∧ i < 9223372036854775808) (h1 : 0 ≤ j ∧ j < 9223372036854775808) : Yv P N ds l C ⟨dst, .binOp .and t x y t', ty, pos, aft, gd⟩ (.int .i64 ((i.toNat &&& j.toNat : Nat) : Int)) :=
  y_bin hx hy guard_int fun w => by
    have := and_nat h0.1 h0.2 h1.1 h1.2
    simp only [binOp, Op.intBits, ne_eq, not_true, if_false]
    show Sem.run P (pure (Value.int .i64 (IntKind.i64.wrap ((BitVec.ofInt 64 i &&& BitVec.ofInt 64 j).toNat : Int)))) w = _
    rw [this]; rfl
/-- Results, the first one out of a cell. -/
theorem run_loadBlk {ty b t' fr n} {c : List Value} {w : World} (hb : w.heap[b]? = some (.cells c.toArray t' fr)) (ht : isAggB P ty = some true) (hn : (P.info? ty).map (·.size) = some n) (hl : c.length = n) : (loadVar ty ⟨b, 0, none⟩).run P w = .ok (.agg c.toArray) w :=
  run_loadn ht hn hl (fun j v hj => by
    rw [add_at, Nat.zero_add]
    simp [World.cell?, hb, hj])
theorem res_ct {fn : Func} {a : Act} {w : World} {p u ty n t' fr b v} {c : List Value} (i : Nat) (ha : Has N ds l a) (hw : Hq w0 w1 m w) (hr : fn.results = #[.cell p ty, .tmp u]) (h1 : get p l = some (.pointer (some ⟨b, 0, none⟩))) (h2 : get u l = some v)
    (hm : m[i]? = some (b, .cells c.toArray t' fr)) (ht : isAggB P ty = some true) (hn : (P.info? ty).map (·.size) = some n) (hl : c.length = n) : (results fn a.tmps).run P w = .ok (.tuple #[.agg c.toArray, v]) w := by
  have e1 := ha.eval (x := .tmp p) h1
  have e2 := ha.eval (x := .tmp u) h2
  simp only [Act.eval] at e1 e2
  have hb := hw.at_ _ (List.mem_of_getElem? hm)
  have h3 := run_loadBlk (P := P) hb ht hn hl
  have e1' : a.tmps[p]?.getD undef = .pointer (some ⟨b, 0, none⟩) := by simpa using e1
  have e2' : a.tmps[u]?.getD undef = v := by simpa using e2
  simp [results, hr, e1', e2', asAddr, h3]
theorem res_ctt {fn : Func} {a : Act} {w : World} {p u u' ty n t' fr b v v'} {c : List Value} (i : Nat) (ha : Has N ds l a) (hw : Hq w0 w1 m w) (hr : fn.results = #[.cell p ty, .tmp u, .tmp u']) (h1 : get p l = some (.pointer (some ⟨b, 0, none⟩))) (h2 : get u l = some v) (h2' : get u' l = some v')
    (hm : m[i]? = some (b, .cells c.toArray t' fr)) (ht : isAggB P ty = some true) (hn : (P.info? ty).map (·.size) = some n) (hl : c.length = n) : (results fn a.tmps).run P w = .ok (.tuple #[.agg c.toArray, v, v']) w := by
  have e1 := ha.eval (x := .tmp p) h1
  have e2 := ha.eval (x := .tmp u) h2
  have e3 := ha.eval (x := .tmp u') h2'
  simp only [Act.eval] at e1 e2 e3
  have hb := hw.at_ _ (List.mem_of_getElem? hm)
  have h3 := run_loadBlk (P := P) hb ht hn hl
  have e1' : a.tmps[p]?.getD undef = .pointer (some ⟨b, 0, none⟩) := by simpa using e1
  have e2' : a.tmps[u]?.getD undef = v := by simpa using e2
  have e3' : a.tmps[u']?.getD undef = v' := by simpa using e3
  simp [results, hr, e1', e2', e3', asAddr, h3]
theorem y_ldML {x t b off t' fr} {jk : List Value} {v : α} (hm : (b, Obj.cells (xs.map enc ++ jk).toArray t' fr) ∈ m) (hx : ev l x = some (.pointer (some ⟨b, off, none⟩))) (ht : isAggB P t = some false) (hv : xs[off]? = some v) : Yv P N ds l (Hp w0 w1 m) ⟨dst, .load t x, ty, pos, aft, gd⟩ (enc v) := by
  obtain ⟨i, hi, he⟩ := List.getElem_of_mem hm
  exact y_ldL i hx (by rw [List.getElem?_eq_getElem hi, he]) ht hv
/-- A call of a closure that hands back v and turns nothing that stood. -/
theorem t_callc {fn fid xs ts vs v} {cap : List Value} (hf : ev l fn = some (.func (.func fid) #[] cap.toArray)) (hx : evs l xs = some vs) (he : Enters P fid) (hc : ∀ w, Hp w0 w1 m w → Calls P fid (vs ++ cap).toArray w fun e w' => e = .returned v ∧ Below w.heap.size w w') :
    Tr (ι := Unit) P ro N ds l w0 w1 m ⟨dst, .call ⟨.value fn, xs.toArray, ts⟩, ty, pos, aft, gd⟩ (fun _ => True) (fun _ => v) (fun _ => w1) (fun _ => m) := fun a w ha hw => by
  refine .inr (.inr (.inl ⟨fid, _, w, call_run ha hf hx he, ?_⟩))
  have := hc w hw
  rw [show (#[] ++ vs.toArray ++ cap.toArray : Array Value) = (vs ++ cap).toArray by simp]
  exact this.mono fun e w' ⟨h1, h2⟩ => ⟨v, h1, (), trivial, rfl, hw.grow h2⟩
theorem below_at {w W : World} {b : Nat} {o : Obj} (hb : Below w.heap.size w W) (h : w.heap[b]? = some o) : W.heap[b]? = some o := (hb.block b (lt_of_heap h)).trans h
theorem at_of {w} {i b : Nat} {o : Obj} (h : Hp w0 w1 m w) (hi : m[i]? = some (b, o)) : w.heap[b]? = some o := h.at_ _ (List.mem_of_getElem? hi)
abbrev encV : Value → Value := fun v => v
def rdVal (xs : List Value) (i : Int) : Value := xs.getD i.toNat (.tuple #[])
theorem rdVal_at {xs : List Value} {i : Int} (h0 : 0 ≤ i) (h1 : i < xs.length) : xs[i.toNat]? = some (rdVal xs i) := by
  have h : i.toNat < xs.length := by omega
  simp [rdVal, List.getD_eq_getElem?_getD, h]
theorem rdI_mem {xs : List Int} {i : Int} (h0 : 0 ≤ i) (h1 : i < xs.length) : rdI xs i ∈ xs := List.mem_of_getElem? (rdI_at h0 h1)
theorem rdVal_mem {xs : List Value} {i : Int} (h0 : 0 ≤ i) (h1 : i < xs.length) : rdVal xs i ∈ xs := List.mem_of_getElem? (rdVal_at h0 h1)
theorem RdV.cells1 {w : World} {v : Value} (h : RdV enc w v xs) : v.cells = [v].toArray := by
  obtain ⟨A, c, rfl, _⟩ := h; rfl
theorem RdV.one {w : World} {v : Value} (h : RdV enc w v xs) : v.oneCell' = true := by
  obtain ⟨A, c, rfl, _⟩ := h; rfl
theorem SV.cells1 (sv : SV) (n : Nat) : (sv.val n).cells = [sv.val n].toArray := by cases sv <;> rfl
theorem SV.one (sv : SV) (n : Nat) : (sv.val n).oneCell' = true := by cases sv <;> rfl
theorem mem_al {β : Type} {x : β} (l1 : List β) {l2 : List β} (h : x ∈ l1) : x ∈ l1 ++ l2 := List.mem_append_left _ h
theorem mem_ar {β : Type} {x : β} (l1 : List β) {l2 : List β} (h : x ∈ l2) : x ∈ l1 ++ l2 := List.mem_append_right _ h
theorem sub_app {β : Type} (l1 : List β) {a b : List β} (h : a.Sublist b) : (l1 ++ a).Sublist (l1 ++ b) := List.Sublist.append (List.Sublist.refl _) h
theorem sub_skip {β : Type} (l1 : List β) {a b : List β} (h : a.Sublist b) : a.Sublist (l1 ++ b) := h.trans (List.sublist_append_right _ _)
theorem sub_here {β : Type} (l1 b : List β) : l1.Sublist (l1 ++ b) := List.sublist_append_left _ _
end
end Go.Sx
