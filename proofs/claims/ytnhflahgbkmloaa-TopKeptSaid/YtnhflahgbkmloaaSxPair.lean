/- Rows of pairs of whole numbers, two cells each: read, appended to, handed on; in the words of Sx. -/
import Derived.Test.YtnhflahgbkmloaaSxJ
namespace Go.Sx
open Go.RowKit
set_option linter.unusedVariables false
set_option linter.unusedSimpArgs false

section
variable {N : Nat} {ds : List Deferred} {l : List (Nat × Value)} {w0 w1 : World} {m : List (Nat × Obj)} {P : Program} {ro : Option Nat} {ops : Array Oper} {Q : Exit → Act → World → Prop} {rest : List Oper} {C : World → Prop} {X : Act → World → Prop}
variable {dst : Option Tmp} {ty : TypeId} {pos : String} {aft : Array Edge} {gd : Option (Nat × Bool)}

abbrev encP (p : Int × Int) : Value := .agg #[.int .i64 p.1, .int .i64 p.2]
def cellsP : List (Int × Int) → List Value
  | [] => []
  | p :: xs => .int .i64 p.1 :: .int .i64 p.2 :: cellsP xs
theorem cellsP_len : ∀ xs : List (Int × Int), (cellsP xs).length = 2 * xs.length
  | [] => rfl
  | p :: xs => by simp only [cellsP, List.length_cons, cellsP_len xs]; omega
theorem cellsP_app : ∀ xs ys : List (Int × Int), cellsP (xs ++ ys) = cellsP xs ++ cellsP ys
  | [], ys => rfl
  | p :: xs, ys => by simp only [cellsP, List.cons_append, cellsP_app xs ys]
theorem cellsP_at : ∀ {xs : List (Int × Int)} {j : Nat} {p : Int × Int}, xs[j]? = some p → (cellsP xs)[2 * j]? = some (.int .i64 p.1) ∧ (cellsP xs)[2 * j + 1]? = some (.int .i64 p.2)
  | [], j, p, h => by simp at h
  | q :: xs, 0, p, h => by simp at h; subst h; exact ⟨rfl, rfl⟩
  | q :: xs, j + 1, p, h => by
    have := cellsP_at (xs := xs) (j := j) (p := p) (by simpa using h)
    rw [show 2 * (j + 1) = 2 * j + 1 + 1 by omega]
    exact this
theorem cellsP_one : ∀ xs : List (Int × Int), (cellsP xs).all (·.oneCell') = true
  | [] => rfl
  | p :: xs => by simp only [cellsP, List.all_cons, cellsP_one xs]; rfl
def rdP (xs : List (Int × Int)) (i : Int) : Int × Int := xs.getD i.toNat (0, 0)
theorem rdP_at {xs : List (Int × Int)} {i : Int} (h0 : 0 ≤ i) (h1 : i < xs.length) : xs[i.toNat]? = some (rdP xs i) := by
  have h : i.toNat < xs.length := by omega
  simp [rdP, List.getD_eq_getElem?_getD, h]
theorem rdP_getElem {xs : List (Int × Int)} {k : Nat} (h : k < xs.length) : rdP xs (k : Int) = xs[k] := by
  simp [rdP, List.getD_eq_getElem?_getD, h]
theorem rdP_take {xs : List (Int × Int)} {k : Nat} (h : k < xs.length) : xs.take (k + 1) = xs.take k ++ [rdP xs (k : Int)] := by
  rw [rdP_getElem h, List.take_succ_eq_append_getElem h]
theorem rdP_mem {xs : List (Int × Int)} {i : Int} (h0 : 0 ≤ i) (h1 : i < xs.length) : rdP xs i ∈ xs := List.mem_of_getElem? (rdP_at h0 h1)
theorem rdP_ext {xs ys : List (Int × Int)} (hl : xs.length = ys.length) (h : ∀ j : Nat, j < xs.length → rdP xs (j : Int) = rdP ys (j : Int)) : xs = ys := by
  apply List.ext_getElem hl
  intro j h1 h2
  have := h j h1
  rwa [rdP_getElem h1, rdP_getElem h2] at this
/-- What lies from A on is the row of pairs xs. -/
def RdLP (w : World) (A : Option Addr) (xs : List (Int × Int)) : Prop := ∀ (j : Nat) (p : Int × Int), xs[j]? = some p → ∃ ad, A = some ad ∧ w.cell? (ad.add (2 * j)) = some (.int .i64 p.1) ∧ w.cell? (ad.add (2 * j + 1)) = some (.int .i64 p.2)
def RdP (w : World) (v : Value) (xs : List (Int × Int)) : Prop := ∃ A c, v = .slice A xs.length c ∧ xs.length ≤ c ∧ RdLP w A xs
variable {xs ys : List (Int × Int)}
theorem RdLP.below {w w1 : World} {A : Option Addr} (h : RdLP w A xs) (hb : Below w.heap.size w w1) : RdLP w1 A xs := fun j x hj => by
  obtain ⟨ad, ha, hc, hd⟩ := h j x hj
  exact ⟨ad, ha, cell_below hb hc, cell_below hb hd⟩
theorem RdP.below {w w1 : World} {v : Value} (h : RdP w v xs) (hb : Below w.heap.size w w1) : RdP w1 v xs := by
  obtain ⟨A, c, h1, h2, h3⟩ := h
  exact ⟨A, c, h1, h2, h3.below hb⟩
theorem RdLP.own {w : World} {b t fr} {jk : List Value} (hb : w.heap[b]? = some (.cells (cellsP xs ++ jk).toArray t fr)) : RdLP w (some ⟨b, 0, none⟩) xs := fun j p hj => by
  refine ⟨_, rfl, ?_⟩
  obtain ⟨h1, h2⟩ := cellsP_at hj
  have hl1 := (List.getElem?_eq_some_iff.1 h1).1
  have hl2 := (List.getElem?_eq_some_iff.1 h2).1
  rw [add_at, Nat.zero_add, add_at, Nat.zero_add]
  constructor
  · simp [World.cell?, hb, List.getElem?_append_left hl1, h1]
  · simp [World.cell?, hb, List.getElem?_append_left hl2, h2]
theorem RdP.own {w : World} {b t fr n c} {jk : List Value} (hb : w.heap[b]? = some (.cells (cellsP xs ++ jk).toArray t fr)) (hn : n = xs.length) (hc : n ≤ c) : RdP w (.slice (some ⟨b, 0, none⟩) n c) xs := ⟨_, c, by rw [hn], by omega, RdLP.own hb⟩
theorem cellsP_nil (h : cellsP xs = []) : xs = [] := by
  have := cellsP_len xs
  rw [h] at this
  exact List.eq_nil_of_length_eq_zero (by simp at this; omega)
theorem RdP.sv {w : World} {sv : SV} {e : TypeId} {n : Nat} (hok : sv.ok 2 n (cellsP xs)) (hm : ∀ p ∈ sv.mem e (cellsP xs), w.heap[p.1]? = some p.2) : RdP w (sv.val n) xs := by
  cases sv with
  | nil =>
    obtain ⟨rfl, h⟩ := hok
    have := cellsP_nil h
    subst this
    exact ⟨none, 0, rfl, Nat.le_refl _, fun j x hj => by simp at hj⟩
  | own b cap jk =>
    obtain ⟨h1, h2, h3, h4⟩ := hok
    have hb := hm (b, .cells (cellsP xs ++ jk).toArray e (0, 0)) (by simp [SV.mem])
    have hn : n = xs.length := by rw [cellsP_len] at h3; omega
    exact RdP.own hb hn h1
theorem RdP.val {w : World} {v : Value} (h : RdP w v xs) : ∃ c, v = .slice (adrOf v) xs.length c := by
  obtain ⟨A, c, rfl, _, _⟩ := h; exact ⟨c, rfl⟩
theorem RdP.rdl {w : World} {v : Value} (h : RdP w v xs) : RdLP w (adrOf v) xs := by
  obtain ⟨A, c, rfl, _, h⟩ := h; exact h
theorem RdP.nil {w : World} : RdP w (.slice none 0 0) [] := ⟨none, 0, rfl, Nat.le_refl _, fun j x hj => by simp at hj⟩
theorem RdP.cells1 {w : World} {v : Value} (h : RdP w v xs) : v.cells = [v].toArray := by
  obtain ⟨A, c, rfl, _⟩ := h; rfl
theorem RdP.one {w : World} {v : Value} (h : RdP w v xs) : v.oneCell' = true := by
  obtain ⟨A, c, rfl, _⟩ := h; rfl
/-- A slice that reads as xs as long as the blocks m lie as told. -/
def OwnP (v : Value) (xs : List (Int × Int)) (m : List (Nat × Obj)) : Prop := (∃ A c, v = .slice A xs.length c) ∧ ∀ W : World, (∀ p ∈ m, W.heap[p.1]? = some p.2) → RdP W v xs
theorem OwnP.nil : OwnP (.slice none 0 0) [] [] := ⟨⟨none, 0, rfl⟩, fun _ _ => RdP.nil⟩
theorem OwnP.blk {b n c : Nat} {t fr} {jk : List Value} (hn : n = xs.length) (hc : n ≤ c) : OwnP (.slice (some ⟨b, 0, none⟩) n c) xs [(b, .cells (cellsP xs ++ jk).toArray t fr)] :=
  ⟨⟨_, c, by rw [hn]⟩, fun W h => RdP.own (h _ (List.mem_cons_self ..)) hn hc⟩
theorem OwnP.sv {sv : SV} {e : TypeId} {n : Nat} (hok : sv.ok 2 n (cellsP xs)) : OwnP (sv.val n) xs (sv.mem e (cellsP xs)) := by
  refine ⟨?_, fun W h => RdP.sv hok h⟩
  have hn : n = xs.length := by
    cases sv with
    | nil => obtain ⟨h1, h2⟩ := hok; have := cellsP_nil h2; subst this; exact h1
    | own b cap jk => obtain ⟨_, _, h3, _⟩ := hok; rw [cellsP_len] at h3; omega
  obtain ⟨c, hc⟩ := sv_slice hok
  exact ⟨_, c, by rw [hc, ← hn]⟩
theorem OwnP.rd {v : Value} {mm : List (Nat × Obj)} (h : OwnP v xs mm) {w : World} (hm : ∀ p ∈ mm, w.heap[p.1]? = some p.2) : RdP w v xs := h.2 w hm
theorem OwnP.cells1 {v : Value} {mm : List (Nat × Obj)} (h : OwnP v xs mm) : v.cells = [v].toArray := by
  obtain ⟨⟨A, c, rfl⟩, _⟩ := h; rfl
theorem OwnP.one {v : Value} {mm : List (Nat × Obj)} (h : OwnP v xs mm) : v.oneCell' = true := by
  obtain ⟨⟨A, c, rfl⟩, _⟩ := h; rfl
theorem RdLP.some_ {w : World} {A : Option Addr} (h : RdLP w A xs) {i : Int} (h0 : 0 ≤ i) (h1 : i < xs.length) : ∃ ad, A = some ad := by
  have hi : i.toNat < xs.length := by omega
  obtain ⟨ad, ha, _⟩ := h i.toNat xs[i.toNat] (List.getElem?_eq_getElem hi)
  exact ⟨ad, ha⟩
/-- An element's address. -/
theorem y_idxP {x y v k i t e w} (hx : ev l x = some v) (hy : ev l y = some (.int k i)) (hr : RdP w v xs) (ht : P.underlying t = some (.slice e)) (hsz : (P.info? e).map (·.size) = some 2) (h0 : 0 ≤ i) (h1 : i < xs.length) :
    Yv P N ds l C ⟨dst, .indexAddr t x y, ty, pos, aft, gd⟩ (.pointer (some (elemA (adrOf v) (i.toNat * 2)))) := by
  obtain ⟨c, hv⟩ := hr.val
  obtain ⟨ad, ha⟩ := hr.rdl.some_ h0 h1
  rw [ha] at hv
  rw [hv] at hx
  have := y_idxa (C := C) (N := N) (ds := ds) (dst := dst) (ty := ty) (pos := pos) (aft := aft) (gd := gd) hx hy ht hsz h0 (by exact_mod_cast h1)
  rw [ha]; exact this
theorem y_idxPO {x y v k i t e mm} (hx : ev l x = some v) (hy : ev l y = some (.int k i)) (ho : OwnP v xs mm) (hmm : ∃ W : World, ∀ p ∈ mm, W.heap[p.1]? = some p.2) (ht : P.underlying t = some (.slice e)) (hsz : (P.info? e).map (·.size) = some 2) (h0 : 0 ≤ i) (h1 : i < xs.length) :
    Yv P N ds l C ⟨dst, .indexAddr t x y, ty, pos, aft, gd⟩ (.pointer (some (elemA (adrOf v) (i.toNat * 2)))) := by
  obtain ⟨W, hW⟩ := hmm
  exact y_idxP hx hy (ho.2 W hW) ht hsz h0 h1
/-- An element. -/
theorem y_ldP {x t A j} {p : Int × Int} (hr : ∀ w, C w → RdLP w A xs) (hx : ev l x = some (.pointer (some (elemA A (j * 2))))) (ht : isAggB P t = some true) (hn : (P.info? t).map (·.size) = some 2) (hv : xs[j]? = some p) : Yv P N ds l C ⟨dst, .load t x, ty, pos, aft, gd⟩ (.agg #[.int .i64 p.1, .int .i64 p.2]) :=
  y_load hx fun w h => run_loadn (cs := [.int .i64 p.1, .int .i64 p.2]) ht hn rfl (fun k u hk => by
    obtain ⟨ad, ha, h1, h2⟩ := hr w h j p hv
    subst ha
    show w.cell? ((ad.add (j * 2)).add k) = _
    rw [add_add, Nat.mul_comm j 2]
    match k, hk with
    | 0, hk => cases hk; exact h1
    | 1, hk => cases hk; exact h2
    | k + 2, hk => simp at hk)
/-- .. of a block of the list. -/
theorem y_ldLP (i : Nat) {x t b t' fr j} {jk : List Value} {p : Int × Int} (hx : ev l x = some (.pointer (some ⟨b, j * 2, none⟩))) (hm : m[i]? = some (b, .cells (cellsP xs ++ jk).toArray t' fr)) (ht : isAggB P t = some true) (hn : (P.info? t).map (·.size) = some 2) (hv : xs[j]? = some p) : Yv P N ds l (Hp w0 w1 m) ⟨dst, .load t x, ty, pos, aft, gd⟩ (.agg #[.int .i64 p.1, .int .i64 p.2]) :=
  y_ldn i hx hm ht hn (by
    obtain ⟨h1, h2⟩ := cellsP_at hv
    have hl1 := (List.getElem?_eq_some_iff.1 h1).1
    have hl2 := (List.getElem?_eq_some_iff.1 h2).1
    have e1 : (cellsP xs ++ jk)[j * 2]? = some (.int .i64 p.1) := by rw [Nat.mul_comm, List.getElem?_append_left hl1]; exact h1
    have e2 : (cellsP xs ++ jk)[j * 2 + 1]? = some (.int .i64 p.2) := by rw [Nat.mul_comm, List.getElem?_append_left hl2]; exact h2
    obtain ⟨k1, g1⟩ := List.getElem?_eq_some_iff.1 e1
    obtain ⟨k2, g2⟩ := List.getElem?_eq_some_iff.1 e2
    rw [List.drop_eq_getElem_cons k1, List.drop_eq_getElem_cons k2, g1, g2]
    rfl) rfl
theorem cellsP_set : ∀ (xs : List (Int × Int)) (j : Nat) (p : Int × Int), j < xs.length → setCs (cellsP xs) (j * 2) [.int .i64 p.1, .int .i64 p.2] = cellsP (xs.set j p)
  | [], j, p, h => by simp at h
  | q :: xs, 0, p, h => by simp only [cellsP, Nat.zero_mul, setCs, List.set_cons_zero, setCs_nil]
  | q :: xs, j + 1, p, h => by
    have := cellsP_set xs j p (by simpa using h)
    rw [show (j + 1) * 2 = j * 2 + 1 + 1 by omega]
    simp only [cellsP, List.set_cons_succ]
    show _ :: _ :: setCs (cellsP xs) (j * 2) _ = _
    rw [this]
theorem setCs_app : ∀ (c jk : List Value) (o : Nat) (vs : List Value), o + vs.length ≤ c.length → setCs (c ++ jk) o vs = setCs c o vs ++ jk
  | c, jk, o, [], h => by rw [setCs_nil, setCs_nil]
  | c, jk, o, v :: vs, h => by
    rw [setCs_cons, setCs_cons, List.set_append_left _ _ (by simp at h; omega), setCs_app (c.set o v) jk (o + 1) vs (by simp at h ⊢; omega)]
/-- An element stored. -/
theorem t_storeP (i : Nat) {t t' x y b j} {jk : List Value} {p : Int × Int} (hx : ev l x = some (.pointer (some ⟨b, j * 2, none⟩))) (hy : ev l y = some (.agg #[.int .i64 p.1, .int .i64 p.2])) (hm : m[i]? = some (b, .cells (cellsP xs ++ jk).toArray t' (0, 0))) (hsz : (P.info? t).map (·.size) = some 2)
    (hl : j < xs.length) :
    Tr (ι := Unit) P ro N ds l w0 w1 m ⟨dst, .store t x y, ty, pos, aft, gd⟩ (fun _ => True) (fun _ => undef) (fun _ => w1) (fun _ => m.set i (b, .cells (cellsP (xs.set j p) ++ jk).toArray t' (0, 0))) := by
  have := t_store (P := P) (ro := ro) (N := N) (ds := ds) (l := l) (w0 := w0) (w1 := w1) (m := m) (dst := dst) (ty := ty) (pos := pos) (aft := aft) (gd := gd) (t := t) (vs := [.int .i64 p.1, .int .i64 p.2]) i hx hy hm rfl hsz (Nat.ble_eq_true_of_le (by have := cellsP_len xs; simp; omega)) rfl
  rw [setCs_app _ _ _ _ (by have := cellsP_len xs; simp; omega), cellsP_set xs j p hl] at this
  exact this
/-- Appending, with what it leaves of the old block told. -/
theorem t_appendN' {t e : TypeId} {s x : Operand} {sv : SV} {n k c size bytes : Nat} {xs news : List Value} {ad : Addr} {ie : TypeInfo} {z : Value} (pre post : List (Nat × Obj)) (hs : ev l s = some (sv.val n)) (hx : ev l x = some (.slice (some ad) k c)) (hm : m = pre ++ (sv.mem e xs ++ post)) (hok : sv.ok size n xs)
    (hu : P.underlying t = some (.slice e)) (hie : P.info? e = some ie) (hz : ie.zero = some z) (hsz : ie.size = size) (hby : ie.bytes = bytes) (hzs : z.cells.size = size) (hpos : 0 < size)
    (hnew : ∀ w, Hp w0 w1 m w → ∀ j u, news[j]? = some u → w.cell? (ad.add j) = some u) (hl : news.length = k * size) (h1 : news.all (·.oneCell') = true) (hk : 0 < k) (hn : (n + k) * bytes ≤ 140737488355328) (h63 : n + k ≤ maxLen) :
    Tr (ι := SV × List (Nat × Obj)) P ro N ds l w0 w1 m ⟨dst, .call ⟨.builtin .append, #[s, x], #[t, t]⟩, ty, pos, aft, gd⟩ (fun y => (y.1.ok size (n + k) (xs ++ news) ∧ ∃ b cap j, y.1 = .own b cap j) ∧ ∀ q ∈ (sv.mem e xs).map (·.1), q ∈ (y.1.mem e (xs ++ news) ++ y.2).map (·.1)) (fun y => y.1.val (n + k)) (fun _ => w1) (fun y => pre ++ (y.1.mem e (xs ++ news) ++ (y.2 ++ post))) := fun a w ha hw => by
  subst hsz
  subst hby
  have h1' : ∀ u ∈ news, u.oneCell' = true := by simpa using h1
  have hnew' := hnew w hw
  have hsmall : n + k ≤ 9223372036854775807 := by simp only [maxLen] at h63; omega
  have hrun : ∀ v w', (Builtin.append_ #[t, t] ty #[sv.val n, .slice (some ad) k c]).run P w = .ok v w' → (execOp a.eval ⟨dst, .call ⟨.builtin .append, #[s, x], #[t, t]⟩, ty, pos, aft, gd⟩).run P w = .ok (.value v) w' := by
    intro v w' h
    simp only [execOp, resolve, List.map_toArray, List.map_cons, List.map_nil, ha.eval hs, ha.eval hx]
    exact ok_value h
  have grownok : ∀ (old : Nat), xs.length = n * ie.size → (SV.own w.heap.size (grownCap w (n + k) old e) (Builtin.zeroCells z.cells (grownCap w (n + k) old e - (n + k))).toList).ok ie.size (n + k) (xs ++ news) := by
    intro old hxl
    have hge := grownCap_ge w (n + k) old e
    refine ⟨hge, grownCap_le_maxLen w (n + k) old e h63, by rw [List.length_append, hxl, hl, Nat.add_mul], ?_⟩
    simp only [List.length_append, hxl, hl, Array.length_toList, size_zeroCells, hzs, ← Nat.add_mul]
    congr 1
    omega
  cases sv with
  | nil =>
    obtain ⟨rfl, rfl⟩ := hok
    have hr := run_append_nil (P := P) w t ty e ie z hu hie hz ad k c news hl hnew' hk (by omega) (by have := hn; simp only [Nat.zero_add] at this; omega)
    refine .inl ⟨_, (w.drew.alloc (.cells (news.toArray ++ Builtin.zeroCells z.cells (grownCap w k 0 e - k)) e (0, 0))), hrun _ _ hr, (.own w.heap.size (grownCap w k 0 e) (Builtin.zeroCells z.cells (grownCap w k 0 e - k)).toList, []), ⟨⟨?_, ⟨_, _, _, rfl⟩⟩, by simp [SV.mem]⟩, ?_, ?_⟩
    · have := grownok 0 (by simp)
      simpa using this
    · simp [SV.val]
    · have h2 := (hw.drewN.alloc (o := .cells (news.toArray ++ Builtin.zeroCells z.cells (grownCap w k 0 e - k)) e (0, 0)) rfl)
      simp only [SV.mem, List.nil_append] at hm
      subst hm
      simp only [SV.mem, List.nil_append]
      have e1 : (news ++ (Builtin.zeroCells z.cells (grownCap w k 0 e - k)).toList).toArray = news.toArray ++ Builtin.zeroCells z.cells (grownCap w k 0 e - k) := by
        apply Array.toList_inj.1; simp
      rw [e1]
      exact h2.perm (List.perm_middle.symm)
  | own b cap junk =>
    obtain ⟨hnc, hcm, hxl, hcl⟩ := hok
    simp only [SV.mem, List.cons_append, List.nil_append] at hm
    subst hm
    have hi : (pre ++ ((b, Obj.cells (xs ++ junk).toArray e (0, 0)) :: post))[pre.length]? = some (b, .cells (xs ++ junk).toArray e (0, 0)) := by simp
    have hb := hw.at_ _ (List.mem_of_getElem? hi)
    simp only at hb
    by_cases hroom : n + k ≤ cap
    · have hfit : n * ie.size + news.length ≤ ((xs ++ junk).toArray).size := by
        simp only [List.size_toArray, List.length_append, hcl, hl, ← Nat.add_mul]; exact Nat.mul_le_mul_right _ hroom
      have hr := run_append_room (P := P) w t ty e ie hu hie b n cap _ hb ad k c news hl hnew' h1' hroom hfit
      have hcells : (((xs ++ junk).toArray.toList.take (n * ie.size) ++ news ++ (xs ++ junk).toArray.toList.drop (n * ie.size + news.length)).toArray) = ((xs ++ news) ++ junk.drop news.length).toArray := by
        rw [← hxl]
        simp [List.drop_append, List.append_assoc]
      rw [hcells] at hr
      refine .inl ⟨_, (w.setRow b ((xs ++ news) ++ junk.drop news.length).toArray), hrun _ _ hr, (.own b cap (junk.drop news.length), []), ⟨⟨⟨hroom, hcm, by rw [List.length_append, hxl, hl, Nat.add_mul], ?_⟩, ⟨_, _, _, rfl⟩⟩, by simp [SV.mem]⟩, rfl, ?_⟩
      · have : news.length ≤ junk.length := by
          have := hfit; simp only [List.size_toArray, List.length_append] at this; omega
        simp only [List.length_append, List.length_drop]; omega
      · have h3 := hw.turn (o' := .cells ((xs ++ news) ++ junk.drop news.length).toArray e (0, 0)) hi rfl (w' := w.setRow b ((xs ++ news) ++ junk.drop news.length).toArray) rfl rfl rfl (by simp) (fun k' _ hk' => setRow_other w b k' _ hk') (setRow_heap w b _ _ e _ hb)
        simpa [SV.mem] using h3
    · have holds : ∀ j u, xs[j]? = some u → w.cell? ((⟨b, 0, none⟩ : Addr).add j) = some u := by
        intro j u hj
        have hjl := (List.getElem?_eq_some_iff.1 hj).1
        rw [add_at, Nat.zero_add]
        simp [World.cell?, hb, List.getElem?_append_left hjl, hj]
      have hr := run_append_grow (P := P) w t ty e ie z hu hie hz ⟨b, 0, none⟩ n cap xs hxl holds ad k c news hl hnew' (by omega) (by omega) (growslice_fits (by omega) hn)
      refine .inl ⟨_, (w.drew.alloc (.cells (xs.toArray ++ news.toArray ++ Builtin.zeroCells z.cells (grownCap w (n + k) cap e - (n + k))) e (0, 0))), hrun _ _ hr, (.own w.heap.size (grownCap w (n + k) cap e) (Builtin.zeroCells z.cells (grownCap w (n + k) cap e - (n + k))).toList, [(b, .cells (xs ++ junk).toArray e (0, 0))]), ⟨⟨grownok cap hxl, ⟨_, _, _, rfl⟩⟩, by simp [SV.mem]⟩, rfl, ?_⟩
      have h2 := (hw.drewN.alloc (o := .cells (xs.toArray ++ news.toArray ++ Builtin.zeroCells z.cells (grownCap w (n + k) cap e - (n + k))) e (0, 0)) rfl)
      simp only [SV.mem, List.cons_append, List.nil_append]
      have e1 : (xs ++ news ++ (Builtin.zeroCells z.cells (grownCap w (n + k) cap e - (n + k))).toList).toArray = xs.toArray ++ news.toArray ++ Builtin.zeroCells z.cells (grownCap w (n + k) cap e - (n + k)) := by
        apply Array.toList_inj.1; simp
      rw [e1]
      exact h2.perm (List.perm_middle.symm)
/-- One element appended. -/
theorem t_appendP {t e : TypeId} {s x : Operand} {sv : SV} {n c bytes : Nat} {p : Int × Int} {ad : Addr} {ie : TypeInfo} {z : Value} (pre post : List (Nat × Obj)) (hs : ev l s = some (sv.val n)) (hx : ev l x = some (.slice (some ad) 1 c)) (hm : m = pre ++ (sv.mem e (cellsP xs) ++ post)) (hok : sv.ok 2 n (cellsP xs))
    (hu : P.underlying t = some (.slice e)) (hie : P.info? e = some ie) (hz : ie.zero = some z) (hsz : ie.size = 2) (hby : ie.bytes = bytes) (hzs : z.cells.size = 2)
    (hnew : ∀ w, Hp w0 w1 m w → w.cell? (ad.add 0) = some (.int .i64 p.1) ∧ w.cell? (ad.add 1) = some (.int .i64 p.2)) (hn : (n + 1) * bytes ≤ 140737488355328) (h63 : n + 1 ≤ maxLen) :
    Tr (ι := SV × List (Nat × Obj)) P ro N ds l w0 w1 m ⟨dst, .call ⟨.builtin .append, #[s, x], #[t, t]⟩, ty, pos, aft, gd⟩ (fun y => (y.1.ok 2 (n + 1) (cellsP (xs ++ [p])) ∧ ∃ b cap j, y.1 = .own b cap j) ∧ ∀ q ∈ (sv.mem e (cellsP xs)).map (·.1), q ∈ (y.1.mem e (cellsP (xs ++ [p])) ++ y.2).map (·.1)) (fun y => y.1.val (n + 1)) (fun _ => w1) (fun y => pre ++ (y.1.mem e (cellsP (xs ++ [p])) ++ (y.2 ++ post))) := by
  have := t_appendN' (P := P) (ro := ro) (N := N) (ds := ds) (l := l) (w0 := w0) (w1 := w1) (m := m) (dst := dst) (ty := ty) (pos := pos) (aft := aft) (gd := gd) (news := [.int .i64 p.1, .int .i64 p.2]) (k := 1) pre post hs hx hm hok hu hie hz hsz hby hzs (by decide)
    (fun w h j u hj => match j, hj with | 0, hj => by cases hj; exact (hnew w h).1 | 1, hj => by cases hj; exact (hnew w h).2 | j + 2, hj => by simp at hj) rfl rfl (by decide) hn h63
  simpa only [cellsP_app, cellsP] using this
theorem t_appendP0 {t e : TypeId} {s x : Operand} {sv : SV} {n c bytes : Nat} {p : Int × Int} {ad : Addr} {ie : TypeInfo} {z : Value} (post : List (Nat × Obj)) (hs : ev l s = some (sv.val n)) (hx : ev l x = some (.slice (some ad) 1 c)) (hm : m = sv.mem e (cellsP xs) ++ post) (hok : sv.ok 2 n (cellsP xs))
    (hu : P.underlying t = some (.slice e)) (hie : P.info? e = some ie) (hz : ie.zero = some z) (hsz : ie.size = 2) (hby : ie.bytes = bytes) (hzs : z.cells.size = 2)
    (hnew : ∀ w, Hp w0 w1 m w → w.cell? (ad.add 0) = some (.int .i64 p.1) ∧ w.cell? (ad.add 1) = some (.int .i64 p.2)) (hn : (n + 1) * bytes ≤ 140737488355328) (h63 : n + 1 ≤ maxLen) :
    Tr (ι := SV × List (Nat × Obj)) P ro N ds l w0 w1 m ⟨dst, .call ⟨.builtin .append, #[s, x], #[t, t]⟩, ty, pos, aft, gd⟩ (fun y => (y.1.ok 2 (n + 1) (cellsP (xs ++ [p])) ∧ ∃ b cap j, y.1 = .own b cap j) ∧ ∀ q ∈ (sv.mem e (cellsP xs)).map (·.1), q ∈ (y.1.mem e (cellsP (xs ++ [p])) ++ y.2).map (·.1)) (fun y => y.1.val (n + 1)) (fun _ => w1) (fun y => y.1.mem e (cellsP (xs ++ [p])) ++ (y.2 ++ post)) :=
  t_appendP [] post hs hx hm hok hu hie hz hsz hby hzs hnew hn h63
theorem t_appendLn {α : Type} {enc : α → Value} {xs : List α} {t e : TypeId} {s x : Operand} {sv : SV} {n c bytes : Nat} {v : α} {ad : Addr} {ie : TypeInfo} {z : Value} (pre post : List (Nat × Obj)) (hs : ev l s = some (sv.val n)) (hx : ev l x = some (.slice (some ad) 1 c)) (hm : m = pre ++ (sv.mem e (xs.map enc) ++ post)) (hok : sv.ok 1 n (xs.map enc))
    (hu : P.underlying t = some (.slice e)) (hie : P.info? e = some ie) (hz : ie.zero = some z) (hsz : ie.size = 1) (hby : ie.bytes = bytes) (hzs : z.cells.size = 1)
    (hnew : ∀ w, Hp w0 w1 m w → w.cell? (ad.add 0) = some (enc v)) (h1 : (enc v).oneCell' = true) (hn : (n + 1) * bytes ≤ 140737488355328) (h63 : n + 1 ≤ maxLen) :
    Tr (ι := SV × List (Nat × Obj)) P ro N ds l w0 w1 m ⟨dst, .call ⟨.builtin .append, #[s, x], #[t, t]⟩, ty, pos, aft, gd⟩ (fun y => (y.1.ok 1 (n + 1) ((xs ++ [v]).map enc) ∧ ∃ b cap j, y.1 = .own b cap j) ∧ ∀ q ∈ (sv.mem e (xs.map enc)).map (·.1), q ∈ (y.1.mem e ((xs ++ [v]).map enc) ++ y.2).map (·.1)) (fun y => y.1.val (n + 1)) (fun _ => w1) (fun y => pre ++ (y.1.mem e ((xs ++ [v]).map enc) ++ (y.2 ++ post))) := by
  have := t_appendN' (P := P) (ro := ro) (N := N) (ds := ds) (l := l) (w0 := w0) (w1 := w1) (m := m) (dst := dst) (ty := ty) (pos := pos) (aft := aft) (gd := gd) (news := [enc v]) pre post hs hx hm hok hu hie hz hsz hby hzs (by decide) (fun w h j u hj => match j, hj with | 0, hj => by cases hj; exact hnew w h | j + 1, hj => by simp at hj) rfl (by simp [h1]) (by decide) hn h63
  simpa only [List.map_append, List.map_cons, List.map_nil] using this
theorem pair_new {w : World} {i b : Nat} {p : Int × Int} {t fr} (h : Hp w0 w1 m w) (hi : m[i]? = some (b, .cells [.int .i64 p.1, .int .i64 p.2].toArray t fr)) : w.cell? ((⟨b, 0, none⟩ : Addr).add 0) = some (.int .i64 p.1) ∧ w.cell? ((⟨b, 0, none⟩ : Addr).add 1) = some (.int .i64 p.2) := by
  have hb := at_of h hi
  rw [add_at, add_at]
  constructor <;> simp [World.cell?, hb]
/-- A row appended to a row of the call's own. -/
theorem t_appendRP {t e : TypeId} {s x : Operand} {sv : SV} {n bytes : Nat} {v : Value} {ie : TypeInfo} {z : Value} (pre post : List (Nat × Obj)) (hs : ev l s = some (sv.val n)) (hx : ev l x = some v) (hm : m = pre ++ (sv.mem e (cellsP xs) ++ post)) (hok : sv.ok 2 n (cellsP xs))
    (hu : P.underlying t = some (.slice e)) (hie : P.info? e = some ie) (hz : ie.zero = some z) (hsz : ie.size = 2) (hby : ie.bytes = bytes) (hzs : z.cells.size = 2)
    (hnew : ∀ w, Hp w0 w1 m w → RdP w v ys) (hn : (n + ys.length) * bytes ≤ 140737488355328) (h63 : n + ys.length ≤ maxLen) :
    Tr (ι := SV × List (Nat × Obj)) P ro N ds l w0 w1 m ⟨dst, .call ⟨.builtin .append, #[s, x], #[t, t]⟩, ty, pos, aft, gd⟩ (fun y => y.1.ok 2 (n + ys.length) (cellsP (xs ++ ys))) (fun y => y.1.val (n + ys.length)) (fun _ => w1) (fun y => pre ++ (y.1.mem e (cellsP (xs ++ ys)) ++ (y.2 ++ post))) := fun a w ha hw => by
  obtain ⟨A, c, rfl, hc, hrd⟩ := hnew w hw
  by_cases h0 : ys = []
  · subst h0
    have hempty : (Builtin.append_ #[t, t] ty #[sv.val n, .slice A 0 c]).run P w = .ok (sv.val n) w := by
      have hf : (Builtin.firstCells ie.size 0 (.slice A 0 c)).run P w = .ok #[] w := by
        cases A with
        | none => simpa using run_firstCells_none (P := P) w ie.size 0 0 c
        | some a => simpa using run_firstCells_some (P := P) w ie.size 0 a 0 c [] (by simp) (fun j v h => by simp at h)
      cases sv with
      | nil =>
        obtain ⟨rfl, _⟩ := hok
        simp [SV.val, Builtin.append_, run_underlying hu, sizeOf, typeInfo, hie, Builtin.lenOf, hf]
      | own b cap jk =>
        obtain ⟨h1, _⟩ := hok
        simp [SV.val, Builtin.append_, run_underlying hu, sizeOf, typeInfo, hie, Builtin.lenOf, hf, h1, storeCells]
    refine .inl ⟨sv.val n, w, ?_, (sv, []), by simpa using hok, rfl, ?_⟩
    · simp only [execOp, resolve, List.map_toArray, List.map_cons, List.map_nil, ha.eval hs, ha.eval hx]
      exact ok_value hempty
    · subst hm
      simpa using hw
  · have hk : 0 < ys.length := by
      cases ys with
      | nil => exact absurd rfl h0
      | cons y ys => simp
    obtain ⟨ad, rfl⟩ : ∃ ad, A = some ad := by
      obtain ⟨ad, ha, _⟩ := hrd 0 ys[0] (List.getElem?_eq_getElem hk)
      exact ⟨ad, ha⟩
    have hx' : ev l x = some (.slice (some ad) ys.length c) := hx
    have := t_append (P := P) (ro := ro) (N := N) (ds := ds) (l := l) (w0 := w0) (w1 := w1) (m := m) (dst := dst) (ty := ty) (pos := pos) (aft := aft) (gd := gd) (news := cellsP ys) (k := ys.length) pre post hs hx' hm hok hu hie hz hsz hby hzs (by decide)
      (fun w' h' j u hj => by
        have hlt := (List.getElem?_eq_some_iff.1 hj).1
        rw [cellsP_len] at hlt
        have hd : ys[j / 2]? = some ys[j / 2] := List.getElem?_eq_getElem (by omega)
        obtain ⟨A', c', e0, _, hrd'⟩ := hnew w' h'
        obtain ⟨ad', e1, h1, h2⟩ := hrd' (j / 2) _ hd
        simp only [Value.slice.injEq] at e0
        rw [← e0.1] at e1
        cases e1
        obtain ⟨f1, f2⟩ := cellsP_at hd
        rcases Nat.mod_two_eq_zero_or_one j with h3 | h3
        · rw [show 2 * (j / 2) = j by omega] at f1 h1
          rw [f1] at hj; cases hj; exact h1
        · rw [show 2 * (j / 2) + 1 = j by omega] at f2 h2
          rw [f2] at hj; cases hj; exact h2) (by rw [cellsP_len]; omega) (cellsP_one ys) hk hn h63
    have h2 := this a w ha hw
    rw [cellsP_app]
    exact h2.mono fun v' w' ⟨y, hy, hv, hh⟩ => ⟨y, hy.1, hv, hh⟩
theorem t_appendRP0 {t e : TypeId} {s x : Operand} {sv : SV} {n bytes : Nat} {v : Value} {ie : TypeInfo} {z : Value} (post : List (Nat × Obj)) (hs : ev l s = some (sv.val n)) (hx : ev l x = some v) (hm : m = sv.mem e (cellsP xs) ++ post) (hok : sv.ok 2 n (cellsP xs))
    (hu : P.underlying t = some (.slice e)) (hie : P.info? e = some ie) (hz : ie.zero = some z) (hsz : ie.size = 2) (hby : ie.bytes = bytes) (hzs : z.cells.size = 2)
    (hnew : ∀ w, Hp w0 w1 m w → RdP w v ys) (hn : (n + ys.length) * bytes ≤ 140737488355328) (h63 : n + ys.length ≤ maxLen) :
    Tr (ι := SV × List (Nat × Obj)) P ro N ds l w0 w1 m ⟨dst, .call ⟨.builtin .append, #[s, x], #[t, t]⟩, ty, pos, aft, gd⟩ (fun y => y.1.ok 2 (n + ys.length) (cellsP (xs ++ ys))) (fun y => y.1.val (n + ys.length)) (fun _ => w1) (fun y => y.1.mem e (cellsP (xs ++ ys)) ++ (y.2 ++ post)) :=
  t_appendRP [] post hs hx hm hok hu hie hz hsz hby hzs hnew hn h63
/-- An operation whose guard's own operation was left out. -/
theorem s_noU {N : Nat} {ds : List Deferred} {l : List (Nat × Value)} {w0 w1 : World} {m : List (Nat × Obj)} {P : Program} {ro : Option Nat} {ops : Array Oper} {Q : Exit → Act → World → Prop} {rest : List Oper} {d j t : Nat} {want : Bool} {o : Oper} (hgd : o.guard = some (j, want)) (hj : (ops[j]?).bind (·.dst) = some t) (hv : Sx.get t l = some undef) (hd : o.dst = some d) (hdN : Nat.blt d N = true)
    (k : G N ds ((d, undef) :: l) w0 w1 m (wpListIn (Wd ro) 0 P ops Q rest)) : G N ds l w0 w1 m (wpListIn (Wd ro) 0 P ops Q (o :: rest)) := fun a w ha hw => by
  have hdN' : d < N := by simpa [Nat.blt_eq] using hdN
  have h0 := ha.at_ t _ hv
  have : Region.wanted o (yielded ops a.tmps) = false := by
    unfold Region.wanted
    simp only [hgd, yielded, hj, Option.bind_some, h0]
    cases want <;> rfl
  simp only [wpListIn, this]
  refine ⟨fun _ _ => trivial, ?_⟩
  rw [hd]
  exact k _ _ (ha.put hdN' _) hw
theorem j_noU {C : World → Prop} {q f : Nat} {L : Array Bool} {l : List (Nat × Value)} {i d j t : Nat} {want : Bool} {o : Oper} (hi : ops[i]? = some o) (hs : Region.noSelect ops = true) (hf : Region.free .any ops L i = true) (hr : (Region.ready .any ops L).contains i = true)
    (hgd : o.guard = some (j, want)) (hj : (ops[j]?).bind (·.dst) = some t) (hv : Sx.get t l = some undef) (hp : plainOp o.op = true) (hiq : Nat.beq i q = false) (hd : o.dst = some d) (hdN : Nat.blt d N = true) (hC : L.getD q false = true ∨ ∀ w, Hp w0 w1 m w → C w)
    (k : GJ N ds ((d, undef) :: l) w0 w1 m P ro ops Q q C f (L.setIfInBounds i true)) : GJ N ds l w0 w1 m P ro ops Q q C (f + 1) L :=
  j_core hi hs hf hr hp hiq hd hdN hC (fun a haa => .inr ⟨by
    have h0 := haa.at_ t _ hv
    unfold Region.wanted
    simp only [hgd, yielded, hj, Option.bind_some, h0]
    cases want <;> rfl, rfl⟩) k
theorem y_ldCn {x t b off n t' fr} {c cs : List Value} (hb : ∀ w, C w → w.heap[b]? = some (Obj.cells c.toArray t' fr)) (hx : ev l x = some (.pointer (some ⟨b, off, none⟩))) (ht : isAggB P t = some true) (hn : (P.info? t).map (·.size) = some n) (hc : (c.drop off).take n = cs) (hl : cs.length = n) : Yv P N ds l C ⟨dst, .load t x, ty, pos, aft, gd⟩ (.agg cs.toArray) :=
  y_load hx fun w h => run_loadn ht hn hl (fun j v hj => by
    subst hc
    rw [add_at]
    have := hb w h
    rw [List.getElem?_take] at hj
    split at hj
    · rw [List.getElem?_drop] at hj
      simp [World.cell?, this, hj]
    · cases hj)
/-- The end of a walk with nothing deferred: all that is known is handed on. -/
theorem g_end0 {l : List (Nat × Value)} {fn : Func} {R : Ending → World → Prop} {v : Value} (hres : ∀ a w, Has N [] l a → Hq w0 w1 m w → (results fn a.tmps).run P w = .ok v w) (hR : ∀ w, Hp w0 w1 m w → R (.returned v) w) :
    G N [] l w0 w1 m (bodyPostM (Wd none) 0 P fn R .ret) := fun a w ha hw => by
  show LeavesInM (Wd none) 0 P fn a.tmps R a.defers .returning w
  rw [ha.defers]
  exact ⟨v, hres a w ha hw.toHq, hR w hw⟩
end
end Go.Sx
