/- edits: Clone into a block, Reverse, Compact, once, IsWay. -/
import Derived.Test.YtnnpdgegejklpaaEdV
import Derived.Test.YtnnpdgegejklpaaOvRep
import Derived.Test.YtnnpdgegejklpaaSxG
import Derived.Test.YtnnpdgegejklpaaEdCk
namespace Go.Proofs.Ytnnpdgegejklpaa
open Go.RowKit Go.Sx Go.WideMaps Go.Sort Go.Lib
set_option linter.unusedVariables false
set_option linter.unusedSimpArgs false
set_option maxRecDepth 100000
set_option maxHeartbeats 4000000

private theorem sle_46 : Try.prog.underlying 46 = some (.slice (Try.prog.elem 46)) := by kernel_rfl
private theorem inf_3 : ∃ ie, Try.prog.info? 3 = some ie ∧ ie.zero = some (.int .i64 0) ∧ ie.size = 1 ∧ ie.bytes = 8 := info_of (by kernel_rfl) (by kernel_rfl)
private theorem size_3 : (Try.prog.info? 3).map (·.size) = some 1 := by kernel_rfl
private theorem agg_3 : isAggB Try.prog 3 = some false := by kernel_rfl
private theorem ent_59 : Enters Try.prog 59 := enters_of Try.func59 (by kernel_rfl) rfl
private theorem ent_87 : Enters Try.prog 87 := enters_of Try.func87 (by kernel_rfl) rfl
private theorem sle_74 : Try.prog.underlying 74 = some (.slice (Try.prog.elem 74)) := by kernel_rfl
private theorem size_79 : (Try.prog.info? 79).map (·.size) = some 2 := by kernel_rfl
private theorem agg_79 : isAggB Try.prog 79 = some true := by kernel_rfl
private theorem zero_79 : (Try.prog.info? 79).bind (·.zero) = some (.agg #[(.int .i64 0), (.int .i64 0)]) := by kernel_rfl
private theorem bld_79_  (w : World) : (Instr.build 79 #[]).run Try.prog w = .ok (.agg #[(.int .i64 0), (.int .i64 0)]) w := by kernel_rfl
private theorem fia_79_0 (b off : Nat) (w : World) : (Instr.indexAt 79 (.pointer (some ⟨b, off, none⟩)) (.int .i64 0)).run Try.prog w = .ok (.pointer (some ⟨b, off + 0, none⟩)) w := by kernel_rfl
private theorem fia_79_1 (b off : Nat) (w : World) : (Instr.indexAt 79 (.pointer (some ⟨b, off, none⟩)) (.int .i64 1)).run Try.prog w = .ok (.pointer (some ⟨b, off + 1, none⟩)) w := by kernel_rfl
private theorem fie_79_0 (ad : Addr) (w : World) : (Instr.indexAt 79 (.pointer (some ad)) (.int .i64 0)).run Try.prog w = .ok (.pointer (some (ad.add 0))) w := by kernel_rfl
private theorem fie_79_1 (ad : Addr) (w : World) : (Instr.indexAt 79 (.pointer (some ad)) (.int .i64 1)).run Try.prog w = .ok (.pointer (some (ad.add 1))) w := by kernel_rfl
private theorem bld_79_0_1 (x0 : Int) (x1 : Int) (w : World) : (Instr.build 79 #[(0, (.int .i64 x0)), (1, (.int .i64 x1))]).run Try.prog w = .ok (.agg #[(.int .i64 x0), (.int .i64 x1)]) w := by kernel_rfl

theorem rdI_getElem {xs : List Int} {j : Nat} (h : j < xs.length) : rdI xs (j : Int) = xs[j] := by simp [rdI_nat, List.getD_eq_getElem?_getD, h]
theorem Hq_toB {w0 w1 w : World} {m m' : List (Nat × Obj)} (h : Hq w0 w1 m w) (e : m = m') : Hq w0 w1 m' w := e ▸ h

theorem Clone_blk (w : World) (a : Addr) (n c : Nat) (xs : List Int) (hv : RdV (Value.int .i64) w (.slice (some a) n c) xs) (hl : xs.length ≤ 1000000) (hne : xs ≠ []) :
    Calls Try.prog 59 [.slice (some a) n c].toArray w fun e w' => ∃ y : Nat × Nat × List Value, (xs.length ≤ y.2.1 ∧ y.2.1 ≤ 9223372036854775807) ∧ e = .returned (.slice (some ⟨y.1, 0, none⟩) xs.length y.2.1) ∧ Hq w w [(y.1, .cells ((xs).map (Value.int .i64) ++ y.2.2).toArray 3 (0, 0))] w' := by
  obtain ⟨ie3, hi3⟩ := inf_3
  refine enter (N := 8) Try.func59 rfl rfl rfl ?_
  refine g_seq ?_
  refine g_region ?_
  refine s_y (y_assign rfl) rfl rfl rfl rfl ?_
  refine s_nil ?_
  refine g_then ?_
  refine g_seq ?_
  refine g_seq ?_
  refine g_region ?_
  refine s_y (y_move rfl) rfl rfl rfl rfl ?_
  refine s_y (y_eqnil rfl rfl sle_46 (fun w => by kernel_rfl)) rfl rfl rfl rfl ?_
  refine s_nil ?_
  refine g_then ?_
  refine g_cond_f rfl ?_
  refine g_skip ?_
  refine g_then ?_
  refine g_seq ?_
  refine g_region ?_
  refine s_tr (t_build0 (enc := (Value.int .i64)) Try.underlying46 hi3.1) rfl rfl rfl rfl (fun be hbe => ?_)
  have hok1 : (SV.own be 0 []).ok 1 0 (List.map (Value.int .i64) []) := ⟨Nat.le_refl _, Nat.zero_le _, rfl, rfl⟩
  refine s_y (y_move rfl) rfl rfl rfl rfl ?_
  refine s_tr (t_appendR0 (enc := (Value.int .i64)) (sv := (SV.own be 0 [])) (xs := []) (ys := xs) (n := 0)  _ rfl rfl rfl hok1 Try.underlying46 hi3.1 hi3.2.1 hi3.2.2.1 hi3.2.2.2 rfl (fun w h => (hv.below h.below)) (fun _ => rfl) (by omega) (by unfold maxLen; omega)) rfl rfl rfl rfl (fun y5 hok4 => ?_)
  obtain ⟨sv2, gs3⟩ := y5
  refine s_y (y_assign rfl) rfl rfl rfl rfl ?_
  refine s_nil ?_
  refine g_then ?_
  refine g_ret ?_
  have hok_ := hok4
  have hxs_ : ([] : List Int) ++ xs = xs := List.nil_append xs
  cases sv2 with
  | nil => exact absurd (by obtain ⟨_, h_⟩ := hok_; simpa using h_) hne
  | own bb cap jk =>
    obtain ⟨h1, h2, h3, h4⟩ := id hok_
    exact g_end trivial (fun a w ha hq_ => res1 ha rfl rfl  w) (fun w h => ⟨(bb, cap, jk), ⟨by simp at h1; omega, h2⟩, by simp [SV.val], Hq_toB (h.hand (sub_here ((SV.own bb cap jk).mem 3 ((([]) ++ xs).map (Value.int .i64))) _)) rfl⟩)

theorem Clone_own (w : World) (v : Value) (xs : List Int) (hv : RdV (Value.int .i64) w v xs) (hl : xs.length ≤ 1000000) (hne : 1 ≤ xs.length) : Calls Try.prog 59 [v].toArray w fun e w' => ∃ y : Nat × Nat × List Value, (xs.length ≤ y.2.1 ∧ y.2.1 ≤ 9223372036854775807) ∧ e = .returned (.slice (some ⟨y.1, 0, none⟩) xs.length y.2.1) ∧ Hq w w [(y.1, .cells ((xs).map (Value.int .i64) ++ y.2.2).toArray 3 (0, 0))] w' := by
  have hn : xs ≠ [] := fun h => by rw [h] at hne; simp at hne
  obtain ⟨A, c, rfl, hc, hr⟩ := id hv
  cases A with
  | none =>
    obtain ⟨ad, h, _⟩ := hr 0 (rdI xs ((0 : Nat) : Int)) (by have := rdI_at (xs := xs) (i := ((0 : Nat) : Int)) (by omega) (by omega); simpa using this)
    cases h
  | some a => exact Clone_blk w a _ c xs hv hl hn

/-- The first i and the last i of a row exchanged. -/
def RevI (zs ys : List Int) (i : Nat) : Prop := ys.length = zs.length ∧ ∀ k : Nat, k < zs.length → rdI ys (k : Int) = if k < i ∨ zs.length ≤ k + i then rdI zs ((zs.length - 1 - k : Nat) : Int) else rdI zs (k : Int)
theorem RevI.start (zs : List Int) : RevI zs zs 0 := ⟨rfl, fun k hk => by rw [if_neg (by omega)]⟩
theorem rdI_set {xs : List Int} {i k : Nat} {v : Int} (hi : i < xs.length) : rdI (xs.set i v) (k : Int) = if i = k then v else rdI xs (k : Int) := by
  simp only [rdI, Int.toNat_natCast, List.getD_eq_getElem?_getD, List.getElem?_set]
  by_cases c : i = k
  · subst c; simp [hi]
  · simp [c]
theorem RevI.step {zs ys : List Int} {i : Nat} {j : Int} (h : RevI zs ys i) (hj : j = (zs.length : Int) - 1 - i) (hij : (i : Int) < j) :
    RevI zs ((ys.set ((i : Int)).toNat (rdI ys j)).set j.toNat (rdI ys (i : Int))) (i + 1) := by
  obtain ⟨n, rfl⟩ : ∃ n : Nat, j = n := ⟨j.toNat, by omega⟩
  obtain ⟨hl, hr⟩ := h
  refine ⟨by simp [hl], fun k hk => ?_⟩
  simp only [Int.toNat_natCast]
  rw [rdI_set (by simp; omega), rdI_set (by omega), hr n (by omega), hr i (by omega), hr k hk]
  have e1 : ¬ (n < i ∨ zs.length ≤ n + i) := by omega
  have e2 : ¬ (i < i ∨ zs.length ≤ i + i) := by omega
  rw [if_neg e1, if_neg e2]
  by_cases c : n = k
  · subst c
    rw [if_pos rfl, if_pos (by omega), show zs.length - 1 - n = i by omega]
  · rw [if_neg c]
    by_cases c2 : i = k
    · subst c2
      rw [if_pos rfl, if_pos (by omega), show zs.length - 1 - i = n by omega]
    · rw [if_neg c2]
      by_cases c3 : k < i ∨ zs.length ≤ k + i
      · rw [if_pos c3, if_pos (by omega)]
      · rw [if_neg c3, if_neg (by omega)]
theorem RevI.done {zs ys : List Int} {i : Nat} (h : RevI zs ys i) (hi : ¬ (i : Int) < (zs.length : Int) - 1 - i) : ys = zs.reverse := by
  obtain ⟨hl, hr⟩ := h
  refine rdI_ext (by simp [hl]) fun k hk => ?_
  rw [hl] at hk
  rw [hr k hk, rdI_getElem (xs := zs.reverse) (by simpa using hk), List.getElem_reverse, ← rdI_getElem]
  by_cases c : k < i ∨ zs.length ≤ k + i
  · rw [if_pos c]
  · rw [if_neg c, show zs.length - 1 - k = k by omega]

theorem Rev_own {w0 w1 w : World} {m : List (Nat × Obj)} {b cap : Nat} {zs : List Int} {jk : List Value} (hw : Hp w0 w1 ((b, .cells (zs.map (Value.int .i64) ++ jk).toArray 3 (0, 0)) :: (m ++ [])) w) (hl : zs.length ≤ 1000) :
    Calls Try.prog 60 [.slice (some ⟨b, 0, none⟩) zs.length cap].toArray w fun e w' => e = .returned (.tuple #[]) ∧ Hp w0 w1 ((b, .cells (zs.reverse.map (Value.int .i64) ++ jk).toArray 3 (0, 0)) :: (m ++ [])) w' := by
  refine enterM (N := 28) Try.func60 rfl rfl rfl hw ?_
  refine g_seq ?_
  refine g_region ?_
  refine s_y (y_move rfl) rfl rfl rfl rfl ?_
  refine s_y (y_lensl rfl sle_46) rfl rfl rfl rfl ?_
  refine s_y (y_sub rfl rfl (by omega) (by omega)) rfl rfl rfl rfl ?_
  refine s_y (y_assign rfl) rfl rfl rfl rfl ?_
  refine s_y (y_assign rfl) rfl rfl rfl rfl ?_
  refine s_nil ?_
  refine g_then ?_
  refine g_block ?_
  refine g_loop (fun (i : Nat) act W => True ∧ ∃ (ys : List Int) (z : Int) , (RevI zs ys i) ∧ (z = (zs.length : Int) - 1 - i) ∧ Has 28 [] [(0, .slice (some ⟨b, 0, none⟩) zs.length cap), (2, .int .i64 (i : Int)), (3, .int .i64 z)] act ∧ Hp w0 w1 ((b, .cells (ys.map (Value.int .i64) ++ jk).toArray 3 (0, 0)) :: (m ++ ([]))) W) (fun i => zs.length - i) 0 (fun act W ha hw => ⟨trivial, zs, (zs.length : Int) - 1, (by exact RevI.start zs), (by omega), ha.weak (sub_get ⟨rfl, rfl, rfl, trivial⟩), hw ⟩) ?_
  intro i act W ⟨hb_i, ys, z, hR, hz, ha, hw⟩
  refine g_go ha hw ?_
  clear ha hw act W
  have hyl : ys.length = zs.length := hR.1
  refine g_seq ?_
  refine g_seq ?_
  refine g_region ?_
  refine s_y (y_move rfl) rfl rfl rfl rfl ?_
  refine s_y (y_move rfl) rfl rfl rfl rfl ?_
  refine s_y (y_lss rfl rfl) rfl rfl rfl rfl ?_
  refine s_nil ?_
  refine g_then ?_
  refine g_cond rfl (fun cq1 => ?_) (fun cq1 => ?_)
  · (try simp at cq1)
    refine g_skip ?_
    refine g_then ?_
    refine g_seq ?_
    refine g_block ?_
    refine g_draw 13 (by kernel_rfl) ?_
    refine j_p (i := 0) rfl (y_move rfl) (by kernel_rfl) (by kernel_rfl) (by kernel_rfl) rfl rfl rfl rfl rfl (.inr (fun _ h => h)) ?_
    refine j_p (i := 1) rfl (y_move rfl) (by kernel_rfl) (by kernel_rfl) (by kernel_rfl) rfl rfl rfl rfl rfl (.inr (fun _ h => h)) ?_
    refine j_p (i := 2) rfl (y_move rfl) (by kernel_rfl) (by kernel_rfl) (by kernel_rfl) rfl rfl rfl rfl rfl (.inr (fun _ h => h)) ?_
    refine j_p (i := 3) rfl (y_move rfl) (by kernel_rfl) (by kernel_rfl) (by kernel_rfl) rfl rfl rfl rfl rfl (.inr (fun _ h => h)) ?_
    refine j_p (i := 4) rfl (y_move rfl) (by kernel_rfl) (by kernel_rfl) (by kernel_rfl) rfl rfl rfl rfl rfl (.inr (fun _ h => h)) ?_
    refine j_p (i := 5) rfl (y_move rfl) (by kernel_rfl) (by kernel_rfl) (by kernel_rfl) rfl rfl rfl rfl rfl (.inr (fun _ h => h)) ?_
    refine j_p (i := 6) rfl (y_idxb1 rfl rfl Try.underlying46 size_3 (by omega) (by omega)) (by kernel_rfl) (by kernel_rfl) (by kernel_rfl) rfl rfl rfl rfl rfl (.inr (fun _ h => h)) ?_
    refine j_l (i := 7) rfl (y_ldL (enc := (Value.int .i64)) (xs := ys) (jk := jk) 0 rfl rfl agg_3 (rdI_at (by omega) (by omega))) (by kernel_rfl) (by kernel_rfl) (by kernel_rfl) (by kernel_rfl) rfl rfl rfl rfl rfl (.inr (fun _ h => h)) ?_
    refine j_p (i := 8) rfl (y_move rfl) (by kernel_rfl) (by kernel_rfl) (by kernel_rfl) rfl rfl rfl rfl rfl (.inr (fun _ h => h)) ?_
    refine j_p (i := 9) rfl (y_move rfl) (by kernel_rfl) (by kernel_rfl) (by kernel_rfl) rfl rfl rfl rfl rfl (.inr (fun _ h => h)) ?_
    refine j_p (i := 10) rfl (y_idxb1 rfl rfl Try.underlying46 size_3 (by omega) (by omega)) (by kernel_rfl) (by kernel_rfl) (by kernel_rfl) rfl rfl rfl rfl rfl (.inr (fun _ h => h)) ?_
    refine j_l (i := 11) rfl (y_ldL (enc := (Value.int .i64)) (xs := ys) (jk := jk) 0 rfl rfl agg_3 (rdI_at (by omega) (by omega))) (by kernel_rfl) (by kernel_rfl) (by kernel_rfl) (by kernel_rfl) rfl rfl rfl rfl rfl (.inr (fun _ h => h)) ?_
    refine j_p (i := 12) rfl (y_idxb1 rfl rfl Try.underlying46 size_3 (by omega) (by omega)) (by kernel_rfl) (by kernel_rfl) (by kernel_rfl) rfl rfl rfl rfl rfl (.inr (fun _ h => h)) ?_
    refine j_tr0 (i := 13) rfl (t_storeL (enc := (Value.int .i64)) (v := rdI ys z) (xs := ys) (jk := jk) 0 rfl rfl rfl rfl rfl size_3 (by omega)) (by kernel_rfl) rfl rfl rfl (.inl rfl) (fun _ _ => ?_)
    refine j_p (i := 14) rfl (y_idxb1 rfl rfl Try.underlying46 size_3 (by omega) (by omega)) (by kernel_rfl) (by kernel_rfl) (by kernel_rfl) rfl rfl rfl rfl rfl (.inl rfl) ?_
    refine j_tr0 (i := 15) rfl (t_storeL (enc := (Value.int .i64)) (v := rdI ys (i : Int)) (xs := ys.set (((i : Int) : Int).toNat) (rdI ys z)) (jk := jk) 0 rfl rfl rfl rfl rfl size_3 (by rw [List.length_set]; omega)) (by kernel_rfl) rfl rfl rfl (.inl rfl) (fun _ _ => ?_)
    refine j_nil (by kernel_rfl) ?_
    refine g_inb ?_
    refine g_then ?_
    refine g_region ?_
    refine s_y (y_move rfl) rfl rfl rfl rfl ?_
    refine s_y (y_add rfl rfl (by omega) (by omega)) rfl rfl rfl rfl ?_
    refine s_y (y_move rfl) rfl rfl rfl rfl ?_
    refine s_y (y_sub rfl rfl (by omega) (by omega)) rfl rfl rfl rfl ?_
    refine s_y (y_assign rfl) rfl rfl rfl rfl ?_
    refine s_y (y_assign rfl) rfl rfl rfl rfl ?_
    refine s_nil ?_
    refine g_then ?_
    exact fun act W ha hw => ⟨i + 1, by omega, trivial, (ys.set (((i : Int) : Int).toNat) (rdI ys z)).set ((z : Int).toNat) (rdI ys (i : Int)), (z - 1), (by exact hR.step hz (by omega)), (by omega), ha.weak (sub_get ⟨rfl, rfl, rfl, trivial⟩), hw ⟩
  · (try simp at cq1)
    refine g_exit ?_
    refine g_thenx ?_
    refine g_thenx ?_
    refine g_inbx ?_
    rw [show ys = zs.reverse from hR.done (by omega)]
    exact g_end0 (fun a w ha hq_ => res0 rfl w) (fun w h => ⟨rfl, h⟩)

theorem holds_of {w : World} {b off : Nat} {c : List Value} {t : TypeId} {zs : List Int} (hb : w.heap[b]? = some (.cells c.toArray t (0, 0))) (hc : ∀ j, j < zs.length → c[off + j]? = some (Value.int .i64 (zs.getD j 0))) : Holds (Value.int .i64) w b off zs.toArray := by
  intro j hj
  have hj' : j < zs.length := by simpa using hj
  refine ⟨?_, ?_⟩
  · simp only [World.cell?, hb]
    have := hc j hj'
    simp only [List.getElem?_toArray, this]
    rw [List.getD_eq_getElem?_getD, List.getElem?_eq_getElem hj']
    simp [hj']
  · simp [World.frozen?, hb]
theorem putRow_heap {w : World} {b off : Nat} {c : Array Value} {t : TypeId} {fr : Nat × Nat} (hb : w.heap[b]? = some (.cells c t fr)) (q : Nat) (d : Array Int) : (putRow (Value.int .i64) (Go.Sort.ahead w q) b off d).heap[b]? = some (.cells (putCells (Value.int .i64) off d c) t fr) := by
  obtain ⟨hlt, hk⟩ := Array.getElem?_eq_some_iff.1 hb
  show (w.heap.modify b _)[b]? = _
  rw [Array.getElem?_eq_getElem (by rw [Array.size_modify]; exact hlt), Array.getElem_modify_self, hk]
  rfl


theorem put_cells {xs ys : List Int} {jk : List Value} (h : ys.length = xs.length) : putCells (Value.int .i64) 0 ys.toArray (xs.map (Value.int .i64) ++ jk).toArray = (ys.map (Value.int .i64) ++ jk).toArray := by
  apply Array.ext
  · simp [putCells, h]
  · intro k h1 h2
    simp only [putCells, Array.getElem_mapIdx]
    by_cases c : k < ys.length
    · rw [if_pos ⟨Nat.zero_le _, by simpa using c⟩]
      simp [List.getElem_append_left, c]
    · rw [if_neg (by simp; omega)]
      simp only [List.getElem_toArray]
      rw [List.getElem_append_right (by simp; omega), List.getElem_append_right (by simp; omega)]
      simp [h]
theorem cpt_len : ∀ (x : Int) (l : List Int), (tlC x l).length ≤ l.length
  | _, [] => Nat.le_refl _
  | x, y :: t => by
    have := cpt_len y t
    unfold tlC
    split <;> simp <;> omega
theorem cpt_le (xs : List Int) : (cpt xs).length ≤ xs.length := by
  cases xs with
  | nil => exact Nat.le_refl _
  | cons x l => have := cpt_len x l; simp [cpt]; omega
theorem compact_own {w0 w1 w : World} {m : List (Nat × Obj)} {b cap : Nat} {xs : List Int} {jk : List Value} (h : Hp w0 w1 ((b, .cells (xs.map (Value.int .i64) ++ jk).toArray 3 (0, 0)) :: m) w) (hl : xs.length ≤ 1000) (hc : xs.length ≤ cap) :
    Calls Try.prog 87 [.slice (some ⟨b, 0, none⟩) xs.length cap].toArray w fun e w' => ∃ W : World × List Value, True ∧ e = .returned (.slice (some ⟨b, 0, none⟩) (cpt xs).length cap) ∧ Hp w0 W.1 ((b, .cells ((cpt xs).map (Value.int .i64) ++ W.2).toArray 3 (0, 0)) :: m) w' := by
  have hb := h.at_ _ (List.mem_cons_self ..)
  have hH : Holds (Value.int .i64) w b 0 xs.toArray := holds_of hb fun j hj => by
    rw [Nat.zero_add, List.getElem?_append_left (by simpa using hj), List.getElem?_map, List.getElem?_eq_getElem hj, List.getD_eq_getElem?_getD, List.getElem?_eq_getElem hj]; rfl
  have := Any.slices_Compact_int laysCompact b 0 cap xs w hH (by omega) hc
  refine Calls.mono this ?_
  rintro e w' ⟨h1, q, h2⟩
  rw [compact_cpt] at h1 h2
  have hne : ∀ k, k ≠ b → w'.heap[k]? = w.heap[k]? := fun k hk => by
    rw [h2]
    show (w.heap.modify b _)[k]? = _
    rw [Array.getElem?_modify, if_neg (fun e => hk e.symm)]
  have hll := cpt_le xs
  have hh : w'.heap[b]? = some (.cells ((cpt xs).map (Value.int .i64) ++ ((List.replicate (xs.length - (cpt xs).length) (0 : Int)).map (Value.int .i64) ++ jk)).toArray 3 (0, 0)) := by
    rw [h2, putRow_heap hb q _, put_cells (by simp; omega)]
    simp
  exact ⟨(_, _), trivial, h1, h.turn (i := 0) (o' := .cells ((cpt xs).map (Value.int .i64) ++ ((List.replicate (xs.length - (cpt xs).length) (0 : Int)).map (Value.int .i64) ++ jk)).toArray 3 (0, 0)) rfl rfl (by rw [h2]; rfl) (by rw [h2]; rfl) (by rw [h2]; rfl) (by rw [h2]; show w.heap.size ≤ (w.heap.modify _ _).size; rw [Array.size_modify]; exact Nat.le_refl _) (fun k _ hk => hne k hk) hh⟩

theorem once_any (w : World) (v : Value) (xs : List Int) (hv : RdV (Value.int .i64) w v xs) (h1 : 1 ≤ xs.length) (h2 : xs.length ≤ 1000) :
    Calls Try.prog 58 [v].toArray w fun e w' => ∃ x : Value × List (Nat × Obj), (OwnV (Value.int .i64) x.1 (cpt xs) x.2 ∧ ∃ W : World, ∀ p ∈ x.2, W.heap[p.1]? = some p.2) ∧ e = .returned (x.1) ∧ Hq w w x.2 w' := by
  refine enter (N := 6) Try.func58 rfl rfl rfl ?_
  refine g_seq ?_
  refine g_region ?_
  refine s_y (y_assign rfl) rfl rfl rfl rfl ?_
  refine s_nil ?_
  refine g_then ?_
  refine g_seq ?_
  refine g_region ?_
  refine s_y (y_move rfl) rfl rfl rfl rfl ?_
  refine s_tr (t_callm (A := fun y : Nat × Nat × List Value => xs.length ≤ y.2.1 ∧ y.2.1 ≤ 9223372036854775807) (vf := fun y => .slice (some ⟨y.1, 0, none⟩) xs.length y.2.1) (mm := fun y => [(y.1, .cells ((xs).map (Value.int .i64) ++ y.2.2).toArray 3 (0, 0))]) rfl rfl ent_59 (fun w h => Clone_own w _ xs (hv.below h.below) (by omega) (by omega))) rfl rfl rfl rfl (fun y_ hy_ => ?_)
  obtain ⟨bc, cpc, jkc⟩ := y_
  have hcpc : xs.length ≤ cpc := hy_.1
  clear hy_
  refine s_tr (t_callx (ι := World × List Value) (A := fun _ => True) (vf := fun _ => .slice (some ⟨bc, 0, none⟩) (cpt xs).length cpc) (wf := fun y => y.1) (mf := fun y => (bc, .cells ((cpt xs).map (Value.int .i64) ++ y.2).toArray 3 (0, 0)) :: ([])) rfl rfl ent_87 (fun w h => by simp only [Array.append_empty, Array.empty_append]; exact compact_own h (by omega) hcpc)) rfl rfl rfl rfl (fun y2_ _ => ?_)
  refine s_y (y_assign rfl) rfl rfl rfl rfl ?_
  refine s_nil ?_
  refine g_then ?_
  refine g_ret ?_
  exact g_end trivial (fun a w ha hq_ => res1 ha rfl rfl  w) (fun w h => ⟨(_, _), ⟨(OwnV.blk rfl (Nat.le_trans (cpt_le xs) hcpc)), w, (h.hand (List.Sublist.refl _)).at_⟩, rfl, h.hand (List.Sublist.refl _)⟩)

theorem kN_le (a b : List Int) : kN a b < 40 := by
  unfold kN
  split
  · rename_i k h; exact List.mem_range.1 (List.mem_of_find?_eq_some h)
  · decide

theorem IsWay_t (w : World) (v v' v'' : Value) (a b : List Int) (ha : RdV (Value.int .i64) w v a) (hb : RdV (Value.int .i64) w v' b) (hma : melB a = true) (hmb_ : melB b = true) (hw_ : RdP w v'' (wayL a b)) :
    Calls Try.prog 57 [v, v', v''].toArray w fun e w' => e = .returned (.tuple #[.int .i64 (ovP a b 0 0), .bool true]) ∧ Below w.heap.size w w' := by
  obtain ⟨hal, hxa⟩ := melB_true.1 hma
  obtain ⟨hbl, hxb⟩ := melB_true.1 hmb_
  obtain ⟨ie3, hi3⟩ := inf_3
  refine enter (N := 137) Try.func57 rfl rfl rfl ?_
  refine g_seq ?_
  refine g_region ?_
  refine s_y (y_assign rfl) rfl rfl rfl rfl ?_
  refine s_y (y_assign rfl) rfl rfl rfl rfl ?_
  refine s_nil ?_
  refine g_then ?_
  refine g_seq ?_
  refine g_region ?_
  refine s_y (y_assign rfl) rfl rfl rfl rfl ?_
  refine s_nil ?_
  refine g_then ?_
  refine g_seq ?_
  refine g_seq ?_
  refine g_region ?_
  refine s_y (y_move rfl) rfl rfl rfl rfl ?_
  refine s_y (y_lenV (n := ((wayL a b).length)) rfl (by obtain ⟨A, c, h1, _⟩ := hw_; exact ⟨A, c, h1⟩) sle_74) rfl rfl rfl rfl ?_
  refine s_y (y_move rfl) rfl rfl rfl rfl ?_
  refine s_nil ?_
  refine g_then ?_
  refine g_block ?_
  refine g_loop (fun (k : Nat) act W => k ≤ (wayL a b).length ∧ ∃ (cst : Int) (w1 : World), (cst = wsum a b k) ∧ Has 137 [] [(0, v), (1, v'), (2, v''), (8, .int .i64 cst), (13, v''), (14, .int .i64 ((wayL a b).length : Nat)), (15, .int .i64 (k : Int))] act ∧ Hp w w1 ([]) W) (fun k => (wayL a b).length - k) 0 (fun act W ha hw => ⟨by omega, 0, W, (by rfl), ha.weak (sub_get ⟨rfl, rfl, rfl, rfl, rfl, rfl, rfl, trivial⟩), hw.toHq.lookSub (List.Sublist.refl _)⟩) ?_
  intro k act W ⟨hb_k, cst, w1, hcst, ha, hw⟩
  refine g_go ha hw ?_
  clear ha hw act W
  have hwb := way_bound hal hbl (mel_C hxa hxb) k
  have hwl := wayL_length a b
  have hkn := kN_le a b
  refine g_seq ?_
  refine g_region ?_
  refine s_y (y_lss rfl rfl) rfl rfl rfl rfl ?_
  refine s_nil ?_
  refine g_then ?_
  refine g_seq ?_
  refine g_cond rfl (fun cq1 => ?_) (fun cq1 => ?_)
  · (try simp at cq1)
    refine g_skip ?_
    refine g_then ?_
    refine g_seq ?_
    refine g_block ?_
    refine g_seq ?_
    refine g_region ?_
    refine s_y (y_move rfl) rfl rfl rfl rfl ?_
    refine s_y (y_idxP rfl rfl hw_ Try.underlying74 size_79 (by omega) (by omega)) rfl rfl rfl rfl ?_
    refine s_y (y_ldP (xs := (wayL a b)) (fun w h => hw_.rdl.below h.below) rfl agg_79 size_79 (rdP_at (by omega) (by omega))) rfl rfl rfl rfl ?_
    refine s_tr (t_alloc zero_79 rfl) rfl rfl rfl rfl (fun bp hbp => ?_)
    refine s_y (y_assign rfl) rfl rfl rfl rfl ?_
    refine s_tr0 (t_store 0 rfl rfl rfl rfl size_79 rfl rfl) rfl rfl rfl (fun _ _ => ?_)
    refine s_nil ?_
    refine g_then ?_
    refine g_seq ?_
    refine g_seq ?_
    have hat := way_at hal hbl (k := k) (by omega)
    have hst := fun h_ : 0 < k => way_step hal hbl (k := k) (by omega) h_
    refine g_region ?_
    refine s_y (y_move rfl) rfl rfl rfl rfl ?_
    refine s_y (y_eql rfl rfl) rfl rfl rfl rfl ?_
    refine s_y (y_move rfl) rfl rfl rfl rfl ?_
    refine g_bool 22 rfl (fun cq2 => ?_) (fun cq2 => ?_)
    · (try simp at cq2)
      have hf0 : (rdP (wayL a b) (k : Int)) = (0, 0) := by rw [show ((k : Nat) : Int) = 0 by omega]; exact way_first
      refine s_y (y_ldn 0 rfl rfl agg_79 size_79 rfl rfl) rfl rfl rfl rfl ?_
      refine s_y (y_build (vs := []) rfl rfl (fun w => bld_79_  w)) rfl rfl rfl rfl ?_
      refine s_y (y_neqP rfl rfl (fun w => by kernel_rfl) Try.underlying79 hi3.1 (by kernel_rfl) Try.underlying3 (by kernel_rfl)) rfl rfl rfl rfl ?_
      refine s_y (y_pick_t rfl rfl) rfl rfl rfl rfl ?_
      refine s_y (y_move rfl) rfl rfl rfl rfl ?_
      refine g_bool 27 rfl (fun cq3 => ?_) (fun cq3 => ?_)
      · (try simp at cq3)
        first | (simp [hf0] at cq3; done) | (rw [hf0] at cq3; simp at cq3; done)
      · (try simp at cq3)
        refine s_y (y_idxc rfl rfl (fun w => fia_79_0 _ _ w)) rfl rfl rfl rfl ?_
        refine s_y (y_ld1 0 rfl rfl agg_3 rfl) rfl rfl rfl rfl ?_
        refine s_y (y_lss_f rfl rfl (by omega)) rfl rfl rfl rfl ?_
        refine s_y (y_pick_f rfl rfl) rfl rfl rfl rfl ?_
        refine s_y (y_move rfl) rfl rfl rfl rfl ?_
        refine s_y (y_idxc rfl rfl (fun w => fia_79_1 _ _ w)) rfl rfl rfl rfl ?_
        refine s_y (y_ld1 0 rfl rfl agg_3 rfl) rfl rfl rfl rfl ?_
        refine s_y (y_lss_f rfl rfl (by omega)) rfl rfl rfl rfl ?_
        refine s_y (y_pick_f rfl rfl) rfl rfl rfl rfl ?_
        refine s_y (y_move rfl) rfl rfl rfl rfl ?_
        refine s_y (y_idxc rfl rfl (fun w => fia_79_0 _ _ w)) rfl rfl rfl rfl ?_
        refine s_y (y_ld1 0 rfl rfl agg_3 rfl) rfl rfl rfl rfl ?_
        refine s_y (y_move rfl) rfl rfl rfl rfl ?_
        refine s_y (y_lenV (n := a.length) rfl (by obtain ⟨A, c, h1, _⟩ := ha; exact ⟨A, c, h1⟩) sle_46) rfl rfl rfl rfl ?_
        refine s_y (y_geq_f rfl rfl (by omega)) rfl rfl rfl rfl ?_
        refine s_y (y_pick_f rfl rfl) rfl rfl rfl rfl ?_
        refine s_y (y_move rfl) rfl rfl rfl rfl ?_
        refine s_y (y_idxc rfl rfl (fun w => fia_79_1 _ _ w)) rfl rfl rfl rfl ?_
        refine s_y (y_ld1 0 rfl rfl agg_3 rfl) rfl rfl rfl rfl ?_
        refine s_y (y_move rfl) rfl rfl rfl rfl ?_
        refine s_y (y_lenV (n := b.length) rfl (by obtain ⟨A, c, h1, _⟩ := hb; exact ⟨A, c, h1⟩) sle_46) rfl rfl rfl rfl ?_
        refine s_y (y_geq_f rfl rfl (by omega)) rfl rfl rfl rfl ?_
        refine s_y (y_pick_f rfl rfl) rfl rfl rfl rfl ?_
        refine s_nil ?_
        refine g_then ?_
        refine g_cond_f rfl ?_
        refine g_skip ?_
        refine g_then ?_
        refine g_seq ?_
        refine g_seq ?_
        refine g_region ?_
        refine s_y (y_move rfl) rfl rfl rfl rfl ?_
        refine s_y (y_gtr rfl rfl) rfl rfl rfl rfl ?_
        refine s_nil ?_
        refine g_then ?_
        refine g_cond rfl (fun cq4 => ?_) (fun cq4 => ?_)
        · (try simp at cq4)
          refine g_seq ?_
          have hst2 := hst (by omega)
          have hat2 := way_at hal hbl (k := k - 1) (by omega)
          rw [show ((k - 1 : Nat) : Int) = (k : Int) - 1 by omega] at hat2
          refine g_draw 20 (by kernel_rfl) ?_
          refine j_p (i := 0) rfl (y_idxc rfl rfl (fun w => fia_79_0 _ _ w)) (by kernel_rfl) (by kernel_rfl) (by kernel_rfl) rfl rfl rfl rfl rfl (.inr (fun _ h => h)) ?_
          refine j_l (i := 1) rfl (y_ld1 0 rfl rfl agg_3 rfl) (by kernel_rfl) (by kernel_rfl) (by kernel_rfl) (by kernel_rfl) rfl rfl rfl rfl rfl (.inr (fun _ h => h)) ?_
          refine j_p (i := 2) rfl (y_move rfl) (by kernel_rfl) (by kernel_rfl) (by kernel_rfl) rfl rfl rfl rfl rfl (.inr (fun _ h => h)) ?_
          refine j_p (i := 3) rfl (y_move rfl) (by kernel_rfl) (by kernel_rfl) (by kernel_rfl) rfl rfl rfl rfl rfl (.inr (fun _ h => h)) ?_
          refine j_p (i := 4) rfl (y_sub rfl rfl (by omega) (by omega)) (by kernel_rfl) (by kernel_rfl) (by kernel_rfl) rfl rfl rfl rfl rfl (.inr (fun _ h => h)) ?_
          refine j_p (i := 5) rfl (y_idxP rfl rfl hw_ Try.underlying74 size_79 (by omega) (by omega)) (by kernel_rfl) (by kernel_rfl) (by kernel_rfl) rfl rfl rfl rfl rfl (.inr (fun _ h => h)) ?_
          refine j_p (i := 6) rfl (y_idxc rfl rfl (fun w => fie_79_0 _ w)) (by kernel_rfl) (by kernel_rfl) (by kernel_rfl) rfl rfl rfl rfl rfl (.inr (fun _ h => h)) ?_
          refine j_l (i := 7) rfl (y_ldE0 (xs := (wayL a b)) (fun w h => hw_.rdl.below h.below) rfl agg_3 (rdP_at (by omega) (by omega))) (by kernel_rfl) (by kernel_rfl) (by kernel_rfl) (by kernel_rfl) rfl rfl rfl rfl rfl (.inr (fun _ h => h)) ?_
          refine j_p (i := 8) rfl (y_sub rfl rfl (by omega) (by omega)) (by kernel_rfl) (by kernel_rfl) (by kernel_rfl) rfl rfl rfl rfl rfl (.inr (fun _ h => h)) ?_
          refine j_p (i := 9) rfl (y_idxc rfl rfl (fun w => fia_79_1 _ _ w)) (by kernel_rfl) (by kernel_rfl) (by kernel_rfl) rfl rfl rfl rfl rfl (.inr (fun _ h => h)) ?_
          refine j_l (i := 10) rfl (y_ld1 0 rfl rfl agg_3 rfl) (by kernel_rfl) (by kernel_rfl) (by kernel_rfl) (by kernel_rfl) rfl rfl rfl rfl rfl (.inr (fun _ h => h)) ?_
          refine j_p (i := 11) rfl (y_move rfl) (by kernel_rfl) (by kernel_rfl) (by kernel_rfl) rfl rfl rfl rfl rfl (.inr (fun _ h => h)) ?_
          refine j_p (i := 12) rfl (y_move rfl) (by kernel_rfl) (by kernel_rfl) (by kernel_rfl) rfl rfl rfl rfl rfl (.inr (fun _ h => h)) ?_
          refine j_p (i := 13) rfl (y_sub rfl rfl (by omega) (by omega)) (by kernel_rfl) (by kernel_rfl) (by kernel_rfl) rfl rfl rfl rfl rfl (.inr (fun _ h => h)) ?_
          refine j_p (i := 14) rfl (y_idxP rfl rfl hw_ Try.underlying74 size_79 (by omega) (by omega)) (by kernel_rfl) (by kernel_rfl) (by kernel_rfl) rfl rfl rfl rfl rfl (.inr (fun _ h => h)) ?_
          refine j_p (i := 15) rfl (y_idxc rfl rfl (fun w => fie_79_1 _ w)) (by kernel_rfl) (by kernel_rfl) (by kernel_rfl) rfl rfl rfl rfl rfl (.inr (fun _ h => h)) ?_
          refine j_l (i := 16) rfl (y_ldE1 (xs := (wayL a b)) (fun w h => hw_.rdl.below h.below) rfl agg_3 (rdP_at (by omega) (by omega))) (by kernel_rfl) (by kernel_rfl) (by kernel_rfl) (by kernel_rfl) rfl rfl rfl rfl rfl (.inr (fun _ h => h)) ?_
          refine j_p (i := 17) rfl (y_sub rfl rfl (by omega) (by omega)) (by kernel_rfl) (by kernel_rfl) (by kernel_rfl) rfl rfl rfl rfl rfl (.inr (fun _ h => h)) ?_
          refine j_p (i := 18) rfl (y_assign rfl) (by kernel_rfl) (by kernel_rfl) (by kernel_rfl) rfl rfl rfl rfl rfl (.inr (fun _ h => h)) ?_
          refine j_p (i := 19) rfl (y_assign rfl) (by kernel_rfl) (by kernel_rfl) (by kernel_rfl) rfl rfl rfl rfl rfl (.inr (fun _ h => h)) ?_
          refine j_nil (by kernel_rfl) ?_
          refine g_then ?_
          refine g_seq ?_
          refine g_region ?_
          refine s_y (y_move rfl) rfl rfl rfl rfl ?_
          refine s_y (y_lss_f rfl rfl (by omega)) rfl rfl rfl rfl ?_
          refine s_y (y_move rfl) rfl rfl rfl rfl ?_
          refine s_y (y_move rfl) rfl rfl rfl rfl ?_
          refine s_y (y_gtr_f rfl rfl (by omega)) rfl rfl rfl rfl ?_
          refine s_y (y_pick_f rfl rfl) rfl rfl rfl rfl ?_
          refine s_y (y_move rfl) rfl rfl rfl rfl ?_
          refine s_y (y_move rfl) rfl rfl rfl rfl ?_
          refine s_y (y_lss_f rfl rfl (by omega)) rfl rfl rfl rfl ?_
          refine s_y (y_pick_f rfl rfl) rfl rfl rfl rfl ?_
          refine s_y (y_move rfl) rfl rfl rfl rfl ?_
          refine s_y (y_move rfl) rfl rfl rfl rfl ?_
          refine s_y (y_gtr_f rfl rfl (by omega)) rfl rfl rfl rfl ?_
          refine s_y (y_pick_f rfl rfl) rfl rfl rfl rfl ?_
          refine s_y (y_move rfl) rfl rfl rfl rfl ?_
          refine s_y (y_move rfl) rfl rfl rfl rfl ?_
          refine s_y (y_move rfl) rfl rfl rfl rfl ?_
          refine s_y (y_add rfl rfl (by omega) (by omega)) rfl rfl rfl rfl ?_
          refine s_y (y_eql_f rfl rfl (by omega)) rfl rfl rfl rfl ?_
          refine s_y (y_pick_f rfl rfl) rfl rfl rfl rfl ?_
          refine s_nil ?_
          refine g_then ?_
          refine g_cond_f rfl ?_
          refine g_skip ?_
          refine g_then ?_
          have hx1 := mel_rd hxa (rdP (wayL a b) (k : Int)).1
          have hx2 := mel_rd hxb (rdP (wayL a b) (k : Int)).2
          refine g_draw 26 (by kernel_rfl) ?_
          refine j_p (i := 0) rfl (y_move rfl) (by kernel_rfl) (by kernel_rfl) (by kernel_rfl) rfl rfl rfl rfl rfl (.inr (fun _ h => h)) ?_
          refine j_p (i := 1) rfl (y_move rfl) (by kernel_rfl) (by kernel_rfl) (by kernel_rfl) rfl rfl rfl rfl rfl (.inr (fun _ h => h)) ?_
          refine j_p (i := 2) rfl (y_idxc rfl rfl (fun w => fia_79_0 _ _ w)) (by kernel_rfl) (by kernel_rfl) (by kernel_rfl) rfl rfl rfl rfl rfl (.inr (fun _ h => h)) ?_
          refine j_l (i := 3) rfl (y_ld1 0 rfl rfl agg_3 rfl) (by kernel_rfl) (by kernel_rfl) (by kernel_rfl) (by kernel_rfl) rfl rfl rfl rfl rfl (.inr (fun _ h => h)) ?_
          refine j_p (i := 4) rfl (y_idxV (enc := (Value.int .i64)) rfl rfl ha Try.underlying46 size_3 (by omega) (by omega)) (by kernel_rfl) (by kernel_rfl) (by kernel_rfl) rfl rfl rfl rfl rfl (.inr (fun _ h => h)) ?_
          refine j_l (i := 5) rfl (y_ldV (enc := (Value.int .i64)) (xs := a) (fun w h => ha.rdl.below h.below) rfl agg_3 (rdI_at (by omega) (by omega))) (by kernel_rfl) (by kernel_rfl) (by kernel_rfl) (by kernel_rfl) rfl rfl rfl rfl rfl (.inr (fun _ h => h)) ?_
          refine j_p (i := 6) rfl (y_move rfl) (by kernel_rfl) (by kernel_rfl) (by kernel_rfl) rfl rfl rfl rfl rfl (.inr (fun _ h => h)) ?_
          refine j_p (i := 7) rfl (y_idxc rfl rfl (fun w => fia_79_1 _ _ w)) (by kernel_rfl) (by kernel_rfl) (by kernel_rfl) rfl rfl rfl rfl rfl (.inr (fun _ h => h)) ?_
          refine j_l (i := 8) rfl (y_ld1 0 rfl rfl agg_3 rfl) (by kernel_rfl) (by kernel_rfl) (by kernel_rfl) (by kernel_rfl) rfl rfl rfl rfl rfl (.inr (fun _ h => h)) ?_
          refine j_p (i := 9) rfl (y_idxV (enc := (Value.int .i64)) rfl rfl hb Try.underlying46 size_3 (by omega) (by omega)) (by kernel_rfl) (by kernel_rfl) (by kernel_rfl) rfl rfl rfl rfl rfl (.inr (fun _ h => h)) ?_
          refine j_l (i := 10) rfl (y_ldV (enc := (Value.int .i64)) (xs := b) (fun w h => hb.rdl.below h.below) rfl agg_3 (rdI_at (by omega) (by omega))) (by kernel_rfl) (by kernel_rfl) (by kernel_rfl) (by kernel_rfl) rfl rfl rfl rfl rfl (.inr (fun _ h => h)) ?_
          refine j_p (i := 11) rfl (y_sub rfl rfl (by omega) (by omega)) (by kernel_rfl) (by kernel_rfl) (by kernel_rfl) rfl rfl rfl rfl rfl (.inr (fun _ h => h)) ?_
          refine j_p (i := 12) rfl (y_move rfl) (by kernel_rfl) (by kernel_rfl) (by kernel_rfl) rfl rfl rfl rfl rfl (.inr (fun _ h => h)) ?_
          refine j_p (i := 13) rfl (y_idxc rfl rfl (fun w => fia_79_1 _ _ w)) (by kernel_rfl) (by kernel_rfl) (by kernel_rfl) rfl rfl rfl rfl rfl (.inr (fun _ h => h)) ?_
          refine j_l (i := 14) rfl (y_ld1 0 rfl rfl agg_3 rfl) (by kernel_rfl) (by kernel_rfl) (by kernel_rfl) (by kernel_rfl) rfl rfl rfl rfl rfl (.inr (fun _ h => h)) ?_
          refine j_p (i := 15) rfl (y_idxV (enc := (Value.int .i64)) rfl rfl hb Try.underlying46 size_3 (by omega) (by omega)) (by kernel_rfl) (by kernel_rfl) (by kernel_rfl) rfl rfl rfl rfl rfl (.inr (fun _ h => h)) ?_
          refine j_l (i := 16) rfl (y_ldV (enc := (Value.int .i64)) (xs := b) (fun w h => hb.rdl.below h.below) rfl agg_3 (rdI_at (by omega) (by omega))) (by kernel_rfl) (by kernel_rfl) (by kernel_rfl) (by kernel_rfl) rfl rfl rfl rfl rfl (.inr (fun _ h => h)) ?_
          refine j_p (i := 17) rfl (y_move rfl) (by kernel_rfl) (by kernel_rfl) (by kernel_rfl) rfl rfl rfl rfl rfl (.inr (fun _ h => h)) ?_
          refine j_p (i := 18) rfl (y_idxc rfl rfl (fun w => fia_79_0 _ _ w)) (by kernel_rfl) (by kernel_rfl) (by kernel_rfl) rfl rfl rfl rfl rfl (.inr (fun _ h => h)) ?_
          refine j_l (i := 19) rfl (y_ld1 0 rfl rfl agg_3 rfl) (by kernel_rfl) (by kernel_rfl) (by kernel_rfl) (by kernel_rfl) rfl rfl rfl rfl rfl (.inr (fun _ h => h)) ?_
          refine j_p (i := 20) rfl (y_idxV (enc := (Value.int .i64)) rfl rfl ha Try.underlying46 size_3 (by omega) (by omega)) (by kernel_rfl) (by kernel_rfl) (by kernel_rfl) rfl rfl rfl rfl rfl (.inr (fun _ h => h)) ?_
          refine j_l (i := 21) rfl (y_ldV (enc := (Value.int .i64)) (xs := a) (fun w h => ha.rdl.below h.below) rfl agg_3 (rdI_at (by omega) (by omega))) (by kernel_rfl) (by kernel_rfl) (by kernel_rfl) (by kernel_rfl) rfl rfl rfl rfl rfl (.inr (fun _ h => h)) ?_
          refine j_p (i := 22) rfl (y_sub rfl rfl (by omega) (by omega)) (by kernel_rfl) (by kernel_rfl) (by kernel_rfl) rfl rfl rfl rfl rfl (.inr (fun _ h => h)) ?_
          refine j_p (i := 23) rfl (y_max rfl rfl) (by kernel_rfl) (by kernel_rfl) (by kernel_rfl) rfl rfl rfl rfl rfl (.inr (fun _ h => h)) ?_
          refine j_p (i := 24) rfl (y_add rfl rfl (by (repeat' split) <;> omega) (by (repeat' split) <;> omega)) (by kernel_rfl) (by kernel_rfl) (by kernel_rfl) rfl rfl rfl rfl rfl (.inr (fun _ h => h)) ?_
          refine j_p (i := 25) rfl (y_assign rfl) (by kernel_rfl) (by kernel_rfl) (by kernel_rfl) rfl rfl rfl rfl rfl (.inr (fun _ h => h)) ?_
          refine j_nil (by kernel_rfl) ?_
          refine g_inb ?_
          refine g_then ?_
          refine g_region ?_
          refine s_y (y_add rfl rfl (by omega) (by omega)) rfl rfl rfl rfl ?_
          refine s_y (y_move rfl) rfl rfl rfl rfl ?_
          refine s_nil ?_
          refine g_then ?_
          exact fun act W ha hw => ⟨k + 1, by omega, by omega, (cst + (if ((rdI b ((rdP (wayL a b) (k : Int)).2)) - (rdI a ((rdP (wayL a b) (k : Int)).1))) > ((rdI a ((rdP (wayL a b) (k : Int)).1)) - (rdI b ((rdP (wayL a b) (k : Int)).2))) then ((rdI b ((rdP (wayL a b) (k : Int)).2)) - (rdI a ((rdP (wayL a b) (k : Int)).1))) else ((rdI a ((rdP (wayL a b) (k : Int)).1)) - (rdI b ((rdP (wayL a b) (k : Int)).2))))), W, (by rw [way_wsum (by omega), ← hcst]; rfl), ha.weak (sub_get ⟨rfl, rfl, rfl, rfl, rfl, rfl, rfl, trivial⟩), hw.toHq.lookSub (List.nil_sublist _)⟩
        · (try simp at cq4)
          refine g_skip ?_
          refine g_then ?_
          have hx1 := mel_rd hxa (rdP (wayL a b) (k : Int)).1
          have hx2 := mel_rd hxb (rdP (wayL a b) (k : Int)).2
          refine g_draw 26 (by kernel_rfl) ?_
          refine j_p (i := 0) rfl (y_move rfl) (by kernel_rfl) (by kernel_rfl) (by kernel_rfl) rfl rfl rfl rfl rfl (.inr (fun _ h => h)) ?_
          refine j_p (i := 1) rfl (y_move rfl) (by kernel_rfl) (by kernel_rfl) (by kernel_rfl) rfl rfl rfl rfl rfl (.inr (fun _ h => h)) ?_
          refine j_p (i := 2) rfl (y_idxc rfl rfl (fun w => fia_79_0 _ _ w)) (by kernel_rfl) (by kernel_rfl) (by kernel_rfl) rfl rfl rfl rfl rfl (.inr (fun _ h => h)) ?_
          refine j_l (i := 3) rfl (y_ld1 0 rfl rfl agg_3 rfl) (by kernel_rfl) (by kernel_rfl) (by kernel_rfl) (by kernel_rfl) rfl rfl rfl rfl rfl (.inr (fun _ h => h)) ?_
          refine j_p (i := 4) rfl (y_idxV (enc := (Value.int .i64)) rfl rfl ha Try.underlying46 size_3 (by omega) (by omega)) (by kernel_rfl) (by kernel_rfl) (by kernel_rfl) rfl rfl rfl rfl rfl (.inr (fun _ h => h)) ?_
          refine j_l (i := 5) rfl (y_ldV (enc := (Value.int .i64)) (xs := a) (fun w h => ha.rdl.below h.below) rfl agg_3 (rdI_at (by omega) (by omega))) (by kernel_rfl) (by kernel_rfl) (by kernel_rfl) (by kernel_rfl) rfl rfl rfl rfl rfl (.inr (fun _ h => h)) ?_
          refine j_p (i := 6) rfl (y_move rfl) (by kernel_rfl) (by kernel_rfl) (by kernel_rfl) rfl rfl rfl rfl rfl (.inr (fun _ h => h)) ?_
          refine j_p (i := 7) rfl (y_idxc rfl rfl (fun w => fia_79_1 _ _ w)) (by kernel_rfl) (by kernel_rfl) (by kernel_rfl) rfl rfl rfl rfl rfl (.inr (fun _ h => h)) ?_
          refine j_l (i := 8) rfl (y_ld1 0 rfl rfl agg_3 rfl) (by kernel_rfl) (by kernel_rfl) (by kernel_rfl) (by kernel_rfl) rfl rfl rfl rfl rfl (.inr (fun _ h => h)) ?_
          refine j_p (i := 9) rfl (y_idxV (enc := (Value.int .i64)) rfl rfl hb Try.underlying46 size_3 (by omega) (by omega)) (by kernel_rfl) (by kernel_rfl) (by kernel_rfl) rfl rfl rfl rfl rfl (.inr (fun _ h => h)) ?_
          refine j_l (i := 10) rfl (y_ldV (enc := (Value.int .i64)) (xs := b) (fun w h => hb.rdl.below h.below) rfl agg_3 (rdI_at (by omega) (by omega))) (by kernel_rfl) (by kernel_rfl) (by kernel_rfl) (by kernel_rfl) rfl rfl rfl rfl rfl (.inr (fun _ h => h)) ?_
          refine j_p (i := 11) rfl (y_sub rfl rfl (by omega) (by omega)) (by kernel_rfl) (by kernel_rfl) (by kernel_rfl) rfl rfl rfl rfl rfl (.inr (fun _ h => h)) ?_
          refine j_p (i := 12) rfl (y_move rfl) (by kernel_rfl) (by kernel_rfl) (by kernel_rfl) rfl rfl rfl rfl rfl (.inr (fun _ h => h)) ?_
          refine j_p (i := 13) rfl (y_idxc rfl rfl (fun w => fia_79_1 _ _ w)) (by kernel_rfl) (by kernel_rfl) (by kernel_rfl) rfl rfl rfl rfl rfl (.inr (fun _ h => h)) ?_
          refine j_l (i := 14) rfl (y_ld1 0 rfl rfl agg_3 rfl) (by kernel_rfl) (by kernel_rfl) (by kernel_rfl) (by kernel_rfl) rfl rfl rfl rfl rfl (.inr (fun _ h => h)) ?_
          refine j_p (i := 15) rfl (y_idxV (enc := (Value.int .i64)) rfl rfl hb Try.underlying46 size_3 (by omega) (by omega)) (by kernel_rfl) (by kernel_rfl) (by kernel_rfl) rfl rfl rfl rfl rfl (.inr (fun _ h => h)) ?_
          refine j_l (i := 16) rfl (y_ldV (enc := (Value.int .i64)) (xs := b) (fun w h => hb.rdl.below h.below) rfl agg_3 (rdI_at (by omega) (by omega))) (by kernel_rfl) (by kernel_rfl) (by kernel_rfl) (by kernel_rfl) rfl rfl rfl rfl rfl (.inr (fun _ h => h)) ?_
          refine j_p (i := 17) rfl (y_move rfl) (by kernel_rfl) (by kernel_rfl) (by kernel_rfl) rfl rfl rfl rfl rfl (.inr (fun _ h => h)) ?_
          refine j_p (i := 18) rfl (y_idxc rfl rfl (fun w => fia_79_0 _ _ w)) (by kernel_rfl) (by kernel_rfl) (by kernel_rfl) rfl rfl rfl rfl rfl (.inr (fun _ h => h)) ?_
          refine j_l (i := 19) rfl (y_ld1 0 rfl rfl agg_3 rfl) (by kernel_rfl) (by kernel_rfl) (by kernel_rfl) (by kernel_rfl) rfl rfl rfl rfl rfl (.inr (fun _ h => h)) ?_
          refine j_p (i := 20) rfl (y_idxV (enc := (Value.int .i64)) rfl rfl ha Try.underlying46 size_3 (by omega) (by omega)) (by kernel_rfl) (by kernel_rfl) (by kernel_rfl) rfl rfl rfl rfl rfl (.inr (fun _ h => h)) ?_
          refine j_l (i := 21) rfl (y_ldV (enc := (Value.int .i64)) (xs := a) (fun w h => ha.rdl.below h.below) rfl agg_3 (rdI_at (by omega) (by omega))) (by kernel_rfl) (by kernel_rfl) (by kernel_rfl) (by kernel_rfl) rfl rfl rfl rfl rfl (.inr (fun _ h => h)) ?_
          refine j_p (i := 22) rfl (y_sub rfl rfl (by omega) (by omega)) (by kernel_rfl) (by kernel_rfl) (by kernel_rfl) rfl rfl rfl rfl rfl (.inr (fun _ h => h)) ?_
          refine j_p (i := 23) rfl (y_max rfl rfl) (by kernel_rfl) (by kernel_rfl) (by kernel_rfl) rfl rfl rfl rfl rfl (.inr (fun _ h => h)) ?_
          refine j_p (i := 24) rfl (y_add rfl rfl (by (repeat' split) <;> omega) (by (repeat' split) <;> omega)) (by kernel_rfl) (by kernel_rfl) (by kernel_rfl) rfl rfl rfl rfl rfl (.inr (fun _ h => h)) ?_
          refine j_p (i := 25) rfl (y_assign rfl) (by kernel_rfl) (by kernel_rfl) (by kernel_rfl) rfl rfl rfl rfl rfl (.inr (fun _ h => h)) ?_
          refine j_nil (by kernel_rfl) ?_
          refine g_inb ?_
          refine g_then ?_
          refine g_region ?_
          refine s_y (y_add rfl rfl (by omega) (by omega)) rfl rfl rfl rfl ?_
          refine s_y (y_move rfl) rfl rfl rfl rfl ?_
          refine s_nil ?_
          refine g_then ?_
          exact fun act W ha hw => ⟨k + 1, by omega, by omega, (cst + (if ((rdI b ((rdP (wayL a b) (k : Int)).2)) - (rdI a ((rdP (wayL a b) (k : Int)).1))) > ((rdI a ((rdP (wayL a b) (k : Int)).1)) - (rdI b ((rdP (wayL a b) (k : Int)).2))) then ((rdI b ((rdP (wayL a b) (k : Int)).2)) - (rdI a ((rdP (wayL a b) (k : Int)).1))) else ((rdI a ((rdP (wayL a b) (k : Int)).1)) - (rdI b ((rdP (wayL a b) (k : Int)).2))))), W, (by rw [way_wsum (by omega), ← hcst]; rfl), ha.weak (sub_get ⟨rfl, rfl, rfl, rfl, rfl, rfl, rfl, trivial⟩), hw.toHq.lookSub (List.nil_sublist _)⟩
    · (try simp at cq2)
      refine s_no rfl rfl rfl ?_
      refine s_no rfl rfl rfl ?_
      refine s_no rfl rfl rfl ?_
      refine s_y (y_pick_f rfl rfl) rfl rfl rfl rfl ?_
      refine s_y (y_move rfl) rfl rfl rfl rfl ?_
      refine s_y (y_idxc rfl rfl (fun w => fia_79_0 _ _ w)) rfl rfl rfl rfl ?_
      refine s_y (y_ld1 0 rfl rfl agg_3 rfl) rfl rfl rfl rfl ?_
      refine s_y (y_lss_f rfl rfl (by omega)) rfl rfl rfl rfl ?_
      refine s_y (y_pick_f rfl rfl) rfl rfl rfl rfl ?_
      refine s_y (y_move rfl) rfl rfl rfl rfl ?_
      refine s_y (y_idxc rfl rfl (fun w => fia_79_1 _ _ w)) rfl rfl rfl rfl ?_
      refine s_y (y_ld1 0 rfl rfl agg_3 rfl) rfl rfl rfl rfl ?_
      refine s_y (y_lss_f rfl rfl (by omega)) rfl rfl rfl rfl ?_
      refine s_y (y_pick_f rfl rfl) rfl rfl rfl rfl ?_
      refine s_y (y_move rfl) rfl rfl rfl rfl ?_
      refine s_y (y_idxc rfl rfl (fun w => fia_79_0 _ _ w)) rfl rfl rfl rfl ?_
      refine s_y (y_ld1 0 rfl rfl agg_3 rfl) rfl rfl rfl rfl ?_
      refine s_y (y_move rfl) rfl rfl rfl rfl ?_
      refine s_y (y_lenV (n := a.length) rfl (by obtain ⟨A, c, h1, _⟩ := ha; exact ⟨A, c, h1⟩) sle_46) rfl rfl rfl rfl ?_
      refine s_y (y_geq_f rfl rfl (by omega)) rfl rfl rfl rfl ?_
      refine s_y (y_pick_f rfl rfl) rfl rfl rfl rfl ?_
      refine s_y (y_move rfl) rfl rfl rfl rfl ?_
      refine s_y (y_idxc rfl rfl (fun w => fia_79_1 _ _ w)) rfl rfl rfl rfl ?_
      refine s_y (y_ld1 0 rfl rfl agg_3 rfl) rfl rfl rfl rfl ?_
      refine s_y (y_move rfl) rfl rfl rfl rfl ?_
      refine s_y (y_lenV (n := b.length) rfl (by obtain ⟨A, c, h1, _⟩ := hb; exact ⟨A, c, h1⟩) sle_46) rfl rfl rfl rfl ?_
      refine s_y (y_geq_f rfl rfl (by omega)) rfl rfl rfl rfl ?_
      refine s_y (y_pick_f rfl rfl) rfl rfl rfl rfl ?_
      refine s_nil ?_
      refine g_then ?_
      refine g_cond_f rfl ?_
      refine g_skip ?_
      refine g_then ?_
      refine g_seq ?_
      refine g_seq ?_
      refine g_region ?_
      refine s_y (y_move rfl) rfl rfl rfl rfl ?_
      refine s_y (y_gtr rfl rfl) rfl rfl rfl rfl ?_
      refine s_nil ?_
      refine g_then ?_
      refine g_cond rfl (fun cq5 => ?_) (fun cq5 => ?_)
      · (try simp at cq5)
        refine g_seq ?_
        have hst2 := hst (by omega)
        have hat2 := way_at hal hbl (k := k - 1) (by omega)
        rw [show ((k - 1 : Nat) : Int) = (k : Int) - 1 by omega] at hat2
        refine g_draw 20 (by kernel_rfl) ?_
        refine j_p (i := 0) rfl (y_idxc rfl rfl (fun w => fia_79_0 _ _ w)) (by kernel_rfl) (by kernel_rfl) (by kernel_rfl) rfl rfl rfl rfl rfl (.inr (fun _ h => h)) ?_
        refine j_l (i := 1) rfl (y_ld1 0 rfl rfl agg_3 rfl) (by kernel_rfl) (by kernel_rfl) (by kernel_rfl) (by kernel_rfl) rfl rfl rfl rfl rfl (.inr (fun _ h => h)) ?_
        refine j_p (i := 2) rfl (y_move rfl) (by kernel_rfl) (by kernel_rfl) (by kernel_rfl) rfl rfl rfl rfl rfl (.inr (fun _ h => h)) ?_
        refine j_p (i := 3) rfl (y_move rfl) (by kernel_rfl) (by kernel_rfl) (by kernel_rfl) rfl rfl rfl rfl rfl (.inr (fun _ h => h)) ?_
        refine j_p (i := 4) rfl (y_sub rfl rfl (by omega) (by omega)) (by kernel_rfl) (by kernel_rfl) (by kernel_rfl) rfl rfl rfl rfl rfl (.inr (fun _ h => h)) ?_
        refine j_p (i := 5) rfl (y_idxP rfl rfl hw_ Try.underlying74 size_79 (by omega) (by omega)) (by kernel_rfl) (by kernel_rfl) (by kernel_rfl) rfl rfl rfl rfl rfl (.inr (fun _ h => h)) ?_
        refine j_p (i := 6) rfl (y_idxc rfl rfl (fun w => fie_79_0 _ w)) (by kernel_rfl) (by kernel_rfl) (by kernel_rfl) rfl rfl rfl rfl rfl (.inr (fun _ h => h)) ?_
        refine j_l (i := 7) rfl (y_ldE0 (xs := (wayL a b)) (fun w h => hw_.rdl.below h.below) rfl agg_3 (rdP_at (by omega) (by omega))) (by kernel_rfl) (by kernel_rfl) (by kernel_rfl) (by kernel_rfl) rfl rfl rfl rfl rfl (.inr (fun _ h => h)) ?_
        refine j_p (i := 8) rfl (y_sub rfl rfl (by omega) (by omega)) (by kernel_rfl) (by kernel_rfl) (by kernel_rfl) rfl rfl rfl rfl rfl (.inr (fun _ h => h)) ?_
        refine j_p (i := 9) rfl (y_idxc rfl rfl (fun w => fia_79_1 _ _ w)) (by kernel_rfl) (by kernel_rfl) (by kernel_rfl) rfl rfl rfl rfl rfl (.inr (fun _ h => h)) ?_
        refine j_l (i := 10) rfl (y_ld1 0 rfl rfl agg_3 rfl) (by kernel_rfl) (by kernel_rfl) (by kernel_rfl) (by kernel_rfl) rfl rfl rfl rfl rfl (.inr (fun _ h => h)) ?_
        refine j_p (i := 11) rfl (y_move rfl) (by kernel_rfl) (by kernel_rfl) (by kernel_rfl) rfl rfl rfl rfl rfl (.inr (fun _ h => h)) ?_
        refine j_p (i := 12) rfl (y_move rfl) (by kernel_rfl) (by kernel_rfl) (by kernel_rfl) rfl rfl rfl rfl rfl (.inr (fun _ h => h)) ?_
        refine j_p (i := 13) rfl (y_sub rfl rfl (by omega) (by omega)) (by kernel_rfl) (by kernel_rfl) (by kernel_rfl) rfl rfl rfl rfl rfl (.inr (fun _ h => h)) ?_
        refine j_p (i := 14) rfl (y_idxP rfl rfl hw_ Try.underlying74 size_79 (by omega) (by omega)) (by kernel_rfl) (by kernel_rfl) (by kernel_rfl) rfl rfl rfl rfl rfl (.inr (fun _ h => h)) ?_
        refine j_p (i := 15) rfl (y_idxc rfl rfl (fun w => fie_79_1 _ w)) (by kernel_rfl) (by kernel_rfl) (by kernel_rfl) rfl rfl rfl rfl rfl (.inr (fun _ h => h)) ?_
        refine j_l (i := 16) rfl (y_ldE1 (xs := (wayL a b)) (fun w h => hw_.rdl.below h.below) rfl agg_3 (rdP_at (by omega) (by omega))) (by kernel_rfl) (by kernel_rfl) (by kernel_rfl) (by kernel_rfl) rfl rfl rfl rfl rfl (.inr (fun _ h => h)) ?_
        refine j_p (i := 17) rfl (y_sub rfl rfl (by omega) (by omega)) (by kernel_rfl) (by kernel_rfl) (by kernel_rfl) rfl rfl rfl rfl rfl (.inr (fun _ h => h)) ?_
        refine j_p (i := 18) rfl (y_assign rfl) (by kernel_rfl) (by kernel_rfl) (by kernel_rfl) rfl rfl rfl rfl rfl (.inr (fun _ h => h)) ?_
        refine j_p (i := 19) rfl (y_assign rfl) (by kernel_rfl) (by kernel_rfl) (by kernel_rfl) rfl rfl rfl rfl rfl (.inr (fun _ h => h)) ?_
        refine j_nil (by kernel_rfl) ?_
        refine g_then ?_
        refine g_seq ?_
        refine g_region ?_
        refine s_y (y_move rfl) rfl rfl rfl rfl ?_
        refine s_y (y_lss_f rfl rfl (by omega)) rfl rfl rfl rfl ?_
        refine s_y (y_move rfl) rfl rfl rfl rfl ?_
        refine s_y (y_move rfl) rfl rfl rfl rfl ?_
        refine s_y (y_gtr_f rfl rfl (by omega)) rfl rfl rfl rfl ?_
        refine s_y (y_pick_f rfl rfl) rfl rfl rfl rfl ?_
        refine s_y (y_move rfl) rfl rfl rfl rfl ?_
        refine s_y (y_move rfl) rfl rfl rfl rfl ?_
        refine s_y (y_lss_f rfl rfl (by omega)) rfl rfl rfl rfl ?_
        refine s_y (y_pick_f rfl rfl) rfl rfl rfl rfl ?_
        refine s_y (y_move rfl) rfl rfl rfl rfl ?_
        refine s_y (y_move rfl) rfl rfl rfl rfl ?_
        refine s_y (y_gtr_f rfl rfl (by omega)) rfl rfl rfl rfl ?_
        refine s_y (y_pick_f rfl rfl) rfl rfl rfl rfl ?_
        refine s_y (y_move rfl) rfl rfl rfl rfl ?_
        refine s_y (y_move rfl) rfl rfl rfl rfl ?_
        refine s_y (y_move rfl) rfl rfl rfl rfl ?_
        refine s_y (y_add rfl rfl (by omega) (by omega)) rfl rfl rfl rfl ?_
        refine s_y (y_eql_f rfl rfl (by omega)) rfl rfl rfl rfl ?_
        refine s_y (y_pick_f rfl rfl) rfl rfl rfl rfl ?_
        refine s_nil ?_
        refine g_then ?_
        refine g_cond_f rfl ?_
        refine g_skip ?_
        refine g_then ?_
        have hx1 := mel_rd hxa (rdP (wayL a b) (k : Int)).1
        have hx2 := mel_rd hxb (rdP (wayL a b) (k : Int)).2
        refine g_draw 26 (by kernel_rfl) ?_
        refine j_p (i := 0) rfl (y_move rfl) (by kernel_rfl) (by kernel_rfl) (by kernel_rfl) rfl rfl rfl rfl rfl (.inr (fun _ h => h)) ?_
        refine j_p (i := 1) rfl (y_move rfl) (by kernel_rfl) (by kernel_rfl) (by kernel_rfl) rfl rfl rfl rfl rfl (.inr (fun _ h => h)) ?_
        refine j_p (i := 2) rfl (y_idxc rfl rfl (fun w => fia_79_0 _ _ w)) (by kernel_rfl) (by kernel_rfl) (by kernel_rfl) rfl rfl rfl rfl rfl (.inr (fun _ h => h)) ?_
        refine j_l (i := 3) rfl (y_ld1 0 rfl rfl agg_3 rfl) (by kernel_rfl) (by kernel_rfl) (by kernel_rfl) (by kernel_rfl) rfl rfl rfl rfl rfl (.inr (fun _ h => h)) ?_
        refine j_p (i := 4) rfl (y_idxV (enc := (Value.int .i64)) rfl rfl ha Try.underlying46 size_3 (by omega) (by omega)) (by kernel_rfl) (by kernel_rfl) (by kernel_rfl) rfl rfl rfl rfl rfl (.inr (fun _ h => h)) ?_
        refine j_l (i := 5) rfl (y_ldV (enc := (Value.int .i64)) (xs := a) (fun w h => ha.rdl.below h.below) rfl agg_3 (rdI_at (by omega) (by omega))) (by kernel_rfl) (by kernel_rfl) (by kernel_rfl) (by kernel_rfl) rfl rfl rfl rfl rfl (.inr (fun _ h => h)) ?_
        refine j_p (i := 6) rfl (y_move rfl) (by kernel_rfl) (by kernel_rfl) (by kernel_rfl) rfl rfl rfl rfl rfl (.inr (fun _ h => h)) ?_
        refine j_p (i := 7) rfl (y_idxc rfl rfl (fun w => fia_79_1 _ _ w)) (by kernel_rfl) (by kernel_rfl) (by kernel_rfl) rfl rfl rfl rfl rfl (.inr (fun _ h => h)) ?_
        refine j_l (i := 8) rfl (y_ld1 0 rfl rfl agg_3 rfl) (by kernel_rfl) (by kernel_rfl) (by kernel_rfl) (by kernel_rfl) rfl rfl rfl rfl rfl (.inr (fun _ h => h)) ?_
        refine j_p (i := 9) rfl (y_idxV (enc := (Value.int .i64)) rfl rfl hb Try.underlying46 size_3 (by omega) (by omega)) (by kernel_rfl) (by kernel_rfl) (by kernel_rfl) rfl rfl rfl rfl rfl (.inr (fun _ h => h)) ?_
        refine j_l (i := 10) rfl (y_ldV (enc := (Value.int .i64)) (xs := b) (fun w h => hb.rdl.below h.below) rfl agg_3 (rdI_at (by omega) (by omega))) (by kernel_rfl) (by kernel_rfl) (by kernel_rfl) (by kernel_rfl) rfl rfl rfl rfl rfl (.inr (fun _ h => h)) ?_
        refine j_p (i := 11) rfl (y_sub rfl rfl (by omega) (by omega)) (by kernel_rfl) (by kernel_rfl) (by kernel_rfl) rfl rfl rfl rfl rfl (.inr (fun _ h => h)) ?_
        refine j_p (i := 12) rfl (y_move rfl) (by kernel_rfl) (by kernel_rfl) (by kernel_rfl) rfl rfl rfl rfl rfl (.inr (fun _ h => h)) ?_
        refine j_p (i := 13) rfl (y_idxc rfl rfl (fun w => fia_79_1 _ _ w)) (by kernel_rfl) (by kernel_rfl) (by kernel_rfl) rfl rfl rfl rfl rfl (.inr (fun _ h => h)) ?_
        refine j_l (i := 14) rfl (y_ld1 0 rfl rfl agg_3 rfl) (by kernel_rfl) (by kernel_rfl) (by kernel_rfl) (by kernel_rfl) rfl rfl rfl rfl rfl (.inr (fun _ h => h)) ?_
        refine j_p (i := 15) rfl (y_idxV (enc := (Value.int .i64)) rfl rfl hb Try.underlying46 size_3 (by omega) (by omega)) (by kernel_rfl) (by kernel_rfl) (by kernel_rfl) rfl rfl rfl rfl rfl (.inr (fun _ h => h)) ?_
        refine j_l (i := 16) rfl (y_ldV (enc := (Value.int .i64)) (xs := b) (fun w h => hb.rdl.below h.below) rfl agg_3 (rdI_at (by omega) (by omega))) (by kernel_rfl) (by kernel_rfl) (by kernel_rfl) (by kernel_rfl) rfl rfl rfl rfl rfl (.inr (fun _ h => h)) ?_
        refine j_p (i := 17) rfl (y_move rfl) (by kernel_rfl) (by kernel_rfl) (by kernel_rfl) rfl rfl rfl rfl rfl (.inr (fun _ h => h)) ?_
        refine j_p (i := 18) rfl (y_idxc rfl rfl (fun w => fia_79_0 _ _ w)) (by kernel_rfl) (by kernel_rfl) (by kernel_rfl) rfl rfl rfl rfl rfl (.inr (fun _ h => h)) ?_
        refine j_l (i := 19) rfl (y_ld1 0 rfl rfl agg_3 rfl) (by kernel_rfl) (by kernel_rfl) (by kernel_rfl) (by kernel_rfl) rfl rfl rfl rfl rfl (.inr (fun _ h => h)) ?_
        refine j_p (i := 20) rfl (y_idxV (enc := (Value.int .i64)) rfl rfl ha Try.underlying46 size_3 (by omega) (by omega)) (by kernel_rfl) (by kernel_rfl) (by kernel_rfl) rfl rfl rfl rfl rfl (.inr (fun _ h => h)) ?_
        refine j_l (i := 21) rfl (y_ldV (enc := (Value.int .i64)) (xs := a) (fun w h => ha.rdl.below h.below) rfl agg_3 (rdI_at (by omega) (by omega))) (by kernel_rfl) (by kernel_rfl) (by kernel_rfl) (by kernel_rfl) rfl rfl rfl rfl rfl (.inr (fun _ h => h)) ?_
        refine j_p (i := 22) rfl (y_sub rfl rfl (by omega) (by omega)) (by kernel_rfl) (by kernel_rfl) (by kernel_rfl) rfl rfl rfl rfl rfl (.inr (fun _ h => h)) ?_
        refine j_p (i := 23) rfl (y_max rfl rfl) (by kernel_rfl) (by kernel_rfl) (by kernel_rfl) rfl rfl rfl rfl rfl (.inr (fun _ h => h)) ?_
        refine j_p (i := 24) rfl (y_add rfl rfl (by (repeat' split) <;> omega) (by (repeat' split) <;> omega)) (by kernel_rfl) (by kernel_rfl) (by kernel_rfl) rfl rfl rfl rfl rfl (.inr (fun _ h => h)) ?_
        refine j_p (i := 25) rfl (y_assign rfl) (by kernel_rfl) (by kernel_rfl) (by kernel_rfl) rfl rfl rfl rfl rfl (.inr (fun _ h => h)) ?_
        refine j_nil (by kernel_rfl) ?_
        refine g_inb ?_
        refine g_then ?_
        refine g_region ?_
        refine s_y (y_add rfl rfl (by omega) (by omega)) rfl rfl rfl rfl ?_
        refine s_y (y_move rfl) rfl rfl rfl rfl ?_
        refine s_nil ?_
        refine g_then ?_
        exact fun act W ha hw => ⟨k + 1, by omega, by omega, (cst + (if ((rdI b ((rdP (wayL a b) (k : Int)).2)) - (rdI a ((rdP (wayL a b) (k : Int)).1))) > ((rdI a ((rdP (wayL a b) (k : Int)).1)) - (rdI b ((rdP (wayL a b) (k : Int)).2))) then ((rdI b ((rdP (wayL a b) (k : Int)).2)) - (rdI a ((rdP (wayL a b) (k : Int)).1))) else ((rdI a ((rdP (wayL a b) (k : Int)).1)) - (rdI b ((rdP (wayL a b) (k : Int)).2))))), W, (by rw [way_wsum (by omega), ← hcst]; rfl), ha.weak (sub_get ⟨rfl, rfl, rfl, rfl, rfl, rfl, rfl, trivial⟩), hw.toHq.lookSub (List.nil_sublist _)⟩
      · (try simp at cq5)
        refine g_skip ?_
        refine g_then ?_
        have hx1 := mel_rd hxa (rdP (wayL a b) (k : Int)).1
        have hx2 := mel_rd hxb (rdP (wayL a b) (k : Int)).2
        refine g_draw 26 (by kernel_rfl) ?_
        refine j_p (i := 0) rfl (y_move rfl) (by kernel_rfl) (by kernel_rfl) (by kernel_rfl) rfl rfl rfl rfl rfl (.inr (fun _ h => h)) ?_
        refine j_p (i := 1) rfl (y_move rfl) (by kernel_rfl) (by kernel_rfl) (by kernel_rfl) rfl rfl rfl rfl rfl (.inr (fun _ h => h)) ?_
        refine j_p (i := 2) rfl (y_idxc rfl rfl (fun w => fia_79_0 _ _ w)) (by kernel_rfl) (by kernel_rfl) (by kernel_rfl) rfl rfl rfl rfl rfl (.inr (fun _ h => h)) ?_
        refine j_l (i := 3) rfl (y_ld1 0 rfl rfl agg_3 rfl) (by kernel_rfl) (by kernel_rfl) (by kernel_rfl) (by kernel_rfl) rfl rfl rfl rfl rfl (.inr (fun _ h => h)) ?_
        refine j_p (i := 4) rfl (y_idxV (enc := (Value.int .i64)) rfl rfl ha Try.underlying46 size_3 (by omega) (by omega)) (by kernel_rfl) (by kernel_rfl) (by kernel_rfl) rfl rfl rfl rfl rfl (.inr (fun _ h => h)) ?_
        refine j_l (i := 5) rfl (y_ldV (enc := (Value.int .i64)) (xs := a) (fun w h => ha.rdl.below h.below) rfl agg_3 (rdI_at (by omega) (by omega))) (by kernel_rfl) (by kernel_rfl) (by kernel_rfl) (by kernel_rfl) rfl rfl rfl rfl rfl (.inr (fun _ h => h)) ?_
        refine j_p (i := 6) rfl (y_move rfl) (by kernel_rfl) (by kernel_rfl) (by kernel_rfl) rfl rfl rfl rfl rfl (.inr (fun _ h => h)) ?_
        refine j_p (i := 7) rfl (y_idxc rfl rfl (fun w => fia_79_1 _ _ w)) (by kernel_rfl) (by kernel_rfl) (by kernel_rfl) rfl rfl rfl rfl rfl (.inr (fun _ h => h)) ?_
        refine j_l (i := 8) rfl (y_ld1 0 rfl rfl agg_3 rfl) (by kernel_rfl) (by kernel_rfl) (by kernel_rfl) (by kernel_rfl) rfl rfl rfl rfl rfl (.inr (fun _ h => h)) ?_
        refine j_p (i := 9) rfl (y_idxV (enc := (Value.int .i64)) rfl rfl hb Try.underlying46 size_3 (by omega) (by omega)) (by kernel_rfl) (by kernel_rfl) (by kernel_rfl) rfl rfl rfl rfl rfl (.inr (fun _ h => h)) ?_
        refine j_l (i := 10) rfl (y_ldV (enc := (Value.int .i64)) (xs := b) (fun w h => hb.rdl.below h.below) rfl agg_3 (rdI_at (by omega) (by omega))) (by kernel_rfl) (by kernel_rfl) (by kernel_rfl) (by kernel_rfl) rfl rfl rfl rfl rfl (.inr (fun _ h => h)) ?_
        refine j_p (i := 11) rfl (y_sub rfl rfl (by omega) (by omega)) (by kernel_rfl) (by kernel_rfl) (by kernel_rfl) rfl rfl rfl rfl rfl (.inr (fun _ h => h)) ?_
        refine j_p (i := 12) rfl (y_move rfl) (by kernel_rfl) (by kernel_rfl) (by kernel_rfl) rfl rfl rfl rfl rfl (.inr (fun _ h => h)) ?_
        refine j_p (i := 13) rfl (y_idxc rfl rfl (fun w => fia_79_1 _ _ w)) (by kernel_rfl) (by kernel_rfl) (by kernel_rfl) rfl rfl rfl rfl rfl (.inr (fun _ h => h)) ?_
        refine j_l (i := 14) rfl (y_ld1 0 rfl rfl agg_3 rfl) (by kernel_rfl) (by kernel_rfl) (by kernel_rfl) (by kernel_rfl) rfl rfl rfl rfl rfl (.inr (fun _ h => h)) ?_
        refine j_p (i := 15) rfl (y_idxV (enc := (Value.int .i64)) rfl rfl hb Try.underlying46 size_3 (by omega) (by omega)) (by kernel_rfl) (by kernel_rfl) (by kernel_rfl) rfl rfl rfl rfl rfl (.inr (fun _ h => h)) ?_
        refine j_l (i := 16) rfl (y_ldV (enc := (Value.int .i64)) (xs := b) (fun w h => hb.rdl.below h.below) rfl agg_3 (rdI_at (by omega) (by omega))) (by kernel_rfl) (by kernel_rfl) (by kernel_rfl) (by kernel_rfl) rfl rfl rfl rfl rfl (.inr (fun _ h => h)) ?_
        refine j_p (i := 17) rfl (y_move rfl) (by kernel_rfl) (by kernel_rfl) (by kernel_rfl) rfl rfl rfl rfl rfl (.inr (fun _ h => h)) ?_
        refine j_p (i := 18) rfl (y_idxc rfl rfl (fun w => fia_79_0 _ _ w)) (by kernel_rfl) (by kernel_rfl) (by kernel_rfl) rfl rfl rfl rfl rfl (.inr (fun _ h => h)) ?_
        refine j_l (i := 19) rfl (y_ld1 0 rfl rfl agg_3 rfl) (by kernel_rfl) (by kernel_rfl) (by kernel_rfl) (by kernel_rfl) rfl rfl rfl rfl rfl (.inr (fun _ h => h)) ?_
        refine j_p (i := 20) rfl (y_idxV (enc := (Value.int .i64)) rfl rfl ha Try.underlying46 size_3 (by omega) (by omega)) (by kernel_rfl) (by kernel_rfl) (by kernel_rfl) rfl rfl rfl rfl rfl (.inr (fun _ h => h)) ?_
        refine j_l (i := 21) rfl (y_ldV (enc := (Value.int .i64)) (xs := a) (fun w h => ha.rdl.below h.below) rfl agg_3 (rdI_at (by omega) (by omega))) (by kernel_rfl) (by kernel_rfl) (by kernel_rfl) (by kernel_rfl) rfl rfl rfl rfl rfl (.inr (fun _ h => h)) ?_
        refine j_p (i := 22) rfl (y_sub rfl rfl (by omega) (by omega)) (by kernel_rfl) (by kernel_rfl) (by kernel_rfl) rfl rfl rfl rfl rfl (.inr (fun _ h => h)) ?_
        refine j_p (i := 23) rfl (y_max rfl rfl) (by kernel_rfl) (by kernel_rfl) (by kernel_rfl) rfl rfl rfl rfl rfl (.inr (fun _ h => h)) ?_
        refine j_p (i := 24) rfl (y_add rfl rfl (by (repeat' split) <;> omega) (by (repeat' split) <;> omega)) (by kernel_rfl) (by kernel_rfl) (by kernel_rfl) rfl rfl rfl rfl rfl (.inr (fun _ h => h)) ?_
        refine j_p (i := 25) rfl (y_assign rfl) (by kernel_rfl) (by kernel_rfl) (by kernel_rfl) rfl rfl rfl rfl rfl (.inr (fun _ h => h)) ?_
        refine j_nil (by kernel_rfl) ?_
        refine g_inb ?_
        refine g_then ?_
        refine g_region ?_
        refine s_y (y_add rfl rfl (by omega) (by omega)) rfl rfl rfl rfl ?_
        refine s_y (y_move rfl) rfl rfl rfl rfl ?_
        refine s_nil ?_
        refine g_then ?_
        exact fun act W ha hw => ⟨k + 1, by omega, by omega, (cst + (if ((rdI b ((rdP (wayL a b) (k : Int)).2)) - (rdI a ((rdP (wayL a b) (k : Int)).1))) > ((rdI a ((rdP (wayL a b) (k : Int)).1)) - (rdI b ((rdP (wayL a b) (k : Int)).2))) then ((rdI b ((rdP (wayL a b) (k : Int)).2)) - (rdI a ((rdP (wayL a b) (k : Int)).1))) else ((rdI a ((rdP (wayL a b) (k : Int)).1)) - (rdI b ((rdP (wayL a b) (k : Int)).2))))), W, (by rw [way_wsum (by omega), ← hcst]; rfl), ha.weak (sub_get ⟨rfl, rfl, rfl, rfl, rfl, rfl, rfl, trivial⟩), hw.toHq.lookSub (List.nil_sublist _)⟩
  · (try simp at cq1)
    refine g_exit ?_
    refine g_thenx ?_
    refine g_thenx ?_
    refine g_inbx ?_
    refine g_then ?_
    refine g_seq ?_
    have hlast := way_last hal hbl
    refine g_draw 22 (by kernel_rfl) ?_
    refine j_p (i := 0) rfl (y_move rfl) (by kernel_rfl) (by kernel_rfl) (by kernel_rfl) rfl rfl rfl rfl rfl (.inr (fun _ h => h)) ?_
    refine j_p (i := 1) rfl (y_move rfl) (by kernel_rfl) (by kernel_rfl) (by kernel_rfl) rfl rfl rfl rfl rfl (.inr (fun _ h => h)) ?_
    refine j_p (i := 2) rfl (y_lenV (n := ((wayL a b).length)) rfl (by obtain ⟨A, c, h1, _⟩ := hw_; exact ⟨A, c, h1⟩) sle_74) (by kernel_rfl) (by kernel_rfl) (by kernel_rfl) rfl rfl rfl rfl rfl (.inr (fun _ h => h)) ?_
    refine j_p (i := 3) rfl (y_gtr_t rfl rfl (by omega)) (by kernel_rfl) (by kernel_rfl) (by kernel_rfl) rfl rfl rfl rfl rfl (.inr (fun _ h => h)) ?_
    refine j_p (i := 4) rfl (y_move rfl) (by kernel_rfl) (by kernel_rfl) (by kernel_rfl) rfl rfl rfl rfl rfl (.inr (fun _ h => h)) ?_
    refine j_p (i := 5) rfl (y_move rfl) (by kernel_rfl) (by kernel_rfl) (by kernel_rfl) rfl rfl rfl rfl rfl (.inr (fun _ h => h)) ?_
    refine j_p (i := 6) rfl (y_move rfl) (by kernel_rfl) (by kernel_rfl) (by kernel_rfl) rfl rfl rfl rfl rfl (.inr (fun _ h => h)) ?_
    refine j_p (i := 7) rfl (y_lenV (n := ((wayL a b).length)) rfl (by obtain ⟨A, c, h1, _⟩ := hw_; exact ⟨A, c, h1⟩) sle_74) (by kernel_rfl) (by kernel_rfl) (by kernel_rfl) rfl rfl rfl rfl rfl (.inr (fun _ h => h)) ?_
    refine j_p (i := 8) rfl (y_sub rfl rfl (by omega) (by omega)) (by kernel_rfl) (by kernel_rfl) (by kernel_rfl) rfl rfl rfl rfl rfl (.inr (fun _ h => h)) ?_
    refine j_p (i := 9) rfl (y_idxP rfl rfl hw_ Try.underlying74 size_79 (by omega) (by omega)) (by kernel_rfl) (by kernel_rfl) (by kernel_rfl) rfl rfl rfl rfl rfl (.inr (fun _ h => h)) ?_
    refine j_l (i := 10) rfl (y_ldP (xs := (wayL a b)) (fun w h => hw_.rdl.below h.below) rfl agg_79 size_79 (rdP_at (by omega) (by omega))) (by kernel_rfl) (by kernel_rfl) (by kernel_rfl) (by kernel_rfl) rfl rfl rfl rfl rfl (.inr (fun _ h => h)) ?_
    refine j_p (i := 11) rfl (y_move rfl) (by kernel_rfl) (by kernel_rfl) (by kernel_rfl) rfl rfl rfl rfl rfl (.inr (fun _ h => h)) ?_
    refine j_p (i := 12) rfl (y_lenV (n := a.length) rfl (by obtain ⟨A, c, h1, _⟩ := ha; exact ⟨A, c, h1⟩) sle_46) (by kernel_rfl) (by kernel_rfl) (by kernel_rfl) rfl rfl rfl rfl rfl (.inr (fun _ h => h)) ?_
    refine j_p (i := 13) rfl (y_sub rfl rfl (by omega) (by omega)) (by kernel_rfl) (by kernel_rfl) (by kernel_rfl) rfl rfl rfl rfl rfl (.inr (fun _ h => h)) ?_
    refine j_p (i := 14) rfl (y_move rfl) (by kernel_rfl) (by kernel_rfl) (by kernel_rfl) rfl rfl rfl rfl rfl (.inr (fun _ h => h)) ?_
    refine j_p (i := 15) rfl (y_lenV (n := b.length) rfl (by obtain ⟨A, c, h1, _⟩ := hb; exact ⟨A, c, h1⟩) sle_46) (by kernel_rfl) (by kernel_rfl) (by kernel_rfl) rfl rfl rfl rfl rfl (.inr (fun _ h => h)) ?_
    refine j_p (i := 16) rfl (y_sub rfl rfl (by omega) (by omega)) (by kernel_rfl) (by kernel_rfl) (by kernel_rfl) rfl rfl rfl rfl rfl (.inr (fun _ h => h)) ?_
    refine j_p (i := 17) rfl (y_build (vs := [(0, _), (1, _)]) rfl rfl (fun w => bld_79_0_1 _ _ w)) (by kernel_rfl) (by kernel_rfl) (by kernel_rfl) rfl rfl rfl rfl rfl (.inr (fun _ h => h)) ?_
    refine j_p (i := 18) rfl (y_eqlP rfl rfl (fun w => by kernel_rfl) Try.underlying79 hi3.1 (by kernel_rfl) Try.underlying3 (by kernel_rfl)) (by kernel_rfl) (by kernel_rfl) (by kernel_rfl) rfl rfl rfl rfl rfl (.inr (fun _ h => h)) ?_
    refine j_p (i := 19) rfl (y_pick_t rfl rfl) (by kernel_rfl) (by kernel_rfl) (by kernel_rfl) rfl rfl rfl rfl rfl (.inr (fun _ h => h)) ?_
    refine j_p (i := 20) rfl (y_assign rfl) (by kernel_rfl) (by kernel_rfl) (by kernel_rfl) rfl rfl rfl rfl rfl (.inr (fun _ h => h)) ?_
    refine j_p (i := 21) rfl (y_assign rfl) (by kernel_rfl) (by kernel_rfl) (by kernel_rfl) rfl rfl rfl rfl rfl (.inr (fun _ h => h)) ?_
    refine j_nil (by kernel_rfl) ?_
    refine g_then ?_
    refine g_ret ?_
    have hkk : k = (wayL a b).length := by omega
    rw [show ovP a b 0 0 = cst from by rw [hcst, hkk, way_sum hal hbl]]
    rw [show (true : Bool) = decide (((rdP (wayL a b) (((wayL a b).length : Nat) - 1)).1) = ((a.length : Nat) - 1) ∧ ((rdP (wayL a b) (((wayL a b).length : Nat) - 1)).2) = ((b.length : Nat) - 1)) from by rw [hlast]; unfold enP; simp]
    exact g_end trivial (fun a w ha hq_ => res2 ha rfl rfl rfl  w) (fun w h => ⟨rfl, h.below⟩)

end Go.Proofs.Ytnnpdgegejklpaa
