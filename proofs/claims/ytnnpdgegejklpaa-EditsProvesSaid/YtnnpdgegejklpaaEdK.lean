/- edits: Reverse of a script, own, Done. -/
import Derived.Test.YtnnpdgegejklpaaEdScr
import Derived.Test.YtnnpdgegejklpaaEdJ
namespace Go.Proofs.Ytnnpdgegejklpaa
open Go.RowKit Go.Sx 
set_option linter.unusedVariables false
set_option linter.unusedSimpArgs false
set_option maxRecDepth 100000
set_option maxHeartbeats 4000000

private theorem sle_38 : Try.prog.underlying 38 = some (.slice (Try.prog.elem 38)) := by kernel_rfl
private theorem size_88 : (Try.prog.info? 88).map (·.size) = some 2 := by kernel_rfl
private theorem agg_88 : isAggB Try.prog 88 = some true := by kernel_rfl
private theorem zero_88 : (Try.prog.info? 88).bind (·.zero) = some (.agg #[(.int .i64 0), (.int .i64 0)]) := by kernel_rfl
private theorem fld_88_0 (b off : Nat) (w : World) : (Instr.fieldAt 88 (.pointer (some ⟨b, off, none⟩)) 0).run Try.prog w = .ok (.pointer (some ⟨b, off, none⟩)) w := by kernel_rfl
private theorem agg_3 : isAggB Try.prog 3 = some false := by kernel_rfl
private theorem fld_88_1 (b off : Nat) (w : World) : (Instr.fieldAt 88 (.pointer (some ⟨b, off, none⟩)) 1).run Try.prog w = .ok (.pointer (some ⟨b, off + 1, none⟩)) w := by kernel_rfl
private theorem bld_104_0_1 (x0 : Int) (x1 : Int) (w : World) : (Instr.build 104 #[(0, (.int .i64 x0)), (1, (.int .i64 x1))]).run Try.prog w = .ok (.agg #[(.int .i64 x0), (.int .i64 x1)]) w := by kernel_rfl
private theorem inf_104 : ∃ ie, Try.prog.info? 104 = some ie ∧ ie.zero = some (.agg #[(.int .i64 0), (.int .i64 0)]) ∧ ie.size = 2 ∧ ie.bytes = 16 := info_of (by kernel_rfl) (by kernel_rfl)
private theorem inf_5 : ∃ ie, Try.prog.info? 5 = some ie ∧ ie.zero = some (.int .u8 0) ∧ ie.size = 1 ∧ ie.bytes = 1 := info_of (by kernel_rfl) (by kernel_rfl)
private theorem sle_43 : Try.prog.underlying 43 = some (.slice (Try.prog.elem 43)) := by kernel_rfl
private theorem size_104 : (Try.prog.info? 104).map (·.size) = some 2 := by kernel_rfl
private theorem agg_104 : isAggB Try.prog 104 = some true := by kernel_rfl
private theorem zero_104 : (Try.prog.info? 104).bind (·.zero) = some (.agg #[(.int .i64 0), (.int .i64 0)]) := by kernel_rfl
private theorem fld_104_0 (b off : Nat) (w : World) : (Instr.fieldAt 104 (.pointer (some ⟨b, off, none⟩)) 0).run Try.prog w = .ok (.pointer (some ⟨b, off, none⟩)) w := by kernel_rfl
private theorem fld_104_1 (b off : Nat) (w : World) : (Instr.fieldAt 104 (.pointer (some ⟨b, off, none⟩)) 1).run Try.prog w = .ok (.pointer (some ⟨b, off + 1, none⟩)) w := by kernel_rfl
private theorem fld_23_2 (b off : Nat) (w : World) : (Instr.fieldAt 23 (.pointer (some ⟨b, off, none⟩)) 2).run Try.prog w = .ok (.pointer (some ⟨b, off + 2, none⟩)) w := by kernel_rfl
private theorem fld_23_1 (b off : Nat) (w : World) : (Instr.fieldAt 23 (.pointer (some ⟨b, off, none⟩)) 1).run Try.prog w = .ok (.pointer (some ⟨b, off + 1, none⟩)) w := by kernel_rfl
private theorem fld_23_0 (b off : Nat) (w : World) : (Instr.fieldAt 23 (.pointer (some ⟨b, off, none⟩)) 0).run Try.prog w = .ok (.pointer (some ⟨b, off, none⟩)) w := by kernel_rfl

/-- The first i and the last i of a row exchanged. -/
def RevI (zs ys : List (Int × Int)) (i : Nat) : Prop := ys.length = zs.length ∧ ∀ k : Nat, k < zs.length → rdP ys (k : Int) = if k < i ∨ zs.length ≤ k + i then rdP zs ((zs.length - 1 - k : Nat) : Int) else rdP zs (k : Int)
theorem RevI.start (zs : List (Int × Int)) : RevI zs zs 0 := ⟨rfl, fun k hk => by rw [if_neg (by omega)]⟩
theorem rdP_set {xs : List (Int × Int)} {i k : Nat} {v : Int × Int} (hi : i < xs.length) : rdP (xs.set i v) (k : Int) = if i = k then v else rdP xs (k : Int) := by
  simp only [rdP, Int.toNat_natCast, List.getD_eq_getElem?_getD, List.getElem?_set]
  by_cases c : i = k
  · subst c; simp [hi]
  · simp [c]
theorem RevI.step {zs ys : List (Int × Int)} {i : Nat} {j : Int} (h : RevI zs ys i) (hj : j = (zs.length : Int) - 1 - i) (hij : (i : Int) < j) :
    RevI zs ((ys.set ((i : Int)).toNat ((rdP ys j).1, (rdP ys j).2)).set j.toNat ((rdP ys (i : Int)).1, (rdP ys (i : Int)).2)) (i + 1) := by
  obtain ⟨n, rfl⟩ : ∃ n : Nat, j = n := ⟨j.toNat, by omega⟩
  obtain ⟨hl, hr⟩ := h
  refine ⟨by simp [hl], fun k hk => ?_⟩
  simp only [Int.toNat_natCast]
  rw [rdP_set (by simp; omega), rdP_set (by omega), hr n (by omega), hr i (by omega), hr k hk]
  have e1 : ¬ (n < i ∨ zs.length ≤ n + i) := by omega
  have e2 : ¬ (i < i ∨ zs.length ≤ i + i) := by omega
  rw [if_neg e1, if_neg e2]
  by_cases c : n = k
  · subst c
    rw [if_pos rfl, if_pos (by omega), show zs.length - 1 - n = i by omega]
  · rw [if_neg c]
    by_cases c2 : i = k
    · subst c2
      rw [if_pos rfl, if_pos (by omega), show zs.length - 1 - i = n by omega]
    · rw [if_neg c2]
      by_cases c3 : k < i ∨ zs.length ≤ k + i
      · rw [if_pos c3, if_pos (by omega)]
      · rw [if_neg c3, if_neg (by omega)]
theorem RevI.done {zs ys : List (Int × Int)} {i : Nat} (h : RevI zs ys i) (hi : ¬ (i : Int) < (zs.length : Int) - 1 - i) : ys = zs.reverse := by
  obtain ⟨hl, hr⟩ := h
  refine rdP_ext (by simp [hl]) fun k hk => ?_
  rw [hl] at hk
  rw [hr k hk, rdP_getElem (xs := zs.reverse) (by simpa using hk), List.getElem_reverse, ← rdP_getElem]
  by_cases c : k < i ∨ zs.length ≤ k + i
  · rw [if_pos c]
  · rw [if_neg c, show zs.length - 1 - k = k by omega]

theorem Rev_own {w0 w1 w : World} {m : List (Nat × Obj)} {b cap : Nat} {zs : List (Int × Int)} {jk : List Value} {e0 : TypeId} (hw : Hp w0 w1 ((b, .cells (cellsP zs ++ jk).toArray e0 (0, 0)) :: (m ++ [])) w) (hl : zs.length ≤ 1000) :
    Calls Try.prog 67 [.slice (some ⟨b, 0, none⟩) zs.length cap].toArray w fun e w' => e = .returned (.tuple #[]) ∧ Hp w0 w1 ((b, .cells (cellsP zs.reverse ++ jk).toArray e0 (0, 0)) :: (m ++ [])) w' := by
  refine enterM (N := 28) Try.func67 rfl rfl rfl hw ?_
  refine g_seq ?_
  refine g_region ?_
  refine s_y (y_move rfl) rfl rfl rfl rfl ?_
  refine s_y (y_lensl rfl sle_38) rfl rfl rfl rfl ?_
  refine s_y (y_sub rfl rfl (by omega) (by omega)) rfl rfl rfl rfl ?_
  refine s_y (y_assign rfl) rfl rfl rfl rfl ?_
  refine s_y (y_assign rfl) rfl rfl rfl rfl ?_
  refine s_nil ?_
  refine g_then ?_
  refine g_block ?_
  refine g_loop (fun (i : Nat) act W => True ∧ ∃ (ys : List (Int × Int)) (z : Int) , (RevI zs ys i) ∧ (z = (zs.length : Int) - 1 - i) ∧ Has 28 [] [(0, .slice (some ⟨b, 0, none⟩) zs.length cap), (2, .int .i64 (i : Int)), (3, .int .i64 z)] act ∧ Hp w0 w1 ((b, .cells ((cellsP ys) ++ jk).toArray e0 (0, 0)) :: (m ++ ([]))) W) (fun i => zs.length - i) 0 (fun act W ha hw => ⟨trivial, zs, (zs.length : Int) - 1, (by exact RevI.start zs), (by omega), ha.weak (sub_get ⟨rfl, rfl, rfl, trivial⟩), hw ⟩) ?_
  intro i act W ⟨hb_i, ys, z, hR, hz, ha, hw⟩
  refine g_go ha hw ?_
  clear ha hw act W
  have hyl : ys.length = zs.length := hR.1
  refine g_seq ?_
  refine g_seq ?_
  refine g_region ?_
  refine s_y (y_move rfl) rfl rfl rfl rfl ?_
  refine s_y (y_move rfl) rfl rfl rfl rfl ?_
  refine s_y (y_lss rfl rfl) rfl rfl rfl rfl ?_
  refine s_nil ?_
  refine g_then ?_
  refine g_cond rfl (fun cq1 => ?_) (fun cq1 => ?_)
  · (try simp at cq1)
    refine g_skip ?_
    refine g_then ?_
    refine g_seq ?_
    refine g_block ?_
    refine g_draw 13 (by kernel_rfl) ?_
    refine j_p (i := 0) rfl (y_move rfl) (by kernel_rfl) (by kernel_rfl) (by kernel_rfl) rfl rfl rfl rfl rfl (.inr (fun _ h => h)) ?_
    refine j_p (i := 1) rfl (y_move rfl) (by kernel_rfl) (by kernel_rfl) (by kernel_rfl) rfl rfl rfl rfl rfl (.inr (fun _ h => h)) ?_
    refine j_p (i := 2) rfl (y_move rfl) (by kernel_rfl) (by kernel_rfl) (by kernel_rfl) rfl rfl rfl rfl rfl (.inr (fun _ h => h)) ?_
    refine j_p (i := 3) rfl (y_move rfl) (by kernel_rfl) (by kernel_rfl) (by kernel_rfl) rfl rfl rfl rfl rfl (.inr (fun _ h => h)) ?_
    refine j_p (i := 4) rfl (y_move rfl) (by kernel_rfl) (by kernel_rfl) (by kernel_rfl) rfl rfl rfl rfl rfl (.inr (fun _ h => h)) ?_
    refine j_p (i := 5) rfl (y_move rfl) (by kernel_rfl) (by kernel_rfl) (by kernel_rfl) rfl rfl rfl rfl rfl (.inr (fun _ h => h)) ?_
    refine j_p (i := 6) rfl (y_idxb rfl rfl Try.underlying38 size_88 (by omega) (by omega)) (by kernel_rfl) (by kernel_rfl) (by kernel_rfl) rfl rfl rfl rfl rfl (.inr (fun _ h => h)) ?_
    refine j_l (i := 7) rfl (y_ldLP (xs := ys) (jk := jk) 0 rfl rfl agg_88 size_88 (rdP_at (by omega) (by omega))) (by kernel_rfl) (by kernel_rfl) (by kernel_rfl) (by kernel_rfl) rfl rfl rfl rfl rfl (.inr (fun _ h => h)) ?_
    refine j_p (i := 8) rfl (y_move rfl) (by kernel_rfl) (by kernel_rfl) (by kernel_rfl) rfl rfl rfl rfl rfl (.inr (fun _ h => h)) ?_
    refine j_p (i := 9) rfl (y_move rfl) (by kernel_rfl) (by kernel_rfl) (by kernel_rfl) rfl rfl rfl rfl rfl (.inr (fun _ h => h)) ?_
    refine j_p (i := 10) rfl (y_idxb rfl rfl Try.underlying38 size_88 (by omega) (by omega)) (by kernel_rfl) (by kernel_rfl) (by kernel_rfl) rfl rfl rfl rfl rfl (.inr (fun _ h => h)) ?_
    refine j_l (i := 11) rfl (y_ldLP (xs := ys) (jk := jk) 0 rfl rfl agg_88 size_88 (rdP_at (by omega) (by omega))) (by kernel_rfl) (by kernel_rfl) (by kernel_rfl) (by kernel_rfl) rfl rfl rfl rfl rfl (.inr (fun _ h => h)) ?_
    refine j_p (i := 12) rfl (y_idxb rfl rfl Try.underlying38 size_88 (by omega) (by omega)) (by kernel_rfl) (by kernel_rfl) (by kernel_rfl) rfl rfl rfl rfl rfl (.inr (fun _ h => h)) ?_
    refine j_tr0 (i := 13) rfl (t_storeP (p := ((rdP ys z).1, (rdP ys z).2)) (xs := ys) (jk := jk) 0 rfl rfl rfl size_88 (by omega)) (by kernel_rfl) rfl rfl rfl (.inl rfl) (fun _ _ => ?_)
    refine j_p (i := 14) rfl (y_idxb rfl rfl Try.underlying38 size_88 (by omega) (by omega)) (by kernel_rfl) (by kernel_rfl) (by kernel_rfl) rfl rfl rfl rfl rfl (.inl rfl) ?_
    refine j_tr0 (i := 15) rfl (t_storeP (p := ((rdP ys (i : Int)).1, (rdP ys (i : Int)).2)) (xs := ys.set ((i : Int) : Int).toNat ((rdP ys z).1, (rdP ys z).2)) (jk := jk) 0 rfl rfl rfl size_88 (by rw [List.length_set]; omega)) (by kernel_rfl) rfl rfl rfl (.inl rfl) (fun _ _ => ?_)
    refine j_nil (by kernel_rfl) ?_
    refine g_inb ?_
    refine g_then ?_
    refine g_region ?_
    refine s_y (y_move rfl) rfl rfl rfl rfl ?_
    refine s_y (y_add rfl rfl (by omega) (by omega)) rfl rfl rfl rfl ?_
    refine s_y (y_move rfl) rfl rfl rfl rfl ?_
    refine s_y (y_sub rfl rfl (by omega) (by omega)) rfl rfl rfl rfl ?_
    refine s_y (y_assign rfl) rfl rfl rfl rfl ?_
    refine s_y (y_assign rfl) rfl rfl rfl rfl ?_
    refine s_nil ?_
    refine g_then ?_
    exact fun act W ha hw => ⟨i + 1, by omega, trivial, (ys.set ((i : Int) : Int).toNat ((rdP ys z).1, (rdP ys z).2)).set (z : Int).toNat ((rdP ys (i : Int)).1, (rdP ys (i : Int)).2), (z - 1), (by exact hR.step hz (by omega)), (by omega), ha.weak (sub_get ⟨rfl, rfl, rfl, trivial⟩), hw ⟩
  · (try simp at cq1)
    refine g_exit ?_
    refine g_thenx ?_
    refine g_thenx ?_
    refine g_inbx ?_
    rw [show ys = zs.reverse from hR.done (by omega)]
    exact g_end0 (fun a w ha hq_ => res0 rfl w) (fun w h => ⟨rfl, h⟩)

theorem Rev_nil {w0 w1 w : World} {m : List (Nat × Obj)} (hw : Hp w0 w1 (m ++ []) w) : Calls Try.prog 67 [.slice none 0 0].toArray w fun e w' => e = .returned (.tuple #[]) ∧ Hp w0 w1 (m ++ []) w' := by
  refine enterM (N := 28) Try.func67 rfl rfl rfl hw ?_
  refine g_seq ?_
  refine g_region ?_
  refine s_y (y_move rfl) rfl rfl rfl rfl ?_
  refine s_y (y_lensl rfl sle_38) rfl rfl rfl rfl ?_
  refine s_y (y_sub rfl rfl (by omega) (by omega)) rfl rfl rfl rfl ?_
  refine s_y (y_assign rfl) rfl rfl rfl rfl ?_
  refine s_y (y_assign rfl) rfl rfl rfl rfl ?_
  refine s_nil ?_
  refine g_then ?_
  refine g_block ?_
  refine g_loop (fun (i : Nat) act W => True ∧ Has 28 [] [(0, .slice none 0 0), (2, .int .i64 0), (3, .int .i64 (-1))] act ∧ Hp w0 w1 ((m ++ ([]))) W) (fun i => 0) 0 (fun act W ha hw => ⟨trivial, ha.weak (sub_get ⟨rfl, rfl, rfl, trivial⟩), hw ⟩) ?_
  intro i act W ⟨hb_i, ha, hw⟩
  refine g_go ha hw ?_
  clear ha hw act W
  refine g_seq ?_
  refine g_seq ?_
  refine g_region ?_
  refine s_y (y_move rfl) rfl rfl rfl rfl ?_
  refine s_y (y_move rfl) rfl rfl rfl rfl ?_
  refine s_y (y_lss_f rfl rfl (by decide)) rfl rfl rfl rfl ?_
  refine s_nil ?_
  refine g_then ?_
  refine g_cond_f rfl ?_
  refine g_exit ?_
  refine g_thenx ?_
  refine g_thenx ?_
  refine g_inbx ?_
  exact g_end0 (fun a w ha hq_ => res0 rfl w) (fun w h => ⟨rfl, h⟩)

theorem Rev_sv {w0 w1 w : World} {m : List (Nat × Obj)} {sv : SV} {n : Nat} {zs : List (Int × Int)} {T : TypeId} (pre post : List (Nat × Obj)) (hm : m = pre ++ (sv.mem T (cellsP zs) ++ post)) (hok : sv.ok 2 n (cellsP zs)) (hl : zs.length ≤ 1000) (hw : Hp w0 w1 m w) :
    Calls Try.prog 67 [sv.val n].toArray w fun e w' => e = .returned (.tuple #[]) ∧ Hp w0 w1 (pre ++ (sv.mem T (cellsP zs.reverse) ++ post)) w' := by
  subst hm
  cases sv with
  | nil =>
    obtain ⟨rfl, h⟩ := hok
    have := cellsP_nil h
    subst this
    have := Rev_nil (m := pre ++ post) (w := w) (w0 := w0) (w1 := w1) (by simpa [SV.mem] using hw)
    exact this.mono fun e w' ⟨h1, h2⟩ => ⟨h1, by simpa [SV.mem] using h2⟩
  | own b cap jk =>
    obtain ⟨h1, h2, h3, h4⟩ := hok
    have hn : n = zs.length := by rw [cellsP_len] at h3; omega
    subst hn
    have := Rev_own (cap := cap) (jk := jk) (zs := zs) (b := b) (e0 := T) (m := pre ++ post) (w := w) (w0 := w0) (w1 := w1) (by
      rw [List.append_nil]
      exact hw.perm List.perm_middle) hl
    exact this.mono fun e w' ⟨h1, h2⟩ => ⟨h1, by
      rw [List.append_nil] at h2
      exact h2.perm List.perm_middle.symm⟩
theorem rev_ok {sv : SV} {n : Nat} {zs : List (Int × Int)} (hok : sv.ok 2 n (cellsP zs)) : sv.ok 2 n (cellsP zs.reverse) := by
  cases sv with
  | nil =>
    obtain ⟨rfl, h⟩ := hok
    have := cellsP_nil h
    subst this
    exact ⟨rfl, rfl⟩
  | own b cap jk =>
    obtain ⟨h1, h2, h3, h4⟩ := hok
    rw [cellsP_len] at h3 h4
    exact ⟨h1, h2, by rw [cellsP_len, List.length_reverse]; exact h3, by rw [cellsP_len, List.length_reverse]; exact h4⟩

theorem own_any (w : World) (v : Value) (xs : List (Int × Int)) (hv : RdP w v xs) (hl : xs.length ≤ 1000) :
    Calls Try.prog 29 [v].toArray w fun e w' => ∃ x : Value × List (Nat × Obj), (OwnP x.1 xs x.2 ∧ ∃ W : World, ∀ p ∈ x.2, W.heap[p.1]? = some p.2) ∧ e = .returned (x.1) ∧ Hq w w x.2 w' := by
  obtain ⟨ie104, hi104⟩ := inf_104
  refine enter (N := 22) Try.func29 rfl rfl rfl ?_
  refine g_seq ?_
  refine g_region ?_
  refine s_y (y_assign rfl) rfl rfl rfl rfl ?_
  refine s_nil ?_
  refine g_then ?_
  refine g_seq ?_
  refine g_region ?_
  refine s_y (y_assign rfl) rfl rfl rfl rfl ?_
  refine s_nil ?_
  refine g_then ?_
  refine g_seq ?_
  refine g_seq ?_
  refine g_region ?_
  refine s_y (y_move rfl) rfl rfl rfl rfl ?_
  refine s_y (y_lenV (n := xs.length) rfl (by obtain ⟨A, c, h1, _⟩ := hv; exact ⟨A, c, h1⟩) sle_38) rfl rfl rfl rfl ?_
  refine s_y (y_move rfl) rfl rfl rfl rfl ?_
  refine s_nil ?_
  refine g_then ?_
  refine g_block ?_
  refine g_loop (fun (i : Nat) act W => i ≤ xs.length ∧ ∃ (sv : SV) (m : Nat) (zs : List (Int × Int)) (w1 : World), (sv.ok 2 m (cellsP zs)) ∧ (m ≤ i) ∧ (zs = xs.take i) ∧ Has 22 [] [(2, .slice none 0 0), (3, sv.val m), (6, v), (7, .int .i64 (xs.length : Nat)), (8, .int .i64 (i : Int))] act ∧ Hp w w1 ((sv.mem 104 (cellsP zs) ++ ([]))) W) (fun i => xs.length - i) 0 (fun act W ha hw => ⟨by omega, SV.nil, 0, [], W, (by exact ⟨rfl, rfl⟩), (by omega), (by simp), ha.weak (sub_get ⟨rfl, rfl, rfl, rfl, rfl, trivial⟩), hw.toHq.lookSub (List.Sublist.refl _)⟩) ?_
  intro i act W ⟨hb_i, sv, m, zs, w1, hokz, hmi, hzs, ha, hw⟩
  refine g_go ha hw ?_
  clear ha hw act W
  refine g_seq ?_
  refine g_region ?_
  refine s_y (y_lss rfl rfl) rfl rfl rfl rfl ?_
  refine s_nil ?_
  refine g_then ?_
  refine g_seq ?_
  refine g_cond rfl (fun cq1 => ?_) (fun cq1 => ?_)
  · (try simp at cq1)
    refine g_skip ?_
    refine g_then ?_
    refine g_seq ?_
    refine g_block ?_
    refine g_seq ?_
    refine g_region ?_
    refine s_y (y_idxP rfl rfl hv Try.underlying38 size_88 (by omega) (by omega)) rfl rfl rfl rfl ?_
    refine s_y (y_ldP (xs := xs) (fun w h => hv.rdl.below h.below) rfl agg_88 size_88 (rdP_at (by omega) (by omega))) rfl rfl rfl rfl ?_
    refine s_tr (t_alloc zero_88 rfl) rfl rfl rfl rfl (fun b2 hb2 => ?_)
    refine s_tr0 (t_store 0 rfl rfl rfl rfl size_88 rfl rfl) rfl rfl rfl (fun _ _ => ?_)
    refine s_nil ?_
    refine g_then ?_
    refine g_region ?_
    refine s_y (y_move rfl) rfl rfl rfl rfl ?_
    refine s_y (y_fld rfl (fun w => fld_88_0 _ _ w)) rfl rfl rfl rfl ?_
    refine s_y (y_ld1 0 rfl rfl agg_3 rfl) rfl rfl rfl rfl ?_
    refine s_y (y_fld rfl (fun w => fld_88_1 _ _ w)) rfl rfl rfl rfl ?_
    refine s_y (y_ld1 0 rfl rfl agg_3 rfl) rfl rfl rfl rfl ?_
    refine s_y (y_build (vs := [(0, _), (1, _)]) rfl rfl (fun w => bld_104_0_1 _ _ w)) rfl rfl rfl rfl ?_
    refine s_tr (t_build (vs := [(0, .agg #[.int .i64 ((rdP xs (i : Int)).1), .int .i64 ((rdP xs (i : Int)).2)])]) (cells := [.int .i64 ((rdP xs (i : Int)).1), .int .i64 ((rdP xs (i : Int)).2)]) rfl rfl Try.underlying43 hi104.1 hi104.2.1 (by rw [hi104.2.2.1]; rfl) (by rw [hi104.2.2.1]; rfl) (by rw [hi104.2.2.1]; kernel_rfl)) rfl rfl rfl rfl (fun b3 hb3 => ?_)
    refine s_tr (t_appendP (sv := sv) (xs := zs) (n := m) (p := ((rdP xs (i : Int)).1, (rdP xs (i : Int)).2)) [_, _] _ rfl rfl rfl hokz Try.underlying43 hi104.1 hi104.2.1 hi104.2.2.1 hi104.2.2.2 rfl (fun w h => pair_new (i := 0) (p := ((rdP xs (i : Int)).1, (rdP xs (i : Int)).2)) h rfl) (by omega) (by unfold maxLen; omega)) rfl rfl rfl rfl (fun y7 hy8 => ?_)
    obtain ⟨sv4, gs5⟩ := y7
    obtain ⟨⟨hok6, hok6b, hok6c, hok6j, hok6e⟩, hok6n⟩ := hy8
    refine s_y (y_assign rfl) rfl rfl rfl rfl ?_
    refine s_nil ?_
    refine g_inb ?_
    refine g_then ?_
    refine g_region ?_
    refine s_y (y_add rfl rfl (by omega) (by omega)) rfl rfl rfl rfl ?_
    refine s_y (y_move rfl) rfl rfl rfl rfl ?_
    refine s_nil ?_
    refine g_then ?_
    exact fun act W ha hw => ⟨i + 1, by omega, by omega, sv4, (m + 1), (zs ++ [((rdP xs (i : Int)).1, (rdP xs (i : Int)).2)]), W, (by exact hok6), (by omega), (by rw [rdP_take (by omega), hzs]), ha.weak (sub_get ⟨rfl, rfl, rfl, rfl, rfl, trivial⟩), hw.toHq.lookSub (List.Sublist.cons _ (List.Sublist.cons _ (sub_app (sv4.mem 104 (cellsP (zs ++ [((rdP xs (i : Int)).1, (rdP xs (i : Int)).2)]))) (List.nil_sublist _))))⟩
  · (try simp at cq1)
    refine g_exit ?_
    refine g_thenx ?_
    refine g_thenx ?_
    refine g_inbx ?_
    refine g_then ?_
    refine g_seq ?_
    refine g_region ?_
    refine s_y (y_move rfl) rfl rfl rfl rfl ?_
    refine s_y (y_assign rfl) rfl rfl rfl rfl ?_
    refine s_nil ?_
    refine g_then ?_
    refine g_ret ?_
    obtain rfl : i = xs.length := by omega
    rw [List.take_length] at hzs
    rw [show xs = zs from hzs.symm]
    exact g_end trivial (fun a w ha hq_ => res1 ha rfl rfl  w) (fun w h => ⟨(_, sv.mem 104 (cellsP zs)), ⟨(OwnP.sv hokz), w, (h.hand (sub_here (sv.mem 104 (cellsP zs)) _)).at_⟩, rfl, h.hand (sub_here (sv.mem 104 (cellsP zs)) _)⟩)

theorem Done_any (w : World) (a : ByteArray) (pi po ps : Int) (v : Value) (xs : List (Int × Int)) (hp : okP pi po ps) (hv : RdP w v xs) (hl : xs.length ≤ 1000) (ha : a.size ≤ 140737488351232) :
    Calls Try.prog 28 [.string a, .agg #[.int .i64 pi, .int .i64 po, .int .i64 ps], v].toArray w fun e w' => e = .returned (.tuple #[.string (doneR a (runE a pi po ps st0 xs)).1, .int .i64 (doneR a (runE a pi po ps st0 xs)).2.1, .bool (doneR a (runE a pi po ps st0 xs)).2.2]) ∧ Below w.heap.size w w' := by
  obtain ⟨hp1, hp2, hp3⟩ := id hp
  obtain ⟨ie5, hi5⟩ := inf_5
  refine enter (N := 121) Try.func28 rfl rfl rfl ?_
  refine g_seq ?_
  refine g_region ?_
  refine s_tr (t_box rfl rfl) rfl rfl rfl rfl (fun b1 hb1 => ?_)
  refine s_y (y_assign rfl) rfl rfl rfl rfl ?_
  refine s_y (y_assign rfl) rfl rfl rfl rfl ?_
  refine s_y (y_assign rfl) rfl rfl rfl rfl ?_
  refine s_nil ?_
  refine g_then ?_
  refine g_seq ?_
  refine g_region ?_
  refine s_tr (t_build0 (enc := (Value.int .u8)) Try.underlying103 hi5.1) rfl rfl rfl rfl (fun b2 hb2 => ?_)
  have hok3 : (SV.own b2 0 []).ok 1 0 (List.map (Value.int .u8) []) := ⟨Nat.le_refl _, Nat.zero_le _, rfl, rfl⟩
  refine s_y (y_assign rfl) rfl rfl rfl rfl ?_
  refine s_y (y_assign rfl) rfl rfl rfl rfl ?_
  refine s_y (y_assign rfl) rfl rfl rfl rfl ?_
  refine s_nil ?_
  refine g_then ?_
  refine g_seq ?_
  refine g_seq ?_
  refine g_region ?_
  refine s_y (y_move rfl) rfl rfl rfl rfl ?_
  refine s_y (y_lenV (n := xs.length) rfl (by obtain ⟨A, c, h1, _⟩ := hv; exact ⟨A, c, h1⟩) sle_43) rfl rfl rfl rfl ?_
  refine s_y (y_move rfl) rfl rfl rfl rfl ?_
  refine s_nil ?_
  refine g_then ?_
  refine g_block ?_
  refine g_loop (fun (i : Nat) act W => i ≤ xs.length ∧ ∃ (sv : SV) (m : Nat) (os : List Int) (c : Int) (t : Nat) (w1 : World), (sv.ok 1 m (os.map (Value.int .u8))) ∧ (m ≤ i) ∧ (runE a pi po ps st0 (xs.take i) = some (os, c, t)) ∧ Has 121 [] [(0, .string a), (4, .pointer (some ⟨b1, 0, none⟩)), (9, sv.val m), (10, .int .i64 c), (11, .int .i64 (t : Int)), (15, v), (16, .int .i64 (xs.length : Nat)), (17, .int .i64 (i : Int))] act ∧ Hp w w1 ((sv.mem 5 (os.map (Value.int .u8)) ++ ((b1, .cells [.int .i64 pi, .int .i64 po, .int .i64 ps].toArray 23 (0, 0)) :: []))) W) (fun i => xs.length - i) 0 (fun act W ha hw => ⟨by omega, (SV.own b2 0 []), 0, [], 0, 0, W, (by exact hok3), (by omega), (by simp [runE]), ha.weak (sub_get ⟨rfl, rfl, rfl, rfl, rfl, rfl, rfl, rfl, trivial⟩), hw.toHq.lookSub (List.Sublist.refl _)⟩) ?_
  intro i act W ⟨hb_i, sv, m, os, c, t, w1, hokz, hmi, hrun, ha, hw⟩
  refine g_go ha hw ?_
  clear ha hw act W
  obtain ⟨hb1, hb2, hb3, hb4, hb5, hb6⟩ := runE_bounds hp _ _ _ _ hrun
  rw [List.length_take] at hb1 hb3 hb5
  refine g_seq ?_
  refine g_region ?_
  refine s_y (y_lss rfl rfl) rfl rfl rfl rfl ?_
  refine s_nil ?_
  refine g_then ?_
  refine g_seq ?_
  refine g_cond rfl (fun cq4 => ?_) (fun cq4 => ?_)
  · (try simp at cq4)
    refine g_skip ?_
    refine g_then ?_
    refine g_seq ?_
    refine g_block ?_
    refine g_seq ?_
    refine g_region ?_
    refine s_y (y_idxP rfl rfl hv Try.underlying43 size_104 (by omega) (by omega)) rfl rfl rfl rfl ?_
    refine s_y (y_ldP (xs := xs) (fun w h => hv.rdl.below h.below) rfl agg_104 size_104 (rdP_at (by omega) (by omega))) rfl rfl rfl rfl ?_
    refine s_tr (t_alloc zero_104 rfl) rfl rfl rfl rfl (fun b5 hb5 => ?_)
    refine s_tr0 (t_store 0 rfl rfl rfl rfl size_104 rfl rfl) rfl rfl rfl (fun _ _ => ?_)
    refine s_nil ?_
    refine g_then ?_
    refine g_seq ?_
    refine g_seq ?_
    refine g_region ?_
    refine s_y (y_fld rfl (fun w => fld_104_0 _ _ w)) rfl rfl rfl rfl ?_
    refine s_y (y_ld1 0 rfl rfl agg_3 rfl) rfl rfl rfl rfl ?_
    refine s_y (y_lss rfl rfl) rfl rfl rfl rfl ?_
    refine s_y (y_move rfl) rfl rfl rfl rfl ?_
    refine g_bool 24 rfl (fun cq6 => ?_) (fun cq6 => ?_)
    · (try simp at cq6)
      refine s_no rfl rfl rfl ?_
      refine s_no rfl rfl rfl ?_
      refine s_no rfl rfl rfl ?_
      refine s_y (y_pick_t rfl rfl) rfl rfl rfl rfl ?_
      refine s_y (y_move rfl) rfl rfl rfl rfl ?_
      refine s_no rfl rfl rfl ?_
      refine s_no rfl rfl rfl ?_
      refine s_no rfl rfl rfl ?_
      refine s_y (y_pick_t rfl rfl) rfl rfl rfl rfl ?_
      refine s_y (y_move rfl) rfl rfl rfl rfl ?_
      refine s_no rfl rfl rfl ?_
      refine s_no rfl rfl rfl ?_
      refine s_no rfl rfl rfl ?_
      refine s_y (y_pick_t rfl rfl) rfl rfl rfl rfl ?_
      refine s_y (y_move rfl) rfl rfl rfl rfl ?_
      refine s_no rfl rfl rfl ?_
      refine s_no rfl rfl rfl ?_
      refine s_no rfl rfl rfl ?_
      refine s_no rfl rfl rfl ?_
      refine s_no rfl rfl rfl ?_
      refine s_noU rfl rfl rfl rfl rfl ?_
      refine s_noU rfl rfl rfl rfl rfl ?_
      refine s_noU rfl rfl rfl rfl rfl ?_
      refine s_no rfl rfl rfl ?_
      refine s_y (y_pick_t rfl rfl) rfl rfl rfl rfl ?_
      refine s_y (y_move rfl) rfl rfl rfl rfl ?_
      refine s_no rfl rfl rfl ?_
      refine s_no rfl rfl rfl ?_
      refine s_no rfl rfl rfl ?_
      refine s_no rfl rfl rfl ?_
      refine s_noU rfl rfl rfl rfl rfl ?_
      refine s_noU rfl rfl rfl rfl rfl ?_
      refine s_noU rfl rfl rfl rfl rfl ?_
      refine s_noU rfl rfl rfl rfl rfl ?_
      refine s_no rfl rfl rfl ?_
      refine s_y (y_pick_t rfl rfl) rfl rfl rfl rfl ?_
      refine s_nil ?_
      refine g_then ?_
      refine g_cond_t rfl ?_
      refine g_seq ?_
      refine g_region ?_
      refine s_y (y_assign rfl) rfl rfl rfl rfl ?_
      refine s_y (y_assign rfl) rfl rfl rfl rfl ?_
      refine s_y (y_assign rfl) rfl rfl rfl rfl ?_
      refine s_nil ?_
      refine g_then ?_
      refine g_ret ?_
      refine g_thenr ?_
      refine g_inbr ?_
      refine g_thenr ?_
      refine g_thenr ?_
      refine g_inbr ?_
      refine g_thenr ?_
      have hnone : runE a pi po ps st0 xs = none := runE_cut (n := i + 1) (by
        rw [rdP_take (by omega), runE_snoc, hrun]; exact if_neg (by
          rintro ⟨g1, g2, g3, g4, g5, g6, g7⟩
          omega))
      rw [hnone]
      exact g_end trivial (fun a w ha hq_ => res3 ha rfl rfl rfl rfl  w) (fun w h => ⟨rfl, h.below⟩)
    · (try simp at cq6)
      refine s_y (y_fld rfl (fun w => fld_104_0 _ _ w)) rfl rfl rfl rfl ?_
      refine s_y (y_ld1 0 rfl rfl agg_3 rfl) rfl rfl rfl rfl ?_
      refine s_y (y_gtr rfl rfl) rfl rfl rfl rfl ?_
      refine s_y (y_pick_f rfl rfl) rfl rfl rfl rfl ?_
      refine s_y (y_move rfl) rfl rfl rfl rfl ?_
      refine g_bool 29 rfl (fun cq7 => ?_) (fun cq7 => ?_)
      · (try simp at cq7)
        refine s_no rfl rfl rfl ?_
        refine s_no rfl rfl rfl ?_
        refine s_no rfl rfl rfl ?_
        refine s_y (y_pick_t rfl rfl) rfl rfl rfl rfl ?_
        refine s_y (y_move rfl) rfl rfl rfl rfl ?_
        refine s_no rfl rfl rfl ?_
        refine s_no rfl rfl rfl ?_
        refine s_no rfl rfl rfl ?_
        refine s_y (y_pick_t rfl rfl) rfl rfl rfl rfl ?_
        refine s_y (y_move rfl) rfl rfl rfl rfl ?_
        refine s_no rfl rfl rfl ?_
        refine s_no rfl rfl rfl ?_
        refine s_no rfl rfl rfl ?_
        refine s_no rfl rfl rfl ?_
        refine s_no rfl rfl rfl ?_
        refine s_noU rfl rfl rfl rfl rfl ?_
        refine s_noU rfl rfl rfl rfl rfl ?_
        refine s_noU rfl rfl rfl rfl rfl ?_
        refine s_no rfl rfl rfl ?_
        refine s_y (y_pick_t rfl rfl) rfl rfl rfl rfl ?_
        refine s_y (y_move rfl) rfl rfl rfl rfl ?_
        refine s_no rfl rfl rfl ?_
        refine s_no rfl rfl rfl ?_
        refine s_no rfl rfl rfl ?_
        refine s_no rfl rfl rfl ?_
        refine s_noU rfl rfl rfl rfl rfl ?_
        refine s_noU rfl rfl rfl rfl rfl ?_
        refine s_noU rfl rfl rfl rfl rfl ?_
        refine s_noU rfl rfl rfl rfl rfl ?_
        refine s_no rfl rfl rfl ?_
        refine s_y (y_pick_t rfl rfl) rfl rfl rfl rfl ?_
        refine s_nil ?_
        refine g_then ?_
        refine g_cond_t rfl ?_
        refine g_seq ?_
        refine g_region ?_
        refine s_y (y_assign rfl) rfl rfl rfl rfl ?_
        refine s_y (y_assign rfl) rfl rfl rfl rfl ?_
        refine s_y (y_assign rfl) rfl rfl rfl rfl ?_
        refine s_nil ?_
        refine g_then ?_
        refine g_ret ?_
        refine g_thenr ?_
        refine g_inbr ?_
        refine g_thenr ?_
        refine g_thenr ?_
        refine g_inbr ?_
        refine g_thenr ?_
        have hnone : runE a pi po ps st0 xs = none := runE_cut (n := i + 1) (by
          rw [rdP_take (by omega), runE_snoc, hrun]; exact if_neg (by
            rintro ⟨g1, g2, g3, g4, g5, g6, g7⟩
            omega))
        rw [hnone]
        exact g_end trivial (fun a w ha hq_ => res3 ha rfl rfl rfl rfl  w) (fun w h => ⟨rfl, h.below⟩)
      · (try simp at cq7)
        refine s_y (y_fld rfl (fun w => fld_104_1 _ _ w)) rfl rfl rfl rfl ?_
        refine s_y (y_ld1 0 rfl rfl agg_3 rfl) rfl rfl rfl rfl ?_
        refine s_y (y_lss rfl rfl) rfl rfl rfl rfl ?_
        refine s_y (y_pick_f rfl rfl) rfl rfl rfl rfl ?_
        refine s_y (y_move rfl) rfl rfl rfl rfl ?_
        refine g_bool 34 rfl (fun cq8 => ?_) (fun cq8 => ?_)
        · (try simp at cq8)
          refine s_no rfl rfl rfl ?_
          refine s_no rfl rfl rfl ?_
          refine s_no rfl rfl rfl ?_
          refine s_y (y_pick_t rfl rfl) rfl rfl rfl rfl ?_
          refine s_y (y_move rfl) rfl rfl rfl rfl ?_
          refine s_no rfl rfl rfl ?_
          refine s_no rfl rfl rfl ?_
          refine s_no rfl rfl rfl ?_
          refine s_no rfl rfl rfl ?_
          refine s_no rfl rfl rfl ?_
          refine s_noU rfl rfl rfl rfl rfl ?_
          refine s_noU rfl rfl rfl rfl rfl ?_
          refine s_noU rfl rfl rfl rfl rfl ?_
          refine s_no rfl rfl rfl ?_
          refine s_y (y_pick_t rfl rfl) rfl rfl rfl rfl ?_
          refine s_y (y_move rfl) rfl rfl rfl rfl ?_
          refine s_no rfl rfl rfl ?_
          refine s_no rfl rfl rfl ?_
          refine s_no rfl rfl rfl ?_
          refine s_no rfl rfl rfl ?_
          refine s_noU rfl rfl rfl rfl rfl ?_
          refine s_noU rfl rfl rfl rfl rfl ?_
          refine s_noU rfl rfl rfl rfl rfl ?_
          refine s_noU rfl rfl rfl rfl rfl ?_
          refine s_no rfl rfl rfl ?_
          refine s_y (y_pick_t rfl rfl) rfl rfl rfl rfl ?_
          refine s_nil ?_
          refine g_then ?_
          refine g_cond_t rfl ?_
          refine g_seq ?_
          refine g_region ?_
          refine s_y (y_assign rfl) rfl rfl rfl rfl ?_
          refine s_y (y_assign rfl) rfl rfl rfl rfl ?_
          refine s_y (y_assign rfl) rfl rfl rfl rfl ?_
          refine s_nil ?_
          refine g_then ?_
          refine g_ret ?_
          refine g_thenr ?_
          refine g_inbr ?_
          refine g_thenr ?_
          refine g_thenr ?_
          refine g_inbr ?_
          refine g_thenr ?_
          have hnone : runE a pi po ps st0 xs = none := runE_cut (n := i + 1) (by
            rw [rdP_take (by omega), runE_snoc, hrun]; exact if_neg (by
              rintro ⟨g1, g2, g3, g4, g5, g6, g7⟩
              omega))
          rw [hnone]
          exact g_end trivial (fun a w ha hq_ => res3 ha rfl rfl rfl rfl  w) (fun w h => ⟨rfl, h.below⟩)
        · (try simp at cq8)
          refine s_y (y_fld rfl (fun w => fld_104_1 _ _ w)) rfl rfl rfl rfl ?_
          refine s_y (y_ld1 0 rfl rfl agg_3 rfl) rfl rfl rfl rfl ?_
          refine s_y (y_gtr rfl rfl) rfl rfl rfl rfl ?_
          refine s_y (y_pick_f rfl rfl) rfl rfl rfl rfl ?_
          refine s_y (y_move rfl) rfl rfl rfl rfl ?_
          refine g_bool 39 rfl (fun cq9 => ?_) (fun cq9 => ?_)
          · (try simp at cq9)
            refine s_no rfl rfl rfl ?_
            refine s_no rfl rfl rfl ?_
            refine s_no rfl rfl rfl ?_
            refine s_no rfl rfl rfl ?_
            refine s_no rfl rfl rfl ?_
            refine s_noU rfl rfl rfl rfl rfl ?_
            refine s_noU rfl rfl rfl rfl rfl ?_
            refine s_noU rfl rfl rfl rfl rfl ?_
            refine s_no rfl rfl rfl ?_
            refine s_y (y_pick_t rfl rfl) rfl rfl rfl rfl ?_
            refine s_y (y_move rfl) rfl rfl rfl rfl ?_
            refine s_no rfl rfl rfl ?_
            refine s_no rfl rfl rfl ?_
            refine s_no rfl rfl rfl ?_
            refine s_no rfl rfl rfl ?_
            refine s_noU rfl rfl rfl rfl rfl ?_
            refine s_noU rfl rfl rfl rfl rfl ?_
            refine s_noU rfl rfl rfl rfl rfl ?_
            refine s_noU rfl rfl rfl rfl rfl ?_
            refine s_no rfl rfl rfl ?_
            refine s_y (y_pick_t rfl rfl) rfl rfl rfl rfl ?_
            refine s_nil ?_
            refine g_then ?_
            refine g_cond_t rfl ?_
            refine g_seq ?_
            refine g_region ?_
            refine s_y (y_assign rfl) rfl rfl rfl rfl ?_
            refine s_y (y_assign rfl) rfl rfl rfl rfl ?_
            refine s_y (y_assign rfl) rfl rfl rfl rfl ?_
            refine s_nil ?_
            refine g_then ?_
            refine g_ret ?_
            refine g_thenr ?_
            refine g_inbr ?_
            refine g_thenr ?_
            refine g_thenr ?_
            refine g_inbr ?_
            refine g_thenr ?_
            have hnone : runE a pi po ps st0 xs = none := runE_cut (n := i + 1) (by
              rw [rdP_take (by omega), runE_snoc, hrun]; exact if_neg (by
                rintro ⟨g1, g2, g3, g4, g5, g6, g7⟩
                omega))
            rw [hnone]
            exact g_end trivial (fun a w ha hq_ => res3 ha rfl rfl rfl rfl  w) (fun w h => ⟨rfl, h.below⟩)
          · (try simp at cq9)
            refine s_y (y_fld rfl (fun w => fld_104_0 _ _ w)) rfl rfl rfl rfl ?_
            refine s_y (y_ld1 0 rfl rfl agg_3 rfl) rfl rfl rfl rfl ?_
            refine s_y (y_rem rfl rfl (by omega) (by omega)) rfl rfl rfl rfl ?_
            refine s_y (y_eql rfl rfl) rfl rfl rfl rfl ?_
            refine s_y (y_move rfl) rfl rfl rfl rfl ?_
            refine g_bool 44 rfl (fun cq10 => ?_) (fun cq10 => ?_)
            · (try simp at cq10)
              refine s_y (y_fld rfl (fun w => fld_104_1 _ _ w)) rfl rfl rfl rfl ?_
              refine s_y (y_ld1 0 rfl rfl agg_3 rfl) rfl rfl rfl rfl ?_
              refine s_y (y_neq rfl rfl) rfl rfl rfl rfl ?_
              refine s_y (y_pick_t rfl rfl) rfl rfl rfl rfl ?_
              refine s_y (y_pick_f rfl rfl) rfl rfl rfl rfl ?_
              refine s_y (y_move rfl) rfl rfl rfl rfl ?_
              refine g_bool 50 rfl (fun cq11 => ?_) (fun cq11 => ?_)
              · (try simp at cq11)
                refine s_no rfl rfl rfl ?_
                refine s_no rfl rfl rfl ?_
                refine s_no rfl rfl rfl ?_
                refine s_no rfl rfl rfl ?_
                refine s_noU rfl rfl rfl rfl rfl ?_
                refine s_noU rfl rfl rfl rfl rfl ?_
                refine s_noU rfl rfl rfl rfl rfl ?_
                refine s_noU rfl rfl rfl rfl rfl ?_
                refine s_no rfl rfl rfl ?_
                refine s_y (y_pick_t rfl rfl) rfl rfl rfl rfl ?_
                refine s_nil ?_
                refine g_then ?_
                refine g_cond_t rfl ?_
                refine g_seq ?_
                refine g_region ?_
                refine s_y (y_assign rfl) rfl rfl rfl rfl ?_
                refine s_y (y_assign rfl) rfl rfl rfl rfl ?_
                refine s_y (y_assign rfl) rfl rfl rfl rfl ?_
                refine s_nil ?_
                refine g_then ?_
                refine g_ret ?_
                refine g_thenr ?_
                refine g_inbr ?_
                refine g_thenr ?_
                refine g_thenr ?_
                refine g_inbr ?_
                refine g_thenr ?_
                have hnone : runE a pi po ps st0 xs = none := runE_cut (n := i + 1) (by
                  rw [rdP_take (by omega), runE_snoc, hrun]; exact if_neg (by
                    rintro ⟨g1, g2, g3, g4, g5, g6, g7⟩
                    omega))
                rw [hnone]
                exact g_end trivial (fun a w ha hq_ => res3 ha rfl rfl rfl rfl  w) (fun w h => ⟨rfl, h.below⟩)
              · (try simp at cq11)
                refine s_y (y_fld rfl (fun w => fld_104_0 _ _ w)) rfl rfl rfl rfl ?_
                refine s_y (y_ld1 0 rfl rfl agg_3 rfl) rfl rfl rfl rfl ?_
                refine s_y (y_lss rfl rfl) rfl rfl rfl rfl ?_
                refine s_y (y_move rfl) rfl rfl rfl rfl ?_
                refine g_bool 54 rfl (fun cq12 => ?_) (fun cq12 => ?_)
                · (try simp at cq12)
                  refine s_y (y_move rfl) rfl rfl rfl rfl ?_
                  refine s_y (y_move rfl) rfl rfl rfl rfl ?_
                  refine s_y (y_lens rfl Try.underlying9) rfl rfl rfl rfl ?_
                  refine s_y (y_geq rfl rfl) rfl rfl rfl rfl ?_
                  refine s_y (y_pick_t rfl rfl) rfl rfl rfl rfl ?_
                  refine s_y (y_pick_f rfl rfl) rfl rfl rfl rfl ?_
                  refine s_nil ?_
                  refine g_then ?_
                  refine g_cond rfl (fun cq13 => ?_) (fun cq13 => ?_)
                  · (try simp at cq13)
                    refine g_seq ?_
                    refine g_region ?_
                    refine s_y (y_assign rfl) rfl rfl rfl rfl ?_
                    refine s_y (y_assign rfl) rfl rfl rfl rfl ?_
                    refine s_y (y_assign rfl) rfl rfl rfl rfl ?_
                    refine s_nil ?_
                    refine g_then ?_
                    refine g_ret ?_
                    refine g_thenr ?_
                    refine g_inbr ?_
                    refine g_thenr ?_
                    refine g_thenr ?_
                    refine g_inbr ?_
                    refine g_thenr ?_
                    have hnone : runE a pi po ps st0 xs = none := runE_cut (n := i + 1) (by
                      rw [rdP_take (by omega), runE_snoc, hrun]; exact if_neg (by
                        rintro ⟨g1, g2, g3, g4, g5, g6, g7⟩
                        omega))
                    rw [hnone]
                    exact g_end trivial (fun a w ha hq_ => res3 ha rfl rfl rfl rfl  w) (fun w h => ⟨rfl, h.below⟩)
                  · (try simp at cq13)
                    refine g_skip ?_
                    refine g_then ?_
                    refine g_seq ?_
                    refine g_seq ?_
                    refine g_region ?_
                    refine s_y (y_fld rfl (fun w => fld_104_0 _ _ w)) rfl rfl rfl rfl ?_
                    refine s_y (y_ld1 0 rfl rfl agg_3 rfl) rfl rfl rfl rfl ?_
                    refine s_nil ?_
                    refine g_then ?_
                    refine g_block ?_
                    refine g_seq ?_
                    refine g_region ?_
                    refine s_y (y_eql rfl rfl) rfl rfl rfl rfl ?_
                    refine s_y (y_assign rfl) rfl rfl rfl rfl ?_
                    refine s_nil ?_
                    refine g_then ?_
                    refine g_cond rfl (fun cq14 => ?_) (fun cq14 => ?_)
                    · (try simp at cq14)
                      refine g_region ?_
                      refine s_y (y_move rfl) rfl rfl rfl rfl ?_
                      refine s_y (y_move rfl) rfl rfl rfl rfl ?_
                      refine s_y (y_move rfl) rfl rfl rfl rfl ?_
                      refine s_y (y_idxs rfl rfl Try.underlying9 (by omega) (by omega)) rfl rfl rfl rfl ?_
                      refine s_tr (t_build (vs := [(0, .int .u8 (bt a (t : Int)))]) (cells := [.int .u8 (bt a (t : Int))]) rfl rfl Try.underlying103 hi5.1 hi5.2.1 (by rw [hi5.2.2.1]; rfl) (by rw [hi5.2.2.1]; rfl) (by rw [hi5.2.2.1]; kernel_rfl)) rfl rfl rfl rfl (fun b15 hb15 => ?_)
                      refine s_tr (t_appendL (enc := (Value.int .u8)) (sv := sv) (xs := os) (n := m) (v := bt a (t : Int)) [_, _] _ rfl rfl rfl hokz Try.underlying103 hi5.1 hi5.2.1 hi5.2.2.1 hi5.2.2.2 rfl (fun w h => h.toHq.cell (i := 0) rfl rfl) rfl (by omega) (by unfold maxLen; omega)) rfl rfl rfl rfl (fun y19 hy20 => ?_)
                      obtain ⟨sv16, gs17⟩ := y19
                      obtain ⟨hok18, hok18b, hok18c, hok18j, hok18e⟩ := hy20
                      refine s_y (y_assign rfl) rfl rfl rfl rfl ?_
                      refine s_nil ?_
                      refine g_inb ?_
                      refine g_then ?_
                      refine g_seq ?_
                      refine g_region ?_
                      refine s_y (y_fld rfl (fun w => fld_104_0 _ _ w)) rfl rfl rfl rfl ?_
                      refine s_y (y_ld1 1 rfl rfl agg_3 rfl) rfl rfl rfl rfl ?_
                      refine s_y (y_lss rfl rfl) rfl rfl rfl rfl ?_
                      refine s_nil ?_
                      refine g_then ?_
                      refine g_cond rfl (fun cq21 => ?_) (fun cq21 => ?_)
                      · (try simp at cq21)
                        refine g_region ?_
                        refine s_y (y_move rfl) rfl rfl rfl rfl ?_
                        refine s_y (y_add rfl rfl (by omega) (by omega)) rfl rfl rfl rfl ?_
                        refine s_y (y_assign rfl) rfl rfl rfl rfl ?_
                        refine s_nil ?_
                        refine g_inb ?_
                        refine g_then ?_
                        refine g_region ?_
                        refine s_y (y_add rfl rfl (by omega) (by omega)) rfl rfl rfl rfl ?_
                        refine s_y (y_move rfl) rfl rfl rfl rfl ?_
                        refine s_nil ?_
                        refine g_then ?_
                        have hg : okE a t (rdP xs (i : Int)) := by unfold okE; refine ⟨by omega, by omega, by omega, by omega, by omega, by omega, by omega⟩
                        exact fun act W ha hw => ⟨i + 1, by omega, by omega, sv16, (m + 1), (os ++ [bt a (t : Int)]), c, (t + 1), W, (by exact hok18), (by omega), (by rw [rdP_take (by omega), runE_snoc, hrun]; simp only [stepE]; rw [if_pos hg]; rcases (show (rdP xs (i : Int)).1 = 0 ∨ (rdP xs (i : Int)).1 = 1 ∨ (rdP xs (i : Int)).1 = 2 ∨ (rdP xs (i : Int)).1 = 3 by omega) with e1 | e1 | e1 | e1 <;> first | (exfalso; omega) | simp [e1, priceOf]), ha.weak (sub_get ⟨rfl, rfl, rfl, rfl, rfl, rfl, rfl, rfl, trivial⟩), hw.toHq.lookSub (List.Sublist.cons _ (List.Sublist.cons _ (sub_app (sv16.mem 5 ((os ++ [bt a (t : Int)]).map (Value.int .u8))) (sub_skip gs17 (List.Sublist.refl _)))))⟩
                      · (try simp at cq21)
                        refine g_skip ?_
                        refine g_inb ?_
                        refine g_then ?_
                        refine g_region ?_
                        refine s_y (y_add rfl rfl (by omega) (by omega)) rfl rfl rfl rfl ?_
                        refine s_y (y_move rfl) rfl rfl rfl rfl ?_
                        refine s_nil ?_
                        refine g_then ?_
                        have hg : okE a t (rdP xs (i : Int)) := by unfold okE; refine ⟨by omega, by omega, by omega, by omega, by omega, by omega, by omega⟩
                        exact fun act W ha hw => ⟨i + 1, by omega, by omega, sv16, (m + 1), (os ++ [bt a (t : Int)]), c, t, W, (by exact hok18), (by omega), (by rw [rdP_take (by omega), runE_snoc, hrun]; simp only [stepE]; rw [if_pos hg]; rcases (show (rdP xs (i : Int)).1 = 0 ∨ (rdP xs (i : Int)).1 = 1 ∨ (rdP xs (i : Int)).1 = 2 ∨ (rdP xs (i : Int)).1 = 3 by omega) with e1 | e1 | e1 | e1 <;> first | (exfalso; omega) | simp [e1, priceOf]), ha.weak (sub_get ⟨rfl, rfl, rfl, rfl, rfl, rfl, rfl, rfl, trivial⟩), hw.toHq.lookSub (List.Sublist.cons _ (List.Sublist.cons _ (sub_app (sv16.mem 5 ((os ++ [bt a (t : Int)]).map (Value.int .u8))) (sub_skip gs17 (List.Sublist.refl _)))))⟩
                    · (try simp at cq14)
                      refine g_seq ?_
                      refine g_region ?_
                      refine s_y (y_eql rfl rfl) rfl rfl rfl rfl ?_
                      refine s_y (y_assign rfl) rfl rfl rfl rfl ?_
                      refine s_nil ?_
                      refine g_then ?_
                      refine g_cond rfl (fun cq22 => ?_) (fun cq22 => ?_)
                      · (try simp at cq22)
                        refine g_seq ?_
                        refine g_seq ?_
                        refine g_draw 7 (by kernel_rfl) ?_
                        refine j_p (i := 0) rfl (y_move rfl) (by kernel_rfl) (by kernel_rfl) (by kernel_rfl) rfl rfl rfl rfl rfl (.inr (fun _ h => h)) ?_
                        refine j_p (i := 1) rfl (y_move rfl) (by kernel_rfl) (by kernel_rfl) (by kernel_rfl) rfl rfl rfl rfl rfl (.inr (fun _ h => h)) ?_
                        refine j_p (i := 2) rfl (y_idxs rfl rfl Try.underlying9 (by omega) (by omega)) (by kernel_rfl) (by kernel_rfl) (by kernel_rfl) rfl rfl rfl rfl rfl (.inr (fun _ h => h)) ?_
                        refine j_p (i := 3) rfl (y_convb rfl (by kernel_rfl) Try.underlying3) (by kernel_rfl) (by kernel_rfl) (by kernel_rfl) rfl rfl rfl rfl rfl (.inr (fun _ h => h)) ?_
                        refine j_p (i := 4) rfl (y_fld rfl (fun w => fld_104_1 _ _ w)) (by kernel_rfl) (by kernel_rfl) (by kernel_rfl) rfl rfl rfl rfl rfl (.inr (fun _ h => h)) ?_
                        refine j_l (i := 5) rfl (y_ld1 0 rfl rfl agg_3 rfl) (by kernel_rfl) (by kernel_rfl) (by kernel_rfl) (by kernel_rfl) rfl rfl rfl rfl rfl (.inr (fun _ h => h)) ?_
                        refine j_p (i := 6) rfl (y_eql rfl rfl) (by kernel_rfl) (by kernel_rfl) (by kernel_rfl) rfl rfl rfl rfl rfl (.inr (fun _ h => h)) ?_
                        refine j_nil (by kernel_rfl) ?_
                        refine g_then ?_
                        refine g_cond rfl (fun cq23 => ?_) (fun cq23 => ?_)
                        · (try simp at cq23)
                          refine g_seq ?_
                          refine g_region ?_
                          refine s_y (y_assign rfl) rfl rfl rfl rfl ?_
                          refine s_y (y_assign rfl) rfl rfl rfl rfl ?_
                          refine s_y (y_assign rfl) rfl rfl rfl rfl ?_
                          refine s_nil ?_
                          refine g_then ?_
                          refine g_ret ?_
                          refine g_thenr ?_
                          refine g_inbr ?_
                          refine g_thenr ?_
                          refine g_inbr ?_
                          refine g_thenr ?_
                          refine g_thenr ?_
                          refine g_inbr ?_
                          refine g_thenr ?_
                          have hnone : runE a pi po ps st0 xs = none := runE_cut (n := i + 1) (by
                            rw [rdP_take (by omega), runE_snoc, hrun]; exact if_neg (by
                              rintro ⟨g1, g2, g3, g4, g5, g6, g7⟩
                              omega))
                          rw [hnone]
                          exact g_end trivial (fun a w ha hq_ => res3 ha rfl rfl rfl rfl  w) (fun w h => ⟨rfl, h.below⟩)
                        · (try simp at cq23)
                          refine g_skip ?_
                          refine g_then ?_
                          refine g_seq ?_
                          refine g_region ?_
                          refine s_y (y_move rfl) rfl rfl rfl rfl ?_
                          refine s_y (y_fld rfl (fun w => fld_104_1 _ _ w)) rfl rfl rfl rfl ?_
                          refine s_y (y_ld1 0 rfl rfl agg_3 rfl) rfl rfl rfl rfl ?_
                          refine s_y (y_conv rfl (by kernel_rfl) Try.underlying5 (u8_eq (by omega) (by omega))) rfl rfl rfl rfl ?_
                          refine s_tr (t_build (vs := [(0, .int .u8 ((rdP xs (i : Int)).2))]) (cells := [.int .u8 ((rdP xs (i : Int)).2)]) rfl rfl Try.underlying103 hi5.1 hi5.2.1 (by rw [hi5.2.2.1]; rfl) (by rw [hi5.2.2.1]; rfl) (by rw [hi5.2.2.1]; kernel_rfl)) rfl rfl rfl rfl (fun b24 hb24 => ?_)
                          refine s_tr (t_appendL (enc := (Value.int .u8)) (sv := sv) (xs := os) (n := m) (v := (rdP xs (i : Int)).2) [_, _] _ rfl rfl rfl hokz Try.underlying103 hi5.1 hi5.2.1 hi5.2.2.1 hi5.2.2.2 rfl (fun w h => h.toHq.cell (i := 0) rfl rfl) rfl (by omega) (by unfold maxLen; omega)) rfl rfl rfl rfl (fun y28 hy29 => ?_)
                          obtain ⟨sv25, gs26⟩ := y28
                          obtain ⟨hok27, hok27b, hok27c, hok27j, hok27e⟩ := hy29
                          refine s_y (y_assign rfl) rfl rfl rfl rfl ?_
                          refine s_nil ?_
                          refine g_then ?_
                          refine g_region ?_
                          refine s_y (y_move rfl) rfl rfl rfl rfl ?_
                          refine s_y (y_fld rfl (fun w => fld_23_2 _ _ w)) rfl rfl rfl rfl ?_
                          refine s_y (y_ldM (List.mem_cons_of_mem _ (List.mem_cons_of_mem _ (mem_ar (sv25.mem 5 ((os ++ [(rdP xs (i : Int)).2]).map (Value.int .u8))) (mem_ar gs26 (List.mem_cons_self ..))))) rfl agg_3 rfl) rfl rfl rfl rfl ?_
                          refine s_y (y_add rfl rfl (by omega) (by omega)) rfl rfl rfl rfl ?_
                          refine s_y (y_assign rfl) rfl rfl rfl rfl ?_
                          refine s_nil ?_
                          refine g_inb ?_
                          refine g_then ?_
                          refine g_seq ?_
                          refine g_region ?_
                          refine s_y (y_fld rfl (fun w => fld_104_0 _ _ w)) rfl rfl rfl rfl ?_
                          refine s_y (y_ld1 1 rfl rfl agg_3 rfl) rfl rfl rfl rfl ?_
                          refine s_y (y_lss rfl rfl) rfl rfl rfl rfl ?_
                          refine s_nil ?_
                          refine g_then ?_
                          refine g_cond rfl (fun cq30 => ?_) (fun cq30 => ?_)
                          · (try simp at cq30)
                            refine g_region ?_
                            refine s_y (y_move rfl) rfl rfl rfl rfl ?_
                            refine s_y (y_add rfl rfl (by omega) (by omega)) rfl rfl rfl rfl ?_
                            refine s_y (y_assign rfl) rfl rfl rfl rfl ?_
                            refine s_nil ?_
                            refine g_inb ?_
                            refine g_then ?_
                            refine g_region ?_
                            refine s_y (y_add rfl rfl (by omega) (by omega)) rfl rfl rfl rfl ?_
                            refine s_y (y_move rfl) rfl rfl rfl rfl ?_
                            refine s_nil ?_
                            refine g_then ?_
                            have hg : okE a t (rdP xs (i : Int)) := by unfold okE; refine ⟨by omega, by omega, by omega, by omega, by omega, by omega, by omega⟩
                            exact fun act W ha hw => ⟨i + 1, by omega, by omega, sv25, (m + 1), (os ++ [(rdP xs (i : Int)).2]), (c + ps), (t + 1), W, (by exact hok27), (by omega), (by rw [rdP_take (by omega), runE_snoc, hrun]; simp only [stepE]; rw [if_pos hg]; rcases (show (rdP xs (i : Int)).1 = 0 ∨ (rdP xs (i : Int)).1 = 1 ∨ (rdP xs (i : Int)).1 = 2 ∨ (rdP xs (i : Int)).1 = 3 by omega) with e1 | e1 | e1 | e1 <;> first | (exfalso; omega) | simp [e1, priceOf]), ha.weak (sub_get ⟨rfl, rfl, rfl, rfl, rfl, rfl, rfl, rfl, trivial⟩), hw.toHq.lookSub (List.Sublist.cons _ (List.Sublist.cons _ (sub_app (sv25.mem 5 ((os ++ [(rdP xs (i : Int)).2]).map (Value.int .u8))) (sub_skip gs26 (List.Sublist.refl _)))))⟩
                          · (try simp at cq30)
                            refine g_skip ?_
                            refine g_inb ?_
                            refine g_then ?_
                            refine g_region ?_
                            refine s_y (y_add rfl rfl (by omega) (by omega)) rfl rfl rfl rfl ?_
                            refine s_y (y_move rfl) rfl rfl rfl rfl ?_
                            refine s_nil ?_
                            refine g_then ?_
                            have hg : okE a t (rdP xs (i : Int)) := by unfold okE; refine ⟨by omega, by omega, by omega, by omega, by omega, by omega, by omega⟩
                            exact fun act W ha hw => ⟨i + 1, by omega, by omega, sv25, (m + 1), (os ++ [(rdP xs (i : Int)).2]), (c + ps), t, W, (by exact hok27), (by omega), (by rw [rdP_take (by omega), runE_snoc, hrun]; simp only [stepE]; rw [if_pos hg]; rcases (show (rdP xs (i : Int)).1 = 0 ∨ (rdP xs (i : Int)).1 = 1 ∨ (rdP xs (i : Int)).1 = 2 ∨ (rdP xs (i : Int)).1 = 3 by omega) with e1 | e1 | e1 | e1 <;> first | (exfalso; omega) | simp [e1, priceOf]), ha.weak (sub_get ⟨rfl, rfl, rfl, rfl, rfl, rfl, rfl, rfl, trivial⟩), hw.toHq.lookSub (List.Sublist.cons _ (List.Sublist.cons _ (sub_app (sv25.mem 5 ((os ++ [(rdP xs (i : Int)).2]).map (Value.int .u8))) (sub_skip gs26 (List.Sublist.refl _)))))⟩
                      · (try simp at cq22)
                        refine g_seq ?_
                        refine g_region ?_
                        refine s_y (y_eql rfl rfl) rfl rfl rfl rfl ?_
                        refine s_y (y_assign rfl) rfl rfl rfl rfl ?_
                        refine s_nil ?_
                        refine g_then ?_
                        refine g_cond rfl (fun cq31 => ?_) (fun cq31 => ?_)
                        · (try simp at cq31)
                          refine g_region ?_
                          refine s_y (y_move rfl) rfl rfl rfl rfl ?_
                          refine s_y (y_fld rfl (fun w => fld_23_1 _ _ w)) rfl rfl rfl rfl ?_
                          refine s_y (y_ldM (List.mem_cons_of_mem _ (mem_ar (sv.mem 5 (os.map (Value.int .u8))) (List.mem_cons_self ..))) rfl agg_3 rfl) rfl rfl rfl rfl ?_
                          refine s_y (y_add rfl rfl (by omega) (by omega)) rfl rfl rfl rfl ?_
                          refine s_y (y_assign rfl) rfl rfl rfl rfl ?_
                          refine s_nil ?_
                          refine g_inb ?_
                          refine g_then ?_
                          refine g_seq ?_
                          refine g_region ?_
                          refine s_y (y_fld rfl (fun w => fld_104_0 _ _ w)) rfl rfl rfl rfl ?_
                          refine s_y (y_ld1 0 rfl rfl agg_3 rfl) rfl rfl rfl rfl ?_
                          refine s_y (y_lss rfl rfl) rfl rfl rfl rfl ?_
                          refine s_nil ?_
                          refine g_then ?_
                          refine g_cond rfl (fun cq32 => ?_) (fun cq32 => ?_)
                          · (try simp at cq32)
                            refine g_region ?_
                            refine s_y (y_move rfl) rfl rfl rfl rfl ?_
                            refine s_y (y_add rfl rfl (by omega) (by omega)) rfl rfl rfl rfl ?_
                            refine s_y (y_assign rfl) rfl rfl rfl rfl ?_
                            refine s_nil ?_
                            refine g_inb ?_
                            refine g_then ?_
                            refine g_region ?_
                            refine s_y (y_add rfl rfl (by omega) (by omega)) rfl rfl rfl rfl ?_
                            refine s_y (y_move rfl) rfl rfl rfl rfl ?_
                            refine s_nil ?_
                            refine g_then ?_
                            have hg : okE a t (rdP xs (i : Int)) := by unfold okE; refine ⟨by omega, by omega, by omega, by omega, by omega, by omega, by omega⟩
                            exact fun act W ha hw => ⟨i + 1, by omega, by omega, sv, m, os, (c + po), (t + 1), W, (by exact hokz), (by omega), (by rw [rdP_take (by omega), runE_snoc, hrun]; simp only [stepE]; rw [if_pos hg]; rcases (show (rdP xs (i : Int)).1 = 0 ∨ (rdP xs (i : Int)).1 = 1 ∨ (rdP xs (i : Int)).1 = 2 ∨ (rdP xs (i : Int)).1 = 3 by omega) with e1 | e1 | e1 | e1 <;> first | (exfalso; omega) | simp [e1, priceOf]), ha.weak (sub_get ⟨rfl, rfl, rfl, rfl, rfl, rfl, rfl, rfl, trivial⟩), hw.toHq.lookSub (List.Sublist.cons _ (List.Sublist.refl _))⟩
                          · (try simp at cq32)
                            refine g_skip ?_
                            refine g_inb ?_
                            refine g_then ?_
                            refine g_region ?_
                            refine s_y (y_add rfl rfl (by omega) (by omega)) rfl rfl rfl rfl ?_
                            refine s_y (y_move rfl) rfl rfl rfl rfl ?_
                            refine s_nil ?_
                            refine g_then ?_
                            have hg : okE a t (rdP xs (i : Int)) := by unfold okE; refine ⟨by omega, by omega, by omega, by omega, by omega, by omega, by omega⟩
                            exact fun act W ha hw => ⟨i + 1, by omega, by omega, sv, m, os, (c + po), t, W, (by exact hokz), (by omega), (by rw [rdP_take (by omega), runE_snoc, hrun]; simp only [stepE]; rw [if_pos hg]; rcases (show (rdP xs (i : Int)).1 = 0 ∨ (rdP xs (i : Int)).1 = 1 ∨ (rdP xs (i : Int)).1 = 2 ∨ (rdP xs (i : Int)).1 = 3 by omega) with e1 | e1 | e1 | e1 <;> first | (exfalso; omega) | simp [e1, priceOf]), ha.weak (sub_get ⟨rfl, rfl, rfl, rfl, rfl, rfl, rfl, rfl, trivial⟩), hw.toHq.lookSub (List.Sublist.cons _ (List.Sublist.refl _))⟩
                        · (try simp at cq31)
                          refine g_seq ?_
                          refine g_region ?_
                          refine s_y (y_eql rfl rfl) rfl rfl rfl rfl ?_
                          refine s_y (y_assign rfl) rfl rfl rfl rfl ?_
                          refine s_nil ?_
                          refine g_then ?_
                          refine g_cond rfl (fun cq33 => ?_) (fun cq33 => ?_)
                          · (try simp at cq33)
                            refine g_seq ?_
                            refine g_region ?_
                            refine s_y (y_move rfl) rfl rfl rfl rfl ?_
                            refine s_y (y_fld rfl (fun w => fld_104_1 _ _ w)) rfl rfl rfl rfl ?_
                            refine s_y (y_ld1 0 rfl rfl agg_3 rfl) rfl rfl rfl rfl ?_
                            refine s_y (y_conv rfl (by kernel_rfl) Try.underlying5 (u8_eq (by omega) (by omega))) rfl rfl rfl rfl ?_
                            refine s_tr (t_build (vs := [(0, .int .u8 ((rdP xs (i : Int)).2))]) (cells := [.int .u8 ((rdP xs (i : Int)).2)]) rfl rfl Try.underlying103 hi5.1 hi5.2.1 (by rw [hi5.2.2.1]; rfl) (by rw [hi5.2.2.1]; rfl) (by rw [hi5.2.2.1]; kernel_rfl)) rfl rfl rfl rfl (fun b34 hb34 => ?_)
                            refine s_tr (t_appendL (enc := (Value.int .u8)) (sv := sv) (xs := os) (n := m) (v := (rdP xs (i : Int)).2) [_, _] _ rfl rfl rfl hokz Try.underlying103 hi5.1 hi5.2.1 hi5.2.2.1 hi5.2.2.2 rfl (fun w h => h.toHq.cell (i := 0) rfl rfl) rfl (by omega) (by unfold maxLen; omega)) rfl rfl rfl rfl (fun y38 hy39 => ?_)
                            obtain ⟨sv35, gs36⟩ := y38
                            obtain ⟨hok37, hok37b, hok37c, hok37j, hok37e⟩ := hy39
                            refine s_y (y_assign rfl) rfl rfl rfl rfl ?_
                            refine s_nil ?_
                            refine g_then ?_
                            refine g_region ?_
                            refine s_y (y_move rfl) rfl rfl rfl rfl ?_
                            refine s_y (y_fld rfl (fun w => fld_23_0 _ _ w)) rfl rfl rfl rfl ?_
                            refine s_y (y_ldM (List.mem_cons_of_mem _ (List.mem_cons_of_mem _ (mem_ar (sv35.mem 5 ((os ++ [(rdP xs (i : Int)).2]).map (Value.int .u8))) (mem_ar gs36 (List.mem_cons_self ..))))) rfl agg_3 rfl) rfl rfl rfl rfl ?_
                            refine s_y (y_add rfl rfl (by omega) (by omega)) rfl rfl rfl rfl ?_
                            refine s_y (y_assign rfl) rfl rfl rfl rfl ?_
                            refine s_nil ?_
                            refine g_inb ?_
                            refine g_then ?_
                            refine g_seq ?_
                            refine g_region ?_
                            refine s_y (y_fld rfl (fun w => fld_104_0 _ _ w)) rfl rfl rfl rfl ?_
                            refine s_y (y_ld1 1 rfl rfl agg_3 rfl) rfl rfl rfl rfl ?_
                            refine s_y (y_lss rfl rfl) rfl rfl rfl rfl ?_
                            refine s_nil ?_
                            refine g_then ?_
                            refine g_cond rfl (fun cq40 => ?_) (fun cq40 => ?_)
                            · (try simp at cq40)
                              refine g_region ?_
                              refine s_y (y_move rfl) rfl rfl rfl rfl ?_
                              refine s_y (y_add rfl rfl (by omega) (by omega)) rfl rfl rfl rfl ?_
                              refine s_y (y_assign rfl) rfl rfl rfl rfl ?_
                              refine s_nil ?_
                              refine g_inb ?_
                              refine g_then ?_
                              refine g_region ?_
                              refine s_y (y_add rfl rfl (by omega) (by omega)) rfl rfl rfl rfl ?_
                              refine s_y (y_move rfl) rfl rfl rfl rfl ?_
                              refine s_nil ?_
                              refine g_then ?_
                              have hg : okE a t (rdP xs (i : Int)) := by unfold okE; refine ⟨by omega, by omega, by omega, by omega, by omega, by omega, by omega⟩
                              exact fun act W ha hw => ⟨i + 1, by omega, by omega, sv35, (m + 1), (os ++ [(rdP xs (i : Int)).2]), (c + pi), (t + 1), W, (by exact hok37), (by omega), (by rw [rdP_take (by omega), runE_snoc, hrun]; simp only [stepE]; rw [if_pos hg]; rcases (show (rdP xs (i : Int)).1 = 0 ∨ (rdP xs (i : Int)).1 = 1 ∨ (rdP xs (i : Int)).1 = 2 ∨ (rdP xs (i : Int)).1 = 3 by omega) with e1 | e1 | e1 | e1 <;> first | (exfalso; omega) | simp [e1, priceOf]), ha.weak (sub_get ⟨rfl, rfl, rfl, rfl, rfl, rfl, rfl, rfl, trivial⟩), hw.toHq.lookSub (List.Sublist.cons _ (List.Sublist.cons _ (sub_app (sv35.mem 5 ((os ++ [(rdP xs (i : Int)).2]).map (Value.int .u8))) (sub_skip gs36 (List.Sublist.refl _)))))⟩
                            · (try simp at cq40)
                              refine g_skip ?_
                              refine g_inb ?_
                              refine g_then ?_
                              refine g_region ?_
                              refine s_y (y_add rfl rfl (by omega) (by omega)) rfl rfl rfl rfl ?_
                              refine s_y (y_move rfl) rfl rfl rfl rfl ?_
                              refine s_nil ?_
                              refine g_then ?_
                              have hg : okE a t (rdP xs (i : Int)) := by unfold okE; refine ⟨by omega, by omega, by omega, by omega, by omega, by omega, by omega⟩
                              exact fun act W ha hw => ⟨i + 1, by omega, by omega, sv35, (m + 1), (os ++ [(rdP xs (i : Int)).2]), (c + pi), t, W, (by exact hok37), (by omega), (by rw [rdP_take (by omega), runE_snoc, hrun]; simp only [stepE]; rw [if_pos hg]; rcases (show (rdP xs (i : Int)).1 = 0 ∨ (rdP xs (i : Int)).1 = 1 ∨ (rdP xs (i : Int)).1 = 2 ∨ (rdP xs (i : Int)).1 = 3 by omega) with e1 | e1 | e1 | e1 <;> first | (exfalso; omega) | simp [e1, priceOf]), ha.weak (sub_get ⟨rfl, rfl, rfl, rfl, rfl, rfl, rfl, rfl, trivial⟩), hw.toHq.lookSub (List.Sublist.cons _ (List.Sublist.cons _ (sub_app (sv35.mem 5 ((os ++ [(rdP xs (i : Int)).2]).map (Value.int .u8))) (sub_skip gs36 (List.Sublist.refl _)))))⟩
                          · (try simp at cq33)
                            refine g_skip ?_
                            refine g_inb ?_
                            refine g_then ?_
                            refine g_seq ?_
                            refine g_region ?_
                            refine s_y (y_fld rfl (fun w => fld_104_0 _ _ w)) rfl rfl rfl rfl ?_
                            refine s_y (y_ld1 0 rfl rfl agg_3 rfl) rfl rfl rfl rfl ?_
                            refine s_y (y_lss rfl rfl) rfl rfl rfl rfl ?_
                            refine s_nil ?_
                            refine g_then ?_
                            refine g_cond rfl (fun cq41 => ?_) (fun cq41 => ?_)
                            · (try simp at cq41)
                              refine g_region ?_
                              refine s_y (y_move rfl) rfl rfl rfl rfl ?_
                              refine s_y (y_add rfl rfl (by omega) (by omega)) rfl rfl rfl rfl ?_
                              refine s_y (y_assign rfl) rfl rfl rfl rfl ?_
                              refine s_nil ?_
                              refine g_inb ?_
                              refine g_then ?_
                              refine g_region ?_
                              refine s_y (y_add rfl rfl (by omega) (by omega)) rfl rfl rfl rfl ?_
                              refine s_y (y_move rfl) rfl rfl rfl rfl ?_
                              refine s_nil ?_
                              refine g_then ?_
                              have hg : okE a t (rdP xs (i : Int)) := by unfold okE; refine ⟨by omega, by omega, by omega, by omega, by omega, by omega, by omega⟩
                              exact fun act W ha hw => ⟨i + 1, by omega, by omega, sv, m, os, c, (t + 1), W, (by exact hokz), (by omega), (by rw [rdP_take (by omega), runE_snoc, hrun]; simp only [stepE]; rw [if_pos hg]; rcases (show (rdP xs (i : Int)).1 = 0 ∨ (rdP xs (i : Int)).1 = 1 ∨ (rdP xs (i : Int)).1 = 2 ∨ (rdP xs (i : Int)).1 = 3 by omega) with e1 | e1 | e1 | e1 <;> first | (exfalso; omega) | simp [e1, priceOf]), ha.weak (sub_get ⟨rfl, rfl, rfl, rfl, rfl, rfl, rfl, rfl, trivial⟩), hw.toHq.lookSub (List.Sublist.cons _ (List.Sublist.refl _))⟩
                            · (try simp at cq41)
                              refine g_skip ?_
                              refine g_inb ?_
                              refine g_then ?_
                              refine g_region ?_
                              refine s_y (y_add rfl rfl (by omega) (by omega)) rfl rfl rfl rfl ?_
                              refine s_y (y_move rfl) rfl rfl rfl rfl ?_
                              refine s_nil ?_
                              refine g_then ?_
                              have hg : okE a t (rdP xs (i : Int)) := by unfold okE; refine ⟨by omega, by omega, by omega, by omega, by omega, by omega, by omega⟩
                              exact fun act W ha hw => ⟨i + 1, by omega, by omega, sv, m, os, c, t, W, (by exact hokz), (by omega), (by rw [rdP_take (by omega), runE_snoc, hrun]; simp only [stepE]; rw [if_pos hg]; rcases (show (rdP xs (i : Int)).1 = 0 ∨ (rdP xs (i : Int)).1 = 1 ∨ (rdP xs (i : Int)).1 = 2 ∨ (rdP xs (i : Int)).1 = 3 by omega) with e1 | e1 | e1 | e1 <;> first | (exfalso; omega) | simp [e1, priceOf]), ha.weak (sub_get ⟨rfl, rfl, rfl, rfl, rfl, rfl, rfl, rfl, trivial⟩), hw.toHq.lookSub (List.Sublist.cons _ (List.Sublist.refl _))⟩
                · (try simp at cq12)
                  refine s_no rfl rfl rfl ?_
                  refine s_no rfl rfl rfl ?_
                  refine s_no rfl rfl rfl ?_
                  refine s_no rfl rfl rfl ?_
                  refine s_y (y_pick_f rfl rfl) rfl rfl rfl rfl ?_
                  refine s_y (y_pick_f rfl rfl) rfl rfl rfl rfl ?_
                  refine s_nil ?_
                  refine g_then ?_
                  refine g_cond_f rfl ?_
                  refine g_skip ?_
                  refine g_then ?_
                  refine g_seq ?_
                  refine g_seq ?_
                  refine g_region ?_
                  refine s_y (y_fld rfl (fun w => fld_104_0 _ _ w)) rfl rfl rfl rfl ?_
                  refine s_y (y_ld1 0 rfl rfl agg_3 rfl) rfl rfl rfl rfl ?_
                  refine s_nil ?_
                  refine g_then ?_
                  refine g_block ?_
                  refine g_seq ?_
                  refine g_region ?_
                  refine s_y (y_eql rfl rfl) rfl rfl rfl rfl ?_
                  refine s_y (y_assign rfl) rfl rfl rfl rfl ?_
                  refine s_nil ?_
                  refine g_then ?_
                  refine g_cond rfl (fun cq42 => ?_) (fun cq42 => ?_)
                  · (try simp at cq42)
                    refine g_region ?_
                    refine s_y (y_move rfl) rfl rfl rfl rfl ?_
                    refine s_y (y_move rfl) rfl rfl rfl rfl ?_
                    refine s_y (y_move rfl) rfl rfl rfl rfl ?_
                    refine s_y (y_idxs rfl rfl Try.underlying9 (by omega) (by omega)) rfl rfl rfl rfl ?_
                    refine s_tr (t_build (vs := [(0, .int .u8 (bt a (t : Int)))]) (cells := [.int .u8 (bt a (t : Int))]) rfl rfl Try.underlying103 hi5.1 hi5.2.1 (by rw [hi5.2.2.1]; rfl) (by rw [hi5.2.2.1]; rfl) (by rw [hi5.2.2.1]; kernel_rfl)) rfl rfl rfl rfl (fun b43 hb43 => ?_)
                    refine s_tr (t_appendL (enc := (Value.int .u8)) (sv := sv) (xs := os) (n := m) (v := bt a (t : Int)) [_, _] _ rfl rfl rfl hokz Try.underlying103 hi5.1 hi5.2.1 hi5.2.2.1 hi5.2.2.2 rfl (fun w h => h.toHq.cell (i := 0) rfl rfl) rfl (by omega) (by unfold maxLen; omega)) rfl rfl rfl rfl (fun y47 hy48 => ?_)
                    obtain ⟨sv44, gs45⟩ := y47
                    obtain ⟨hok46, hok46b, hok46c, hok46j, hok46e⟩ := hy48
                    refine s_y (y_assign rfl) rfl rfl rfl rfl ?_
                    refine s_nil ?_
                    refine g_inb ?_
                    refine g_then ?_
                    refine g_seq ?_
                    refine g_region ?_
                    refine s_y (y_fld rfl (fun w => fld_104_0 _ _ w)) rfl rfl rfl rfl ?_
                    refine s_y (y_ld1 1 rfl rfl agg_3 rfl) rfl rfl rfl rfl ?_
                    refine s_y (y_lss rfl rfl) rfl rfl rfl rfl ?_
                    refine s_nil ?_
                    refine g_then ?_
                    refine g_cond rfl (fun cq49 => ?_) (fun cq49 => ?_)
                    · (try simp at cq49)
                      refine g_region ?_
                      refine s_y (y_move rfl) rfl rfl rfl rfl ?_
                      refine s_y (y_add rfl rfl (by omega) (by omega)) rfl rfl rfl rfl ?_
                      refine s_y (y_assign rfl) rfl rfl rfl rfl ?_
                      refine s_nil ?_
                      refine g_inb ?_
                      refine g_then ?_
                      refine g_region ?_
                      refine s_y (y_add rfl rfl (by omega) (by omega)) rfl rfl rfl rfl ?_
                      refine s_y (y_move rfl) rfl rfl rfl rfl ?_
                      refine s_nil ?_
                      refine g_then ?_
                      have hg : okE a t (rdP xs (i : Int)) := by unfold okE; refine ⟨by omega, by omega, by omega, by omega, by omega, by omega, by omega⟩
                      exact fun act W ha hw => ⟨i + 1, by omega, by omega, sv44, (m + 1), (os ++ [bt a (t : Int)]), c, (t + 1), W, (by exact hok46), (by omega), (by rw [rdP_take (by omega), runE_snoc, hrun]; simp only [stepE]; rw [if_pos hg]; rcases (show (rdP xs (i : Int)).1 = 0 ∨ (rdP xs (i : Int)).1 = 1 ∨ (rdP xs (i : Int)).1 = 2 ∨ (rdP xs (i : Int)).1 = 3 by omega) with e1 | e1 | e1 | e1 <;> first | (exfalso; omega) | simp [e1, priceOf]), ha.weak (sub_get ⟨rfl, rfl, rfl, rfl, rfl, rfl, rfl, rfl, trivial⟩), hw.toHq.lookSub (List.Sublist.cons _ (List.Sublist.cons _ (sub_app (sv44.mem 5 ((os ++ [bt a (t : Int)]).map (Value.int .u8))) (sub_skip gs45 (List.Sublist.refl _)))))⟩
                    · (try simp at cq49)
                      refine g_skip ?_
                      refine g_inb ?_
                      refine g_then ?_
                      refine g_region ?_
                      refine s_y (y_add rfl rfl (by omega) (by omega)) rfl rfl rfl rfl ?_
                      refine s_y (y_move rfl) rfl rfl rfl rfl ?_
                      refine s_nil ?_
                      refine g_then ?_
                      have hg : okE a t (rdP xs (i : Int)) := by unfold okE; refine ⟨by omega, by omega, by omega, by omega, by omega, by omega, by omega⟩
                      exact fun act W ha hw => ⟨i + 1, by omega, by omega, sv44, (m + 1), (os ++ [bt a (t : Int)]), c, t, W, (by exact hok46), (by omega), (by rw [rdP_take (by omega), runE_snoc, hrun]; simp only [stepE]; rw [if_pos hg]; rcases (show (rdP xs (i : Int)).1 = 0 ∨ (rdP xs (i : Int)).1 = 1 ∨ (rdP xs (i : Int)).1 = 2 ∨ (rdP xs (i : Int)).1 = 3 by omega) with e1 | e1 | e1 | e1 <;> first | (exfalso; omega) | simp [e1, priceOf]), ha.weak (sub_get ⟨rfl, rfl, rfl, rfl, rfl, rfl, rfl, rfl, trivial⟩), hw.toHq.lookSub (List.Sublist.cons _ (List.Sublist.cons _ (sub_app (sv44.mem 5 ((os ++ [bt a (t : Int)]).map (Value.int .u8))) (sub_skip gs45 (List.Sublist.refl _)))))⟩
                  · (try simp at cq42)
                    refine g_seq ?_
                    refine g_region ?_
                    refine s_y (y_eql rfl rfl) rfl rfl rfl rfl ?_
                    refine s_y (y_assign rfl) rfl rfl rfl rfl ?_
                    refine s_nil ?_
                    refine g_then ?_
                    refine g_cond rfl (fun cq50 => ?_) (fun cq50 => ?_)
                    · (try simp at cq50)
                      refine g_seq ?_
                      refine g_seq ?_
                      refine g_draw 7 (by kernel_rfl) ?_
                      refine j_p (i := 0) rfl (y_move rfl) (by kernel_rfl) (by kernel_rfl) (by kernel_rfl) rfl rfl rfl rfl rfl (.inr (fun _ h => h)) ?_
                      refine j_p (i := 1) rfl (y_move rfl) (by kernel_rfl) (by kernel_rfl) (by kernel_rfl) rfl rfl rfl rfl rfl (.inr (fun _ h => h)) ?_
                      refine j_p (i := 2) rfl (y_idxs rfl rfl Try.underlying9 (by omega) (by omega)) (by kernel_rfl) (by kernel_rfl) (by kernel_rfl) rfl rfl rfl rfl rfl (.inr (fun _ h => h)) ?_
                      refine j_p (i := 3) rfl (y_convb rfl (by kernel_rfl) Try.underlying3) (by kernel_rfl) (by kernel_rfl) (by kernel_rfl) rfl rfl rfl rfl rfl (.inr (fun _ h => h)) ?_
                      refine j_p (i := 4) rfl (y_fld rfl (fun w => fld_104_1 _ _ w)) (by kernel_rfl) (by kernel_rfl) (by kernel_rfl) rfl rfl rfl rfl rfl (.inr (fun _ h => h)) ?_
                      refine j_l (i := 5) rfl (y_ld1 0 rfl rfl agg_3 rfl) (by kernel_rfl) (by kernel_rfl) (by kernel_rfl) (by kernel_rfl) rfl rfl rfl rfl rfl (.inr (fun _ h => h)) ?_
                      refine j_p (i := 6) rfl (y_eql rfl rfl) (by kernel_rfl) (by kernel_rfl) (by kernel_rfl) rfl rfl rfl rfl rfl (.inr (fun _ h => h)) ?_
                      refine j_nil (by kernel_rfl) ?_
                      refine g_then ?_
                      refine g_cond rfl (fun cq51 => ?_) (fun cq51 => ?_)
                      · (try simp at cq51)
                        refine g_seq ?_
                        refine g_region ?_
                        refine s_y (y_assign rfl) rfl rfl rfl rfl ?_
                        refine s_y (y_assign rfl) rfl rfl rfl rfl ?_
                        refine s_y (y_assign rfl) rfl rfl rfl rfl ?_
                        refine s_nil ?_
                        refine g_then ?_
                        refine g_ret ?_
                        refine g_thenr ?_
                        refine g_inbr ?_
                        refine g_thenr ?_
                        refine g_inbr ?_
                        refine g_thenr ?_
                        refine g_thenr ?_
                        refine g_inbr ?_
                        refine g_thenr ?_
                        have hnone : runE a pi po ps st0 xs = none := runE_cut (n := i + 1) (by
                          rw [rdP_take (by omega), runE_snoc, hrun]; exact if_neg (by
                            rintro ⟨g1, g2, g3, g4, g5, g6, g7⟩
                            omega))
                        rw [hnone]
                        exact g_end trivial (fun a w ha hq_ => res3 ha rfl rfl rfl rfl  w) (fun w h => ⟨rfl, h.below⟩)
                      · (try simp at cq51)
                        refine g_skip ?_
                        refine g_then ?_
                        refine g_seq ?_
                        refine g_region ?_
                        refine s_y (y_move rfl) rfl rfl rfl rfl ?_
                        refine s_y (y_fld rfl (fun w => fld_104_1 _ _ w)) rfl rfl rfl rfl ?_
                        refine s_y (y_ld1 0 rfl rfl agg_3 rfl) rfl rfl rfl rfl ?_
                        refine s_y (y_conv rfl (by kernel_rfl) Try.underlying5 (u8_eq (by omega) (by omega))) rfl rfl rfl rfl ?_
                        refine s_tr (t_build (vs := [(0, .int .u8 ((rdP xs (i : Int)).2))]) (cells := [.int .u8 ((rdP xs (i : Int)).2)]) rfl rfl Try.underlying103 hi5.1 hi5.2.1 (by rw [hi5.2.2.1]; rfl) (by rw [hi5.2.2.1]; rfl) (by rw [hi5.2.2.1]; kernel_rfl)) rfl rfl rfl rfl (fun b52 hb52 => ?_)
                        refine s_tr (t_appendL (enc := (Value.int .u8)) (sv := sv) (xs := os) (n := m) (v := (rdP xs (i : Int)).2) [_, _] _ rfl rfl rfl hokz Try.underlying103 hi5.1 hi5.2.1 hi5.2.2.1 hi5.2.2.2 rfl (fun w h => h.toHq.cell (i := 0) rfl rfl) rfl (by omega) (by unfold maxLen; omega)) rfl rfl rfl rfl (fun y56 hy57 => ?_)
                        obtain ⟨sv53, gs54⟩ := y56
                        obtain ⟨hok55, hok55b, hok55c, hok55j, hok55e⟩ := hy57
                        refine s_y (y_assign rfl) rfl rfl rfl rfl ?_
                        refine s_nil ?_
                        refine g_then ?_
                        refine g_region ?_
                        refine s_y (y_move rfl) rfl rfl rfl rfl ?_
                        refine s_y (y_fld rfl (fun w => fld_23_2 _ _ w)) rfl rfl rfl rfl ?_
                        refine s_y (y_ldM (List.mem_cons_of_mem _ (List.mem_cons_of_mem _ (mem_ar (sv53.mem 5 ((os ++ [(rdP xs (i : Int)).2]).map (Value.int .u8))) (mem_ar gs54 (List.mem_cons_self ..))))) rfl agg_3 rfl) rfl rfl rfl rfl ?_
                        refine s_y (y_add rfl rfl (by omega) (by omega)) rfl rfl rfl rfl ?_
                        refine s_y (y_assign rfl) rfl rfl rfl rfl ?_
                        refine s_nil ?_
                        refine g_inb ?_
                        refine g_then ?_
                        refine g_seq ?_
                        refine g_region ?_
                        refine s_y (y_fld rfl (fun w => fld_104_0 _ _ w)) rfl rfl rfl rfl ?_
                        refine s_y (y_ld1 1 rfl rfl agg_3 rfl) rfl rfl rfl rfl ?_
                        refine s_y (y_lss rfl rfl) rfl rfl rfl rfl ?_
                        refine s_nil ?_
                        refine g_then ?_
                        refine g_cond rfl (fun cq58 => ?_) (fun cq58 => ?_)
                        · (try simp at cq58)
                          refine g_region ?_
                          refine s_y (y_move rfl) rfl rfl rfl rfl ?_
                          refine s_y (y_add rfl rfl (by omega) (by omega)) rfl rfl rfl rfl ?_
                          refine s_y (y_assign rfl) rfl rfl rfl rfl ?_
                          refine s_nil ?_
                          refine g_inb ?_
                          refine g_then ?_
                          refine g_region ?_
                          refine s_y (y_add rfl rfl (by omega) (by omega)) rfl rfl rfl rfl ?_
                          refine s_y (y_move rfl) rfl rfl rfl rfl ?_
                          refine s_nil ?_
                          refine g_then ?_
                          have hg : okE a t (rdP xs (i : Int)) := by unfold okE; refine ⟨by omega, by omega, by omega, by omega, by omega, by omega, by omega⟩
                          exact fun act W ha hw => ⟨i + 1, by omega, by omega, sv53, (m + 1), (os ++ [(rdP xs (i : Int)).2]), (c + ps), (t + 1), W, (by exact hok55), (by omega), (by rw [rdP_take (by omega), runE_snoc, hrun]; simp only [stepE]; rw [if_pos hg]; rcases (show (rdP xs (i : Int)).1 = 0 ∨ (rdP xs (i : Int)).1 = 1 ∨ (rdP xs (i : Int)).1 = 2 ∨ (rdP xs (i : Int)).1 = 3 by omega) with e1 | e1 | e1 | e1 <;> first | (exfalso; omega) | simp [e1, priceOf]), ha.weak (sub_get ⟨rfl, rfl, rfl, rfl, rfl, rfl, rfl, rfl, trivial⟩), hw.toHq.lookSub (List.Sublist.cons _ (List.Sublist.cons _ (sub_app (sv53.mem 5 ((os ++ [(rdP xs (i : Int)).2]).map (Value.int .u8))) (sub_skip gs54 (List.Sublist.refl _)))))⟩
                        · (try simp at cq58)
                          refine g_skip ?_
                          refine g_inb ?_
                          refine g_then ?_
                          refine g_region ?_
                          refine s_y (y_add rfl rfl (by omega) (by omega)) rfl rfl rfl rfl ?_
                          refine s_y (y_move rfl) rfl rfl rfl rfl ?_
                          refine s_nil ?_
                          refine g_then ?_
                          have hg : okE a t (rdP xs (i : Int)) := by unfold okE; refine ⟨by omega, by omega, by omega, by omega, by omega, by omega, by omega⟩
                          exact fun act W ha hw => ⟨i + 1, by omega, by omega, sv53, (m + 1), (os ++ [(rdP xs (i : Int)).2]), (c + ps), t, W, (by exact hok55), (by omega), (by rw [rdP_take (by omega), runE_snoc, hrun]; simp only [stepE]; rw [if_pos hg]; rcases (show (rdP xs (i : Int)).1 = 0 ∨ (rdP xs (i : Int)).1 = 1 ∨ (rdP xs (i : Int)).1 = 2 ∨ (rdP xs (i : Int)).1 = 3 by omega) with e1 | e1 | e1 | e1 <;> first | (exfalso; omega) | simp [e1, priceOf]), ha.weak (sub_get ⟨rfl, rfl, rfl, rfl, rfl, rfl, rfl, rfl, trivial⟩), hw.toHq.lookSub (List.Sublist.cons _ (List.Sublist.cons _ (sub_app (sv53.mem 5 ((os ++ [(rdP xs (i : Int)).2]).map (Value.int .u8))) (sub_skip gs54 (List.Sublist.refl _)))))⟩
                    · (try simp at cq50)
                      refine g_seq ?_
                      refine g_region ?_
                      refine s_y (y_eql rfl rfl) rfl rfl rfl rfl ?_
                      refine s_y (y_assign rfl) rfl rfl rfl rfl ?_
                      refine s_nil ?_
                      refine g_then ?_
                      refine g_cond rfl (fun cq59 => ?_) (fun cq59 => ?_)
                      · (try simp at cq59)
                        refine g_region ?_
                        refine s_y (y_move rfl) rfl rfl rfl rfl ?_
                        refine s_y (y_fld rfl (fun w => fld_23_1 _ _ w)) rfl rfl rfl rfl ?_
                        refine s_y (y_ldM (List.mem_cons_of_mem _ (mem_ar (sv.mem 5 (os.map (Value.int .u8))) (List.mem_cons_self ..))) rfl agg_3 rfl) rfl rfl rfl rfl ?_
                        refine s_y (y_add rfl rfl (by omega) (by omega)) rfl rfl rfl rfl ?_
                        refine s_y (y_assign rfl) rfl rfl rfl rfl ?_
                        refine s_nil ?_
                        refine g_inb ?_
                        refine g_then ?_
                        refine g_seq ?_
                        refine g_region ?_
                        refine s_y (y_fld rfl (fun w => fld_104_0 _ _ w)) rfl rfl rfl rfl ?_
                        refine s_y (y_ld1 0 rfl rfl agg_3 rfl) rfl rfl rfl rfl ?_
                        refine s_y (y_lss rfl rfl) rfl rfl rfl rfl ?_
                        refine s_nil ?_
                        refine g_then ?_
                        refine g_cond rfl (fun cq60 => ?_) (fun cq60 => ?_)
                        · (try simp at cq60)
                          refine g_region ?_
                          refine s_y (y_move rfl) rfl rfl rfl rfl ?_
                          refine s_y (y_add rfl rfl (by omega) (by omega)) rfl rfl rfl rfl ?_
                          refine s_y (y_assign rfl) rfl rfl rfl rfl ?_
                          refine s_nil ?_
                          refine g_inb ?_
                          refine g_then ?_
                          refine g_region ?_
                          refine s_y (y_add rfl rfl (by omega) (by omega)) rfl rfl rfl rfl ?_
                          refine s_y (y_move rfl) rfl rfl rfl rfl ?_
                          refine s_nil ?_
                          refine g_then ?_
                          have hg : okE a t (rdP xs (i : Int)) := by unfold okE; refine ⟨by omega, by omega, by omega, by omega, by omega, by omega, by omega⟩
                          exact fun act W ha hw => ⟨i + 1, by omega, by omega, sv, m, os, (c + po), (t + 1), W, (by exact hokz), (by omega), (by rw [rdP_take (by omega), runE_snoc, hrun]; simp only [stepE]; rw [if_pos hg]; rcases (show (rdP xs (i : Int)).1 = 0 ∨ (rdP xs (i : Int)).1 = 1 ∨ (rdP xs (i : Int)).1 = 2 ∨ (rdP xs (i : Int)).1 = 3 by omega) with e1 | e1 | e1 | e1 <;> first | (exfalso; omega) | simp [e1, priceOf]), ha.weak (sub_get ⟨rfl, rfl, rfl, rfl, rfl, rfl, rfl, rfl, trivial⟩), hw.toHq.lookSub (List.Sublist.cons _ (List.Sublist.refl _))⟩
                        · (try simp at cq60)
                          refine g_skip ?_
                          refine g_inb ?_
                          refine g_then ?_
                          refine g_region ?_
                          refine s_y (y_add rfl rfl (by omega) (by omega)) rfl rfl rfl rfl ?_
                          refine s_y (y_move rfl) rfl rfl rfl rfl ?_
                          refine s_nil ?_
                          refine g_then ?_
                          have hg : okE a t (rdP xs (i : Int)) := by unfold okE; refine ⟨by omega, by omega, by omega, by omega, by omega, by omega, by omega⟩
                          exact fun act W ha hw => ⟨i + 1, by omega, by omega, sv, m, os, (c + po), t, W, (by exact hokz), (by omega), (by rw [rdP_take (by omega), runE_snoc, hrun]; simp only [stepE]; rw [if_pos hg]; rcases (show (rdP xs (i : Int)).1 = 0 ∨ (rdP xs (i : Int)).1 = 1 ∨ (rdP xs (i : Int)).1 = 2 ∨ (rdP xs (i : Int)).1 = 3 by omega) with e1 | e1 | e1 | e1 <;> first | (exfalso; omega) | simp [e1, priceOf]), ha.weak (sub_get ⟨rfl, rfl, rfl, rfl, rfl, rfl, rfl, rfl, trivial⟩), hw.toHq.lookSub (List.Sublist.cons _ (List.Sublist.refl _))⟩
                      · (try simp at cq59)
                        refine g_seq ?_
                        refine g_region ?_
                        refine s_y (y_eql rfl rfl) rfl rfl rfl rfl ?_
                        refine s_y (y_assign rfl) rfl rfl rfl rfl ?_
                        refine s_nil ?_
                        refine g_then ?_
                        refine g_cond rfl (fun cq61 => ?_) (fun cq61 => ?_)
                        · (try simp at cq61)
                          refine g_seq ?_
                          refine g_region ?_
                          refine s_y (y_move rfl) rfl rfl rfl rfl ?_
                          refine s_y (y_fld rfl (fun w => fld_104_1 _ _ w)) rfl rfl rfl rfl ?_
                          refine s_y (y_ld1 0 rfl rfl agg_3 rfl) rfl rfl rfl rfl ?_
                          refine s_y (y_conv rfl (by kernel_rfl) Try.underlying5 (u8_eq (by omega) (by omega))) rfl rfl rfl rfl ?_
                          refine s_tr (t_build (vs := [(0, .int .u8 ((rdP xs (i : Int)).2))]) (cells := [.int .u8 ((rdP xs (i : Int)).2)]) rfl rfl Try.underlying103 hi5.1 hi5.2.1 (by rw [hi5.2.2.1]; rfl) (by rw [hi5.2.2.1]; rfl) (by rw [hi5.2.2.1]; kernel_rfl)) rfl rfl rfl rfl (fun b62 hb62 => ?_)
                          refine s_tr (t_appendL (enc := (Value.int .u8)) (sv := sv) (xs := os) (n := m) (v := (rdP xs (i : Int)).2) [_, _] _ rfl rfl rfl hokz Try.underlying103 hi5.1 hi5.2.1 hi5.2.2.1 hi5.2.2.2 rfl (fun w h => h.toHq.cell (i := 0) rfl rfl) rfl (by omega) (by unfold maxLen; omega)) rfl rfl rfl rfl (fun y66 hy67 => ?_)
                          obtain ⟨sv63, gs64⟩ := y66
                          obtain ⟨hok65, hok65b, hok65c, hok65j, hok65e⟩ := hy67
                          refine s_y (y_assign rfl) rfl rfl rfl rfl ?_
                          refine s_nil ?_
                          refine g_then ?_
                          refine g_region ?_
                          refine s_y (y_move rfl) rfl rfl rfl rfl ?_
                          refine s_y (y_fld rfl (fun w => fld_23_0 _ _ w)) rfl rfl rfl rfl ?_
                          refine s_y (y_ldM (List.mem_cons_of_mem _ (List.mem_cons_of_mem _ (mem_ar (sv63.mem 5 ((os ++ [(rdP xs (i : Int)).2]).map (Value.int .u8))) (mem_ar gs64 (List.mem_cons_self ..))))) rfl agg_3 rfl) rfl rfl rfl rfl ?_
                          refine s_y (y_add rfl rfl (by omega) (by omega)) rfl rfl rfl rfl ?_
                          refine s_y (y_assign rfl) rfl rfl rfl rfl ?_
                          refine s_nil ?_
                          refine g_inb ?_
                          refine g_then ?_
                          refine g_seq ?_
                          refine g_region ?_
                          refine s_y (y_fld rfl (fun w => fld_104_0 _ _ w)) rfl rfl rfl rfl ?_
                          refine s_y (y_ld1 1 rfl rfl agg_3 rfl) rfl rfl rfl rfl ?_
                          refine s_y (y_lss rfl rfl) rfl rfl rfl rfl ?_
                          refine s_nil ?_
                          refine g_then ?_
                          refine g_cond rfl (fun cq68 => ?_) (fun cq68 => ?_)
                          · (try simp at cq68)
                            refine g_region ?_
                            refine s_y (y_move rfl) rfl rfl rfl rfl ?_
                            refine s_y (y_add rfl rfl (by omega) (by omega)) rfl rfl rfl rfl ?_
                            refine s_y (y_assign rfl) rfl rfl rfl rfl ?_
                            refine s_nil ?_
                            refine g_inb ?_
                            refine g_then ?_
                            refine g_region ?_
                            refine s_y (y_add rfl rfl (by omega) (by omega)) rfl rfl rfl rfl ?_
                            refine s_y (y_move rfl) rfl rfl rfl rfl ?_
                            refine s_nil ?_
                            refine g_then ?_
                            have hg : okE a t (rdP xs (i : Int)) := by unfold okE; refine ⟨by omega, by omega, by omega, by omega, by omega, by omega, by omega⟩
                            exact fun act W ha hw => ⟨i + 1, by omega, by omega, sv63, (m + 1), (os ++ [(rdP xs (i : Int)).2]), (c + pi), (t + 1), W, (by exact hok65), (by omega), (by rw [rdP_take (by omega), runE_snoc, hrun]; simp only [stepE]; rw [if_pos hg]; rcases (show (rdP xs (i : Int)).1 = 0 ∨ (rdP xs (i : Int)).1 = 1 ∨ (rdP xs (i : Int)).1 = 2 ∨ (rdP xs (i : Int)).1 = 3 by omega) with e1 | e1 | e1 | e1 <;> first | (exfalso; omega) | simp [e1, priceOf]), ha.weak (sub_get ⟨rfl, rfl, rfl, rfl, rfl, rfl, rfl, rfl, trivial⟩), hw.toHq.lookSub (List.Sublist.cons _ (List.Sublist.cons _ (sub_app (sv63.mem 5 ((os ++ [(rdP xs (i : Int)).2]).map (Value.int .u8))) (sub_skip gs64 (List.Sublist.refl _)))))⟩
                          · (try simp at cq68)
                            refine g_skip ?_
                            refine g_inb ?_
                            refine g_then ?_
                            refine g_region ?_
                            refine s_y (y_add rfl rfl (by omega) (by omega)) rfl rfl rfl rfl ?_
                            refine s_y (y_move rfl) rfl rfl rfl rfl ?_
                            refine s_nil ?_
                            refine g_then ?_
                            have hg : okE a t (rdP xs (i : Int)) := by unfold okE; refine ⟨by omega, by omega, by omega, by omega, by omega, by omega, by omega⟩
                            exact fun act W ha hw => ⟨i + 1, by omega, by omega, sv63, (m + 1), (os ++ [(rdP xs (i : Int)).2]), (c + pi), t, W, (by exact hok65), (by omega), (by rw [rdP_take (by omega), runE_snoc, hrun]; simp only [stepE]; rw [if_pos hg]; rcases (show (rdP xs (i : Int)).1 = 0 ∨ (rdP xs (i : Int)).1 = 1 ∨ (rdP xs (i : Int)).1 = 2 ∨ (rdP xs (i : Int)).1 = 3 by omega) with e1 | e1 | e1 | e1 <;> first | (exfalso; omega) | simp [e1, priceOf]), ha.weak (sub_get ⟨rfl, rfl, rfl, rfl, rfl, rfl, rfl, rfl, trivial⟩), hw.toHq.lookSub (List.Sublist.cons _ (List.Sublist.cons _ (sub_app (sv63.mem 5 ((os ++ [(rdP xs (i : Int)).2]).map (Value.int .u8))) (sub_skip gs64 (List.Sublist.refl _)))))⟩
                        · (try simp at cq61)
                          refine g_skip ?_
                          refine g_inb ?_
                          refine g_then ?_
                          refine g_seq ?_
                          refine g_region ?_
                          refine s_y (y_fld rfl (fun w => fld_104_0 _ _ w)) rfl rfl rfl rfl ?_
                          refine s_y (y_ld1 0 rfl rfl agg_3 rfl) rfl rfl rfl rfl ?_
                          refine s_y (y_lss rfl rfl) rfl rfl rfl rfl ?_
                          refine s_nil ?_
                          refine g_then ?_
                          refine g_cond rfl (fun cq69 => ?_) (fun cq69 => ?_)
                          · (try simp at cq69)
                            refine g_region ?_
                            refine s_y (y_move rfl) rfl rfl rfl rfl ?_
                            refine s_y (y_add rfl rfl (by omega) (by omega)) rfl rfl rfl rfl ?_
                            refine s_y (y_assign rfl) rfl rfl rfl rfl ?_
                            refine s_nil ?_
                            refine g_inb ?_
                            refine g_then ?_
                            refine g_region ?_
                            refine s_y (y_add rfl rfl (by omega) (by omega)) rfl rfl rfl rfl ?_
                            refine s_y (y_move rfl) rfl rfl rfl rfl ?_
                            refine s_nil ?_
                            refine g_then ?_
                            have hg : okE a t (rdP xs (i : Int)) := by unfold okE; refine ⟨by omega, by omega, by omega, by omega, by omega, by omega, by omega⟩
                            exact fun act W ha hw => ⟨i + 1, by omega, by omega, sv, m, os, c, (t + 1), W, (by exact hokz), (by omega), (by rw [rdP_take (by omega), runE_snoc, hrun]; simp only [stepE]; rw [if_pos hg]; rcases (show (rdP xs (i : Int)).1 = 0 ∨ (rdP xs (i : Int)).1 = 1 ∨ (rdP xs (i : Int)).1 = 2 ∨ (rdP xs (i : Int)).1 = 3 by omega) with e1 | e1 | e1 | e1 <;> first | (exfalso; omega) | simp [e1, priceOf]), ha.weak (sub_get ⟨rfl, rfl, rfl, rfl, rfl, rfl, rfl, rfl, trivial⟩), hw.toHq.lookSub (List.Sublist.cons _ (List.Sublist.refl _))⟩
                          · (try simp at cq69)
                            refine g_skip ?_
                            refine g_inb ?_
                            refine g_then ?_
                            refine g_region ?_
                            refine s_y (y_add rfl rfl (by omega) (by omega)) rfl rfl rfl rfl ?_
                            refine s_y (y_move rfl) rfl rfl rfl rfl ?_
                            refine s_nil ?_
                            refine g_then ?_
                            have hg : okE a t (rdP xs (i : Int)) := by unfold okE; refine ⟨by omega, by omega, by omega, by omega, by omega, by omega, by omega⟩
                            exact fun act W ha hw => ⟨i + 1, by omega, by omega, sv, m, os, c, t, W, (by exact hokz), (by omega), (by rw [rdP_take (by omega), runE_snoc, hrun]; simp only [stepE]; rw [if_pos hg]; rcases (show (rdP xs (i : Int)).1 = 0 ∨ (rdP xs (i : Int)).1 = 1 ∨ (rdP xs (i : Int)).1 = 2 ∨ (rdP xs (i : Int)).1 = 3 by omega) with e1 | e1 | e1 | e1 <;> first | (exfalso; omega) | simp [e1, priceOf]), ha.weak (sub_get ⟨rfl, rfl, rfl, rfl, rfl, rfl, rfl, rfl, trivial⟩), hw.toHq.lookSub (List.Sublist.cons _ (List.Sublist.refl _))⟩
            · (try simp at cq10)
              refine s_no rfl rfl rfl ?_
              refine s_no rfl rfl rfl ?_
              refine s_no rfl rfl rfl ?_
              refine s_y (y_pick_f rfl rfl) rfl rfl rfl rfl ?_
              refine s_y (y_pick_f rfl rfl) rfl rfl rfl rfl ?_
              refine s_y (y_move rfl) rfl rfl rfl rfl ?_
              refine s_y (y_fld rfl (fun w => fld_104_0 _ _ w)) rfl rfl rfl rfl ?_
              refine s_y (y_ld1 0 rfl rfl agg_3 rfl) rfl rfl rfl rfl ?_
              refine s_y (y_lss rfl rfl) rfl rfl rfl rfl ?_
              refine s_y (y_move rfl) rfl rfl rfl rfl ?_
              refine g_bool 54 rfl (fun cq70 => ?_) (fun cq70 => ?_)
              · (try simp at cq70)
                refine s_y (y_move rfl) rfl rfl rfl rfl ?_
                refine s_y (y_move rfl) rfl rfl rfl rfl ?_
                refine s_y (y_lens rfl Try.underlying9) rfl rfl rfl rfl ?_
                refine s_y (y_geq rfl rfl) rfl rfl rfl rfl ?_
                refine s_y (y_pick_t rfl rfl) rfl rfl rfl rfl ?_
                refine s_y (y_pick_f rfl rfl) rfl rfl rfl rfl ?_
                refine s_nil ?_
                refine g_then ?_
                refine g_cond rfl (fun cq71 => ?_) (fun cq71 => ?_)
                · (try simp at cq71)
                  refine g_seq ?_
                  refine g_region ?_
                  refine s_y (y_assign rfl) rfl rfl rfl rfl ?_
                  refine s_y (y_assign rfl) rfl rfl rfl rfl ?_
                  refine s_y (y_assign rfl) rfl rfl rfl rfl ?_
                  refine s_nil ?_
                  refine g_then ?_
                  refine g_ret ?_
                  refine g_thenr ?_
                  refine g_inbr ?_
                  refine g_thenr ?_
                  refine g_thenr ?_
                  refine g_inbr ?_
                  refine g_thenr ?_
                  have hnone : runE a pi po ps st0 xs = none := runE_cut (n := i + 1) (by
                    rw [rdP_take (by omega), runE_snoc, hrun]; exact if_neg (by
                      rintro ⟨g1, g2, g3, g4, g5, g6, g7⟩
                      omega))
                  rw [hnone]
                  exact g_end trivial (fun a w ha hq_ => res3 ha rfl rfl rfl rfl  w) (fun w h => ⟨rfl, h.below⟩)
                · (try simp at cq71)
                  refine g_skip ?_
                  refine g_then ?_
                  refine g_seq ?_
                  refine g_seq ?_
                  refine g_region ?_
                  refine s_y (y_fld rfl (fun w => fld_104_0 _ _ w)) rfl rfl rfl rfl ?_
                  refine s_y (y_ld1 0 rfl rfl agg_3 rfl) rfl rfl rfl rfl ?_
                  refine s_nil ?_
                  refine g_then ?_
                  refine g_block ?_
                  refine g_seq ?_
                  refine g_region ?_
                  refine s_y (y_eql rfl rfl) rfl rfl rfl rfl ?_
                  refine s_y (y_assign rfl) rfl rfl rfl rfl ?_
                  refine s_nil ?_
                  refine g_then ?_
                  refine g_cond rfl (fun cq72 => ?_) (fun cq72 => ?_)
                  · (try simp at cq72)
                    refine g_region ?_
                    refine s_y (y_move rfl) rfl rfl rfl rfl ?_
                    refine s_y (y_move rfl) rfl rfl rfl rfl ?_
                    refine s_y (y_move rfl) rfl rfl rfl rfl ?_
                    refine s_y (y_idxs rfl rfl Try.underlying9 (by omega) (by omega)) rfl rfl rfl rfl ?_
                    refine s_tr (t_build (vs := [(0, .int .u8 (bt a (t : Int)))]) (cells := [.int .u8 (bt a (t : Int))]) rfl rfl Try.underlying103 hi5.1 hi5.2.1 (by rw [hi5.2.2.1]; rfl) (by rw [hi5.2.2.1]; rfl) (by rw [hi5.2.2.1]; kernel_rfl)) rfl rfl rfl rfl (fun b73 hb73 => ?_)
                    refine s_tr (t_appendL (enc := (Value.int .u8)) (sv := sv) (xs := os) (n := m) (v := bt a (t : Int)) [_, _] _ rfl rfl rfl hokz Try.underlying103 hi5.1 hi5.2.1 hi5.2.2.1 hi5.2.2.2 rfl (fun w h => h.toHq.cell (i := 0) rfl rfl) rfl (by omega) (by unfold maxLen; omega)) rfl rfl rfl rfl (fun y77 hy78 => ?_)
                    obtain ⟨sv74, gs75⟩ := y77
                    obtain ⟨hok76, hok76b, hok76c, hok76j, hok76e⟩ := hy78
                    refine s_y (y_assign rfl) rfl rfl rfl rfl ?_
                    refine s_nil ?_
                    refine g_inb ?_
                    refine g_then ?_
                    refine g_seq ?_
                    refine g_region ?_
                    refine s_y (y_fld rfl (fun w => fld_104_0 _ _ w)) rfl rfl rfl rfl ?_
                    refine s_y (y_ld1 1 rfl rfl agg_3 rfl) rfl rfl rfl rfl ?_
                    refine s_y (y_lss rfl rfl) rfl rfl rfl rfl ?_
                    refine s_nil ?_
                    refine g_then ?_
                    refine g_cond rfl (fun cq79 => ?_) (fun cq79 => ?_)
                    · (try simp at cq79)
                      refine g_region ?_
                      refine s_y (y_move rfl) rfl rfl rfl rfl ?_
                      refine s_y (y_add rfl rfl (by omega) (by omega)) rfl rfl rfl rfl ?_
                      refine s_y (y_assign rfl) rfl rfl rfl rfl ?_
                      refine s_nil ?_
                      refine g_inb ?_
                      refine g_then ?_
                      refine g_region ?_
                      refine s_y (y_add rfl rfl (by omega) (by omega)) rfl rfl rfl rfl ?_
                      refine s_y (y_move rfl) rfl rfl rfl rfl ?_
                      refine s_nil ?_
                      refine g_then ?_
                      have hg : okE a t (rdP xs (i : Int)) := by unfold okE; refine ⟨by omega, by omega, by omega, by omega, by omega, by omega, by omega⟩
                      exact fun act W ha hw => ⟨i + 1, by omega, by omega, sv74, (m + 1), (os ++ [bt a (t : Int)]), c, (t + 1), W, (by exact hok76), (by omega), (by rw [rdP_take (by omega), runE_snoc, hrun]; simp only [stepE]; rw [if_pos hg]; rcases (show (rdP xs (i : Int)).1 = 0 ∨ (rdP xs (i : Int)).1 = 1 ∨ (rdP xs (i : Int)).1 = 2 ∨ (rdP xs (i : Int)).1 = 3 by omega) with e1 | e1 | e1 | e1 <;> first | (exfalso; omega) | simp [e1, priceOf]), ha.weak (sub_get ⟨rfl, rfl, rfl, rfl, rfl, rfl, rfl, rfl, trivial⟩), hw.toHq.lookSub (List.Sublist.cons _ (List.Sublist.cons _ (sub_app (sv74.mem 5 ((os ++ [bt a (t : Int)]).map (Value.int .u8))) (sub_skip gs75 (List.Sublist.refl _)))))⟩
                    · (try simp at cq79)
                      refine g_skip ?_
                      refine g_inb ?_
                      refine g_then ?_
                      refine g_region ?_
                      refine s_y (y_add rfl rfl (by omega) (by omega)) rfl rfl rfl rfl ?_
                      refine s_y (y_move rfl) rfl rfl rfl rfl ?_
                      refine s_nil ?_
                      refine g_then ?_
                      have hg : okE a t (rdP xs (i : Int)) := by unfold okE; refine ⟨by omega, by omega, by omega, by omega, by omega, by omega, by omega⟩
                      exact fun act W ha hw => ⟨i + 1, by omega, by omega, sv74, (m + 1), (os ++ [bt a (t : Int)]), c, t, W, (by exact hok76), (by omega), (by rw [rdP_take (by omega), runE_snoc, hrun]; simp only [stepE]; rw [if_pos hg]; rcases (show (rdP xs (i : Int)).1 = 0 ∨ (rdP xs (i : Int)).1 = 1 ∨ (rdP xs (i : Int)).1 = 2 ∨ (rdP xs (i : Int)).1 = 3 by omega) with e1 | e1 | e1 | e1 <;> first | (exfalso; omega) | simp [e1, priceOf]), ha.weak (sub_get ⟨rfl, rfl, rfl, rfl, rfl, rfl, rfl, rfl, trivial⟩), hw.toHq.lookSub (List.Sublist.cons _ (List.Sublist.cons _ (sub_app (sv74.mem 5 ((os ++ [bt a (t : Int)]).map (Value.int .u8))) (sub_skip gs75 (List.Sublist.refl _)))))⟩
                  · (try simp at cq72)
                    refine g_seq ?_
                    refine g_region ?_
                    refine s_y (y_eql rfl rfl) rfl rfl rfl rfl ?_
                    refine s_y (y_assign rfl) rfl rfl rfl rfl ?_
                    refine s_nil ?_
                    refine g_then ?_
                    refine g_cond rfl (fun cq80 => ?_) (fun cq80 => ?_)
                    · (try simp at cq80)
                      refine g_seq ?_
                      refine g_seq ?_
                      refine g_draw 7 (by kernel_rfl) ?_
                      refine j_p (i := 0) rfl (y_move rfl) (by kernel_rfl) (by kernel_rfl) (by kernel_rfl) rfl rfl rfl rfl rfl (.inr (fun _ h => h)) ?_
                      refine j_p (i := 1) rfl (y_move rfl) (by kernel_rfl) (by kernel_rfl) (by kernel_rfl) rfl rfl rfl rfl rfl (.inr (fun _ h => h)) ?_
                      refine j_p (i := 2) rfl (y_idxs rfl rfl Try.underlying9 (by omega) (by omega)) (by kernel_rfl) (by kernel_rfl) (by kernel_rfl) rfl rfl rfl rfl rfl (.inr (fun _ h => h)) ?_
                      refine j_p (i := 3) rfl (y_convb rfl (by kernel_rfl) Try.underlying3) (by kernel_rfl) (by kernel_rfl) (by kernel_rfl) rfl rfl rfl rfl rfl (.inr (fun _ h => h)) ?_
                      refine j_p (i := 4) rfl (y_fld rfl (fun w => fld_104_1 _ _ w)) (by kernel_rfl) (by kernel_rfl) (by kernel_rfl) rfl rfl rfl rfl rfl (.inr (fun _ h => h)) ?_
                      refine j_l (i := 5) rfl (y_ld1 0 rfl rfl agg_3 rfl) (by kernel_rfl) (by kernel_rfl) (by kernel_rfl) (by kernel_rfl) rfl rfl rfl rfl rfl (.inr (fun _ h => h)) ?_
                      refine j_p (i := 6) rfl (y_eql rfl rfl) (by kernel_rfl) (by kernel_rfl) (by kernel_rfl) rfl rfl rfl rfl rfl (.inr (fun _ h => h)) ?_
                      refine j_nil (by kernel_rfl) ?_
                      refine g_then ?_
                      refine g_cond rfl (fun cq81 => ?_) (fun cq81 => ?_)
                      · (try simp at cq81)
                        refine g_seq ?_
                        refine g_region ?_
                        refine s_y (y_assign rfl) rfl rfl rfl rfl ?_
                        refine s_y (y_assign rfl) rfl rfl rfl rfl ?_
                        refine s_y (y_assign rfl) rfl rfl rfl rfl ?_
                        refine s_nil ?_
                        refine g_then ?_
                        refine g_ret ?_
                        refine g_thenr ?_
                        refine g_inbr ?_
                        refine g_thenr ?_
                        refine g_inbr ?_
                        refine g_thenr ?_
                        refine g_thenr ?_
                        refine g_inbr ?_
                        refine g_thenr ?_
                        have hnone : runE a pi po ps st0 xs = none := runE_cut (n := i + 1) (by
                          rw [rdP_take (by omega), runE_snoc, hrun]; exact if_neg (by
                            rintro ⟨g1, g2, g3, g4, g5, g6, g7⟩
                            omega))
                        rw [hnone]
                        exact g_end trivial (fun a w ha hq_ => res3 ha rfl rfl rfl rfl  w) (fun w h => ⟨rfl, h.below⟩)
                      · (try simp at cq81)
                        refine g_skip ?_
                        refine g_then ?_
                        refine g_seq ?_
                        refine g_region ?_
                        refine s_y (y_move rfl) rfl rfl rfl rfl ?_
                        refine s_y (y_fld rfl (fun w => fld_104_1 _ _ w)) rfl rfl rfl rfl ?_
                        refine s_y (y_ld1 0 rfl rfl agg_3 rfl) rfl rfl rfl rfl ?_
                        refine s_y (y_conv rfl (by kernel_rfl) Try.underlying5 (u8_eq (by omega) (by omega))) rfl rfl rfl rfl ?_
                        refine s_tr (t_build (vs := [(0, .int .u8 ((rdP xs (i : Int)).2))]) (cells := [.int .u8 ((rdP xs (i : Int)).2)]) rfl rfl Try.underlying103 hi5.1 hi5.2.1 (by rw [hi5.2.2.1]; rfl) (by rw [hi5.2.2.1]; rfl) (by rw [hi5.2.2.1]; kernel_rfl)) rfl rfl rfl rfl (fun b82 hb82 => ?_)
                        refine s_tr (t_appendL (enc := (Value.int .u8)) (sv := sv) (xs := os) (n := m) (v := (rdP xs (i : Int)).2) [_, _] _ rfl rfl rfl hokz Try.underlying103 hi5.1 hi5.2.1 hi5.2.2.1 hi5.2.2.2 rfl (fun w h => h.toHq.cell (i := 0) rfl rfl) rfl (by omega) (by unfold maxLen; omega)) rfl rfl rfl rfl (fun y86 hy87 => ?_)
                        obtain ⟨sv83, gs84⟩ := y86
                        obtain ⟨hok85, hok85b, hok85c, hok85j, hok85e⟩ := hy87
                        refine s_y (y_assign rfl) rfl rfl rfl rfl ?_
                        refine s_nil ?_
                        refine g_then ?_
                        refine g_region ?_
                        refine s_y (y_move rfl) rfl rfl rfl rfl ?_
                        refine s_y (y_fld rfl (fun w => fld_23_2 _ _ w)) rfl rfl rfl rfl ?_
                        refine s_y (y_ldM (List.mem_cons_of_mem _ (List.mem_cons_of_mem _ (mem_ar (sv83.mem 5 ((os ++ [(rdP xs (i : Int)).2]).map (Value.int .u8))) (mem_ar gs84 (List.mem_cons_self ..))))) rfl agg_3 rfl) rfl rfl rfl rfl ?_
                        refine s_y (y_add rfl rfl (by omega) (by omega)) rfl rfl rfl rfl ?_
                        refine s_y (y_assign rfl) rfl rfl rfl rfl ?_
                        refine s_nil ?_
                        refine g_inb ?_
                        refine g_then ?_
                        refine g_seq ?_
                        refine g_region ?_
                        refine s_y (y_fld rfl (fun w => fld_104_0 _ _ w)) rfl rfl rfl rfl ?_
                        refine s_y (y_ld1 1 rfl rfl agg_3 rfl) rfl rfl rfl rfl ?_
                        refine s_y (y_lss rfl rfl) rfl rfl rfl rfl ?_
                        refine s_nil ?_
                        refine g_then ?_
                        refine g_cond rfl (fun cq88 => ?_) (fun cq88 => ?_)
                        · (try simp at cq88)
                          refine g_region ?_
                          refine s_y (y_move rfl) rfl rfl rfl rfl ?_
                          refine s_y (y_add rfl rfl (by omega) (by omega)) rfl rfl rfl rfl ?_
                          refine s_y (y_assign rfl) rfl rfl rfl rfl ?_
                          refine s_nil ?_
                          refine g_inb ?_
                          refine g_then ?_
                          refine g_region ?_
                          refine s_y (y_add rfl rfl (by omega) (by omega)) rfl rfl rfl rfl ?_
                          refine s_y (y_move rfl) rfl rfl rfl rfl ?_
                          refine s_nil ?_
                          refine g_then ?_
                          have hg : okE a t (rdP xs (i : Int)) := by unfold okE; refine ⟨by omega, by omega, by omega, by omega, by omega, by omega, by omega⟩
                          exact fun act W ha hw => ⟨i + 1, by omega, by omega, sv83, (m + 1), (os ++ [(rdP xs (i : Int)).2]), (c + ps), (t + 1), W, (by exact hok85), (by omega), (by rw [rdP_take (by omega), runE_snoc, hrun]; simp only [stepE]; rw [if_pos hg]; rcases (show (rdP xs (i : Int)).1 = 0 ∨ (rdP xs (i : Int)).1 = 1 ∨ (rdP xs (i : Int)).1 = 2 ∨ (rdP xs (i : Int)).1 = 3 by omega) with e1 | e1 | e1 | e1 <;> first | (exfalso; omega) | simp [e1, priceOf]), ha.weak (sub_get ⟨rfl, rfl, rfl, rfl, rfl, rfl, rfl, rfl, trivial⟩), hw.toHq.lookSub (List.Sublist.cons _ (List.Sublist.cons _ (sub_app (sv83.mem 5 ((os ++ [(rdP xs (i : Int)).2]).map (Value.int .u8))) (sub_skip gs84 (List.Sublist.refl _)))))⟩
                        · (try simp at cq88)
                          refine g_skip ?_
                          refine g_inb ?_
                          refine g_then ?_
                          refine g_region ?_
                          refine s_y (y_add rfl rfl (by omega) (by omega)) rfl rfl rfl rfl ?_
                          refine s_y (y_move rfl) rfl rfl rfl rfl ?_
                          refine s_nil ?_
                          refine g_then ?_
                          have hg : okE a t (rdP xs (i : Int)) := by unfold okE; refine ⟨by omega, by omega, by omega, by omega, by omega, by omega, by omega⟩
                          exact fun act W ha hw => ⟨i + 1, by omega, by omega, sv83, (m + 1), (os ++ [(rdP xs (i : Int)).2]), (c + ps), t, W, (by exact hok85), (by omega), (by rw [rdP_take (by omega), runE_snoc, hrun]; simp only [stepE]; rw [if_pos hg]; rcases (show (rdP xs (i : Int)).1 = 0 ∨ (rdP xs (i : Int)).1 = 1 ∨ (rdP xs (i : Int)).1 = 2 ∨ (rdP xs (i : Int)).1 = 3 by omega) with e1 | e1 | e1 | e1 <;> first | (exfalso; omega) | simp [e1, priceOf]), ha.weak (sub_get ⟨rfl, rfl, rfl, rfl, rfl, rfl, rfl, rfl, trivial⟩), hw.toHq.lookSub (List.Sublist.cons _ (List.Sublist.cons _ (sub_app (sv83.mem 5 ((os ++ [(rdP xs (i : Int)).2]).map (Value.int .u8))) (sub_skip gs84 (List.Sublist.refl _)))))⟩
                    · (try simp at cq80)
                      refine g_seq ?_
                      refine g_region ?_
                      refine s_y (y_eql rfl rfl) rfl rfl rfl rfl ?_
                      refine s_y (y_assign rfl) rfl rfl rfl rfl ?_
                      refine s_nil ?_
                      refine g_then ?_
                      refine g_cond rfl (fun cq89 => ?_) (fun cq89 => ?_)
                      · (try simp at cq89)
                        refine g_region ?_
                        refine s_y (y_move rfl) rfl rfl rfl rfl ?_
                        refine s_y (y_fld rfl (fun w => fld_23_1 _ _ w)) rfl rfl rfl rfl ?_
                        refine s_y (y_ldM (List.mem_cons_of_mem _ (mem_ar (sv.mem 5 (os.map (Value.int .u8))) (List.mem_cons_self ..))) rfl agg_3 rfl) rfl rfl rfl rfl ?_
                        refine s_y (y_add rfl rfl (by omega) (by omega)) rfl rfl rfl rfl ?_
                        refine s_y (y_assign rfl) rfl rfl rfl rfl ?_
                        refine s_nil ?_
                        refine g_inb ?_
                        refine g_then ?_
                        refine g_seq ?_
                        refine g_region ?_
                        refine s_y (y_fld rfl (fun w => fld_104_0 _ _ w)) rfl rfl rfl rfl ?_
                        refine s_y (y_ld1 0 rfl rfl agg_3 rfl) rfl rfl rfl rfl ?_
                        refine s_y (y_lss rfl rfl) rfl rfl rfl rfl ?_
                        refine s_nil ?_
                        refine g_then ?_
                        refine g_cond rfl (fun cq90 => ?_) (fun cq90 => ?_)
                        · (try simp at cq90)
                          refine g_region ?_
                          refine s_y (y_move rfl) rfl rfl rfl rfl ?_
                          refine s_y (y_add rfl rfl (by omega) (by omega)) rfl rfl rfl rfl ?_
                          refine s_y (y_assign rfl) rfl rfl rfl rfl ?_
                          refine s_nil ?_
                          refine g_inb ?_
                          refine g_then ?_
                          refine g_region ?_
                          refine s_y (y_add rfl rfl (by omega) (by omega)) rfl rfl rfl rfl ?_
                          refine s_y (y_move rfl) rfl rfl rfl rfl ?_
                          refine s_nil ?_
                          refine g_then ?_
                          have hg : okE a t (rdP xs (i : Int)) := by unfold okE; refine ⟨by omega, by omega, by omega, by omega, by omega, by omega, by omega⟩
                          exact fun act W ha hw => ⟨i + 1, by omega, by omega, sv, m, os, (c + po), (t + 1), W, (by exact hokz), (by omega), (by rw [rdP_take (by omega), runE_snoc, hrun]; simp only [stepE]; rw [if_pos hg]; rcases (show (rdP xs (i : Int)).1 = 0 ∨ (rdP xs (i : Int)).1 = 1 ∨ (rdP xs (i : Int)).1 = 2 ∨ (rdP xs (i : Int)).1 = 3 by omega) with e1 | e1 | e1 | e1 <;> first | (exfalso; omega) | simp [e1, priceOf]), ha.weak (sub_get ⟨rfl, rfl, rfl, rfl, rfl, rfl, rfl, rfl, trivial⟩), hw.toHq.lookSub (List.Sublist.cons _ (List.Sublist.refl _))⟩
                        · (try simp at cq90)
                          refine g_skip ?_
                          refine g_inb ?_
                          refine g_then ?_
                          refine g_region ?_
                          refine s_y (y_add rfl rfl (by omega) (by omega)) rfl rfl rfl rfl ?_
                          refine s_y (y_move rfl) rfl rfl rfl rfl ?_
                          refine s_nil ?_
                          refine g_then ?_
                          have hg : okE a t (rdP xs (i : Int)) := by unfold okE; refine ⟨by omega, by omega, by omega, by omega, by omega, by omega, by omega⟩
                          exact fun act W ha hw => ⟨i + 1, by omega, by omega, sv, m, os, (c + po), t, W, (by exact hokz), (by omega), (by rw [rdP_take (by omega), runE_snoc, hrun]; simp only [stepE]; rw [if_pos hg]; rcases (show (rdP xs (i : Int)).1 = 0 ∨ (rdP xs (i : Int)).1 = 1 ∨ (rdP xs (i : Int)).1 = 2 ∨ (rdP xs (i : Int)).1 = 3 by omega) with e1 | e1 | e1 | e1 <;> first | (exfalso; omega) | simp [e1, priceOf]), ha.weak (sub_get ⟨rfl, rfl, rfl, rfl, rfl, rfl, rfl, rfl, trivial⟩), hw.toHq.lookSub (List.Sublist.cons _ (List.Sublist.refl _))⟩
                      · (try simp at cq89)
                        refine g_seq ?_
                        refine g_region ?_
                        refine s_y (y_eql rfl rfl) rfl rfl rfl rfl ?_
                        refine s_y (y_assign rfl) rfl rfl rfl rfl ?_
                        refine s_nil ?_
                        refine g_then ?_
                        refine g_cond rfl (fun cq91 => ?_) (fun cq91 => ?_)
                        · (try simp at cq91)
                          refine g_seq ?_
                          refine g_region ?_
                          refine s_y (y_move rfl) rfl rfl rfl rfl ?_
                          refine s_y (y_fld rfl (fun w => fld_104_1 _ _ w)) rfl rfl rfl rfl ?_
                          refine s_y (y_ld1 0 rfl rfl agg_3 rfl) rfl rfl rfl rfl ?_
                          refine s_y (y_conv rfl (by kernel_rfl) Try.underlying5 (u8_eq (by omega) (by omega))) rfl rfl rfl rfl ?_
                          refine s_tr (t_build (vs := [(0, .int .u8 ((rdP xs (i : Int)).2))]) (cells := [.int .u8 ((rdP xs (i : Int)).2)]) rfl rfl Try.underlying103 hi5.1 hi5.2.1 (by rw [hi5.2.2.1]; rfl) (by rw [hi5.2.2.1]; rfl) (by rw [hi5.2.2.1]; kernel_rfl)) rfl rfl rfl rfl (fun b92 hb92 => ?_)
                          refine s_tr (t_appendL (enc := (Value.int .u8)) (sv := sv) (xs := os) (n := m) (v := (rdP xs (i : Int)).2) [_, _] _ rfl rfl rfl hokz Try.underlying103 hi5.1 hi5.2.1 hi5.2.2.1 hi5.2.2.2 rfl (fun w h => h.toHq.cell (i := 0) rfl rfl) rfl (by omega) (by unfold maxLen; omega)) rfl rfl rfl rfl (fun y96 hy97 => ?_)
                          obtain ⟨sv93, gs94⟩ := y96
                          obtain ⟨hok95, hok95b, hok95c, hok95j, hok95e⟩ := hy97
                          refine s_y (y_assign rfl) rfl rfl rfl rfl ?_
                          refine s_nil ?_
                          refine g_then ?_
                          refine g_region ?_
                          refine s_y (y_move rfl) rfl rfl rfl rfl ?_
                          refine s_y (y_fld rfl (fun w => fld_23_0 _ _ w)) rfl rfl rfl rfl ?_
                          refine s_y (y_ldM (List.mem_cons_of_mem _ (List.mem_cons_of_mem _ (mem_ar (sv93.mem 5 ((os ++ [(rdP xs (i : Int)).2]).map (Value.int .u8))) (mem_ar gs94 (List.mem_cons_self ..))))) rfl agg_3 rfl) rfl rfl rfl rfl ?_
                          refine s_y (y_add rfl rfl (by omega) (by omega)) rfl rfl rfl rfl ?_
                          refine s_y (y_assign rfl) rfl rfl rfl rfl ?_
                          refine s_nil ?_
                          refine g_inb ?_
                          refine g_then ?_
                          refine g_seq ?_
                          refine g_region ?_
                          refine s_y (y_fld rfl (fun w => fld_104_0 _ _ w)) rfl rfl rfl rfl ?_
                          refine s_y (y_ld1 1 rfl rfl agg_3 rfl) rfl rfl rfl rfl ?_
                          refine s_y (y_lss rfl rfl) rfl rfl rfl rfl ?_
                          refine s_nil ?_
                          refine g_then ?_
                          refine g_cond rfl (fun cq98 => ?_) (fun cq98 => ?_)
                          · (try simp at cq98)
                            refine g_region ?_
                            refine s_y (y_move rfl) rfl rfl rfl rfl ?_
                            refine s_y (y_add rfl rfl (by omega) (by omega)) rfl rfl rfl rfl ?_
                            refine s_y (y_assign rfl) rfl rfl rfl rfl ?_
                            refine s_nil ?_
                            refine g_inb ?_
                            refine g_then ?_
                            refine g_region ?_
                            refine s_y (y_add rfl rfl (by omega) (by omega)) rfl rfl rfl rfl ?_
                            refine s_y (y_move rfl) rfl rfl rfl rfl ?_
                            refine s_nil ?_
                            refine g_then ?_
                            have hg : okE a t (rdP xs (i : Int)) := by unfold okE; refine ⟨by omega, by omega, by omega, by omega, by omega, by omega, by omega⟩
                            exact fun act W ha hw => ⟨i + 1, by omega, by omega, sv93, (m + 1), (os ++ [(rdP xs (i : Int)).2]), (c + pi), (t + 1), W, (by exact hok95), (by omega), (by rw [rdP_take (by omega), runE_snoc, hrun]; simp only [stepE]; rw [if_pos hg]; rcases (show (rdP xs (i : Int)).1 = 0 ∨ (rdP xs (i : Int)).1 = 1 ∨ (rdP xs (i : Int)).1 = 2 ∨ (rdP xs (i : Int)).1 = 3 by omega) with e1 | e1 | e1 | e1 <;> first | (exfalso; omega) | simp [e1, priceOf]), ha.weak (sub_get ⟨rfl, rfl, rfl, rfl, rfl, rfl, rfl, rfl, trivial⟩), hw.toHq.lookSub (List.Sublist.cons _ (List.Sublist.cons _ (sub_app (sv93.mem 5 ((os ++ [(rdP xs (i : Int)).2]).map (Value.int .u8))) (sub_skip gs94 (List.Sublist.refl _)))))⟩
                          · (try simp at cq98)
                            refine g_skip ?_
                            refine g_inb ?_
                            refine g_then ?_
                            refine g_region ?_
                            refine s_y (y_add rfl rfl (by omega) (by omega)) rfl rfl rfl rfl ?_
                            refine s_y (y_move rfl) rfl rfl rfl rfl ?_
                            refine s_nil ?_
                            refine g_then ?_
                            have hg : okE a t (rdP xs (i : Int)) := by unfold okE; refine ⟨by omega, by omega, by omega, by omega, by omega, by omega, by omega⟩
                            exact fun act W ha hw => ⟨i + 1, by omega, by omega, sv93, (m + 1), (os ++ [(rdP xs (i : Int)).2]), (c + pi), t, W, (by exact hok95), (by omega), (by rw [rdP_take (by omega), runE_snoc, hrun]; simp only [stepE]; rw [if_pos hg]; rcases (show (rdP xs (i : Int)).1 = 0 ∨ (rdP xs (i : Int)).1 = 1 ∨ (rdP xs (i : Int)).1 = 2 ∨ (rdP xs (i : Int)).1 = 3 by omega) with e1 | e1 | e1 | e1 <;> first | (exfalso; omega) | simp [e1, priceOf]), ha.weak (sub_get ⟨rfl, rfl, rfl, rfl, rfl, rfl, rfl, rfl, trivial⟩), hw.toHq.lookSub (List.Sublist.cons _ (List.Sublist.cons _ (sub_app (sv93.mem 5 ((os ++ [(rdP xs (i : Int)).2]).map (Value.int .u8))) (sub_skip gs94 (List.Sublist.refl _)))))⟩
                        · (try simp at cq91)
                          refine g_skip ?_
                          refine g_inb ?_
                          refine g_then ?_
                          refine g_seq ?_
                          refine g_region ?_
                          refine s_y (y_fld rfl (fun w => fld_104_0 _ _ w)) rfl rfl rfl rfl ?_
                          refine s_y (y_ld1 0 rfl rfl agg_3 rfl) rfl rfl rfl rfl ?_
                          refine s_y (y_lss rfl rfl) rfl rfl rfl rfl ?_
                          refine s_nil ?_
                          refine g_then ?_
                          refine g_cond rfl (fun cq99 => ?_) (fun cq99 => ?_)
                          · (try simp at cq99)
                            refine g_region ?_
                            refine s_y (y_move rfl) rfl rfl rfl rfl ?_
                            refine s_y (y_add rfl rfl (by omega) (by omega)) rfl rfl rfl rfl ?_
                            refine s_y (y_assign rfl) rfl rfl rfl rfl ?_
                            refine s_nil ?_
                            refine g_inb ?_
                            refine g_then ?_
                            refine g_region ?_
                            refine s_y (y_add rfl rfl (by omega) (by omega)) rfl rfl rfl rfl ?_
                            refine s_y (y_move rfl) rfl rfl rfl rfl ?_
                            refine s_nil ?_
                            refine g_then ?_
                            have hg : okE a t (rdP xs (i : Int)) := by unfold okE; refine ⟨by omega, by omega, by omega, by omega, by omega, by omega, by omega⟩
                            exact fun act W ha hw => ⟨i + 1, by omega, by omega, sv, m, os, c, (t + 1), W, (by exact hokz), (by omega), (by rw [rdP_take (by omega), runE_snoc, hrun]; simp only [stepE]; rw [if_pos hg]; rcases (show (rdP xs (i : Int)).1 = 0 ∨ (rdP xs (i : Int)).1 = 1 ∨ (rdP xs (i : Int)).1 = 2 ∨ (rdP xs (i : Int)).1 = 3 by omega) with e1 | e1 | e1 | e1 <;> first | (exfalso; omega) | simp [e1, priceOf]), ha.weak (sub_get ⟨rfl, rfl, rfl, rfl, rfl, rfl, rfl, rfl, trivial⟩), hw.toHq.lookSub (List.Sublist.cons _ (List.Sublist.refl _))⟩
                          · (try simp at cq99)
                            refine g_skip ?_
                            refine g_inb ?_
                            refine g_then ?_
                            refine g_region ?_
                            refine s_y (y_add rfl rfl (by omega) (by omega)) rfl rfl rfl rfl ?_
                            refine s_y (y_move rfl) rfl rfl rfl rfl ?_
                            refine s_nil ?_
                            refine g_then ?_
                            have hg : okE a t (rdP xs (i : Int)) := by unfold okE; refine ⟨by omega, by omega, by omega, by omega, by omega, by omega, by omega⟩
                            exact fun act W ha hw => ⟨i + 1, by omega, by omega, sv, m, os, c, t, W, (by exact hokz), (by omega), (by rw [rdP_take (by omega), runE_snoc, hrun]; simp only [stepE]; rw [if_pos hg]; rcases (show (rdP xs (i : Int)).1 = 0 ∨ (rdP xs (i : Int)).1 = 1 ∨ (rdP xs (i : Int)).1 = 2 ∨ (rdP xs (i : Int)).1 = 3 by omega) with e1 | e1 | e1 | e1 <;> first | (exfalso; omega) | simp [e1, priceOf]), ha.weak (sub_get ⟨rfl, rfl, rfl, rfl, rfl, rfl, rfl, rfl, trivial⟩), hw.toHq.lookSub (List.Sublist.cons _ (List.Sublist.refl _))⟩
              · (try simp at cq70)
                refine s_no rfl rfl rfl ?_
                refine s_no rfl rfl rfl ?_
                refine s_no rfl rfl rfl ?_
                refine s_no rfl rfl rfl ?_
                refine s_y (y_pick_f rfl rfl) rfl rfl rfl rfl ?_
                refine s_y (y_pick_f rfl rfl) rfl rfl rfl rfl ?_
                refine s_nil ?_
                refine g_then ?_
                refine g_cond_f rfl ?_
                refine g_skip ?_
                refine g_then ?_
                refine g_seq ?_
                refine g_seq ?_
                refine g_region ?_
                refine s_y (y_fld rfl (fun w => fld_104_0 _ _ w)) rfl rfl rfl rfl ?_
                refine s_y (y_ld1 0 rfl rfl agg_3 rfl) rfl rfl rfl rfl ?_
                refine s_nil ?_
                refine g_then ?_
                refine g_block ?_
                refine g_seq ?_
                refine g_region ?_
                refine s_y (y_eql rfl rfl) rfl rfl rfl rfl ?_
                refine s_y (y_assign rfl) rfl rfl rfl rfl ?_
                refine s_nil ?_
                refine g_then ?_
                refine g_cond rfl (fun cq100 => ?_) (fun cq100 => ?_)
                · (try simp at cq100)
                  refine g_region ?_
                  refine s_y (y_move rfl) rfl rfl rfl rfl ?_
                  refine s_y (y_move rfl) rfl rfl rfl rfl ?_
                  refine s_y (y_move rfl) rfl rfl rfl rfl ?_
                  refine s_y (y_idxs rfl rfl Try.underlying9 (by omega) (by omega)) rfl rfl rfl rfl ?_
                  refine s_tr (t_build (vs := [(0, .int .u8 (bt a (t : Int)))]) (cells := [.int .u8 (bt a (t : Int))]) rfl rfl Try.underlying103 hi5.1 hi5.2.1 (by rw [hi5.2.2.1]; rfl) (by rw [hi5.2.2.1]; rfl) (by rw [hi5.2.2.1]; kernel_rfl)) rfl rfl rfl rfl (fun b101 hb101 => ?_)
                  refine s_tr (t_appendL (enc := (Value.int .u8)) (sv := sv) (xs := os) (n := m) (v := bt a (t : Int)) [_, _] _ rfl rfl rfl hokz Try.underlying103 hi5.1 hi5.2.1 hi5.2.2.1 hi5.2.2.2 rfl (fun w h => h.toHq.cell (i := 0) rfl rfl) rfl (by omega) (by unfold maxLen; omega)) rfl rfl rfl rfl (fun y105 hy106 => ?_)
                  obtain ⟨sv102, gs103⟩ := y105
                  obtain ⟨hok104, hok104b, hok104c, hok104j, hok104e⟩ := hy106
                  refine s_y (y_assign rfl) rfl rfl rfl rfl ?_
                  refine s_nil ?_
                  refine g_inb ?_
                  refine g_then ?_
                  refine g_seq ?_
                  refine g_region ?_
                  refine s_y (y_fld rfl (fun w => fld_104_0 _ _ w)) rfl rfl rfl rfl ?_
                  refine s_y (y_ld1 1 rfl rfl agg_3 rfl) rfl rfl rfl rfl ?_
                  refine s_y (y_lss rfl rfl) rfl rfl rfl rfl ?_
                  refine s_nil ?_
                  refine g_then ?_
                  refine g_cond rfl (fun cq107 => ?_) (fun cq107 => ?_)
                  · (try simp at cq107)
                    refine g_region ?_
                    refine s_y (y_move rfl) rfl rfl rfl rfl ?_
                    refine s_y (y_add rfl rfl (by omega) (by omega)) rfl rfl rfl rfl ?_
                    refine s_y (y_assign rfl) rfl rfl rfl rfl ?_
                    refine s_nil ?_
                    refine g_inb ?_
                    refine g_then ?_
                    refine g_region ?_
                    refine s_y (y_add rfl rfl (by omega) (by omega)) rfl rfl rfl rfl ?_
                    refine s_y (y_move rfl) rfl rfl rfl rfl ?_
                    refine s_nil ?_
                    refine g_then ?_
                    have hg : okE a t (rdP xs (i : Int)) := by unfold okE; refine ⟨by omega, by omega, by omega, by omega, by omega, by omega, by omega⟩
                    exact fun act W ha hw => ⟨i + 1, by omega, by omega, sv102, (m + 1), (os ++ [bt a (t : Int)]), c, (t + 1), W, (by exact hok104), (by omega), (by rw [rdP_take (by omega), runE_snoc, hrun]; simp only [stepE]; rw [if_pos hg]; rcases (show (rdP xs (i : Int)).1 = 0 ∨ (rdP xs (i : Int)).1 = 1 ∨ (rdP xs (i : Int)).1 = 2 ∨ (rdP xs (i : Int)).1 = 3 by omega) with e1 | e1 | e1 | e1 <;> first | (exfalso; omega) | simp [e1, priceOf]), ha.weak (sub_get ⟨rfl, rfl, rfl, rfl, rfl, rfl, rfl, rfl, trivial⟩), hw.toHq.lookSub (List.Sublist.cons _ (List.Sublist.cons _ (sub_app (sv102.mem 5 ((os ++ [bt a (t : Int)]).map (Value.int .u8))) (sub_skip gs103 (List.Sublist.refl _)))))⟩
                  · (try simp at cq107)
                    refine g_skip ?_
                    refine g_inb ?_
                    refine g_then ?_
                    refine g_region ?_
                    refine s_y (y_add rfl rfl (by omega) (by omega)) rfl rfl rfl rfl ?_
                    refine s_y (y_move rfl) rfl rfl rfl rfl ?_
                    refine s_nil ?_
                    refine g_then ?_
                    have hg : okE a t (rdP xs (i : Int)) := by unfold okE; refine ⟨by omega, by omega, by omega, by omega, by omega, by omega, by omega⟩
                    exact fun act W ha hw => ⟨i + 1, by omega, by omega, sv102, (m + 1), (os ++ [bt a (t : Int)]), c, t, W, (by exact hok104), (by omega), (by rw [rdP_take (by omega), runE_snoc, hrun]; simp only [stepE]; rw [if_pos hg]; rcases (show (rdP xs (i : Int)).1 = 0 ∨ (rdP xs (i : Int)).1 = 1 ∨ (rdP xs (i : Int)).1 = 2 ∨ (rdP xs (i : Int)).1 = 3 by omega) with e1 | e1 | e1 | e1 <;> first | (exfalso; omega) | simp [e1, priceOf]), ha.weak (sub_get ⟨rfl, rfl, rfl, rfl, rfl, rfl, rfl, rfl, trivial⟩), hw.toHq.lookSub (List.Sublist.cons _ (List.Sublist.cons _ (sub_app (sv102.mem 5 ((os ++ [bt a (t : Int)]).map (Value.int .u8))) (sub_skip gs103 (List.Sublist.refl _)))))⟩
                · (try simp at cq100)
                  refine g_seq ?_
                  refine g_region ?_
                  refine s_y (y_eql rfl rfl) rfl rfl rfl rfl ?_
                  refine s_y (y_assign rfl) rfl rfl rfl rfl ?_
                  refine s_nil ?_
                  refine g_then ?_
                  refine g_cond rfl (fun cq108 => ?_) (fun cq108 => ?_)
                  · (try simp at cq108)
                    refine g_seq ?_
                    refine g_seq ?_
                    refine g_draw 7 (by kernel_rfl) ?_
                    refine j_p (i := 0) rfl (y_move rfl) (by kernel_rfl) (by kernel_rfl) (by kernel_rfl) rfl rfl rfl rfl rfl (.inr (fun _ h => h)) ?_
                    refine j_p (i := 1) rfl (y_move rfl) (by kernel_rfl) (by kernel_rfl) (by kernel_rfl) rfl rfl rfl rfl rfl (.inr (fun _ h => h)) ?_
                    refine j_p (i := 2) rfl (y_idxs rfl rfl Try.underlying9 (by omega) (by omega)) (by kernel_rfl) (by kernel_rfl) (by kernel_rfl) rfl rfl rfl rfl rfl (.inr (fun _ h => h)) ?_
                    refine j_p (i := 3) rfl (y_convb rfl (by kernel_rfl) Try.underlying3) (by kernel_rfl) (by kernel_rfl) (by kernel_rfl) rfl rfl rfl rfl rfl (.inr (fun _ h => h)) ?_
                    refine j_p (i := 4) rfl (y_fld rfl (fun w => fld_104_1 _ _ w)) (by kernel_rfl) (by kernel_rfl) (by kernel_rfl) rfl rfl rfl rfl rfl (.inr (fun _ h => h)) ?_
                    refine j_l (i := 5) rfl (y_ld1 0 rfl rfl agg_3 rfl) (by kernel_rfl) (by kernel_rfl) (by kernel_rfl) (by kernel_rfl) rfl rfl rfl rfl rfl (.inr (fun _ h => h)) ?_
                    refine j_p (i := 6) rfl (y_eql rfl rfl) (by kernel_rfl) (by kernel_rfl) (by kernel_rfl) rfl rfl rfl rfl rfl (.inr (fun _ h => h)) ?_
                    refine j_nil (by kernel_rfl) ?_
                    refine g_then ?_
                    refine g_cond rfl (fun cq109 => ?_) (fun cq109 => ?_)
                    · (try simp at cq109)
                      refine g_seq ?_
                      refine g_region ?_
                      refine s_y (y_assign rfl) rfl rfl rfl rfl ?_
                      refine s_y (y_assign rfl) rfl rfl rfl rfl ?_
                      refine s_y (y_assign rfl) rfl rfl rfl rfl ?_
                      refine s_nil ?_
                      refine g_then ?_
                      refine g_ret ?_
                      refine g_thenr ?_
                      refine g_inbr ?_
                      refine g_thenr ?_
                      refine g_inbr ?_
                      refine g_thenr ?_
                      refine g_thenr ?_
                      refine g_inbr ?_
                      refine g_thenr ?_
                      have hnone : runE a pi po ps st0 xs = none := runE_cut (n := i + 1) (by
                        rw [rdP_take (by omega), runE_snoc, hrun]; exact if_neg (by
                          rintro ⟨g1, g2, g3, g4, g5, g6, g7⟩
                          omega))
                      rw [hnone]
                      exact g_end trivial (fun a w ha hq_ => res3 ha rfl rfl rfl rfl  w) (fun w h => ⟨rfl, h.below⟩)
                    · (try simp at cq109)
                      refine g_skip ?_
                      refine g_then ?_
                      refine g_seq ?_
                      refine g_region ?_
                      refine s_y (y_move rfl) rfl rfl rfl rfl ?_
                      refine s_y (y_fld rfl (fun w => fld_104_1 _ _ w)) rfl rfl rfl rfl ?_
                      refine s_y (y_ld1 0 rfl rfl agg_3 rfl) rfl rfl rfl rfl ?_
                      refine s_y (y_conv rfl (by kernel_rfl) Try.underlying5 (u8_eq (by omega) (by omega))) rfl rfl rfl rfl ?_
                      refine s_tr (t_build (vs := [(0, .int .u8 ((rdP xs (i : Int)).2))]) (cells := [.int .u8 ((rdP xs (i : Int)).2)]) rfl rfl Try.underlying103 hi5.1 hi5.2.1 (by rw [hi5.2.2.1]; rfl) (by rw [hi5.2.2.1]; rfl) (by rw [hi5.2.2.1]; kernel_rfl)) rfl rfl rfl rfl (fun b110 hb110 => ?_)
                      refine s_tr (t_appendL (enc := (Value.int .u8)) (sv := sv) (xs := os) (n := m) (v := (rdP xs (i : Int)).2) [_, _] _ rfl rfl rfl hokz Try.underlying103 hi5.1 hi5.2.1 hi5.2.2.1 hi5.2.2.2 rfl (fun w h => h.toHq.cell (i := 0) rfl rfl) rfl (by omega) (by unfold maxLen; omega)) rfl rfl rfl rfl (fun y114 hy115 => ?_)
                      obtain ⟨sv111, gs112⟩ := y114
                      obtain ⟨hok113, hok113b, hok113c, hok113j, hok113e⟩ := hy115
                      refine s_y (y_assign rfl) rfl rfl rfl rfl ?_
                      refine s_nil ?_
                      refine g_then ?_
                      refine g_region ?_
                      refine s_y (y_move rfl) rfl rfl rfl rfl ?_
                      refine s_y (y_fld rfl (fun w => fld_23_2 _ _ w)) rfl rfl rfl rfl ?_
                      refine s_y (y_ldM (List.mem_cons_of_mem _ (List.mem_cons_of_mem _ (mem_ar (sv111.mem 5 ((os ++ [(rdP xs (i : Int)).2]).map (Value.int .u8))) (mem_ar gs112 (List.mem_cons_self ..))))) rfl agg_3 rfl) rfl rfl rfl rfl ?_
                      refine s_y (y_add rfl rfl (by omega) (by omega)) rfl rfl rfl rfl ?_
                      refine s_y (y_assign rfl) rfl rfl rfl rfl ?_
                      refine s_nil ?_
                      refine g_inb ?_
                      refine g_then ?_
                      refine g_seq ?_
                      refine g_region ?_
                      refine s_y (y_fld rfl (fun w => fld_104_0 _ _ w)) rfl rfl rfl rfl ?_
                      refine s_y (y_ld1 1 rfl rfl agg_3 rfl) rfl rfl rfl rfl ?_
                      refine s_y (y_lss rfl rfl) rfl rfl rfl rfl ?_
                      refine s_nil ?_
                      refine g_then ?_
                      refine g_cond rfl (fun cq116 => ?_) (fun cq116 => ?_)
                      · (try simp at cq116)
                        refine g_region ?_
                        refine s_y (y_move rfl) rfl rfl rfl rfl ?_
                        refine s_y (y_add rfl rfl (by omega) (by omega)) rfl rfl rfl rfl ?_
                        refine s_y (y_assign rfl) rfl rfl rfl rfl ?_
                        refine s_nil ?_
                        refine g_inb ?_
                        refine g_then ?_
                        refine g_region ?_
                        refine s_y (y_add rfl rfl (by omega) (by omega)) rfl rfl rfl rfl ?_
                        refine s_y (y_move rfl) rfl rfl rfl rfl ?_
                        refine s_nil ?_
                        refine g_then ?_
                        have hg : okE a t (rdP xs (i : Int)) := by unfold okE; refine ⟨by omega, by omega, by omega, by omega, by omega, by omega, by omega⟩
                        exact fun act W ha hw => ⟨i + 1, by omega, by omega, sv111, (m + 1), (os ++ [(rdP xs (i : Int)).2]), (c + ps), (t + 1), W, (by exact hok113), (by omega), (by rw [rdP_take (by omega), runE_snoc, hrun]; simp only [stepE]; rw [if_pos hg]; rcases (show (rdP xs (i : Int)).1 = 0 ∨ (rdP xs (i : Int)).1 = 1 ∨ (rdP xs (i : Int)).1 = 2 ∨ (rdP xs (i : Int)).1 = 3 by omega) with e1 | e1 | e1 | e1 <;> first | (exfalso; omega) | simp [e1, priceOf]), ha.weak (sub_get ⟨rfl, rfl, rfl, rfl, rfl, rfl, rfl, rfl, trivial⟩), hw.toHq.lookSub (List.Sublist.cons _ (List.Sublist.cons _ (sub_app (sv111.mem 5 ((os ++ [(rdP xs (i : Int)).2]).map (Value.int .u8))) (sub_skip gs112 (List.Sublist.refl _)))))⟩
                      · (try simp at cq116)
                        refine g_skip ?_
                        refine g_inb ?_
                        refine g_then ?_
                        refine g_region ?_
                        refine s_y (y_add rfl rfl (by omega) (by omega)) rfl rfl rfl rfl ?_
                        refine s_y (y_move rfl) rfl rfl rfl rfl ?_
                        refine s_nil ?_
                        refine g_then ?_
                        have hg : okE a t (rdP xs (i : Int)) := by unfold okE; refine ⟨by omega, by omega, by omega, by omega, by omega, by omega, by omega⟩
                        exact fun act W ha hw => ⟨i + 1, by omega, by omega, sv111, (m + 1), (os ++ [(rdP xs (i : Int)).2]), (c + ps), t, W, (by exact hok113), (by omega), (by rw [rdP_take (by omega), runE_snoc, hrun]; simp only [stepE]; rw [if_pos hg]; rcases (show (rdP xs (i : Int)).1 = 0 ∨ (rdP xs (i : Int)).1 = 1 ∨ (rdP xs (i : Int)).1 = 2 ∨ (rdP xs (i : Int)).1 = 3 by omega) with e1 | e1 | e1 | e1 <;> first | (exfalso; omega) | simp [e1, priceOf]), ha.weak (sub_get ⟨rfl, rfl, rfl, rfl, rfl, rfl, rfl, rfl, trivial⟩), hw.toHq.lookSub (List.Sublist.cons _ (List.Sublist.cons _ (sub_app (sv111.mem 5 ((os ++ [(rdP xs (i : Int)).2]).map (Value.int .u8))) (sub_skip gs112 (List.Sublist.refl _)))))⟩
                  · (try simp at cq108)
                    refine g_seq ?_
                    refine g_region ?_
                    refine s_y (y_eql rfl rfl) rfl rfl rfl rfl ?_
                    refine s_y (y_assign rfl) rfl rfl rfl rfl ?_
                    refine s_nil ?_
                    refine g_then ?_
                    refine g_cond rfl (fun cq117 => ?_) (fun cq117 => ?_)
                    · (try simp at cq117)
                      refine g_region ?_
                      refine s_y (y_move rfl) rfl rfl rfl rfl ?_
                      refine s_y (y_fld rfl (fun w => fld_23_1 _ _ w)) rfl rfl rfl rfl ?_
                      refine s_y (y_ldM (List.mem_cons_of_mem _ (mem_ar (sv.mem 5 (os.map (Value.int .u8))) (List.mem_cons_self ..))) rfl agg_3 rfl) rfl rfl rfl rfl ?_
                      refine s_y (y_add rfl rfl (by omega) (by omega)) rfl rfl rfl rfl ?_
                      refine s_y (y_assign rfl) rfl rfl rfl rfl ?_
                      refine s_nil ?_
                      refine g_inb ?_
                      refine g_then ?_
                      refine g_seq ?_
                      refine g_region ?_
                      refine s_y (y_fld rfl (fun w => fld_104_0 _ _ w)) rfl rfl rfl rfl ?_
                      refine s_y (y_ld1 0 rfl rfl agg_3 rfl) rfl rfl rfl rfl ?_
                      refine s_y (y_lss rfl rfl) rfl rfl rfl rfl ?_
                      refine s_nil ?_
                      refine g_then ?_
                      refine g_cond rfl (fun cq118 => ?_) (fun cq118 => ?_)
                      · (try simp at cq118)
                        refine g_region ?_
                        refine s_y (y_move rfl) rfl rfl rfl rfl ?_
                        refine s_y (y_add rfl rfl (by omega) (by omega)) rfl rfl rfl rfl ?_
                        refine s_y (y_assign rfl) rfl rfl rfl rfl ?_
                        refine s_nil ?_
                        refine g_inb ?_
                        refine g_then ?_
                        refine g_region ?_
                        refine s_y (y_add rfl rfl (by omega) (by omega)) rfl rfl rfl rfl ?_
                        refine s_y (y_move rfl) rfl rfl rfl rfl ?_
                        refine s_nil ?_
                        refine g_then ?_
                        have hg : okE a t (rdP xs (i : Int)) := by unfold okE; refine ⟨by omega, by omega, by omega, by omega, by omega, by omega, by omega⟩
                        exact fun act W ha hw => ⟨i + 1, by omega, by omega, sv, m, os, (c + po), (t + 1), W, (by exact hokz), (by omega), (by rw [rdP_take (by omega), runE_snoc, hrun]; simp only [stepE]; rw [if_pos hg]; rcases (show (rdP xs (i : Int)).1 = 0 ∨ (rdP xs (i : Int)).1 = 1 ∨ (rdP xs (i : Int)).1 = 2 ∨ (rdP xs (i : Int)).1 = 3 by omega) with e1 | e1 | e1 | e1 <;> first | (exfalso; omega) | simp [e1, priceOf]), ha.weak (sub_get ⟨rfl, rfl, rfl, rfl, rfl, rfl, rfl, rfl, trivial⟩), hw.toHq.lookSub (List.Sublist.cons _ (List.Sublist.refl _))⟩
                      · (try simp at cq118)
                        refine g_skip ?_
                        refine g_inb ?_
                        refine g_then ?_
                        refine g_region ?_
                        refine s_y (y_add rfl rfl (by omega) (by omega)) rfl rfl rfl rfl ?_
                        refine s_y (y_move rfl) rfl rfl rfl rfl ?_
                        refine s_nil ?_
                        refine g_then ?_
                        have hg : okE a t (rdP xs (i : Int)) := by unfold okE; refine ⟨by omega, by omega, by omega, by omega, by omega, by omega, by omega⟩
                        exact fun act W ha hw => ⟨i + 1, by omega, by omega, sv, m, os, (c + po), t, W, (by exact hokz), (by omega), (by rw [rdP_take (by omega), runE_snoc, hrun]; simp only [stepE]; rw [if_pos hg]; rcases (show (rdP xs (i : Int)).1 = 0 ∨ (rdP xs (i : Int)).1 = 1 ∨ (rdP xs (i : Int)).1 = 2 ∨ (rdP xs (i : Int)).1 = 3 by omega) with e1 | e1 | e1 | e1 <;> first | (exfalso; omega) | simp [e1, priceOf]), ha.weak (sub_get ⟨rfl, rfl, rfl, rfl, rfl, rfl, rfl, rfl, trivial⟩), hw.toHq.lookSub (List.Sublist.cons _ (List.Sublist.refl _))⟩
                    · (try simp at cq117)
                      refine g_seq ?_
                      refine g_region ?_
                      refine s_y (y_eql rfl rfl) rfl rfl rfl rfl ?_
                      refine s_y (y_assign rfl) rfl rfl rfl rfl ?_
                      refine s_nil ?_
                      refine g_then ?_
                      refine g_cond rfl (fun cq119 => ?_) (fun cq119 => ?_)
                      · (try simp at cq119)
                        refine g_seq ?_
                        refine g_region ?_
                        refine s_y (y_move rfl) rfl rfl rfl rfl ?_
                        refine s_y (y_fld rfl (fun w => fld_104_1 _ _ w)) rfl rfl rfl rfl ?_
                        refine s_y (y_ld1 0 rfl rfl agg_3 rfl) rfl rfl rfl rfl ?_
                        refine s_y (y_conv rfl (by kernel_rfl) Try.underlying5 (u8_eq (by omega) (by omega))) rfl rfl rfl rfl ?_
                        refine s_tr (t_build (vs := [(0, .int .u8 ((rdP xs (i : Int)).2))]) (cells := [.int .u8 ((rdP xs (i : Int)).2)]) rfl rfl Try.underlying103 hi5.1 hi5.2.1 (by rw [hi5.2.2.1]; rfl) (by rw [hi5.2.2.1]; rfl) (by rw [hi5.2.2.1]; kernel_rfl)) rfl rfl rfl rfl (fun b120 hb120 => ?_)
                        refine s_tr (t_appendL (enc := (Value.int .u8)) (sv := sv) (xs := os) (n := m) (v := (rdP xs (i : Int)).2) [_, _] _ rfl rfl rfl hokz Try.underlying103 hi5.1 hi5.2.1 hi5.2.2.1 hi5.2.2.2 rfl (fun w h => h.toHq.cell (i := 0) rfl rfl) rfl (by omega) (by unfold maxLen; omega)) rfl rfl rfl rfl (fun y124 hy125 => ?_)
                        obtain ⟨sv121, gs122⟩ := y124
                        obtain ⟨hok123, hok123b, hok123c, hok123j, hok123e⟩ := hy125
                        refine s_y (y_assign rfl) rfl rfl rfl rfl ?_
                        refine s_nil ?_
                        refine g_then ?_
                        refine g_region ?_
                        refine s_y (y_move rfl) rfl rfl rfl rfl ?_
                        refine s_y (y_fld rfl (fun w => fld_23_0 _ _ w)) rfl rfl rfl rfl ?_
                        refine s_y (y_ldM (List.mem_cons_of_mem _ (List.mem_cons_of_mem _ (mem_ar (sv121.mem 5 ((os ++ [(rdP xs (i : Int)).2]).map (Value.int .u8))) (mem_ar gs122 (List.mem_cons_self ..))))) rfl agg_3 rfl) rfl rfl rfl rfl ?_
                        refine s_y (y_add rfl rfl (by omega) (by omega)) rfl rfl rfl rfl ?_
                        refine s_y (y_assign rfl) rfl rfl rfl rfl ?_
                        refine s_nil ?_
                        refine g_inb ?_
                        refine g_then ?_
                        refine g_seq ?_
                        refine g_region ?_
                        refine s_y (y_fld rfl (fun w => fld_104_0 _ _ w)) rfl rfl rfl rfl ?_
                        refine s_y (y_ld1 1 rfl rfl agg_3 rfl) rfl rfl rfl rfl ?_
                        refine s_y (y_lss rfl rfl) rfl rfl rfl rfl ?_
                        refine s_nil ?_
                        refine g_then ?_
                        refine g_cond rfl (fun cq126 => ?_) (fun cq126 => ?_)
                        · (try simp at cq126)
                          refine g_region ?_
                          refine s_y (y_move rfl) rfl rfl rfl rfl ?_
                          refine s_y (y_add rfl rfl (by omega) (by omega)) rfl rfl rfl rfl ?_
                          refine s_y (y_assign rfl) rfl rfl rfl rfl ?_
                          refine s_nil ?_
                          refine g_inb ?_
                          refine g_then ?_
                          refine g_region ?_
                          refine s_y (y_add rfl rfl (by omega) (by omega)) rfl rfl rfl rfl ?_
                          refine s_y (y_move rfl) rfl rfl rfl rfl ?_
                          refine s_nil ?_
                          refine g_then ?_
                          have hg : okE a t (rdP xs (i : Int)) := by unfold okE; refine ⟨by omega, by omega, by omega, by omega, by omega, by omega, by omega⟩
                          exact fun act W ha hw => ⟨i + 1, by omega, by omega, sv121, (m + 1), (os ++ [(rdP xs (i : Int)).2]), (c + pi), (t + 1), W, (by exact hok123), (by omega), (by rw [rdP_take (by omega), runE_snoc, hrun]; simp only [stepE]; rw [if_pos hg]; rcases (show (rdP xs (i : Int)).1 = 0 ∨ (rdP xs (i : Int)).1 = 1 ∨ (rdP xs (i : Int)).1 = 2 ∨ (rdP xs (i : Int)).1 = 3 by omega) with e1 | e1 | e1 | e1 <;> first | (exfalso; omega) | simp [e1, priceOf]), ha.weak (sub_get ⟨rfl, rfl, rfl, rfl, rfl, rfl, rfl, rfl, trivial⟩), hw.toHq.lookSub (List.Sublist.cons _ (List.Sublist.cons _ (sub_app (sv121.mem 5 ((os ++ [(rdP xs (i : Int)).2]).map (Value.int .u8))) (sub_skip gs122 (List.Sublist.refl _)))))⟩
                        · (try simp at cq126)
                          refine g_skip ?_
                          refine g_inb ?_
                          refine g_then ?_
                          refine g_region ?_
                          refine s_y (y_add rfl rfl (by omega) (by omega)) rfl rfl rfl rfl ?_
                          refine s_y (y_move rfl) rfl rfl rfl rfl ?_
                          refine s_nil ?_
                          refine g_then ?_
                          have hg : okE a t (rdP xs (i : Int)) := by unfold okE; refine ⟨by omega, by omega, by omega, by omega, by omega, by omega, by omega⟩
                          exact fun act W ha hw => ⟨i + 1, by omega, by omega, sv121, (m + 1), (os ++ [(rdP xs (i : Int)).2]), (c + pi), t, W, (by exact hok123), (by omega), (by rw [rdP_take (by omega), runE_snoc, hrun]; simp only [stepE]; rw [if_pos hg]; rcases (show (rdP xs (i : Int)).1 = 0 ∨ (rdP xs (i : Int)).1 = 1 ∨ (rdP xs (i : Int)).1 = 2 ∨ (rdP xs (i : Int)).1 = 3 by omega) with e1 | e1 | e1 | e1 <;> first | (exfalso; omega) | simp [e1, priceOf]), ha.weak (sub_get ⟨rfl, rfl, rfl, rfl, rfl, rfl, rfl, rfl, trivial⟩), hw.toHq.lookSub (List.Sublist.cons _ (List.Sublist.cons _ (sub_app (sv121.mem 5 ((os ++ [(rdP xs (i : Int)).2]).map (Value.int .u8))) (sub_skip gs122 (List.Sublist.refl _)))))⟩
                      · (try simp at cq119)
                        refine g_skip ?_
                        refine g_inb ?_
                        refine g_then ?_
                        refine g_seq ?_
                        refine g_region ?_
                        refine s_y (y_fld rfl (fun w => fld_104_0 _ _ w)) rfl rfl rfl rfl ?_
                        refine s_y (y_ld1 0 rfl rfl agg_3 rfl) rfl rfl rfl rfl ?_
                        refine s_y (y_lss rfl rfl) rfl rfl rfl rfl ?_
                        refine s_nil ?_
                        refine g_then ?_
                        refine g_cond rfl (fun cq127 => ?_) (fun cq127 => ?_)
                        · (try simp at cq127)
                          refine g_region ?_
                          refine s_y (y_move rfl) rfl rfl rfl rfl ?_
                          refine s_y (y_add rfl rfl (by omega) (by omega)) rfl rfl rfl rfl ?_
                          refine s_y (y_assign rfl) rfl rfl rfl rfl ?_
                          refine s_nil ?_
                          refine g_inb ?_
                          refine g_then ?_
                          refine g_region ?_
                          refine s_y (y_add rfl rfl (by omega) (by omega)) rfl rfl rfl rfl ?_
                          refine s_y (y_move rfl) rfl rfl rfl rfl ?_
                          refine s_nil ?_
                          refine g_then ?_
                          have hg : okE a t (rdP xs (i : Int)) := by unfold okE; refine ⟨by omega, by omega, by omega, by omega, by omega, by omega, by omega⟩
                          exact fun act W ha hw => ⟨i + 1, by omega, by omega, sv, m, os, c, (t + 1), W, (by exact hokz), (by omega), (by rw [rdP_take (by omega), runE_snoc, hrun]; simp only [stepE]; rw [if_pos hg]; rcases (show (rdP xs (i : Int)).1 = 0 ∨ (rdP xs (i : Int)).1 = 1 ∨ (rdP xs (i : Int)).1 = 2 ∨ (rdP xs (i : Int)).1 = 3 by omega) with e1 | e1 | e1 | e1 <;> first | (exfalso; omega) | simp [e1, priceOf]), ha.weak (sub_get ⟨rfl, rfl, rfl, rfl, rfl, rfl, rfl, rfl, trivial⟩), hw.toHq.lookSub (List.Sublist.cons _ (List.Sublist.refl _))⟩
                        · (try simp at cq127)
                          refine g_skip ?_
                          refine g_inb ?_
                          refine g_then ?_
                          refine g_region ?_
                          refine s_y (y_add rfl rfl (by omega) (by omega)) rfl rfl rfl rfl ?_
                          refine s_y (y_move rfl) rfl rfl rfl rfl ?_
                          refine s_nil ?_
                          refine g_then ?_
                          have hg : okE a t (rdP xs (i : Int)) := by unfold okE; refine ⟨by omega, by omega, by omega, by omega, by omega, by omega, by omega⟩
                          exact fun act W ha hw => ⟨i + 1, by omega, by omega, sv, m, os, c, t, W, (by exact hokz), (by omega), (by rw [rdP_take (by omega), runE_snoc, hrun]; simp only [stepE]; rw [if_pos hg]; rcases (show (rdP xs (i : Int)).1 = 0 ∨ (rdP xs (i : Int)).1 = 1 ∨ (rdP xs (i : Int)).1 = 2 ∨ (rdP xs (i : Int)).1 = 3 by omega) with e1 | e1 | e1 | e1 <;> first | (exfalso; omega) | simp [e1, priceOf]), ha.weak (sub_get ⟨rfl, rfl, rfl, rfl, rfl, rfl, rfl, rfl, trivial⟩), hw.toHq.lookSub (List.Sublist.cons _ (List.Sublist.refl _))⟩
  · (try simp at cq4)
    refine g_exit ?_
    refine g_thenx ?_
    refine g_thenx ?_
    refine g_inbx ?_
    refine g_then ?_
    refine g_seq ?_
    refine g_region ?_
    refine s_y (y_move rfl) rfl rfl rfl rfl ?_
    refine s_y (y_convs (ns := os) rfl Try.underlying103 Try.underlying5 Try.underlying9 hokz (fun w h p hp => h.at_ p (mem_al (sv.mem 5 (os.map (Value.int .u8))) hp))) rfl rfl rfl rfl ?_
    refine s_y (y_move rfl) rfl rfl rfl rfl ?_
    refine s_y (y_move rfl) rfl rfl rfl rfl ?_
    refine s_y (y_move rfl) rfl rfl rfl rfl ?_
    refine s_y (y_lens rfl Try.underlying9) rfl rfl rfl rfl ?_
    refine s_y (y_eql rfl rfl) rfl rfl rfl rfl ?_
    refine s_y (y_assign rfl) rfl rfl rfl rfl ?_
    refine s_y (y_assign rfl) rfl rfl rfl rfl ?_
    refine s_y (y_assign rfl) rfl rfl rfl rfl ?_
    refine s_nil ?_
    refine g_then ?_
    refine g_ret ?_
    obtain rfl : i = xs.length := by omega
    rw [List.take_length] at hrun
    rw [hrun]
    exact g_end trivial (fun a w ha hq_ => res3 ha rfl rfl rfl rfl  w) (fun w h => ⟨rfl, h.below⟩)

end Go.Proofs.Ytnnpdgegejklpaa
