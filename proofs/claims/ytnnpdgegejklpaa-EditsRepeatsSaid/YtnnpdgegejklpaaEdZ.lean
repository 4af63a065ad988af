/- edits: the law EditsRepeats. -/
import Derived.Test.YtnnpdgegejklpaaEdY
namespace Go.Proofs.Ytnnpdgegejklpaa
open Go.RowKit Go.Sx Go.WideMaps
set_option linter.unusedVariables false
set_option linter.unusedSimpArgs false
set_option maxRecDepth 100000
set_option maxHeartbeats 4000000

private theorem ent_51 : Enters Try.prog 51 := enters_of Try.func51 (by kernel_rfl) rfl
private theorem ent_50 : Enters Try.prog 50 := enters_of Try.func50 (by kernel_rfl) rfl
private theorem ent_53 : Enters Try.prog 53 := enters_of Try.func53 (by kernel_rfl) rfl
private theorem ent_52 : Enters Try.prog 52 := enters_of Try.func52 (by kernel_rfl) rfl
private theorem ent_57 : Enters Try.prog 57 := enters_of Try.func57 (by kernel_rfl) rfl
private theorem ent_58 : Enters Try.prog 58 := enters_of Try.func58 (by kernel_rfl) rfl
private theorem ent_33 : Enters Try.prog 33 := enters_of Try.func33 (by kernel_rfl) rfl
private theorem ent_59 : Enters Try.prog 59 := enters_of Try.func59 (by kernel_rfl) rfl
private theorem ent_60 : Enters Try.prog 60 := enters_of Try.func60 (by kernel_rfl) rfl
private theorem sle_46 : Try.prog.underlying 46 = some (.slice (Try.prog.elem 46)) := by kernel_rfl
private theorem size_3 : (Try.prog.info? 3).map (·.size) = some 1 := by kernel_rfl
private theorem agg_3 : isAggB Try.prog 3 = some false := by kernel_rfl
private theorem ent_22 : Enters Try.prog 22 := enters_of Try.func22 (by kernel_rfl) rfl

theorem Rev_own' {w0 w1 w : World} {m : List (Nat × Obj)} {b cap : Nat} {zs : List Int} {jk : List Value} (hw : Hp w0 w1 ((b, .cells (zs.map (Value.int .i64) ++ jk).toArray 3 (0, 0)) :: m) w) (hl : zs.length ≤ 1000) :
    Calls Try.prog 60 [.slice (some ⟨b, 0, none⟩) zs.length cap].toArray w fun e w' => e = .returned (.tuple #[]) ∧ Hp w0 w1 ((b, .cells (zs.reverse.map (Value.int .i64) ++ jk).toArray 3 (0, 0)) :: m) w' := by
  have h := Rev_own (w0 := w0) (w1 := w1) (w := w) (m := m) (b := b) (zs := zs) (jk := jk) (cap := cap) (by rw [List.append_nil]; exact hw) hl
  rwa [List.append_nil] at h
def ShI (a ys : List Int) (c : Int) (i : Nat) : Prop := ys.length = a.length ∧ ∀ k : Nat, k < a.length → rdI ys (k : Int) = if k < i then rdI a (k : Int) + c else rdI a (k : Int)
theorem ShI.start (a : List Int) (c : Int) : ShI a a c 0 := ⟨rfl, fun k _ => by rw [if_neg (by omega)]⟩
theorem ShI.step {a ys : List Int} {c : Int} {i : Nat} (h : ShI a ys c i) (hi : i < a.length) : ShI a (ys.set (i : Int).toNat (rdI ys (i : Int) + c)) c (i + 1) := by
  obtain ⟨h1, h2⟩ := h
  refine ⟨by simp [h1], fun k hk => ?_⟩
  rw [Go.Sx.rdI_set (xs := ys) (i := i) (j := k) (by omega)]
  by_cases c1 : i = k
  · subst c1; rw [if_pos rfl, h2 i hi, if_neg (by omega), if_pos (by omega)]
  · rw [if_neg c1, h2 k hk]
    by_cases c2 : k < i
    · rw [if_pos c2, if_pos (by omega)]
    · rw [if_neg c2, if_neg (by omega)]
theorem ShI.done {a ys : List Int} {c : Int} {i : Nat} (h : ShI a ys c i) (hi : i = a.length) : ys = a.map (· + c) := by
  obtain ⟨h1, h2⟩ := h
  refine rdI_ext (by simp [h1]) fun k hk => ?_
  rw [h2 k (by omega), if_pos (by omega), rdI_map (by omega) (by omega)]
theorem mel_rev {a : List Int} (h : melB a = true) : melB a.reverse = true := by
  obtain ⟨h1, h2⟩ := melB_true.1 h
  exact melB_true.2 ⟨by simpa using h1, fun x hx => h2 x (by simpa using hx)⟩
theorem mel_take' {xs : List Int} (h : melB (xs.take 16) = true) : melB xs = true := by
  have h1 := (melB_true.1 h).1
  rw [List.length_take] at h1
  rwa [List.take_of_length_le (by omega)] at h

theorem EditsRepeats_ok (w : World) (v v' : Value) (a b : List Int) (by_ : Int) (ha : RdV (Value.int .i64) w v a) (hb : RdV (Value.int .i64) w v' b) (hma : melB a = true) (hmb_ : melB b = true) :
    Calls Try.prog 16 [v, v', .int .i64 by_].toArray w fun e w' => e = .returned (.bool (true)) ∧ Below w.heap.size w w' := by
  obtain ⟨hal, hxa⟩ := melB_true.1 hma
  obtain ⟨hbl, hxb⟩ := melB_true.1 hmb_
  have ea : a.take 16 = a := List.take_of_length_le (by omega)
  have eb : b.take 16 = b := List.take_of_length_le (by omega)
  obtain ⟨s0, hs0, hs1, hs2⟩ : ∃ s0 : Int, IntKind.u64.wrap by_ % 200 = s0 ∧ 0 ≤ s0 ∧ s0 < 200 := ⟨_, rfl, Int.emod_nonneg _ (by decide), Int.emod_lt_of_pos _ (by decide)⟩
  refine enter (N := 186) Try.func16 rfl rfl rfl ?_
  refine g_seq ?_
  refine g_region ?_
  refine s_y (y_assign rfl) rfl rfl rfl rfl ?_
  refine s_nil ?_
  refine g_then ?_
  refine g_seq ?_
  refine g_region ?_
  refine s_y (y_move rfl) rfl rfl rfl rfl ?_
  refine s_tr (t_callm rfl rfl ent_51 (fun w h => ea ▸ list_any w _ a (ha.below h.below))) rfl rfl rfl rfl (fun x2 hx3 => ?_)
  obtain ⟨vo1, mo1⟩ := x2
  obtain ⟨hOo1, hEo1⟩ := hx3
  refine s_y (y_move rfl) rfl rfl rfl rfl ?_
  refine s_tr (t_callm rfl rfl ent_51 (fun w h => eb ▸ list_any w _ b (hb.below h.below))) rfl rfl rfl rfl (fun x5 hx6 => ?_)
  obtain ⟨vo4, mo4⟩ := x5
  obtain ⟨hOo4, hEo4⟩ := hx6
  refine s_tr (t_call rfl rfl ent_50 (fun w h => Over_ok w _ _ a b (hOo1.rd fun p hp => h.at_ p (mem_ar mo4 (mem_al mo1 hp))) (hOo4.rd fun p hp => h.at_ p (mem_al mo4 hp)) hma hmb_)) rfl rfl rfl rfl (fun _ _ => ?_)
  refine s_y (y_move rfl) rfl rfl rfl rfl ?_
  refine s_y (y_extract rfl rfl) rfl rfl rfl rfl ?_
  refine s_y (y_extract rfl rfl) rfl rfl rfl rfl ?_
  refine s_y (y_assign rfl) rfl rfl rfl rfl ?_
  refine s_y (y_assign rfl) rfl rfl rfl rfl ?_
  refine s_nil ?_
  refine g_then ?_
  refine g_seq ?_
  refine g_seq ?_
  refine g_region ?_
  refine s_y (y_move rfl) rfl rfl rfl rfl ?_
  refine s_y (y_neq_f rfl rfl (by decide)) rfl rfl rfl rfl ?_
  refine s_y (y_move rfl) rfl rfl rfl rfl ?_
  refine s_y (y_move rfl) rfl rfl rfl rfl ?_
  refine s_tr (t_call rfl rfl ent_53 (fun w h => by have h_ := RMelody_any w _ a (ha.below h.below) (by omega); rwa [hma] at h_)) rfl rfl rfl rfl (fun _ _ => ?_)
  refine s_y (y_not_t rfl) rfl rfl rfl rfl ?_
  refine s_y (y_pick_f rfl rfl) rfl rfl rfl rfl ?_
  refine s_y (y_move rfl) rfl rfl rfl rfl ?_
  refine s_y (y_move rfl) rfl rfl rfl rfl ?_
  refine s_tr (t_call rfl rfl ent_53 (fun w h => by have h_ := RMelody_any w _ b (hb.below h.below) (by omega); rwa [hmb_] at h_)) rfl rfl rfl rfl (fun _ _ => ?_)
  refine s_y (y_not_t rfl) rfl rfl rfl rfl ?_
  refine s_y (y_pick_f rfl rfl) rfl rfl rfl rfl ?_
  refine s_nil ?_
  refine g_then ?_
  refine g_cond_f rfl ?_
  refine g_skip ?_
  refine g_then ?_
  refine g_seq ?_
  refine g_region ?_
  refine s_y (y_move rfl) rfl rfl rfl rfl ?_
  refine s_tr (t_callm rfl rfl ent_51 (fun w h => eb ▸ list_any w _ b (hb.below h.below))) rfl rfl rfl rfl (fun x8 hx9 => ?_)
  obtain ⟨vo7, mo7⟩ := x8
  obtain ⟨hOo7, hEo7⟩ := hx9
  refine s_y (y_move rfl) rfl rfl rfl rfl ?_
  refine s_tr (t_callm rfl rfl ent_51 (fun w h => ea ▸ list_any w _ a (ha.below h.below))) rfl rfl rfl rfl (fun x11 hx12 => ?_)
  obtain ⟨vo10, mo10⟩ := x11
  obtain ⟨hOo10, hEo10⟩ := hx12
  refine s_tr (t_call rfl rfl ent_50 (fun w h => Over_ok w _ _ b a (hOo7.rd fun p hp => h.at_ p (mem_ar mo10 (mem_al mo7 hp))) (hOo10.rd fun p hp => h.at_ p (mem_al mo10 hp)) hmb_ hma)) rfl rfl rfl rfl (fun _ _ => ?_)
  refine s_y (y_move rfl) rfl rfl rfl rfl ?_
  refine s_y (y_extract rfl rfl) rfl rfl rfl rfl ?_
  refine s_y (y_extract rfl rfl) rfl rfl rfl rfl ?_
  refine s_y (y_assign rfl) rfl rfl rfl rfl ?_
  refine s_y (y_assign rfl) rfl rfl rfl rfl ?_
  refine s_nil ?_
  refine g_then ?_
  refine g_seq ?_
  refine g_region ?_
  refine s_y (y_move rfl) rfl rfl rfl rfl ?_
  refine s_tr (t_callm rfl rfl ent_51 (fun w h => ea ▸ list_any w _ a (ha.below h.below))) rfl rfl rfl rfl (fun x14 hx15 => ?_)
  obtain ⟨vo13, mo13⟩ := x14
  obtain ⟨hOo13, hEo13⟩ := hx15
  refine s_y (y_move rfl) rfl rfl rfl rfl ?_
  refine s_tr (t_callm rfl rfl ent_51 (fun w h => eb ▸ list_any w _ b (hb.below h.below))) rfl rfl rfl rfl (fun x17 hx18 => ?_)
  obtain ⟨vo16, mo16⟩ := x17
  obtain ⟨hOo16, hEo16⟩ := hx18
  refine s_tr (t_callm rfl rfl ent_52 (fun w h => OverWay_ok w _ _ a b (hOo13.rd fun p hp => h.at_ p (mem_ar mo16 (mem_al mo13 hp))) (hOo16.rd fun p hp => h.at_ p (mem_al mo16 hp)) hma hmb_)) rfl rfl rfl rfl (fun x20 hx21 => ?_)
  obtain ⟨vo19, mo19⟩ := x20
  obtain ⟨hOo19, hEo19⟩ := hx21
  refine s_y (y_move rfl) rfl rfl rfl rfl ?_
  refine s_y (y_extract rfl rfl) rfl rfl rfl rfl ?_
  refine s_y (y_extract rfl rfl) rfl rfl rfl rfl ?_
  refine s_y (y_assign rfl) rfl rfl rfl rfl ?_
  refine s_y (y_assign rfl) rfl rfl rfl rfl ?_
  refine s_nil ?_
  refine g_then ?_
  refine g_seq ?_
  refine g_region ?_
  refine s_y (y_move rfl) rfl rfl rfl rfl ?_
  refine s_y (y_move rfl) rfl rfl rfl rfl ?_
  refine s_y (y_move rfl) rfl rfl rfl rfl ?_
  refine s_tr (t_call rfl rfl ent_57 (fun w h => IsWay_t w v v' _ a b (ha.below h.below) (hb.below h.below) hma hmb_ (hOo19.rd fun p hp => h.at_ p (mem_al mo19 hp)))) rfl rfl rfl rfl (fun _ _ => ?_)
  refine s_y (y_move rfl) rfl rfl rfl rfl ?_
  refine s_y (y_extract rfl rfl) rfl rfl rfl rfl ?_
  refine s_y (y_extract rfl rfl) rfl rfl rfl rfl ?_
  refine s_y (y_assign rfl) rfl rfl rfl rfl ?_
  refine s_y (y_assign rfl) rfl rfl rfl rfl ?_
  refine s_nil ?_
  refine g_then ?_
  refine g_seq ?_
  refine g_seq ?_
  refine g_region ?_
  refine s_y (y_move rfl) rfl rfl rfl rfl ?_
  refine s_y (y_neq_f rfl rfl (by decide)) rfl rfl rfl rfl ?_
  refine s_y (y_move rfl) rfl rfl rfl rfl ?_
  refine s_y (y_move rfl) rfl rfl rfl rfl ?_
  refine s_y (y_neq_f rfl rfl (by decide)) rfl rfl rfl rfl ?_
  refine s_y (y_pick_f rfl rfl) rfl rfl rfl rfl ?_
  refine s_y (y_move rfl) rfl rfl rfl rfl ?_
  refine s_y (y_move rfl) rfl rfl rfl rfl ?_
  refine s_y (y_move rfl) rfl rfl rfl rfl ?_
  refine s_y (y_neq_f rfl rfl ((ovP_comm a b 0 0).symm)) rfl rfl rfl rfl ?_
  refine s_y (y_pick_f rfl rfl) rfl rfl rfl rfl ?_
  refine s_y (y_move rfl) rfl rfl rfl rfl ?_
  refine s_y (y_move rfl) rfl rfl rfl rfl ?_
  refine s_y (y_not_t rfl) rfl rfl rfl rfl ?_
  refine s_y (y_pick_f rfl rfl) rfl rfl rfl rfl ?_
  refine s_y (y_move rfl) rfl rfl rfl rfl ?_
  refine s_y (y_move rfl) rfl rfl rfl rfl ?_
  refine s_y (y_move rfl) rfl rfl rfl rfl ?_
  refine s_y (y_neq_f rfl rfl (rfl)) rfl rfl rfl rfl ?_
  refine s_y (y_pick_f rfl rfl) rfl rfl rfl rfl ?_
  refine s_y (y_move rfl) rfl rfl rfl rfl ?_
  refine s_y (y_move rfl) rfl rfl rfl rfl ?_
  refine s_y (y_eql rfl rfl) rfl rfl rfl rfl ?_
  refine s_y (y_move rfl) rfl rfl rfl rfl ?_
  refine s_tr (t_callm rfl rfl ent_58 (fun w h => once_any w _ a (ha.below h.below) (by omega) (by omega))) rfl rfl rfl rfl (fun x23 hx24 => ?_)
  obtain ⟨vo22, mo22⟩ := x23
  obtain ⟨hOo22, hEo22⟩ := hx24
  refine s_y (y_move rfl) rfl rfl rfl rfl ?_
  refine s_tr (t_callm rfl rfl ent_58 (fun w h => once_any w _ b (hb.below h.below) (by omega) (by omega))) rfl rfl rfl rfl (fun x26 hx27 => ?_)
  obtain ⟨vo25, mo25⟩ := x26
  obtain ⟨hOo25, hEo25⟩ := hx27
  refine s_tr (t_call rfl rfl ent_33 (fun w h => by have h_ := Equal_any w _ _ (cpt a) (cpt b) (hOo22.rd fun p hp => h.at_ p (mem_ar mo25 (mem_al mo22 hp))) (hOo25.rd fun p hp => h.at_ p (mem_al mo25 hp)) (Nat.le_trans (cpt_le a) (by omega)); rwa [show decide (cpt a = cpt b) = decide (ovP a b 0 0 = 0) from decide_eq_decide.2 (zero_cpt hal.1 hbl.1).symm] at h_)) rfl rfl rfl rfl (fun _ _ => ?_)
  refine s_y (y_bneq rfl rfl Try.underlying4) rfl rfl rfl rfl ?_
  refine s_y (y_pick_f rfl rfl) rfl rfl rfl rfl ?_
  refine s_nil ?_
  refine g_then ?_
  refine g_cond rfl (fun cq28 => ?_) (fun cq28 => ?_)
  · (try simp at cq28)
    try (simp at cq28)
  · (try simp at cq28)
    refine g_skip ?_
    refine g_then ?_
    refine g_seq ?_
    refine g_region ?_
    refine s_y (y_move rfl) rfl rfl rfl rfl ?_
    refine s_tr (t_callm (A := fun y : Nat × Nat × List Value => a.length ≤ y.2.1 ∧ y.2.1 ≤ 9223372036854775807) (vf := fun y => .slice (some ⟨y.1, 0, none⟩) a.length y.2.1) (mm := fun y => [(y.1, .cells ((a).map (Value.int .i64) ++ y.2.2).toArray 3 (0, 0))]) rfl rfl ent_59 (fun w h => Clone_own w _ a (ha.below h.below) (by omega) (by omega))) rfl rfl rfl rfl (fun y_ hy_ => ?_)
    obtain ⟨bx, cpx, jkx⟩ := y_
    have hcpx : a.length ≤ cpx := hy_.1
    clear hy_
    refine s_y (y_move rfl) rfl rfl rfl rfl ?_
    refine s_tr (t_callm (A := fun y : Nat × Nat × List Value => b.length ≤ y.2.1 ∧ y.2.1 ≤ 9223372036854775807) (vf := fun y => .slice (some ⟨y.1, 0, none⟩) b.length y.2.1) (mm := fun y => [(y.1, .cells ((b).map (Value.int .i64) ++ y.2.2).toArray 3 (0, 0))]) rfl rfl ent_59 (fun w h => Clone_own w _ b (hb.below h.below) (by omega) (by omega))) rfl rfl rfl rfl (fun y_ hy_ => ?_)
    obtain ⟨bz, cpz, jkz⟩ := y_
    have hcpz : b.length ≤ cpz := hy_.1
    clear hy_
    refine s_y (y_assign rfl) rfl rfl rfl rfl ?_
    refine s_y (y_assign rfl) rfl rfl rfl rfl ?_
    refine g_perm' (m' := (bx, .cells (a.map (Value.int .i64) ++ jkx).toArray 3 (0, 0)) :: (bz, .cells (b.map (Value.int .i64) ++ jkz).toArray 3 (0, 0)) :: (mo25 ++ ((mo22 ++ ((mo19 ++ ((mo16 ++ ((mo13 ++ ((mo10 ++ ((mo7 ++ ((mo4 ++ ((mo1 ++ ([]))))))))))))))))))) (show ((bx, .cells (a.map (Value.int .i64) ++ jkx).toArray 3 (0, 0)) :: (bz, .cells (b.map (Value.int .i64) ++ jkz).toArray 3 (0, 0)) :: (mo25 ++ ((mo22 ++ ((mo19 ++ ((mo16 ++ ((mo13 ++ ((mo10 ++ ((mo7 ++ ((mo4 ++ ((mo1 ++ ([])))))))))))))))))) : List (Nat × Obj)).Perm ((bz, .cells (b.map (Value.int .i64) ++ jkz).toArray 3 (0, 0)) :: (bx, .cells (a.map (Value.int .i64) ++ jkx).toArray 3 (0, 0)) :: (mo25 ++ ((mo22 ++ ((mo19 ++ ((mo16 ++ ((mo13 ++ ((mo10 ++ ((mo7 ++ ((mo4 ++ ((mo1 ++ ([])))))))))))))))))) : List (Nat × Obj)) from List.Perm.trans (List.Perm.of_eq (by simp only [List.append_assoc, List.cons_append, List.nil_append, List.append_nil])) (List.Perm.trans (List.perm_append_comm_assoc ((bx, .cells (a.map (Value.int .i64) ++ jkx).toArray 3 (0, 0)) :: [] : List (Nat × Obj)) ((bz, .cells (b.map (Value.int .i64) ++ jkz).toArray 3 (0, 0)) :: [] : List (Nat × Obj)) ((mo25 ++ ((mo22 ++ ((mo19 ++ ((mo16 ++ ((mo13 ++ ((mo10 ++ ((mo7 ++ ((mo4 ++ ((mo1 ++ ([])))))))))))))))))) : List (Nat × Obj))) (List.Perm.of_eq (by simp only [List.append_assoc, List.cons_append, List.nil_append, List.append_nil])))) ?_
    refine s_nil ?_
    refine g_then ?_
    refine g_seq ?_
    refine g_region ?_
    refine s_y (y_move rfl) rfl rfl rfl rfl ?_
    refine s_tr (t_callx (ι := Unit) (A := fun _ => True) (vf := fun _ => .tuple #[]) (wf := fun _ => _) (mf := fun _ => (bx, .cells (a.reverse.map (Value.int .i64) ++ jkx).toArray 3 (0, 0)) :: (bz, .cells (b.map (Value.int .i64) ++ jkz).toArray 3 (0, 0)) :: (mo25 ++ ((mo22 ++ ((mo19 ++ ((mo16 ++ ((mo13 ++ ((mo10 ++ ((mo7 ++ ((mo4 ++ ((mo1 ++ ([]))))))))))))))))))) rfl rfl ent_60 (fun w h => by simp only [Array.append_empty, Array.empty_append]; exact (Rev_own' h (by omega)).mono fun e w' ⟨h1, h2⟩ => ⟨(), trivial, h1, h2⟩)) rfl rfl rfl rfl (fun _ _ => ?_)
    refine g_perm' (m' := (bz, .cells (b.map (Value.int .i64) ++ jkz).toArray 3 (0, 0)) :: (bx, .cells (a.reverse.map (Value.int .i64) ++ jkx).toArray 3 (0, 0)) :: (mo25 ++ ((mo22 ++ ((mo19 ++ ((mo16 ++ ((mo13 ++ ((mo10 ++ ((mo7 ++ ((mo4 ++ ((mo1 ++ ([]))))))))))))))))))) (show ((bz, .cells (b.map (Value.int .i64) ++ jkz).toArray 3 (0, 0)) :: (bx, .cells (a.reverse.map (Value.int .i64) ++ jkx).toArray 3 (0, 0)) :: (mo25 ++ ((mo22 ++ ((mo19 ++ ((mo16 ++ ((mo13 ++ ((mo10 ++ ((mo7 ++ ((mo4 ++ ((mo1 ++ ([])))))))))))))))))) : List (Nat × Obj)).Perm ((bx, .cells (a.reverse.map (Value.int .i64) ++ jkx).toArray 3 (0, 0)) :: (bz, .cells (b.map (Value.int .i64) ++ jkz).toArray 3 (0, 0)) :: (mo25 ++ ((mo22 ++ ((mo19 ++ ((mo16 ++ ((mo13 ++ ((mo10 ++ ((mo7 ++ ((mo4 ++ ((mo1 ++ ([])))))))))))))))))) : List (Nat × Obj)) from List.Perm.trans (List.Perm.of_eq (by simp only [List.append_assoc, List.cons_append, List.nil_append, List.append_nil])) (List.Perm.trans (List.perm_append_comm_assoc ((bz, .cells (b.map (Value.int .i64) ++ jkz).toArray 3 (0, 0)) :: [] : List (Nat × Obj)) ((bx, .cells (a.reverse.map (Value.int .i64) ++ jkx).toArray 3 (0, 0)) :: [] : List (Nat × Obj)) ((mo25 ++ ((mo22 ++ ((mo19 ++ ((mo16 ++ ((mo13 ++ ((mo10 ++ ((mo7 ++ ((mo4 ++ ((mo1 ++ ([])))))))))))))))))) : List (Nat × Obj))) (List.Perm.of_eq (by simp only [List.append_assoc, List.cons_append, List.nil_append, List.append_nil])))) ?_
    refine s_nil ?_
    refine g_then ?_
    refine g_seq ?_
    refine g_region ?_
    refine s_y (y_move rfl) rfl rfl rfl rfl ?_
    refine s_tr (t_callx (ι := Unit) (A := fun _ => True) (vf := fun _ => .tuple #[]) (wf := fun _ => _) (mf := fun _ => (bz, .cells (b.reverse.map (Value.int .i64) ++ jkz).toArray 3 (0, 0)) :: (bx, .cells (a.reverse.map (Value.int .i64) ++ jkx).toArray 3 (0, 0)) :: (mo25 ++ ((mo22 ++ ((mo19 ++ ((mo16 ++ ((mo13 ++ ((mo10 ++ ((mo7 ++ ((mo4 ++ ((mo1 ++ ([]))))))))))))))))))) rfl rfl ent_60 (fun w h => by simp only [Array.append_empty, Array.empty_append]; exact (Rev_own' h (by omega)).mono fun e w' ⟨h1, h2⟩ => ⟨(), trivial, h1, h2⟩)) rfl rfl rfl rfl (fun _ _ => ?_)
    refine s_nil ?_
    refine g_then ?_
    refine g_seq ?_
    refine g_seq ?_
    refine g_region ?_
    refine s_y (y_move rfl) rfl rfl rfl rfl ?_
    refine s_y (y_move rfl) rfl rfl rfl rfl ?_
    refine s_tr (t_call rfl rfl ent_50 (fun w h => by have h_ := Over_ok w _ _ a.reverse b.reverse (RdV.own (jk := jkx) (at_of (i := 1) h rfl) (by first | rfl | simp | omega) hcpx) (RdV.own (jk := jkz) (at_of (i := 0) h rfl) (by first | rfl | simp | omega) hcpz) (mel_rev hma) (mel_rev hmb_); rwa [ovP_rev hal.1 hbl.1] at h_)) rfl rfl rfl rfl (fun _ _ => ?_)
    refine s_y (y_move rfl) rfl rfl rfl rfl ?_
    refine s_y (y_extract rfl rfl) rfl rfl rfl rfl ?_
    refine s_y (y_extract rfl rfl) rfl rfl rfl rfl ?_
    refine s_y (y_assign rfl) rfl rfl rfl rfl ?_
    refine s_y (y_assign rfl) rfl rfl rfl rfl ?_
    refine s_nil ?_
    refine g_then ?_
    refine g_seq ?_
    refine g_region ?_
    refine s_y (y_move rfl) rfl rfl rfl rfl ?_
    refine s_y (y_neq_f rfl rfl (by decide)) rfl rfl rfl rfl ?_
    refine s_y (y_move rfl) rfl rfl rfl rfl ?_
    refine s_y (y_move rfl) rfl rfl rfl rfl ?_
    refine s_y (y_move rfl) rfl rfl rfl rfl ?_
    refine s_y (y_neq_f rfl rfl (rfl)) rfl rfl rfl rfl ?_
    refine s_y (y_pick_f rfl rfl) rfl rfl rfl rfl ?_
    refine s_nil ?_
    refine g_then ?_
    refine g_cond_f rfl ?_
    refine g_skip ?_
    refine g_then ?_
    refine g_seq ?_
    refine g_region ?_
    refine s_y (y_move rfl) rfl rfl rfl rfl ?_
    refine s_y (y_conv rfl (by kernel_rfl) Try.underlying32 rfl) rfl rfl rfl rfl ?_
    refine s_y (y_remu rfl rfl (u64_range by_).1 (by decide)) rfl rfl rfl rfl ?_
    rw [hs0]
    refine s_y (y_conv rfl (by kernel_rfl) Try.underlying3 (conv_eq trivial (by omega) (by omega))) rfl rfl rfl rfl ?_
    refine s_y (y_sub rfl rfl (by omega) (by omega)) rfl rfl rfl rfl ?_
    refine s_y (y_assign rfl) rfl rfl rfl rfl ?_
    refine s_nil ?_
    refine g_then ?_
    refine g_seq ?_
    refine g_region ?_
    refine s_y (y_move rfl) rfl rfl rfl rfl ?_
    refine s_tr (t_callm (A := fun y : Nat × Nat × List Value => a.length ≤ y.2.1 ∧ y.2.1 ≤ 9223372036854775807) (vf := fun y => .slice (some ⟨y.1, 0, none⟩) a.length y.2.1) (mm := fun y => [(y.1, .cells ((a).map (Value.int .i64) ++ y.2.2).toArray 3 (0, 0))]) rfl rfl ent_59 (fun w h => Clone_own w _ a (ha.below h.below) (by omega) (by omega))) rfl rfl rfl rfl (fun y_ hy_ => ?_)
    obtain ⟨bu, cpu, jku⟩ := y_
    have hcpu : a.length ≤ cpu := hy_.1
    clear hy_
    refine s_y (y_move rfl) rfl rfl rfl rfl ?_
    refine s_tr (t_callm (A := fun y : Nat × Nat × List Value => b.length ≤ y.2.1 ∧ y.2.1 ≤ 9223372036854775807) (vf := fun y => .slice (some ⟨y.1, 0, none⟩) b.length y.2.1) (mm := fun y => [(y.1, .cells ((b).map (Value.int .i64) ++ y.2.2).toArray 3 (0, 0))]) rfl rfl ent_59 (fun w h => Clone_own w _ b (hb.below h.below) (by omega) (by omega))) rfl rfl rfl rfl (fun y_ hy_ => ?_)
    obtain ⟨bv, cpv, jkv⟩ := y_
    have hcpv : b.length ≤ cpv := hy_.1
    clear hy_
    refine s_y (y_assign rfl) rfl rfl rfl rfl ?_
    refine s_y (y_assign rfl) rfl rfl rfl rfl ?_
    refine s_nil ?_
    refine g_then ?_
    refine g_seq ?_
    refine g_seq ?_
    refine g_region ?_
    refine s_y (y_move rfl) rfl rfl rfl rfl ?_
    refine s_y (y_lensl rfl sle_46) rfl rfl rfl rfl ?_
    refine s_y (y_move rfl) rfl rfl rfl rfl ?_
    refine s_nil ?_
    refine g_then ?_
    refine g_block ?_
    refine g_loop (fun (i : Nat) act W => i ≤ a.length ∧ ∃ (yu : List Int) (w1 : World), (ShI a yu (s0 - 100) i) ∧ Has 186 [] [(2, .int .i64 (s0 - 100)), (6, .bool false), (7, .int .i64 (ovP a b 0 0)), (8, .int .i64 0), (9, .int .i64 (ovP b a 0 0)), (15, .slice (some ⟨bu, 0, none⟩) a.length cpu), (16, .slice (some ⟨bv, 0, none⟩) b.length cpv), (130, .int .i64 (a.length : Nat)), (131, .int .i64 (i : Int))] act ∧ Hp w w1 ((bv, .cells (b.map (Value.int .i64) ++ jkv).toArray 3 (0, 0)) :: (bu, .cells (yu.map (Value.int .i64) ++ jku).toArray 3 (0, 0)) :: (bz, .cells (b.reverse.map (Value.int .i64) ++ jkz).toArray 3 (0, 0)) :: (bx, .cells (a.reverse.map (Value.int .i64) ++ jkx).toArray 3 (0, 0)) :: (mo25 ++ ((mo22 ++ ((mo19 ++ ((mo16 ++ ((mo13 ++ ((mo10 ++ ((mo7 ++ ((mo4 ++ ((mo1 ++ ([]))))))))))))))))))) W) (fun i => a.length - i) 0 (fun act W ha hw => ⟨by omega, a, W, (by exact ShI.start _ _), ha.weak (sub_get ⟨rfl, rfl, rfl, rfl, rfl, rfl, rfl, rfl, rfl, trivial⟩), hw.toHq.lookSub (List.Sublist.refl _)⟩) ?_
    intro i act W ⟨hb_i, yu, w1, hshyu, ha, hw⟩
    refine g_go ha hw ?_
    clear ha hw act W
    have hlyu := hshyu.1
    refine g_seq ?_
    refine g_region ?_
    refine s_y (y_lss rfl rfl) rfl rfl rfl rfl ?_
    refine s_nil ?_
    refine g_then ?_
    refine g_seq ?_
    refine g_cond rfl (fun cq29 => ?_) (fun cq29 => ?_)
    · (try simp at cq29)
      refine g_skip ?_
      refine g_then ?_
      refine g_seq ?_
      refine g_block ?_
      refine g_seq ?_
      refine g_region ?_
      refine s_y (y_move rfl) rfl rfl rfl rfl ?_
      refine s_y (y_assign rfl) rfl rfl rfl rfl ?_
      refine s_nil ?_
      refine g_then ?_
      have hzz : rdI yu (i : Int) = rdI a (i : Int) := by have h_ := hshyu.2 i (by omega); rwa [if_neg (by omega)] at h_
      have hza := mel_rd hxa (i : Int)
      refine g_region ?_
      refine s_y (y_move rfl) rfl rfl rfl rfl ?_
      refine s_y (y_move rfl) rfl rfl rfl rfl ?_
      refine s_y (y_idxb1 rfl rfl Try.underlying46 size_3 (by omega) (by omega)) rfl rfl rfl rfl ?_
      refine s_y (y_ldL (enc := (Value.int .i64)) (xs := yu) (jk := jku) 1 rfl rfl agg_3 (rdI_at (by omega) (by omega))) rfl rfl rfl rfl ?_
      refine s_y (y_move rfl) rfl rfl rfl rfl ?_
      refine s_y (y_add rfl rfl (by omega) (by omega)) rfl rfl rfl rfl ?_
      refine s_y (y_idxb1 rfl rfl Try.underlying46 size_3 (by omega) (by omega)) rfl rfl rfl rfl ?_
      refine s_tr0 (t_storeL (enc := (Value.int .i64)) (v := (rdI yu (i : Int)) + (s0 - 100)) (xs := yu) (jk := jku) 1 rfl rfl rfl rfl rfl size_3 (by omega)) rfl rfl rfl (fun _ _ => ?_)
      refine s_nil ?_
      refine g_inb ?_
      refine g_then ?_
      refine g_region ?_
      refine s_y (y_add rfl rfl (by omega) (by omega)) rfl rfl rfl rfl ?_
      refine s_y (y_move rfl) rfl rfl rfl rfl ?_
      refine s_nil ?_
      refine g_then ?_
      exact fun act W ha hw => ⟨i + 1, by omega, by omega, (yu.set (((i : Int) : Int).toNat) ((rdI yu (i : Int)) + (s0 - 100))), W, (by exact hshyu.step (by omega)), ha.weak (sub_get ⟨rfl, rfl, rfl, rfl, rfl, rfl, rfl, rfl, rfl, trivial⟩), hw.toHq.lookSub (List.Sublist.refl _)⟩
    · (try simp at cq29)
      refine g_exit ?_
      refine g_thenx ?_
      refine g_thenx ?_
      refine g_inbx ?_
      refine g_then ?_
      refine g_seq ?_
      refine g_seq ?_
      have hyu : yu = (a.map (· + (s0 - 100))) := hshyu.done (by omega)
      subst hyu
      refine g_region ?_
      refine s_y (y_move rfl) rfl rfl rfl rfl ?_
      refine s_y (y_lensl rfl sle_46) rfl rfl rfl rfl ?_
      refine s_y (y_move rfl) rfl rfl rfl rfl ?_
      refine s_nil ?_
      refine g_then ?_
      refine g_block ?_
      refine g_loop (fun (i : Nat) act W => i ≤ b.length ∧ ∃ (yv : List Int) (w1 : World), (ShI b yv (s0 - 100) i) ∧ Has 186 [] [(2, .int .i64 (s0 - 100)), (6, .bool false), (7, .int .i64 (ovP a b 0 0)), (8, .int .i64 0), (9, .int .i64 (ovP b a 0 0)), (15, .slice (some ⟨bu, 0, none⟩) a.length cpu), (16, .slice (some ⟨bv, 0, none⟩) b.length cpv), (143, .int .i64 (b.length : Nat)), (144, .int .i64 (i : Int))] act ∧ Hp w w1 ((bv, .cells (yv.map (Value.int .i64) ++ jkv).toArray 3 (0, 0)) :: (bu, .cells ((a.map (· + (s0 - 100))).map (Value.int .i64) ++ jku).toArray 3 (0, 0)) :: (bz, .cells (b.reverse.map (Value.int .i64) ++ jkz).toArray 3 (0, 0)) :: (bx, .cells (a.reverse.map (Value.int .i64) ++ jkx).toArray 3 (0, 0)) :: (mo25 ++ ((mo22 ++ ((mo19 ++ ((mo16 ++ ((mo13 ++ ((mo10 ++ ((mo7 ++ ((mo4 ++ ((mo1 ++ ([]))))))))))))))))))) W) (fun i => b.length - i) 0 (fun act W ha hw => ⟨by omega, b, W, (by exact ShI.start _ _), ha.weak (sub_get ⟨rfl, rfl, rfl, rfl, rfl, rfl, rfl, rfl, rfl, trivial⟩), hw.toHq.lookSub (List.Sublist.refl _)⟩) ?_
      intro i act W ⟨hb_i, yv, w1, hshyv, ha, hw⟩
      refine g_go ha hw ?_
      clear ha hw act W
      have hlyv := hshyv.1
      refine g_seq ?_
      refine g_region ?_
      refine s_y (y_lss rfl rfl) rfl rfl rfl rfl ?_
      refine s_nil ?_
      refine g_then ?_
      refine g_seq ?_
      refine g_cond rfl (fun cq30 => ?_) (fun cq30 => ?_)
      · (try simp at cq30)
        refine g_skip ?_
        refine g_then ?_
        refine g_seq ?_
        refine g_block ?_
        refine g_seq ?_
        refine g_region ?_
        refine s_y (y_move rfl) rfl rfl rfl rfl ?_
        refine s_y (y_assign rfl) rfl rfl rfl rfl ?_
        refine s_nil ?_
        refine g_then ?_
        have hzz : rdI yv (i : Int) = rdI b (i : Int) := by have h_ := hshyv.2 i (by omega); rwa [if_neg (by omega)] at h_
        have hza := mel_rd hxb (i : Int)
        refine g_region ?_
        refine s_y (y_move rfl) rfl rfl rfl rfl ?_
        refine s_y (y_move rfl) rfl rfl rfl rfl ?_
        refine s_y (y_idxb1 rfl rfl Try.underlying46 size_3 (by omega) (by omega)) rfl rfl rfl rfl ?_
        refine s_y (y_ldL (enc := (Value.int .i64)) (xs := yv) (jk := jkv) 0 rfl rfl agg_3 (rdI_at (by omega) (by omega))) rfl rfl rfl rfl ?_
        refine s_y (y_move rfl) rfl rfl rfl rfl ?_
        refine s_y (y_add rfl rfl (by omega) (by omega)) rfl rfl rfl rfl ?_
        refine s_y (y_idxb1 rfl rfl Try.underlying46 size_3 (by omega) (by omega)) rfl rfl rfl rfl ?_
        refine s_tr0 (t_storeL (enc := (Value.int .i64)) (v := (rdI yv (i : Int)) + (s0 - 100)) (xs := yv) (jk := jkv) 0 rfl rfl rfl rfl rfl size_3 (by omega)) rfl rfl rfl (fun _ _ => ?_)
        refine s_nil ?_
        refine g_inb ?_
        refine g_then ?_
        refine g_region ?_
        refine s_y (y_add rfl rfl (by omega) (by omega)) rfl rfl rfl rfl ?_
        refine s_y (y_move rfl) rfl rfl rfl rfl ?_
        refine s_nil ?_
        refine g_then ?_
        exact fun act W ha hw => ⟨i + 1, by omega, by omega, (yv.set (((i : Int) : Int).toNat) ((rdI yv (i : Int)) + (s0 - 100))), W, (by exact hshyv.step (by omega)), ha.weak (sub_get ⟨rfl, rfl, rfl, rfl, rfl, rfl, rfl, rfl, rfl, trivial⟩), hw.toHq.lookSub (List.Sublist.refl _)⟩
      · (try simp at cq30)
        refine g_exit ?_
        refine g_thenx ?_
        refine g_thenx ?_
        refine g_inbx ?_
        refine g_then ?_
        refine g_seq ?_
        have hyv : yv = (b.map (· + (s0 - 100))) := hshyv.done (by omega)
        subst hyv
        rcases Classical.em (melB (a.map (· + (s0 - 100))) = true ∧ melB (b.map (· + (s0 - 100))) = true) with e1 | e1
        · skip
          refine g_region ?_
          refine s_y (y_move rfl) rfl rfl rfl rfl ?_
          refine s_tr (t_callm rfl rfl ent_59 (fun w h => Clone_any w _ (a.map (· + (s0 - 100))) (RdV.own (jk := jku) (at_of (i := 1) h rfl) (by first | rfl | simp | omega) hcpu) (by rw [List.length_map]; omega))) rfl rfl rfl rfl (fun x32 hx33 => ?_)
          obtain ⟨vo31, mo31⟩ := x32
          obtain ⟨hOo31, hEo31⟩ := hx33
          refine s_y (y_move rfl) rfl rfl rfl rfl ?_
          refine s_tr (t_callm rfl rfl ent_59 (fun w h => Clone_any w _ (b.map (· + (s0 - 100))) (RdV.own (jk := jkv) (h.at_ _ (mem_ar mo31 (List.mem_cons_self ..))) (by first | rfl | simp | omega) hcpv) (by rw [List.length_map]; omega))) rfl rfl rfl rfl (fun x35 hx36 => ?_)
          obtain ⟨vo34, mo34⟩ := x35
          obtain ⟨hOo34, hEo34⟩ := hx36
          refine s_tr (t_call rfl rfl ent_50 (fun w h => by have h_ := Over_ok w _ _ (a.map (· + (s0 - 100))) (b.map (· + (s0 - 100))) (hOo31.rd fun p hp => h.at_ p (mem_ar mo34 (mem_al mo31 hp))) (hOo34.rd fun p hp => h.at_ p (mem_al mo34 hp)) e1.1 e1.2; rwa [ovP_shift (s0 - 100) hal.1 hbl.1] at h_)) rfl rfl rfl rfl (fun _ _ => ?_)
          refine s_y (y_move rfl) rfl rfl rfl rfl ?_
          refine s_y (y_extract rfl rfl) rfl rfl rfl rfl ?_
          refine s_y (y_extract rfl rfl) rfl rfl rfl rfl ?_
          refine s_y (y_assign rfl) rfl rfl rfl rfl ?_
          refine s_y (y_assign rfl) rfl rfl rfl rfl ?_
          refine s_nil ?_
          refine g_then ?_
          refine g_seq ?_
          refine g_seq ?_
          refine g_region ?_
          refine s_y (y_move rfl) rfl rfl rfl rfl ?_
          refine s_tr (t_call rfl rfl ent_53 (fun w h => by have h_ := RMelody_any w _ (a.map (· + (s0 - 100))) (RdV.own (jk := jku) (h.at_ _ (mem_ar mo34 (mem_ar mo31 (List.mem_cons_of_mem _ (List.mem_cons_self ..))))) (by first | rfl | simp | omega) hcpu) (by rw [List.length_map]; omega); rwa [e1.1] at h_)) rfl rfl rfl rfl (fun _ _ => ?_)
          refine s_y (y_not_t rfl) rfl rfl rfl rfl ?_
          refine s_y (y_move rfl) rfl rfl rfl rfl ?_
          refine s_y (y_move rfl) rfl rfl rfl rfl ?_
          refine s_tr (t_call rfl rfl ent_53 (fun w h => by have h_ := RMelody_any w _ (b.map (· + (s0 - 100))) (RdV.own (jk := jkv) (h.at_ _ (mem_ar mo34 (mem_ar mo31 (List.mem_cons_self ..)))) (by first | rfl | simp | omega) hcpv) (by rw [List.length_map]; omega); rwa [e1.2] at h_)) rfl rfl rfl rfl (fun _ _ => ?_)
          refine s_y (y_not_t rfl) rfl rfl rfl rfl ?_
          refine s_y (y_pick_f rfl rfl) rfl rfl rfl rfl ?_
          refine s_nil ?_
          refine g_then ?_
          refine g_cond_f rfl ?_
          refine g_skip ?_
          refine g_then ?_
          refine g_seq ?_
          refine g_region ?_
          refine s_y (y_move rfl) rfl rfl rfl rfl ?_
          refine s_y (y_eql_t rfl rfl (by decide)) rfl rfl rfl rfl ?_
          refine s_y (y_move rfl) rfl rfl rfl rfl ?_
          refine s_y (y_move rfl) rfl rfl rfl rfl ?_
          refine s_y (y_move rfl) rfl rfl rfl rfl ?_
          refine s_y (y_eql_t rfl rfl (rfl)) rfl rfl rfl rfl ?_
          refine s_y (y_pick_t rfl rfl) rfl rfl rfl rfl ?_
          refine s_y (y_move rfl) rfl rfl rfl rfl ?_
          refine s_tr (t_call rfl rfl ent_22 (fun w h => awakeE_t w)) rfl rfl rfl rfl (fun _ _ => ?_)
          refine s_y (y_pick_t rfl rfl) rfl rfl rfl rfl ?_
          refine s_y (y_assign rfl) rfl rfl rfl rfl ?_
          refine s_nil ?_
          refine g_then ?_
          refine g_ret ?_
          exact g_end trivial (fun a w ha hq_ => res1 ha rfl rfl  w) (fun w h => ⟨rfl, h.below⟩)
        · skip
          refine g_region ?_
          refine s_y (y_move rfl) rfl rfl rfl rfl ?_
          refine s_tr (t_callm rfl rfl ent_59 (fun w h => Clone_any w _ (a.map (· + (s0 - 100))) (RdV.own (jk := jku) (at_of (i := 1) h rfl) (by first | rfl | simp | omega) hcpu) (by rw [List.length_map]; omega))) rfl rfl rfl rfl (fun x38 hx39 => ?_)
          obtain ⟨vo37, mo37⟩ := x38
          obtain ⟨hOo37, hEo37⟩ := hx39
          refine s_y (y_move rfl) rfl rfl rfl rfl ?_
          refine s_tr (t_callm rfl rfl ent_59 (fun w h => Clone_any w _ (b.map (· + (s0 - 100))) (RdV.own (jk := jkv) (h.at_ _ (mem_ar mo37 (List.mem_cons_self ..))) (by first | rfl | simp | omega) hcpv) (by rw [List.length_map]; omega))) rfl rfl rfl rfl (fun x41 hx42 => ?_)
          obtain ⟨vo40, mo40⟩ := x41
          obtain ⟨hOo40, hEo40⟩ := hx42
          refine s_tr (t_call rfl rfl ent_50 (fun w h => Over_bad w _ _ (a.map (· + (s0 - 100))) (b.map (· + (s0 - 100))) (hOo37.rd fun p hp => h.at_ p (mem_ar mo40 (mem_al mo37 hp))) (hOo40.rd fun p hp => h.at_ p (mem_al mo40 hp)) (by rw [List.length_map]; omega) (by rw [List.length_map]; omega) e1)) rfl rfl rfl rfl (fun _ _ => ?_)
          refine s_y (y_move rfl) rfl rfl rfl rfl ?_
          refine s_y (y_extract rfl rfl) rfl rfl rfl rfl ?_
          refine s_y (y_extract rfl rfl) rfl rfl rfl rfl ?_
          refine s_y (y_assign rfl) rfl rfl rfl rfl ?_
          refine s_y (y_assign rfl) rfl rfl rfl rfl ?_
          refine s_nil ?_
          refine g_then ?_
          refine g_seq ?_
          refine g_seq ?_
          refine g_region ?_
          refine s_y (y_move rfl) rfl rfl rfl rfl ?_
          refine s_tr (t_call rfl rfl ent_53 (fun w h => RMelody_any w _ (a.map (· + (s0 - 100))) (RdV.own (jk := jku) (h.at_ _ (mem_ar mo40 (mem_ar mo37 (List.mem_cons_of_mem _ (List.mem_cons_self ..))))) (by first | rfl | simp | omega) hcpu) (by rw [List.length_map]; omega))) rfl rfl rfl rfl (fun _ _ => ?_)
          refine s_y (y_not rfl) rfl rfl rfl rfl ?_
          refine s_y (y_move rfl) rfl rfl rfl rfl ?_
          refine g_bool 166 rfl (fun cq43 => ?_) (fun cq43 => ?_)
          · (try simp at cq43)
            refine s_no rfl rfl rfl ?_
            refine s_no rfl rfl rfl ?_
            refine s_no rfl rfl rfl ?_
            refine s_y (y_pick_t rfl rfl) rfl rfl rfl rfl ?_
            refine s_nil ?_
            refine g_then ?_
            refine g_cond_t rfl ?_
            refine g_seq ?_
            refine g_region ?_
            refine s_y (y_move rfl) rfl rfl rfl rfl ?_
            refine s_y (y_eql_t rfl rfl (by decide)) rfl rfl rfl rfl ?_
            refine s_y (y_move rfl) rfl rfl rfl rfl ?_
            refine s_tr (t_call rfl rfl ent_22 (fun w h => awakeE_t w)) rfl rfl rfl rfl (fun _ _ => ?_)
            refine s_y (y_pick_t rfl rfl) rfl rfl rfl rfl ?_
            refine s_y (y_assign rfl) rfl rfl rfl rfl ?_
            refine s_nil ?_
            refine g_then ?_
            refine g_ret ?_
            refine g_thenr ?_
            exact g_end trivial (fun a w ha hq_ => res1 ha rfl rfl  w) (fun w h => ⟨rfl, h.below⟩)
          · (try simp at cq43)
            refine s_y (y_move rfl) rfl rfl rfl rfl ?_
            refine s_tr (t_call rfl rfl ent_53 (fun w h => RMelody_any w _ (b.map (· + (s0 - 100))) (RdV.own (jk := jkv) (h.at_ _ (mem_ar mo40 (mem_ar mo37 (List.mem_cons_self ..)))) (by first | rfl | simp | omega) hcpv) (by rw [List.length_map]; omega))) rfl rfl rfl rfl (fun _ _ => ?_)
            refine s_y (y_not rfl) rfl rfl rfl rfl ?_
            refine s_y (y_pick_f rfl rfl) rfl rfl rfl rfl ?_
            refine s_nil ?_
            refine g_then ?_
            refine g_cond rfl (fun cq44 => ?_) (fun cq44 => ?_)
            · (try simp at cq44)
              refine g_seq ?_
              refine g_region ?_
              refine s_y (y_move rfl) rfl rfl rfl rfl ?_
              refine s_y (y_eql_t rfl rfl (by decide)) rfl rfl rfl rfl ?_
              refine s_y (y_move rfl) rfl rfl rfl rfl ?_
              refine s_tr (t_call rfl rfl ent_22 (fun w h => awakeE_t w)) rfl rfl rfl rfl (fun _ _ => ?_)
              refine s_y (y_pick_t rfl rfl) rfl rfl rfl rfl ?_
              refine s_y (y_assign rfl) rfl rfl rfl rfl ?_
              refine s_nil ?_
              refine g_then ?_
              refine g_ret ?_
              refine g_thenr ?_
              exact g_end trivial (fun a w ha hq_ => res1 ha rfl rfl  w) (fun w h => ⟨rfl, h.below⟩)
            · (try simp at cq44)
              exact absurd ⟨by simp_all, by simp_all⟩ e1

theorem EditsRepeats_no (w : World) (v v' : Value) (a b : List Int) (by_ : Int) (ha : RdV (Value.int .i64) w v a) (hb : RdV (Value.int .i64) w v' b) (hal : a.length ≤ 9223372036854775807) (hbl : b.length ≤ 9223372036854775807) (hno : ¬ (melB a = true ∧ melB b = true)) :
    Calls Try.prog 16 [v, v', .int .i64 by_].toArray w fun e w' => e = .returned (.bool (true)) ∧ Below w.heap.size w w' := by
  have hno2 : ¬ (melB (a.take 16) = true ∧ melB (b.take 16) = true) := fun h => hno ⟨mel_take' h.1, mel_take' h.2⟩
  refine enter (N := 186) Try.func16 rfl rfl rfl ?_
  refine g_seq ?_
  refine g_region ?_
  refine s_y (y_assign rfl) rfl rfl rfl rfl ?_
  refine s_nil ?_
  refine g_then ?_
  refine g_seq ?_
  refine g_region ?_
  refine s_y (y_move rfl) rfl rfl rfl rfl ?_
  refine s_tr (t_callm rfl rfl ent_51 (fun w h => list_any w _ a (ha.below h.below))) rfl rfl rfl rfl (fun x2 hx3 => ?_)
  obtain ⟨vo1, mo1⟩ := x2
  obtain ⟨hOo1, hEo1⟩ := hx3
  refine s_y (y_move rfl) rfl rfl rfl rfl ?_
  refine s_tr (t_callm rfl rfl ent_51 (fun w h => list_any w _ b (hb.below h.below))) rfl rfl rfl rfl (fun x5 hx6 => ?_)
  obtain ⟨vo4, mo4⟩ := x5
  obtain ⟨hOo4, hEo4⟩ := hx6
  refine s_tr (t_call rfl rfl ent_50 (fun w h => Over_bad w _ _ (a.take 16) (b.take 16) (hOo1.rd fun p hp => h.at_ p (mem_ar mo4 (mem_al mo1 hp))) (hOo4.rd fun p hp => h.at_ p (mem_al mo4 hp)) (by rw [List.length_take]; omega) (by rw [List.length_take]; omega) hno2)) rfl rfl rfl rfl (fun _ _ => ?_)
  refine s_y (y_move rfl) rfl rfl rfl rfl ?_
  refine s_y (y_extract rfl rfl) rfl rfl rfl rfl ?_
  refine s_y (y_extract rfl rfl) rfl rfl rfl rfl ?_
  refine s_y (y_assign rfl) rfl rfl rfl rfl ?_
  refine s_y (y_assign rfl) rfl rfl rfl rfl ?_
  refine s_nil ?_
  refine g_then ?_
  refine g_seq ?_
  refine g_seq ?_
  refine g_region ?_
  refine s_y (y_move rfl) rfl rfl rfl rfl ?_
  refine s_y (y_neq_t rfl rfl (by decide)) rfl rfl rfl rfl ?_
  refine s_y (y_move rfl) rfl rfl rfl rfl ?_
  refine s_no rfl rfl rfl ?_
  refine s_no rfl rfl rfl ?_
  refine s_no rfl rfl rfl ?_
  refine s_y (y_pick_t rfl rfl) rfl rfl rfl rfl ?_
  refine s_y (y_move rfl) rfl rfl rfl rfl ?_
  refine s_no rfl rfl rfl ?_
  refine s_no rfl rfl rfl ?_
  refine s_no rfl rfl rfl ?_
  refine s_y (y_pick_t rfl rfl) rfl rfl rfl rfl ?_
  refine s_nil ?_
  refine g_then ?_
  refine g_cond_t rfl ?_
  refine g_seq ?_
  refine g_region ?_
  refine s_y (y_move rfl) rfl rfl rfl rfl ?_
  refine s_y (y_eql_t rfl rfl (by decide)) rfl rfl rfl rfl ?_
  refine s_y (y_move rfl) rfl rfl rfl rfl ?_
  refine s_tr (t_call rfl rfl ent_22 (fun w h => awakeE_t w)) rfl rfl rfl rfl (fun _ _ => ?_)
  refine s_y (y_pick_t rfl rfl) rfl rfl rfl rfl ?_
  refine s_y (y_assign rfl) rfl rfl rfl rfl ?_
  refine s_nil ?_
  refine g_then ?_
  refine g_ret ?_
  refine g_thenr ?_
  exact g_end trivial (fun a w ha hq_ => res1 ha rfl rfl  w) (fun w h => ⟨rfl, h.below⟩)

theorem EditsRepeats_law (w : World) (v : Value) (a : List Int) (v' : Value) (b : List Int) (by_ : Int) (ha : RdV (Value.int .i64) w v a) (hal : a.length ≤ maxLen) (_ : ∀ x ∈ a, (Lit.int .i64 x).wf = true) (hb : RdV (Value.int .i64) w v' b) (hbl : b.length ≤ maxLen) (_ : ∀ x ∈ b, (Lit.int .i64 x).wf = true) (_ : (Lit.int .i64 by_).wf = true) : Calls Try.prog 16 [v, v', .int .i64 by_].toArray w fun e w' => e = .returned (.bool (true)) ∧ Below w.heap.size w w' := by
  by_cases h : melB a = true ∧ melB b = true
  · exact EditsRepeats_ok w v v' a b by_ ha hb h.1 h.2
  · exact EditsRepeats_no w v v' a b by_ ha hb (by unfold maxLen at hal; omega) (by unfold maxLen at hbl; omega) h

end Go.Proofs.Ytnnpdgegejklpaa
