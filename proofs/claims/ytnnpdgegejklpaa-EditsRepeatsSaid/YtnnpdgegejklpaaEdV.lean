/- edits: Clone, list, Equal, awake, Melody, Equal of pairs; OverWay. -/
import Derived.Test.YtnnpdgegejklpaaEdE
import Derived.Test.YtnnpdgegejklpaaEdU
import Derived.Test.YtnnpdgegejklpaaOvWay
import Derived.Test.YtnnpdgegejklpaaSxArr
import Derived.Test.YtnnpdgegejklpaaSxApp
namespace Go.Proofs.Ytnnpdgegejklpaa
open Go.RowKit Go.Sx Go.WideMaps
set_option linter.unusedVariables false
set_option linter.unusedSimpArgs false
set_option maxRecDepth 100000
set_option maxHeartbeats 4000000

private theorem sle_46 : Try.prog.underlying 46 = some (.slice (Try.prog.elem 46)) := by kernel_rfl
private theorem inf_3 : ∃ ie, Try.prog.info? 3 = some ie ∧ ie.zero = some (.int .i64 0) ∧ ie.size = 1 ∧ ie.bytes = 8 := info_of (by kernel_rfl) (by kernel_rfl)
private theorem ent_59 : Enters Try.prog 59 := enters_of Try.func59 (by kernel_rfl) rfl
private theorem size_3 : (Try.prog.info? 3).map (·.size) = some 1 := by kernel_rfl
private theorem agg_3 : isAggB Try.prog 3 = some false := by kernel_rfl
private theorem bld_28_0_1_2 (x0 : Int) (x1 : Int) (x2 : Int) (w : World) : (Instr.build 28 #[(0, (.int .i64 x0)), (1, (.int .i64 x1)), (2, (.int .i64 x2))]).run Try.prog w = .ok (.agg #[(.int .i64 x0), (.int .i64 x1), (.int .i64 x2)]) w := by kernel_rfl
private theorem ent_18 : Enters Try.prog 18 := enters_of Try.func18 (by kernel_rfl) rfl
private theorem sle_74 : Try.prog.underlying 74 = some (.slice (Try.prog.elem 74)) := by kernel_rfl
private theorem size_79 : (Try.prog.info? 79).map (·.size) = some 2 := by kernel_rfl
private theorem agg_79 : isAggB Try.prog 79 = some true := by kernel_rfl
private theorem ent_82 : Enters Try.prog 82 := enters_of Try.func82 (by kernel_rfl) rfl
private theorem ent_83 : Enters Try.prog 83 := enters_of Try.func83 (by kernel_rfl) rfl
private theorem bld_79_0_1 (x0 : Int) (x1 : Int) (w : World) : (Instr.build 79 #[(0, (.int .i64 x0)), (1, (.int .i64 x1))]).run Try.prog w = .ok (.agg #[(.int .i64 x0), (.int .i64 x1)]) w := by kernel_rfl
private theorem zero_79 : (Try.prog.info? 79).bind (·.zero) = some (.agg #[(.int .i64 0), (.int .i64 0)]) := by kernel_rfl
private theorem inf_79 : ∃ ie, Try.prog.info? 79 = some ie ∧ ie.zero = some (.agg #[(.int .i64 0), (.int .i64 0)]) ∧ ie.size = 2 ∧ ie.bytes = 16 := info_of (by kernel_rfl) (by kernel_rfl)
private theorem fia_79_0 (b off : Nat) (w : World) : (Instr.indexAt 79 (.pointer (some ⟨b, off, none⟩)) (.int .i64 0)).run Try.prog w = .ok (.pointer (some ⟨b, off + 0, none⟩)) w := by kernel_rfl
private theorem fia_79_1 (b off : Nat) (w : World) : (Instr.indexAt 79 (.pointer (some ⟨b, off, none⟩)) (.int .i64 1)).run Try.prog w = .ok (.pointer (some ⟨b, off + 1, none⟩)) w := by kernel_rfl
private theorem ent_84 : Enters Try.prog 84 := enters_of Try.func84 (by kernel_rfl) rfl

theorem costR_ok {a b : ByteArray} {pi po ps : Int} (ha : a.size ≤ 12) (hb : b.size ≤ 12) (hp : okP pi po ps) : costR a b pi po ps = (D a b pi po ps a.size b.size, 0) := if_pos ⟨ha, hb, hp⟩
theorem costR_no {a b : ByteArray} {pi po ps : Int} (h : ¬ (a.size ≤ 12 ∧ b.size ≤ 12 ∧ okP pi po ps)) : costR a b pi po ps = (0, 2) := if_neg h
theorem costR_err {a b : ByteArray} {pi po ps : Int} : (costR a b pi po ps).2 = 0 ↔ (a.size ≤ 12 ∧ b.size ≤ 12 ∧ okP pi po ps) := by
  unfold costR; split <;> simp [*]
theorem bt_nat {s : ByteArray} {i : Nat} (h : i < s.size) : bt s i = ((s.data.toList[i]'(by simpa using h)).toNat : Int) := by
  unfold bt
  rw [Int.toNat_natCast, dif_pos h]
  rfl
theorem costR_awake : costR (⟨#[97]⟩ : ByteArray) (⟨#[97, 98]⟩ : ByteArray) 2 3 4 = (2, 0) := by
  rw [costR_ok (by decide) (by decide) (by decide)]
  have e0 : bt (⟨#[97]⟩ : ByteArray) ((0 : Nat) : Int) = 97 := by rw [bt_nat (by decide)]; rfl
  have e1 : bt (⟨#[97, 98]⟩ : ByteArray) ((0 : Nat) : Int) = 97 := by rw [bt_nat (by decide)]; rfl
  have e2 : bt (⟨#[97, 98]⟩ : ByteArray) ((1 : Nat) : Int) = 98 := by rw [bt_nat (by decide)]; rfl
  have e : D (⟨#[97]⟩ : ByteArray) (⟨#[97, 98]⟩ : ByteArray) 2 3 4 1 2 = 2 := by
    unfold D
    generalize hx : (fun k : Nat => bt (⟨#[97]⟩ : ByteArray) k) = x
    generalize hy : (fun k : Nat => bt (⟨#[97, 98]⟩ : ByteArray) k) = y
    have x0 : x 0 = 97 := by rw [← hx]; exact e0
    have y0 : y 0 = 97 := by rw [← hy]; exact e1
    have y1 : y 1 = 98 := by rw [← hy]; exact e2
    have h00 := EM.C_00 x y 2 3 4
    have h01 := EM.C_0s x y 2 3 4 0
    have h02 := EM.C_0s x y 2 3 4 1
    have h10 := EM.C_s0 x y 2 3 4 0
    have h11 := EM.C_ss x y 2 3 4 0 0
    have h12 := EM.C_ss x y 2 3 4 0 1
    simp only [x0, y0, y1, Nat.zero_add, Nat.reduceAdd] at h01 h02 h10 h11 h12
    rw [if_pos trivial] at h11
    rw [if_neg (by decide)] at h12
    omega
  exact congrArg (fun z => (z, (0 : Int))) e

theorem rdI_take {xs : List Int} {k : Nat} (h : k < xs.length) : xs.take (k + 1) = xs.take k ++ [rdI xs (k : Int)] := by
  rw [List.take_succ_eq_append_getElem h]
  simp [rdI_nat, List.getD_eq_getElem?_getD, h]


theorem Clone_nil (w : World) (n c : Nat) :
    Calls Try.prog 59 [.slice none n c].toArray w fun e w' => ∃ x : Value × List (Nat × Obj), (OwnV (Value.int .i64) x.1 ([] : List Int) x.2 ∧ ∃ W : World, ∀ p ∈ x.2, W.heap[p.1]? = some p.2) ∧ e = .returned (x.1) ∧ Hq w w x.2 w' := by
  refine enter (N := 8) Try.func59 rfl rfl rfl ?_
  refine g_seq ?_
  refine g_region ?_
  refine s_y (y_assign rfl) rfl rfl rfl rfl ?_
  refine s_nil ?_
  refine g_then ?_
  refine g_seq ?_
  refine g_seq ?_
  refine g_region ?_
  refine s_y (y_move rfl) rfl rfl rfl rfl ?_
  refine s_y (y_eqnil rfl rfl sle_46 (fun w => by kernel_rfl)) rfl rfl rfl rfl ?_
  refine s_nil ?_
  refine g_then ?_
  refine g_cond_t rfl ?_
  refine g_seq ?_
  refine g_region ?_
  refine s_y (y_assign rfl) rfl rfl rfl rfl ?_
  refine s_nil ?_
  refine g_then ?_
  refine g_ret ?_
  refine g_thenr ?_
  exact g_end trivial (fun a w ha hq_ => res1 ha rfl rfl  w) (fun w h => ⟨(_, []), ⟨OwnV.nil, w, (h.hand (List.nil_sublist _)).at_⟩, rfl, h.hand (List.nil_sublist _)⟩)

theorem Clone_some (w : World) (a : Addr) (n c : Nat) (xs : List Int) (hv : RdV (Value.int .i64) w (.slice (some a) n c) xs) (hl : xs.length ≤ 1000000) :
    Calls Try.prog 59 [.slice (some a) n c].toArray w fun e w' => ∃ x : Value × List (Nat × Obj), (OwnV (Value.int .i64) x.1 xs x.2 ∧ ∃ W : World, ∀ p ∈ x.2, W.heap[p.1]? = some p.2) ∧ e = .returned (x.1) ∧ Hq w w x.2 w' := by
  obtain ⟨ie3, hi3⟩ := inf_3
  refine enter (N := 8) Try.func59 rfl rfl rfl ?_
  refine g_seq ?_
  refine g_region ?_
  refine s_y (y_assign rfl) rfl rfl rfl rfl ?_
  refine s_nil ?_
  refine g_then ?_
  refine g_seq ?_
  refine g_seq ?_
  refine g_region ?_
  refine s_y (y_move rfl) rfl rfl rfl rfl ?_
  refine s_y (y_eqnil rfl rfl sle_46 (fun w => by kernel_rfl)) rfl rfl rfl rfl ?_
  refine s_nil ?_
  refine g_then ?_
  refine g_cond_f rfl ?_
  refine g_skip ?_
  refine g_then ?_
  refine g_seq ?_
  refine g_region ?_
  refine s_tr (t_build0 (enc := (Value.int .i64)) Try.underlying46 hi3.1) rfl rfl rfl rfl (fun be hbe => ?_)
  have hok1 : (SV.own be 0 []).ok 1 0 (List.map (Value.int .i64) []) := ⟨Nat.le_refl _, Nat.zero_le _, rfl, rfl⟩
  refine s_y (y_move rfl) rfl rfl rfl rfl ?_
  refine s_tr (t_appendR0 (enc := (Value.int .i64)) (sv := (SV.own be 0 [])) (xs := []) (ys := xs) (n := 0)  _ rfl rfl rfl hok1 Try.underlying46 hi3.1 hi3.2.1 hi3.2.2.1 hi3.2.2.2 rfl (fun w h => (hv.below h.below)) (fun _ => rfl) (by omega) (by unfold maxLen; omega)) rfl rfl rfl rfl (fun y5 hok4 => ?_)
  obtain ⟨sv2, gs3⟩ := y5
  refine s_y (y_assign rfl) rfl rfl rfl rfl ?_
  refine s_nil ?_
  refine g_then ?_
  refine g_ret ?_
  exact g_end trivial (fun a w ha hq_ => res1 ha rfl rfl  w) (fun w h => ⟨(_, sv2.mem 3 ((([]) ++ xs).map (Value.int .i64))), ⟨(OwnV.sv hok4), w, (h.hand (sub_here (sv2.mem 3 ((([]) ++ xs).map (Value.int .i64))) _)).at_⟩, rfl, h.hand (sub_here (sv2.mem 3 ((([]) ++ xs).map (Value.int .i64))) _)⟩)

theorem Clone_any (w : World) (v : Value) (xs : List Int) (hv : RdV (Value.int .i64) w v xs) (hl : xs.length ≤ 1000000) : Calls Try.prog 59 [v].toArray w fun e w' => ∃ x : Value × List (Nat × Obj), (OwnV (Value.int .i64) x.1 xs x.2 ∧ ∃ W : World, ∀ p ∈ x.2, W.heap[p.1]? = some p.2) ∧ e = .returned (x.1) ∧ Hq w w x.2 w' := by
  obtain ⟨A, c, rfl, hc, hr⟩ := id hv
  cases A with
  | none =>
    have : xs = [] := by
      cases xs with
      | nil => rfl
      | cons x xs => obtain ⟨ad, h, _⟩ := hr 0 x rfl; cases h
    subst this
    exact Clone_nil w _ c
  | some a => exact Clone_some w a _ c xs hv hl

theorem list_any (w : World) (v : Value) (xs : List Int) (hv : RdV (Value.int .i64) w v xs) :
    Calls Try.prog 51 [v].toArray w fun e w' => ∃ x : Value × List (Nat × Obj), (OwnV (Value.int .i64) x.1 (xs.take 16) x.2 ∧ ∃ W : World, ∀ p ∈ x.2, W.heap[p.1]? = some p.2) ∧ e = .returned (x.1) ∧ Hq w w x.2 w' := by
  have e16 : (if (16 : Int) < ((xs.length : Nat) : Int) then (16 : Int) else ((xs.length : Nat) : Int)) = ((min xs.length 16 : Nat) : Int) := by split <;> omega
  obtain ⟨ie3_, hi3_⟩ := inf_3
  obtain ⟨v7, hc7, hr7⟩ := run_cut_hi (P := Try.prog) hv Try.underlying46 hi3_.1 hi3_.2.2.1 (min xs.length 16) (by omega)
  refine enter (N := 9) Try.func51 rfl rfl rfl ?_
  refine g_seq ?_
  refine g_region ?_
  refine s_y (y_assign rfl) rfl rfl rfl rfl ?_
  refine s_nil ?_
  refine g_then ?_
  refine g_seq ?_
  refine g_region ?_
  refine s_y (y_move rfl) rfl rfl rfl rfl ?_
  refine s_y (y_move rfl) rfl rfl rfl rfl ?_
  refine s_y (y_lenV (n := xs.length) rfl (by obtain ⟨A, c, h1, _⟩ := hv; exact ⟨A, c, h1⟩) sle_46) rfl rfl rfl rfl ?_
  refine s_y (y_min rfl rfl) rfl rfl rfl rfl ?_
  rw [e16]
  refine s_y (y_slice rfl none_ev (some_ev rfl) hc7 sle_46) rfl rfl rfl rfl ?_
  refine s_tr (t_callm rfl rfl ent_59 (fun w h => Clone_any w v7 (xs.take (min xs.length 16)) (hr7 w (hv.below h.below)) (by rw [List.length_take]; omega))) rfl rfl rfl rfl (fun x2 hx3 => ?_)
  obtain ⟨vo1, mo1⟩ := x2
  obtain ⟨hOo1, hEo1⟩ := hx3
  refine s_y (y_assign rfl) rfl rfl rfl rfl ?_
  refine s_nil ?_
  refine g_then ?_
  refine g_ret ?_
  rw [show xs.take 16 = xs.take (min xs.length 16) from by rcases Nat.le_total xs.length 16 with h | h; rw [Nat.min_eq_left h, List.take_length, List.take_of_length_le h]; rw [Nat.min_eq_right h]]
  exact g_end trivial (fun a w ha hq_ => res1 ha rfl rfl  w) (fun w h => ⟨(_, mo1), ⟨hOo1, w, (h.hand (sub_here mo1 _)).at_⟩, rfl, h.hand (sub_here mo1 _)⟩)

theorem Equal_any (w : World) (v v' : Value) (xs ys : List Int) (hv : RdV (Value.int .i64) w v xs) (hv' : RdV (Value.int .i64) w v' ys) (hl : xs.length ≤ 1000000) :
    Calls Try.prog 33 [v, v'].toArray w fun e w' => e = .returned (.bool (decide (xs = ys))) ∧ Below w.heap.size w w' := by
  refine enter (N := 26) Try.func33 rfl rfl rfl ?_
  refine g_seq ?_
  refine g_region ?_
  refine s_y (y_assign rfl) rfl rfl rfl rfl ?_
  refine s_nil ?_
  refine g_then ?_
  refine g_seq ?_
  refine g_seq ?_
  refine g_region ?_
  refine s_y (y_move rfl) rfl rfl rfl rfl ?_
  refine s_y (y_lenV (n := xs.length) rfl (by obtain ⟨A, c, h1, _⟩ := hv; exact ⟨A, c, h1⟩) sle_46) rfl rfl rfl rfl ?_
  refine s_y (y_move rfl) rfl rfl rfl rfl ?_
  refine s_y (y_lenV (n := ys.length) rfl (by obtain ⟨A, c, h1, _⟩ := hv'; exact ⟨A, c, h1⟩) sle_46) rfl rfl rfl rfl ?_
  refine s_y (y_neq rfl rfl) rfl rfl rfl rfl ?_
  refine s_nil ?_
  refine g_then ?_
  refine g_cond rfl (fun cq1 => ?_) (fun cq1 => ?_)
  · (try simp at cq1)
    refine g_seq ?_
    refine g_region ?_
    refine s_y (y_assign rfl) rfl rfl rfl rfl ?_
    refine s_nil ?_
    refine g_then ?_
    refine g_ret ?_
    refine g_thenr ?_
    rw [show decide (xs = ys) = false from decide_eq_false fun h => by subst h; first | omega | contradiction]
    exact g_end trivial (fun a w ha hq_ => res1 ha rfl rfl  w) (fun w h => ⟨rfl, h.below⟩)
  · (try simp at cq1)
    have hll : xs.length = ys.length := by omega
    refine g_skip ?_
    refine g_then ?_
    refine g_seq ?_
    refine g_seq ?_
    refine g_region ?_
    refine s_y (y_move rfl) rfl rfl rfl rfl ?_
    refine s_y (y_lenV (n := xs.length) rfl (by obtain ⟨A, c, h1, _⟩ := hv; exact ⟨A, c, h1⟩) sle_46) rfl rfl rfl rfl ?_
    refine s_y (y_move rfl) rfl rfl rfl rfl ?_
    refine s_nil ?_
    refine g_then ?_
    refine g_block ?_
    refine g_loop (fun (i : Nat) act W => (i ≤ xs.length ∧ ∀ j : Nat, j < i → rdI xs (j : Int) = rdI ys (j : Int)) ∧ ∃ (w1 : World), Has 26 [] [(0, v), (1, v'), (12, .int .i64 (xs.length : Nat)), (13, .int .i64 (i : Int))] act ∧ Hp w w1 ([]) W) (fun i => xs.length - i) 0 (fun act W ha hw => ⟨⟨by omega, fun j hj => by omega⟩, W, ha.weak (sub_get ⟨rfl, rfl, rfl, rfl, trivial⟩), hw.toHq.lookSub (List.Sublist.refl _)⟩) ?_
    intro i act W ⟨hb_i, w1, ha, hw⟩
    refine g_go ha hw ?_
    clear ha hw act W
    refine g_seq ?_
    refine g_region ?_
    refine s_y (y_lss rfl rfl) rfl rfl rfl rfl ?_
    refine s_nil ?_
    refine g_then ?_
    refine g_seq ?_
    refine g_cond rfl (fun cq2 => ?_) (fun cq2 => ?_)
    · (try simp at cq2)
      refine g_skip ?_
      refine g_then ?_
      refine g_seq ?_
      refine g_block ?_
      refine g_seq ?_
      refine g_region ?_
      refine s_y (y_move rfl) rfl rfl rfl rfl ?_
      refine s_y (y_assign rfl) rfl rfl rfl rfl ?_
      refine s_nil ?_
      refine g_then ?_
      refine g_seq ?_
      refine g_draw 9 (by kernel_rfl) ?_
      refine j_p (i := 0) rfl (y_move rfl) (by kernel_rfl) (by kernel_rfl) (by kernel_rfl) rfl rfl rfl rfl rfl (.inr (fun _ h => h)) ?_
      refine j_p (i := 1) rfl (y_move rfl) (by kernel_rfl) (by kernel_rfl) (by kernel_rfl) rfl rfl rfl rfl rfl (.inr (fun _ h => h)) ?_
      refine j_p (i := 2) rfl (y_idxV (enc := (Value.int .i64)) rfl rfl hv Try.underlying46 size_3 (by omega) (by omega)) (by kernel_rfl) (by kernel_rfl) (by kernel_rfl) rfl rfl rfl rfl rfl (.inr (fun _ h => h)) ?_
      refine j_l (i := 3) rfl (y_ldV (enc := (Value.int .i64)) (xs := xs) (fun w h => hv.rdl.below h.below) rfl agg_3 (rdI_at (by omega) (by omega))) (by kernel_rfl) (by kernel_rfl) (by kernel_rfl) (by kernel_rfl) rfl rfl rfl rfl rfl (.inr (fun _ h => h)) ?_
      refine j_p (i := 4) rfl (y_move rfl) (by kernel_rfl) (by kernel_rfl) (by kernel_rfl) rfl rfl rfl rfl rfl (.inr (fun _ h => h)) ?_
      refine j_p (i := 5) rfl (y_move rfl) (by kernel_rfl) (by kernel_rfl) (by kernel_rfl) rfl rfl rfl rfl rfl (.inr (fun _ h => h)) ?_
      refine j_p (i := 6) rfl (y_idxV (enc := (Value.int .i64)) rfl rfl hv' Try.underlying46 size_3 (by omega) (by omega)) (by kernel_rfl) (by kernel_rfl) (by kernel_rfl) rfl rfl rfl rfl rfl (.inr (fun _ h => h)) ?_
      refine j_l (i := 7) rfl (y_ldV (enc := (Value.int .i64)) (xs := ys) (fun w h => hv'.rdl.below h.below) rfl agg_3 (rdI_at (by omega) (by omega))) (by kernel_rfl) (by kernel_rfl) (by kernel_rfl) (by kernel_rfl) rfl rfl rfl rfl rfl (.inr (fun _ h => h)) ?_
      refine j_p (i := 8) rfl (y_neq rfl rfl) (by kernel_rfl) (by kernel_rfl) (by kernel_rfl) rfl rfl rfl rfl rfl (.inr (fun _ h => h)) ?_
      refine j_nil (by kernel_rfl) ?_
      refine g_then ?_
      refine g_cond rfl (fun cq3 => ?_) (fun cq3 => ?_)
      · (try simp at cq3)
        refine g_seq ?_
        refine g_region ?_
        refine s_y (y_assign rfl) rfl rfl rfl rfl ?_
        refine s_nil ?_
        refine g_then ?_
        refine g_ret ?_
        refine g_inbr ?_
        refine g_thenr ?_
        refine g_thenr ?_
        refine g_inbr ?_
        refine g_thenr ?_
        rw [show decide (xs = ys) = false from decide_eq_false fun h => by subst h; first | omega | contradiction]
        exact g_end trivial (fun a w ha hq_ => res1 ha rfl rfl  w) (fun w h => ⟨rfl, h.below⟩)
      · (try simp at cq3)
        refine g_skip ?_
        refine g_inb ?_
        refine g_then ?_
        refine g_region ?_
        refine s_y (y_add rfl rfl (by omega) (by omega)) rfl rfl rfl rfl ?_
        refine s_y (y_move rfl) rfl rfl rfl rfl ?_
        refine s_nil ?_
        refine g_then ?_
        have hall : ∀ j : Nat, j < i + 1 → rdI xs (j : Int) = rdI ys (j : Int) := by
          intro k hk
          rcases Nat.lt_or_ge k i with h | h
          · exact hb_i.2 k h
          · have : k = i := by omega
            subst this; assumption
        exact fun act W ha hw => ⟨i + 1, by omega, ⟨by omega, hall⟩, W, ha.weak (sub_get ⟨rfl, rfl, rfl, rfl, trivial⟩), hw.toHq.lookSub (List.Sublist.refl _)⟩
    · (try simp at cq2)
      refine g_exit ?_
      refine g_thenx ?_
      refine g_thenx ?_
      refine g_inbx ?_
      refine g_then ?_
      refine g_seq ?_
      refine g_region ?_
      refine s_y (y_assign rfl) rfl rfl rfl rfl ?_
      refine s_nil ?_
      refine g_then ?_
      refine g_ret ?_
      rw [show decide (xs = ys) = true from decide_eq_true (rdI_ext hll fun j hj => hb_i.2 j (by omega))]
      exact g_end trivial (fun a w ha hq_ => res1 ha rfl rfl  w) (fun w h => ⟨rfl, h.below⟩)

theorem awakeE_t (w : World) :
    Calls Try.prog 22 [].toArray w fun e w' => e = .returned (.bool (true)) ∧ Below w.heap.size w w' := by
  refine enter (N := 14) Try.func22 rfl rfl rfl ?_
  refine g_seq ?_
  refine g_region ?_
  refine s_y (y_assign rfl) rfl rfl rfl rfl ?_
  refine s_nil ?_
  refine g_then ?_
  refine g_seq ?_
  refine g_region ?_
  refine s_y (y_build (vs := [(0, _), (1, _), (2, _)]) rfl rfl (fun w => bld_28_0_1_2 _ _ _ w)) rfl rfl rfl rfl ?_
  refine s_tr (t_call rfl rfl ent_18 (fun w h => by have h_ := Cost_any w (⟨#[97]⟩ : ByteArray) (⟨#[97, 98]⟩ : ByteArray) 2 3 4; rwa [costR_awake] at h_)) rfl rfl rfl rfl (fun _ _ => ?_)
  refine s_y (y_move rfl) rfl rfl rfl rfl ?_
  refine s_y (y_extract rfl rfl) rfl rfl rfl rfl ?_
  refine s_y (y_extract rfl rfl) rfl rfl rfl rfl ?_
  refine s_y (y_assign rfl) rfl rfl rfl rfl ?_
  refine s_y (y_assign rfl) rfl rfl rfl rfl ?_
  refine s_nil ?_
  refine g_then ?_
  refine g_seq ?_
  refine g_region ?_
  refine s_y (y_move rfl) rfl rfl rfl rfl ?_
  refine s_y (y_eql_t rfl rfl (by decide)) rfl rfl rfl rfl ?_
  refine s_y (y_move rfl) rfl rfl rfl rfl ?_
  refine s_y (y_move rfl) rfl rfl rfl rfl ?_
  refine s_y (y_eql_t rfl rfl (by decide)) rfl rfl rfl rfl ?_
  refine s_y (y_pick_t rfl rfl) rfl rfl rfl rfl ?_
  refine s_y (y_assign rfl) rfl rfl rfl rfl ?_
  refine s_nil ?_
  refine g_then ?_
  refine g_ret ?_
  exact g_end trivial (fun a w ha hq_ => res1 ha rfl rfl  w) (fun w h => ⟨rfl, h.below⟩)

theorem mel_parts (xs : List Int) : melB xs = (xs.all ml1 && (decide (1 ≤ xs.length) && decide (xs.length ≤ 12))) := by
  unfold melB
  rw [Bool.and_comm]
  rfl
theorem mel_bad {xs : List Int} {i : Nat} (hi : i < xs.length) (h : ¬ (-1000 ≤ rdI xs (i : Int) ∧ rdI xs (i : Int) ≤ 1000)) : melB xs = false :=
  Bool.eq_false_iff.2 fun hc => h ((melB_true.1 hc).2 _ (rdI_mem (by omega) (by omega)))
theorem mel_of {xs : List Int} (h : ∀ k : Nat, k < xs.length → -1000 ≤ rdI xs (k : Int) ∧ rdI xs (k : Int) ≤ 1000) : melB xs = decide (1 ≤ xs.length ∧ xs.length ≤ 12) := by
  rw [Bool.eq_iff_iff, melB_true, decide_eq_true_iff]
  refine ⟨fun h => h.1, fun h1 => ⟨h1, fun x hx => ?_⟩⟩
  obtain ⟨k, hk, rfl⟩ := List.mem_iff_getElem.1 hx
  have := h k hk
  rwa [show rdI xs (k : Int) = xs[k] by simp [rdI_nat, List.getD_eq_getElem?_getD, hk]] at this

theorem RMelody_any (w : World) (v : Value) (xs : List Int) (hv : RdV (Value.int .i64) w v xs) (hl : xs.length ≤ 9223372036854775807) :
    Calls Try.prog 53 [v].toArray w fun e w' => e = .returned (.bool (melB xs)) ∧ Below w.heap.size w w' := by
  refine enter (N := 26) Try.func53 rfl rfl rfl ?_
  refine g_seq ?_
  refine g_region ?_
  refine s_y (y_assign rfl) rfl rfl rfl rfl ?_
  refine s_nil ?_
  refine g_then ?_
  refine g_seq ?_
  refine g_seq ?_
  refine g_region ?_
  refine s_y (y_move rfl) rfl rfl rfl rfl ?_
  refine s_y (y_lenV (n := xs.length) rfl (by obtain ⟨A, c, h1, _⟩ := hv; exact ⟨A, c, h1⟩) sle_46) rfl rfl rfl rfl ?_
  refine s_y (y_move rfl) rfl rfl rfl rfl ?_
  refine s_nil ?_
  refine g_then ?_
  refine g_block ?_
  refine g_loop (fun (i : Nat) act W => i ≤ xs.length ∧ ∃ (w1 : World), (∀ k : Nat, k < i → -1000 ≤ rdI xs (k : Int) ∧ rdI xs (k : Int) ≤ 1000) ∧ Has 26 [] [(0, v), (5, v), (6, .int .i64 (xs.length : Nat)), (7, .int .i64 (i : Int))] act ∧ Hp w w1 ([]) W) (fun i => xs.length - i) 0 (fun act W ha hw => ⟨by omega, W, (by intro k hk; omega), ha.weak (sub_get ⟨rfl, rfl, rfl, rfl, trivial⟩), hw.toHq.lookSub (List.Sublist.refl _)⟩) ?_
  intro i act W ⟨hb_i, w1, hall, ha, hw⟩
  refine g_go ha hw ?_
  clear ha hw act W
  refine g_seq ?_
  refine g_region ?_
  refine s_y (y_lss rfl rfl) rfl rfl rfl rfl ?_
  refine s_nil ?_
  refine g_then ?_
  refine g_seq ?_
  refine g_cond rfl (fun cq1 => ?_) (fun cq1 => ?_)
  · (try simp at cq1)
    refine g_skip ?_
    refine g_then ?_
    refine g_seq ?_
    refine g_block ?_
    refine g_seq ?_
    refine g_region ?_
    refine s_y (y_idxV (enc := (Value.int .i64)) rfl rfl hv Try.underlying46 size_3 (by omega) (by omega)) rfl rfl rfl rfl ?_
    refine s_y (y_ldV (enc := (Value.int .i64)) (xs := xs) (fun w h => hv.rdl.below h.below) rfl agg_3 (rdI_at (by omega) (by omega))) rfl rfl rfl rfl ?_
    refine s_y (y_assign rfl) rfl rfl rfl rfl ?_
    refine s_nil ?_
    refine g_then ?_
    refine g_seq ?_
    refine g_region ?_
    refine s_y (y_move rfl) rfl rfl rfl rfl ?_
    refine s_y (y_lss rfl rfl) rfl rfl rfl rfl ?_
    refine s_y (y_move rfl) rfl rfl rfl rfl ?_
    refine g_bool 13 rfl (fun cq2 => ?_) (fun cq2 => ?_)
    · (try simp at cq2)
      refine s_no rfl rfl rfl ?_
      refine s_no rfl rfl rfl ?_
      refine s_y (y_pick_t rfl rfl) rfl rfl rfl rfl ?_
      refine s_nil ?_
      refine g_then ?_
      refine g_cond_t rfl ?_
      refine g_seq ?_
      refine g_region ?_
      refine s_y (y_assign rfl) rfl rfl rfl rfl ?_
      refine s_nil ?_
      refine g_then ?_
      refine g_ret ?_
      refine g_inbr ?_
      refine g_thenr ?_
      refine g_thenr ?_
      refine g_inbr ?_
      refine g_thenr ?_
      rw [show melB xs = false from by first | exact mel_bad (i := i) (by omega) (by omega) | (rw [mel_of fun k hk => hall k (by omega)]; first | exact decide_eq_false (by omega) | exact decide_eq_decide.2 (by omega))]
      exact g_end trivial (fun a w ha hq_ => res1 ha rfl rfl  w) (fun w h => ⟨rfl, h.below⟩)
    · (try simp at cq2)
      refine s_y (y_move rfl) rfl rfl rfl rfl ?_
      refine s_y (y_gtr rfl rfl) rfl rfl rfl rfl ?_
      refine s_y (y_pick_f rfl rfl) rfl rfl rfl rfl ?_
      refine s_nil ?_
      refine g_then ?_
      refine g_cond rfl (fun cq3 => ?_) (fun cq3 => ?_)
      · (try simp at cq3)
        refine g_seq ?_
        refine g_region ?_
        refine s_y (y_assign rfl) rfl rfl rfl rfl ?_
        refine s_nil ?_
        refine g_then ?_
        refine g_ret ?_
        refine g_inbr ?_
        refine g_thenr ?_
        refine g_thenr ?_
        refine g_inbr ?_
        refine g_thenr ?_
        rw [show melB xs = false from by first | exact mel_bad (i := i) (by omega) (by omega) | (rw [mel_of fun k hk => hall k (by omega)]; first | exact decide_eq_false (by omega) | exact decide_eq_decide.2 (by omega))]
        exact g_end trivial (fun a w ha hq_ => res1 ha rfl rfl  w) (fun w h => ⟨rfl, h.below⟩)
      · (try simp at cq3)
        refine g_skip ?_
        refine g_inb ?_
        refine g_then ?_
        refine g_region ?_
        refine s_y (y_add rfl rfl (by omega) (by omega)) rfl rfl rfl rfl ?_
        refine s_y (y_move rfl) rfl rfl rfl rfl ?_
        refine s_nil ?_
        refine g_then ?_
        exact fun act W ha hw => ⟨i + 1, by omega, by omega, W, (by intro k hk; rcases Nat.lt_or_ge k i with c | c; exact hall k c; rw [show k = i by omega]; omega), ha.weak (sub_get ⟨rfl, rfl, rfl, rfl, trivial⟩), hw.toHq.lookSub (List.Sublist.refl _)⟩
  · (try simp at cq1)
    refine g_exit ?_
    refine g_thenx ?_
    refine g_thenx ?_
    refine g_inbx ?_
    refine g_then ?_
    refine g_seq ?_
    refine g_region ?_
    refine s_y (y_move rfl) rfl rfl rfl rfl ?_
    refine s_y (y_lenV (n := xs.length) rfl (by obtain ⟨A, c, h1, _⟩ := hv; exact ⟨A, c, h1⟩) sle_46) rfl rfl rfl rfl ?_
    refine s_y (y_geq rfl rfl) rfl rfl rfl rfl ?_
    refine s_y (y_move rfl) rfl rfl rfl rfl ?_
    refine g_bool 21 rfl (fun cq4 => ?_) (fun cq4 => ?_)
    · (try simp at cq4)
      refine s_y (y_move rfl) rfl rfl rfl rfl ?_
      refine s_y (y_lenV (n := xs.length) rfl (by obtain ⟨A, c, h1, _⟩ := hv; exact ⟨A, c, h1⟩) sle_46) rfl rfl rfl rfl ?_
      refine s_y (y_leq rfl rfl) rfl rfl rfl rfl ?_
      refine s_y (y_pick_t rfl rfl) rfl rfl rfl rfl ?_
      refine s_y (y_assign rfl) rfl rfl rfl rfl ?_
      refine s_nil ?_
      refine g_then ?_
      refine g_ret ?_
      rw [show melB xs = decide (((xs.length : Nat) : Int) ≤ 12) from by first | exact mel_bad (i := i) (by omega) (by omega) | (rw [mel_of fun k hk => hall k (by omega)]; first | exact decide_eq_false (by omega) | exact decide_eq_decide.2 (by omega))]
      exact g_end trivial (fun a w ha hq_ => res1 ha rfl rfl  w) (fun w h => ⟨rfl, h.below⟩)
    · (try simp at cq4)
      refine s_no rfl rfl rfl ?_
      refine s_no rfl rfl rfl ?_
      refine s_no rfl rfl rfl ?_
      refine s_y (y_pick_f rfl rfl) rfl rfl rfl rfl ?_
      refine s_y (y_assign rfl) rfl rfl rfl rfl ?_
      refine s_nil ?_
      refine g_then ?_
      refine g_ret ?_
      rw [show melB xs = false from by first | exact mel_bad (i := i) (by omega) (by omega) | (rw [mel_of fun k hk => hall k (by omega)]; first | exact decide_eq_false (by omega) | exact decide_eq_decide.2 (by omega))]
      exact g_end trivial (fun a w ha hq_ => res1 ha rfl rfl  w) (fun w h => ⟨rfl, h.below⟩)

theorem EqualP_t (w : World) (v v' : Value) (xs : List (Int × Int)) (hv : RdP w v xs) (hv' : RdP w v' xs) (hl : xs.length ≤ 1000) :
    Calls Try.prog 55 [v, v'].toArray w fun e w' => e = .returned (.bool (true)) ∧ Below w.heap.size w w' := by
  obtain ⟨ie3, hi3⟩ := inf_3
  refine enter (N := 26) Try.func55 rfl rfl rfl ?_
  refine g_seq ?_
  refine g_region ?_
  refine s_y (y_assign rfl) rfl rfl rfl rfl ?_
  refine s_nil ?_
  refine g_then ?_
  refine g_seq ?_
  refine g_seq ?_
  refine g_region ?_
  refine s_y (y_move rfl) rfl rfl rfl rfl ?_
  refine s_y (y_lenV (n := xs.length) rfl (by obtain ⟨A, c, h1, _⟩ := hv; exact ⟨A, c, h1⟩) sle_74) rfl rfl rfl rfl ?_
  refine s_y (y_move rfl) rfl rfl rfl rfl ?_
  refine s_y (y_lenV (n := xs.length) rfl (by obtain ⟨A, c, h1, _⟩ := hv'; exact ⟨A, c, h1⟩) sle_74) rfl rfl rfl rfl ?_
  refine s_y (y_neq_f rfl rfl (rfl)) rfl rfl rfl rfl ?_
  refine s_nil ?_
  refine g_then ?_
  refine g_cond_f rfl ?_
  refine g_skip ?_
  refine g_then ?_
  refine g_seq ?_
  refine g_seq ?_
  refine g_region ?_
  refine s_y (y_move rfl) rfl rfl rfl rfl ?_
  refine s_y (y_lenV (n := xs.length) rfl (by obtain ⟨A, c, h1, _⟩ := hv; exact ⟨A, c, h1⟩) sle_74) rfl rfl rfl rfl ?_
  refine s_y (y_move rfl) rfl rfl rfl rfl ?_
  refine s_nil ?_
  refine g_then ?_
  refine g_block ?_
  refine g_loop (fun (i : Nat) act W => i ≤ xs.length ∧ ∃ (w1 : World), Has 26 [] [(0, v), (1, v'), (12, .int .i64 (xs.length : Nat)), (13, .int .i64 (i : Int))] act ∧ Hp w w1 ([]) W) (fun i => xs.length - i) 0 (fun act W ha hw => ⟨by omega, W, ha.weak (sub_get ⟨rfl, rfl, rfl, rfl, trivial⟩), hw.toHq.lookSub (List.Sublist.refl _)⟩) ?_
  intro i act W ⟨hb_i, w1, ha, hw⟩
  refine g_go ha hw ?_
  clear ha hw act W
  refine g_seq ?_
  refine g_region ?_
  refine s_y (y_lss rfl rfl) rfl rfl rfl rfl ?_
  refine s_nil ?_
  refine g_then ?_
  refine g_seq ?_
  refine g_cond rfl (fun cq1 => ?_) (fun cq1 => ?_)
  · (try simp at cq1)
    refine g_skip ?_
    refine g_then ?_
    refine g_seq ?_
    refine g_block ?_
    refine g_seq ?_
    refine g_region ?_
    refine s_y (y_move rfl) rfl rfl rfl rfl ?_
    refine s_y (y_assign rfl) rfl rfl rfl rfl ?_
    refine s_nil ?_
    refine g_then ?_
    refine g_seq ?_
    refine g_draw 9 (by kernel_rfl) ?_
    refine j_p (i := 0) rfl (y_move rfl) (by kernel_rfl) (by kernel_rfl) (by kernel_rfl) rfl rfl rfl rfl rfl (.inr (fun _ h => h)) ?_
    refine j_p (i := 1) rfl (y_move rfl) (by kernel_rfl) (by kernel_rfl) (by kernel_rfl) rfl rfl rfl rfl rfl (.inr (fun _ h => h)) ?_
    refine j_p (i := 2) rfl (y_idxP rfl rfl hv Try.underlying74 size_79 (by omega) (by omega)) (by kernel_rfl) (by kernel_rfl) (by kernel_rfl) rfl rfl rfl rfl rfl (.inr (fun _ h => h)) ?_
    refine j_l (i := 3) rfl (y_ldP (xs := xs) (fun w h => hv.rdl.below h.below) rfl agg_79 size_79 (rdP_at (by omega) (by omega))) (by kernel_rfl) (by kernel_rfl) (by kernel_rfl) (by kernel_rfl) rfl rfl rfl rfl rfl (.inr (fun _ h => h)) ?_
    refine j_p (i := 4) rfl (y_move rfl) (by kernel_rfl) (by kernel_rfl) (by kernel_rfl) rfl rfl rfl rfl rfl (.inr (fun _ h => h)) ?_
    refine j_p (i := 5) rfl (y_move rfl) (by kernel_rfl) (by kernel_rfl) (by kernel_rfl) rfl rfl rfl rfl rfl (.inr (fun _ h => h)) ?_
    refine j_p (i := 6) rfl (y_idxP rfl rfl hv' Try.underlying74 size_79 (by omega) (by omega)) (by kernel_rfl) (by kernel_rfl) (by kernel_rfl) rfl rfl rfl rfl rfl (.inr (fun _ h => h)) ?_
    refine j_l (i := 7) rfl (y_ldP (xs := xs) (fun w h => hv'.rdl.below h.below) rfl agg_79 size_79 (rdP_at (by omega) (by omega))) (by kernel_rfl) (by kernel_rfl) (by kernel_rfl) (by kernel_rfl) rfl rfl rfl rfl rfl (.inr (fun _ h => h)) ?_
    refine j_p (i := 8) rfl (y_neqP rfl rfl (fun w => by kernel_rfl) Try.underlying79 hi3.1 (by kernel_rfl) Try.underlying3 (by kernel_rfl)) (by kernel_rfl) (by kernel_rfl) (by kernel_rfl) rfl rfl rfl rfl rfl (.inr (fun _ h => h)) ?_
    refine j_nil (by kernel_rfl) ?_
    refine g_then ?_
    refine g_cond rfl (fun cq2 => ?_) (fun cq2 => ?_)
    · (try simp at cq2)
      try (simp at cq2)
    · (try simp at cq2)
      refine g_skip ?_
      refine g_inb ?_
      refine g_then ?_
      refine g_region ?_
      refine s_y (y_add rfl rfl (by omega) (by omega)) rfl rfl rfl rfl ?_
      refine s_y (y_move rfl) rfl rfl rfl rfl ?_
      refine s_nil ?_
      refine g_then ?_
      exact fun act W ha hw => ⟨i + 1, by omega, by omega, W, ha.weak (sub_get ⟨rfl, rfl, rfl, rfl, trivial⟩), hw.toHq.lookSub (List.Sublist.refl _)⟩
  · (try simp at cq1)
    refine g_exit ?_
    refine g_thenx ?_
    refine g_thenx ?_
    refine g_inbx ?_
    refine g_then ?_
    refine g_seq ?_
    refine g_region ?_
    refine s_y (y_assign rfl) rfl rfl rfl rfl ?_
    refine s_nil ?_
    refine g_then ?_
    refine g_ret ?_
    exact g_end trivial (fun a w ha hq_ => res1 ha rfl rfl  w) (fun w h => ⟨rfl, h.below⟩)

theorem Fd_in {a b : List Int} {p : Int × Int} (h0 : 0 ≤ p.1) (h1 : p.1 < a.length) (h2 : 0 ≤ p.2) (h3 : p.2 < b.length) : Fd a b (-1) ((b.length : Int) - 1) p = some (.int .i64 (ovP a b p.1 p.2)) := if_pos ⟨⟨h0, h1, h2, h3⟩, .inl (by omega)⟩
theorem Fd_out {a b : List Int} {p : Int × Int} (h : ¬ (p.1 < a.length ∧ p.2 < b.length)) : Fd a b (-1) ((b.length : Int) - 1) p = none := if_neg fun hd => h ⟨hd.1.2.1, hd.1.2.2.2⟩
theorem stL_ge {i j : Int} {k : Nat} (h : k < 3) (h0 : 0 ≤ i) (h1 : 0 ≤ j) (h2 : i ≤ 40) (h3 : j ≤ 40) : (0 ≤ (rdP (stL i j) (k : Int)).1 ∧ 0 ≤ (rdP (stL i j) (k : Int)).2) ∧ (rdP (stL i j) (k : Int)).1 ≤ 41 ∧ (rdP (stL i j) (k : Int)).2 ≤ 41 := by
  rcases stL_at (i := i) (j := j) h with e | e | e <;> rw [e] <;> simp only <;> omega
theorem y_lookF {N : Nat} {ds : List Deferred} {l : List (Nat × Value)} {w0 w1 : World} {m : List (Nat × Obj)} {dst : Option Tmp} {ty : TypeId} {pos : String} {aft : Array Edge} {gd : Option (Nat × Bool)} {mb clock : Nat} {es : Array MapEntry} {a b : List Int} {i j : Int} {xm xk : Operand} (h0 : 0 ≤ i) (h1 : i < a.length) (h2 : 0 ≤ j) (h3 : j < b.length) (h4 : i ≤ 50) (h5 : j ≤ 50) (hM : MapG kvp okp es (Fd a b (-1) ((b.length : Int) - 1))) (hm : ∀ w, Hp w0 w1 m w → w.heap[mb]? = some (.map es clock)) (hx : ev l xm = some (.map (some mb))) (hk : ev l xk = some (.agg #[.int .i64 i, .int .i64 j])) :
    Yv Try.prog N ds l (Hp w0 w1 m) ⟨dst, .lookup 93 xm xk false, ty, pos, aft, gd⟩ (.int .i64 (ovP a b i j)) := by
  have h_ := y_lookG (P := Try.prog) (N := N) (ds := ds) (l := l) (dst := dst) (ty := ty) (pos := pos) (aft := aft) (gd := gd) (k := (i, j)) pair_map hM hm hx hk rfl (okp_of (by simp only; omega) (by simp only; omega))
  rw [Fd_in h0 h1 h2 h3] at h_; exact h_

theorem OverWay_ok (w : World) (v v' : Value) (a b : List Int) (ha : RdV (Value.int .i64) w v a) (hb : RdV (Value.int .i64) w v' b) (hma : melB a = true) (hmb_ : melB b = true) :
    Calls Try.prog 52 [v, v'].toArray w fun e w' => ∃ x : Value × List (Nat × Obj), (OwnP x.1 (wayL a b) x.2 ∧ ∃ W : World, ∀ p ∈ x.2, W.heap[p.1]? = some p.2) ∧ e = .returned (.tuple #[x.1, .int .i64 0]) ∧ Hq w w x.2 w' := by
  obtain ⟨hal, hxa⟩ := melB_true.1 hma
  obtain ⟨hbl, hxb⟩ := melB_true.1 hmb_
  obtain ⟨ie79, hi79⟩ := inf_79
  obtain ⟨ie3, hi3⟩ := inf_3
  refine enter (N := 93) Try.func52 rfl rfl rfl ?_
  refine g_seq ?_
  refine g_region ?_
  refine s_y (y_assign rfl) rfl rfl rfl rfl ?_
  refine s_y (y_assign rfl) rfl rfl rfl rfl ?_
  refine s_nil ?_
  refine g_then ?_
  refine g_seq ?_
  refine g_seq ?_
  refine g_region ?_
  refine s_y (y_move rfl) rfl rfl rfl rfl ?_
  refine s_tr (t_call rfl rfl ent_82 (fun w h => by have h_ := isMelody_any w _ a (ha.below h.below) (by omega); rw [hma] at h_; exact h_)) rfl rfl rfl rfl (fun _ _ => ?_)
  refine s_y (y_not_t rfl) rfl rfl rfl rfl ?_
  refine s_y (y_move rfl) rfl rfl rfl rfl ?_
  refine s_y (y_move rfl) rfl rfl rfl rfl ?_
  refine s_tr (t_call rfl rfl ent_82 (fun w h => by have h_ := isMelody_any w _ b (hb.below h.below) (by omega); rw [hmb_] at h_; exact h_)) rfl rfl rfl rfl (fun _ _ => ?_)
  refine s_y (y_not_t rfl) rfl rfl rfl rfl ?_
  refine s_y (y_pick_f rfl rfl) rfl rfl rfl rfl ?_
  refine s_nil ?_
  refine g_then ?_
  refine g_cond_f rfl ?_
  refine g_skip ?_
  refine g_then ?_
  refine g_seq ?_
  refine g_region ?_
  refine s_y (y_move rfl) rfl rfl rfl rfl ?_
  refine s_y (y_move rfl) rfl rfl rfl rfl ?_
  refine s_tr (t_callm (A := fun y : Nat × Array MapEntry × Nat => MapG kvp okp y.2.1 (Fd a b (-1) ((b.length : Int) - 1))) (vf := fun y => .map (some y.1)) (mm := fun y => [(y.1, .map y.2.1 y.2.2)]) rfl rfl ent_83 (fun w h => over_any w v v' a b (ha.below h.below) (hb.below h.below) hma hmb_)) rfl rfl rfl rfl (fun ym hM => ?_)
  obtain ⟨mb, es, clock⟩ := ym
  simp only at hM
  refine s_y (y_assign rfl) rfl rfl rfl rfl ?_
  refine s_nil ?_
  refine g_then ?_
  refine g_seq ?_
  refine g_region ?_
  refine s_y (y_build (vs := [(0, _), (1, _)]) rfl rfl (fun w => bld_79_0_1 _ _ w)) rfl rfl rfl rfl ?_
  refine s_tr (t_alloc zero_79 rfl) rfl rfl rfl rfl (fun ba hba => ?_)
  refine s_tr0 (t_store 0 rfl rfl rfl rfl size_79 rfl rfl) rfl rfl rfl (fun _ _ => ?_)
  refine s_nil ?_
  refine g_then ?_
  refine g_seq ?_
  refine g_region ?_
  refine s_y (y_ldn 0 rfl rfl agg_79 size_79 rfl rfl) rfl rfl rfl rfl ?_
  refine s_tr (t_build (vs := [(0, .agg #[.int .i64 0, .int .i64 0])]) (cells := [.int .i64 0, .int .i64 0]) rfl rfl Try.underlying74 hi79.1 hi79.2.1 (by rw [hi79.2.2.1]; rfl) (by rw [hi79.2.2.1]; rfl) (by rw [hi79.2.2.1]; kernel_rfl)) rfl rfl rfl rfl (fun bw hbw => ?_)
  have hok1 : (SV.own bw 1 []).ok 2 1 (cellsP [(0, 0)]) := ⟨Nat.le_refl _, by unfold maxLen; decide, rfl, rfl⟩
  refine g_perm' (m' := ((SV.own bw 1 []).mem 79 (cellsP ([(0, 0)])) ++ ((ba, .cells [.int .i64 0, .int .i64 0].toArray 79 (0, 0)) :: (mb, .map es clock) :: []))) (List.Perm.of_eq rfl) ?_
  refine g_perm' (m' := (ba, .cells [.int .i64 0, .int .i64 0].toArray 79 (0, 0)) :: (mb, .map es clock) :: ((SV.own bw 1 []).mem 79 (cellsP ([(0, 0)])) ++ ([]))) (show ((ba, .cells [.int .i64 0, .int .i64 0].toArray 79 (0, 0)) :: (mb, .map es clock) :: ((SV.own bw 1 []).mem 79 (cellsP ([(0, 0)])) ++ ([])) : List (Nat × Obj)).Perm (((SV.own bw 1 []).mem 79 (cellsP ([(0, 0)])) ++ ((ba, .cells [.int .i64 0, .int .i64 0].toArray 79 (0, 0)) :: (mb, .map es clock) :: [])) : List (Nat × Obj)) from List.Perm.trans (List.Perm.of_eq (by simp only [List.append_assoc, List.cons_append, List.nil_append, List.append_nil])) (List.Perm.trans (List.perm_append_comm_assoc ((ba, .cells [.int .i64 0, .int .i64 0].toArray 79 (0, 0)) :: (mb, .map es clock) :: [] : List (Nat × Obj)) (((SV.own bw 1 []).mem 79 (cellsP ([(0, 0)])) ++ ([])) : List (Nat × Obj)) ([] : List (Nat × Obj))) (List.Perm.of_eq (by simp only [List.append_assoc, List.cons_append, List.nil_append, List.append_nil])))) ?_
  refine s_y (y_assign rfl) rfl rfl rfl rfl ?_
  refine s_nil ?_
  refine g_then ?_
  refine g_seq ?_
  refine g_block ?_
  refine g_loop (fun (k : Nat) act W => k ≤ 30 ∧ ∃ (sv : SV) (m : Nat) (zs : List (Int × Int)) (zi : Int) (zj : Int) (w1 : World), (sv.ok 2 m (cellsP zs)) ∧ (m ≤ k + 1) ∧ (posN a b k = (zi, zj)) ∧ (InP a b (zi, zj)) ∧ ((k : Int) ≤ zi + zj) ∧ (∀ k' : Nat, k' < k → posN a b k' ≠ enP a b) ∧ (zs = (List.range (k + 1)).map (posN a b)) ∧ Has 93 [] [(0, v), (1, v'), (4, .slice none 0 0), (5, .int .i64 0), (6, .map (some mb)), (7, .pointer (some ⟨ba, 0, none⟩)), (8, sv.val m)] act ∧ Hp w w1 ((ba, .cells [.int .i64 zi, .int .i64 zj].toArray 79 (0, 0)) :: (mb, .map es clock) :: (sv.mem 79 (cellsP zs) ++ ([]))) W) (fun k => 50 - k) 0 (fun act W ha hw => ⟨by omega, (SV.own bw 1 []), 1, [(0, 0)], 0, 0, W, (by assumption), (by omega), (by rfl), (by exact ⟨by decide, by simp only; omega, by decide, by simp only; omega⟩), (by omega), (by intro k' h_; omega), (by rfl), ha.weak (sub_get ⟨rfl, rfl, rfl, rfl, rfl, rfl, rfl, trivial⟩), hw.toHq.lookSub (List.Sublist.refl _)⟩) ?_
  intro k act W ⟨hb_k, sv, m, zs, zi, zj, w1, hokz, hmi, hpos, hin, hkz, hno, hzs, ha, hw⟩
  refine g_go ha hw ?_
  clear ha hw act W
  obtain ⟨hi0, hi1, hj0, hj1⟩ : 0 ≤ zi ∧ zi < a.length ∧ 0 ≤ zj ∧ zj < b.length := id hin
  refine g_seq ?_
  refine g_seq ?_
  refine g_region ?_
  refine s_y (y_ldn 0 rfl rfl agg_79 size_79 rfl rfl) rfl rfl rfl rfl ?_
  refine s_y (y_move rfl) rfl rfl rfl rfl ?_
  refine s_y (y_lenV (n := a.length) rfl (by obtain ⟨A, c, h1, _⟩ := ha; exact ⟨A, c, h1⟩) sle_46) rfl rfl rfl rfl ?_
  refine s_y (y_sub rfl rfl (by omega) (by omega)) rfl rfl rfl rfl ?_
  refine s_y (y_move rfl) rfl rfl rfl rfl ?_
  refine s_y (y_lenV (n := b.length) rfl (by obtain ⟨A, c, h1, _⟩ := hb; exact ⟨A, c, h1⟩) sle_46) rfl rfl rfl rfl ?_
  refine s_y (y_sub rfl rfl (by omega) (by omega)) rfl rfl rfl rfl ?_
  refine s_y (y_build (vs := [(0, _), (1, _)]) rfl rfl (fun w => bld_79_0_1 _ _ w)) rfl rfl rfl rfl ?_
  refine s_y (y_neqP rfl rfl (fun w => by kernel_rfl) Try.underlying79 hi3.1 (by kernel_rfl) Try.underlying3 (by kernel_rfl)) rfl rfl rfl rfl ?_
  refine s_nil ?_
  refine g_then ?_
  refine g_cond rfl (fun cq2 => ?_) (fun cq2 => ?_)
  · (try simp at cq2)
    have hne : (zi, zj) ≠ enP a b := fun h_ => by unfold enP at h_; injection h_ with q1 q2; omega
    refine g_skip ?_
    refine g_then ?_
    refine g_block ?_
    refine g_seq ?_
    have hx1 := mel_rd hxa zi
    have hx2 := mel_rd hxb zj
    refine g_draw 24 (by kernel_rfl) ?_
    refine j_p (i := 0) rfl (y_move rfl) (by kernel_rfl) (by kernel_rfl) (by kernel_rfl) rfl rfl rfl rfl rfl (.inr (fun _ h => h)) ?_
    refine j_p (i := 1) rfl (y_idxc rfl rfl (fun w => fia_79_0 _ _ w)) (by kernel_rfl) (by kernel_rfl) (by kernel_rfl) rfl rfl rfl rfl rfl (.inr (fun _ h => h)) ?_
    refine j_l (i := 2) rfl (y_ld1 0 rfl rfl agg_3 rfl) (by kernel_rfl) (by kernel_rfl) (by kernel_rfl) (by kernel_rfl) rfl rfl rfl rfl rfl (.inr (fun _ h => h)) ?_
    refine j_p (i := 3) rfl (y_idxV (enc := (Value.int .i64)) rfl rfl ha Try.underlying46 size_3 (by omega) (by omega)) (by kernel_rfl) (by kernel_rfl) (by kernel_rfl) rfl rfl rfl rfl rfl (.inr (fun _ h => h)) ?_
    refine j_l (i := 4) rfl (y_ldV (enc := (Value.int .i64)) (xs := a) (fun w h => ha.rdl.below h.below) rfl agg_3 (rdI_at (by omega) (by omega))) (by kernel_rfl) (by kernel_rfl) (by kernel_rfl) (by kernel_rfl) rfl rfl rfl rfl rfl (.inr (fun _ h => h)) ?_
    refine j_p (i := 5) rfl (y_move rfl) (by kernel_rfl) (by kernel_rfl) (by kernel_rfl) rfl rfl rfl rfl rfl (.inr (fun _ h => h)) ?_
    refine j_p (i := 6) rfl (y_idxc rfl rfl (fun w => fia_79_1 _ _ w)) (by kernel_rfl) (by kernel_rfl) (by kernel_rfl) rfl rfl rfl rfl rfl (.inr (fun _ h => h)) ?_
    refine j_l (i := 7) rfl (y_ld1 0 rfl rfl agg_3 rfl) (by kernel_rfl) (by kernel_rfl) (by kernel_rfl) (by kernel_rfl) rfl rfl rfl rfl rfl (.inr (fun _ h => h)) ?_
    refine j_p (i := 8) rfl (y_idxV (enc := (Value.int .i64)) rfl rfl hb Try.underlying46 size_3 (by omega) (by omega)) (by kernel_rfl) (by kernel_rfl) (by kernel_rfl) rfl rfl rfl rfl rfl (.inr (fun _ h => h)) ?_
    refine j_l (i := 9) rfl (y_ldV (enc := (Value.int .i64)) (xs := b) (fun w h => hb.rdl.below h.below) rfl agg_3 (rdI_at (by omega) (by omega))) (by kernel_rfl) (by kernel_rfl) (by kernel_rfl) (by kernel_rfl) rfl rfl rfl rfl rfl (.inr (fun _ h => h)) ?_
    refine j_p (i := 10) rfl (y_sub rfl rfl (by omega) (by omega)) (by kernel_rfl) (by kernel_rfl) (by kernel_rfl) rfl rfl rfl rfl rfl (.inr (fun _ h => h)) ?_
    refine j_p (i := 11) rfl (y_move rfl) (by kernel_rfl) (by kernel_rfl) (by kernel_rfl) rfl rfl rfl rfl rfl (.inr (fun _ h => h)) ?_
    refine j_p (i := 12) rfl (y_idxc rfl rfl (fun w => fia_79_1 _ _ w)) (by kernel_rfl) (by kernel_rfl) (by kernel_rfl) rfl rfl rfl rfl rfl (.inr (fun _ h => h)) ?_
    refine j_l (i := 13) rfl (y_ld1 0 rfl rfl agg_3 rfl) (by kernel_rfl) (by kernel_rfl) (by kernel_rfl) (by kernel_rfl) rfl rfl rfl rfl rfl (.inr (fun _ h => h)) ?_
    refine j_p (i := 14) rfl (y_idxV (enc := (Value.int .i64)) rfl rfl hb Try.underlying46 size_3 (by omega) (by omega)) (by kernel_rfl) (by kernel_rfl) (by kernel_rfl) rfl rfl rfl rfl rfl (.inr (fun _ h => h)) ?_
    refine j_l (i := 15) rfl (y_ldV (enc := (Value.int .i64)) (xs := b) (fun w h => hb.rdl.below h.below) rfl agg_3 (rdI_at (by omega) (by omega))) (by kernel_rfl) (by kernel_rfl) (by kernel_rfl) (by kernel_rfl) rfl rfl rfl rfl rfl (.inr (fun _ h => h)) ?_
    refine j_p (i := 16) rfl (y_move rfl) (by kernel_rfl) (by kernel_rfl) (by kernel_rfl) rfl rfl rfl rfl rfl (.inr (fun _ h => h)) ?_
    refine j_p (i := 17) rfl (y_idxc rfl rfl (fun w => fia_79_0 _ _ w)) (by kernel_rfl) (by kernel_rfl) (by kernel_rfl) rfl rfl rfl rfl rfl (.inr (fun _ h => h)) ?_
    refine j_l (i := 18) rfl (y_ld1 0 rfl rfl agg_3 rfl) (by kernel_rfl) (by kernel_rfl) (by kernel_rfl) (by kernel_rfl) rfl rfl rfl rfl rfl (.inr (fun _ h => h)) ?_
    refine j_p (i := 19) rfl (y_idxV (enc := (Value.int .i64)) rfl rfl ha Try.underlying46 size_3 (by omega) (by omega)) (by kernel_rfl) (by kernel_rfl) (by kernel_rfl) rfl rfl rfl rfl rfl (.inr (fun _ h => h)) ?_
    refine j_l (i := 20) rfl (y_ldV (enc := (Value.int .i64)) (xs := a) (fun w h => ha.rdl.below h.below) rfl agg_3 (rdI_at (by omega) (by omega))) (by kernel_rfl) (by kernel_rfl) (by kernel_rfl) (by kernel_rfl) rfl rfl rfl rfl rfl (.inr (fun _ h => h)) ?_
    refine j_p (i := 21) rfl (y_sub rfl rfl (by omega) (by omega)) (by kernel_rfl) (by kernel_rfl) (by kernel_rfl) rfl rfl rfl rfl rfl (.inr (fun _ h => h)) ?_
    refine j_p (i := 22) rfl (y_max rfl rfl) (by kernel_rfl) (by kernel_rfl) (by kernel_rfl) rfl rfl rfl rfl rfl (.inr (fun _ h => h)) ?_
    rw [show (if ((rdI b zj) - (rdI a zi)) > ((rdI a zi) - (rdI b zj)) then ((rdI b zj) - (rdI a zi)) else ((rdI a zi) - (rdI b zj))) = ovC a b zi zj from rfl]
    refine j_p (i := 23) rfl (y_assign rfl) (by kernel_rfl) (by kernel_rfl) (by kernel_rfl) rfl rfl rfl rfl rfl (.inr (fun _ h => h)) ?_
    refine j_nil (by kernel_rfl) ?_
    refine g_then ?_
    refine g_seq ?_
    refine g_seq ?_
    refine g_region ?_
    refine s_y (y_idxc rfl rfl (fun w => fia_79_0 _ _ w)) rfl rfl rfl rfl ?_
    refine s_y (y_ld1 0 rfl rfl agg_3 rfl) rfl rfl rfl rfl ?_
    refine s_y (y_idxc rfl rfl (fun w => fia_79_1 _ _ w)) rfl rfl rfl rfl ?_
    refine s_y (y_ld1 0 rfl rfl agg_3 rfl) rfl rfl rfl rfl ?_
    refine s_tr (t_callm (A := New _ _) rfl rfl ent_84 (fun w h => (steps_any w zi zj (by omega) (by omega)).mono fun e w' ⟨b, h1, h2⟩ => ⟨b, ⟨Nat.le_trans h.below.size (h2.ge _ (List.mem_cons_self ..)), Nat.le_trans h.size (h2.ge _ (List.mem_cons_self ..))⟩, h1, h2⟩)) rfl rfl rfl rfl (fun bs hbs => ?_)
    refine s_y (y_lensl rfl sle_74) rfl rfl rfl rfl ?_
    refine s_y (y_move rfl) rfl rfl rfl rfl ?_
    refine s_nil ?_
    refine g_then ?_
    refine g_block ?_
    refine g_loop (fun (k2 : Nat) act W => k2 ≤ 3 ∧ ∃ (w1 : World), (∀ k' : Nat, k' < k2 → ¬ Cd a b zi zj (rdP (stL zi zj) (k' : Int))) ∧ Has 93 [] [(0, v), (1, v'), (4, .slice none 0 0), (5, .int .i64 0), (6, .map (some mb)), (7, .pointer (some ⟨ba, 0, none⟩)), (8, sv.val m), (9, .int .i64 (ovC a b zi zj)), (28, .agg #[.int .i64 zi, .int .i64 zj]), (29, v), (30, .int .i64 (a.length : Nat)), (31, .int .i64 ((a.length : Nat) - 1)), (32, v'), (33, .int .i64 (b.length : Nat)), (34, .int .i64 ((b.length : Nat) - 1)), (35, .agg #[.int .i64 ((a.length : Nat) - 1), .int .i64 ((b.length : Nat) - 1)]), (36, .bool (!decide (zi = ((a.length : Nat) - 1) ∧ zj = ((b.length : Nat) - 1)))), (37, v), (38, .pointer (some ⟨ba, 0, none⟩)), (39, .int .i64 zi), (40, .pointer (some (elemA (adrOf v) (zi : Int).toNat))), (41, .int .i64 (rdI a zi)), (42, v'), (43, .pointer (some ⟨ba, 1, none⟩)), (44, .int .i64 zj), (45, .pointer (some (elemA (adrOf v') (zj : Int).toNat))), (46, .int .i64 (rdI b zj)), (47, .int .i64 ((rdI a zi) - (rdI b zj))), (48, v'), (49, .pointer (some ⟨ba, 1, none⟩)), (50, .int .i64 zj), (51, .pointer (some (elemA (adrOf v') (zj : Int).toNat))), (52, .int .i64 (rdI b zj)), (53, v), (54, .pointer (some ⟨ba, 0, none⟩)), (55, .int .i64 zi), (56, .pointer (some (elemA (adrOf v) (zi : Int).toNat))), (57, .int .i64 (rdI a zi)), (58, .int .i64 ((rdI b zj) - (rdI a zi))), (59, .int .i64 (ovC a b zi zj)), (60, .pointer (some ⟨ba, 0, none⟩)), (61, .int .i64 zi), (62, .pointer (some ⟨ba, 1, none⟩)), (63, .int .i64 zj), (64, .slice (some ⟨bs, 0, none⟩) 3 3), (65, .int .i64 3), (66, .int .i64 (k2 : Int))] act ∧ Hp w w1 ((bs, .cells ((cellsP (stL zi zj)) ++ []).toArray 79 (0, 0)) :: (ba, .cells [.int .i64 zi, .int .i64 zj].toArray 79 (0, 0)) :: (mb, .map es clock) :: (sv.mem 79 (cellsP zs) ++ ([]))) W) (fun k2 => 3 - k2) 0 (fun act W ha hw => ⟨by omega, W, (by intro k' h_; omega), ha.weak (sub_get ⟨rfl, rfl, rfl, rfl, rfl, rfl, rfl, rfl, rfl, rfl, rfl, rfl, rfl, rfl, rfl, rfl, rfl, rfl, rfl, rfl, rfl, rfl, rfl, rfl, rfl, rfl, rfl, rfl, rfl, rfl, rfl, rfl, rfl, rfl, rfl, rfl, rfl, rfl, rfl, rfl, rfl, rfl, rfl, rfl, rfl, rfl, rfl, trivial⟩), hw.toHq.lookSub (List.Sublist.refl _)⟩) ?_
    intro k2 act W ⟨hb_k2, w1, hno2, ha, hw⟩
    refine g_go ha hw ?_
    clear ha hw act W
    have hsl : (stL zi zj).length = 3 := rfl
    refine g_seq ?_
    refine g_region ?_
    refine s_y (y_lss rfl rfl) rfl rfl rfl rfl ?_
    refine s_nil ?_
    refine g_then ?_
    refine g_seq ?_
    refine g_cond rfl (fun cq3 => ?_) (fun cq3 => ?_)
    · (try simp at cq3)
      refine g_skip ?_
      refine g_then ?_
      refine g_seq ?_
      refine g_block ?_
      refine g_seq ?_
      have hge := stL_ge (k := k2) (show k2 < 3 by omega) hi0 hj0 (by omega) (by omega)
      refine g_region ?_
      refine s_y (y_idxb rfl rfl Try.underlying74 size_79 (by omega) (by omega)) rfl rfl rfl rfl ?_
      refine s_y (y_ldLP (xs := stL zi zj) (jk := []) 0 rfl rfl agg_79 size_79 (rdP_at (by omega) (by omega))) rfl rfl rfl rfl ?_
      refine s_tr (t_alloc zero_79 rfl) rfl rfl rfl rfl (fun b4 hb4 => ?_)
      refine s_tr0 (t_store 0 rfl rfl rfl rfl size_79 rfl rfl) rfl rfl rfl (fun _ _ => ?_)
      refine s_nil ?_
      refine g_then ?_
      refine g_seq ?_
      refine g_region ?_
      refine s_y (y_move rfl) rfl rfl rfl rfl ?_
      refine s_y (y_ldn 0 rfl rfl agg_79 size_79 rfl rfl) rfl rfl rfl rfl ?_
      by_cases hd : (rdP (stL zi zj) (k2 : Int)).1 < (a.length : Int) ∧ (rdP (stL zi zj) (k2 : Int)).2 < (b.length : Int)
      · skip
        refine s_y (y_lookS (k := (rdP (stL zi zj) (k2 : Int))) (Fd_in (by omega) hd.1 (by omega) hd.2) pair_map hM (fun w h => h.at_ _ (List.mem_cons_of_mem _ (List.mem_cons_of_mem _ (List.mem_cons_of_mem _ (List.mem_cons_self ..))))) rfl rfl rfl (stL_ok (by omega) (by omega) (by omega))) rfl rfl rfl rfl ?_
        refine s_y (y_move rfl) rfl rfl rfl rfl ?_
        refine s_y (y_extract rfl rfl) rfl rfl rfl rfl ?_
        refine s_y (y_extract rfl rfl) rfl rfl rfl rfl ?_
        refine s_y (y_assign rfl) rfl rfl rfl rfl ?_
        refine s_y (y_assign rfl) rfl rfl rfl rfl ?_
        refine s_nil ?_
        refine g_then ?_
        refine g_seq ?_
        have hpp := mel_P hma hmb_ (i := (rdP (stL zi zj) (k2 : Int)).1) (j := (rdP (stL zi zj) (k2 : Int)).2) (by omega) (by omega)
        have hpn := ovP_nonneg a b (rdP (stL zi zj) (k2 : Int)).1 (rdP (stL zi zj) (k2 : Int)).2
        have hcn := ovC_nonneg a b zi zj
        have hcl := mel_C hxa hxb zi zj
        refine g_region ?_
        refine s_y (y_move rfl) rfl rfl rfl rfl ?_
        refine s_y (y_move rfl) rfl rfl rfl rfl ?_
        refine s_y (y_move rfl) rfl rfl rfl rfl ?_
        refine s_y (y_move rfl) rfl rfl rfl rfl ?_
        refine s_y (y_add rfl rfl (by omega) (by omega)) rfl rfl rfl rfl ?_
        refine s_y (y_move rfl) rfl rfl rfl rfl ?_
        refine s_y (y_ldn 2 rfl rfl agg_79 size_79 rfl rfl) rfl rfl rfl rfl ?_
        refine s_y (y_lookF hi0 hi1 hj0 hj1 (by omega) (by omega) hM (fun w h => h.at_ _ (List.mem_cons_of_mem _ (List.mem_cons_of_mem _ (List.mem_cons_of_mem _ (List.mem_cons_self ..))))) rfl rfl) rfl rfl rfl rfl ?_
        refine s_y (y_eql rfl rfl) rfl rfl rfl rfl ?_
        refine s_y (y_pick_t rfl rfl) rfl rfl rfl rfl ?_
        refine s_nil ?_
        refine g_then ?_
        refine g_cond rfl (fun cq5 => ?_) (fun cq5 => ?_)
        · (try simp at cq5)
          have hcd : Cd a b zi zj (rdP (stL zi zj) (k2 : Int)) := ⟨hd, by first | omega | simpa using cq5⟩
          have hnx : nxt a b (zi, zj) = (rdP (stL zi zj) (k2 : Int)) := nxt_pick (by omega) hcd hno2
          have hcc := nxt_cd hin hne
          have hnin : InP a b ((rdP (stL zi zj) (k2 : Int)).1, (rdP (stL zi zj) (k2 : Int)).2) := by rw [← hnx]; exact hcc.2.1
          have hzz := hcc.2.2
          rw [hnx] at hzz
          have hsum : (rdP (stL zi zj) (k2 : Int)).1 + (rdP (stL zi zj) (k2 : Int)).2 ≥ zi + zj + 1 := by rcases hzz with h_ | h_ | h_ <;> rw [h_] <;> simp only <;> omega
          refine g_seq ?_
          refine g_region ?_
          refine s_y (y_ldn 0 rfl rfl agg_79 size_79 rfl rfl) rfl rfl rfl rfl ?_
          refine s_tr0 (t_store 2 rfl rfl rfl rfl size_79 rfl rfl) rfl rfl rfl (fun _ _ => ?_)
          refine s_nil ?_
          refine g_then ?_
          refine g_exit ?_
          refine g_inbo rfl ?_
          refine g_thenx ?_
          refine g_thenx ?_
          refine g_inbx ?_
          refine g_then ?_
          refine g_region ?_
          refine s_y (y_move rfl) rfl rfl rfl rfl ?_
          refine s_y (y_ldn 2 rfl rfl agg_79 size_79 rfl rfl) rfl rfl rfl rfl ?_
          refine s_tr (t_build (vs := [(0, .agg #[.int .i64 ((rdP (stL zi zj) (k2 : Int)).1), .int .i64 ((rdP (stL zi zj) (k2 : Int)).2)])]) (cells := [.int .i64 ((rdP (stL zi zj) (k2 : Int)).1), .int .i64 ((rdP (stL zi zj) (k2 : Int)).2)]) rfl rfl Try.underlying74 hi79.1 hi79.2.1 (by rw [hi79.2.2.1]; rfl) (by rw [hi79.2.2.1]; rfl) (by rw [hi79.2.2.1]; kernel_rfl)) rfl rfl rfl rfl (fun b6 hb6 => ?_)
          refine s_tr (t_appendP (sv := sv) (xs := zs) (n := m) (p := ((rdP (stL zi zj) (k2 : Int)).1, (rdP (stL zi zj) (k2 : Int)).2)) [_, _, _, _, _] _ rfl rfl rfl hokz Try.underlying74 hi79.1 hi79.2.1 hi79.2.2.1 hi79.2.2.2 rfl (fun w h => pair_new (i := 0) (p := ((rdP (stL zi zj) (k2 : Int)).1, (rdP (stL zi zj) (k2 : Int)).2)) h rfl) (by omega) (by unfold maxLen; omega)) rfl rfl rfl rfl (fun y10 hy11 => ?_)
          obtain ⟨sv7, gs8⟩ := y10
          obtain ⟨⟨hok9, hok9b, hok9c, hok9j, hok9e⟩, hok9n⟩ := hy11
          refine s_y (y_assign rfl) rfl rfl rfl rfl ?_
          refine s_nil ?_
          refine g_inb ?_
          refine g_then ?_
          exact fun act W ha hw => ⟨k + 1, by omega, by omega, sv7, (m + 1), (zs ++ [((rdP (stL zi zj) (k2 : Int)).1, (rdP (stL zi zj) (k2 : Int)).2)]), ((rdP (stL zi zj) (k2 : Int)).1), ((rdP (stL zi zj) (k2 : Int)).2), W, (by exact hok9), (by omega), (by rw [posN, hpos, hnx]), (by exact hnin), (by omega), (by intro k' h_; rcases Nat.lt_or_ge k' k with c | c; exact hno k' c; rw [show k' = k by omega, hpos]; exact hne), (by rw [List.range_succ, List.map_append, ← hzs, List.map_cons, List.map_nil, posN, hpos, hnx]), ha.weak (sub_get ⟨rfl, rfl, rfl, rfl, rfl, rfl, rfl, trivial⟩), hw.toHq.lookSub (List.Sublist.cons _ (List.Sublist.cons _ (List.Sublist.cons _ (List.Sublist.cons_cons _ (List.Sublist.cons_cons _ (sub_app (sv7.mem 79 (cellsP (zs ++ [((rdP (stL zi zj) (k2 : Int)).1, (rdP (stL zi zj) (k2 : Int)).2)]))) (List.nil_sublist _)))))))⟩
        · (try simp at cq5)
          have hcd : ¬ Cd a b zi zj (rdP (stL zi zj) (k2 : Int)) := fun h_ => by first | exact hd h_.1 | (have := h_.2; omega)
          refine g_skip ?_
          refine g_inb ?_
          refine g_then ?_
          refine g_region ?_
          refine s_y (y_add rfl rfl (by omega) (by omega)) rfl rfl rfl rfl ?_
          refine s_y (y_move rfl) rfl rfl rfl rfl ?_
          refine s_nil ?_
          refine g_then ?_
          exact fun act W ha hw => ⟨k2 + 1, by omega, by omega, W, (by intro k' h_; rcases Nat.lt_or_ge k' k2 with c | c; exact hno2 k' c; rw [show k' = k2 by omega]; exact hcd), ha.weak (sub_get ⟨rfl, rfl, rfl, rfl, rfl, rfl, rfl, rfl, rfl, rfl, rfl, rfl, rfl, rfl, rfl, rfl, rfl, rfl, rfl, rfl, rfl, rfl, rfl, rfl, rfl, rfl, rfl, rfl, rfl, rfl, rfl, rfl, rfl, rfl, rfl, rfl, rfl, rfl, rfl, rfl, rfl, rfl, rfl, rfl, rfl, rfl, rfl, trivial⟩), hw.toHq.lookSub (List.Sublist.cons _ (List.Sublist.refl _))⟩
      · skip
        refine s_y (y_lookN (k := (rdP (stL zi zj) (k2 : Int))) (Fd_out hd) pair_map hM (fun w h => h.at_ _ (List.mem_cons_of_mem _ (List.mem_cons_of_mem _ (List.mem_cons_of_mem _ (List.mem_cons_self ..))))) rfl rfl rfl (stL_ok (by omega) (by omega) (by omega))) rfl rfl rfl rfl ?_
        have hcd : ¬ Cd a b zi zj (rdP (stL zi zj) (k2 : Int)) := fun h_ => hd h_.1
        refine s_y (y_move rfl) rfl rfl rfl rfl ?_
        refine s_y (y_extract rfl rfl) rfl rfl rfl rfl ?_
        refine s_y (y_extract rfl rfl) rfl rfl rfl rfl ?_
        refine s_y (y_assign rfl) rfl rfl rfl rfl ?_
        refine s_y (y_assign rfl) rfl rfl rfl rfl ?_
        refine s_nil ?_
        refine g_then ?_
        refine g_seq ?_
        have hpp := mel_P hma hmb_ (i := (rdP (stL zi zj) (k2 : Int)).1) (j := (rdP (stL zi zj) (k2 : Int)).2) (by omega) (by omega)
        have hpn := ovP_nonneg a b (rdP (stL zi zj) (k2 : Int)).1 (rdP (stL zi zj) (k2 : Int)).2
        have hcn := ovC_nonneg a b zi zj
        have hcl := mel_C hxa hxb zi zj
        refine g_region ?_
        refine s_y (y_move rfl) rfl rfl rfl rfl ?_
        refine s_y (y_move rfl) rfl rfl rfl rfl ?_
        refine s_no rfl rfl rfl ?_
        refine s_no rfl rfl rfl ?_
        refine s_no rfl rfl rfl ?_
        refine s_no rfl rfl rfl ?_
        refine s_no rfl rfl rfl ?_
        refine s_no rfl rfl rfl ?_
        refine s_no rfl rfl rfl ?_
        refine s_y (y_pick_f rfl rfl) rfl rfl rfl rfl ?_
        refine s_nil ?_
        refine g_then ?_
        refine g_cond_f rfl ?_
        refine g_skip ?_
        refine g_inb ?_
        refine g_then ?_
        refine g_region ?_
        refine s_y (y_add rfl rfl (by omega) (by omega)) rfl rfl rfl rfl ?_
        refine s_y (y_move rfl) rfl rfl rfl rfl ?_
        refine s_nil ?_
        refine g_then ?_
        exact fun act W ha hw => ⟨k2 + 1, by omega, by omega, W, (by intro k' h_; rcases Nat.lt_or_ge k' k2 with c | c; exact hno2 k' c; rw [show k' = k2 by omega]; exact hcd), ha.weak (sub_get ⟨rfl, rfl, rfl, rfl, rfl, rfl, rfl, rfl, rfl, rfl, rfl, rfl, rfl, rfl, rfl, rfl, rfl, rfl, rfl, rfl, rfl, rfl, rfl, rfl, rfl, rfl, rfl, rfl, rfl, rfl, rfl, rfl, rfl, rfl, rfl, rfl, rfl, rfl, rfl, rfl, rfl, rfl, rfl, rfl, rfl, rfl, rfl, trivial⟩), hw.toHq.lookSub (List.Sublist.cons _ (List.Sublist.refl _))⟩
    · (try simp at cq3)
      exact absurd (nxt_none hin hne fun k' h_ => hno2 k' (by omega)) id
  · (try simp at cq2)
    have hen : zi = (a.length : Int) - 1 ∧ zj = (b.length : Int) - 1 := by simpa using cq2
    refine g_exit ?_
    refine g_thenx ?_
    refine g_thenx ?_
    refine g_inbx ?_
    refine g_then ?_
    refine g_seq ?_
    refine g_region ?_
    refine s_y (y_move rfl) rfl rfl rfl rfl ?_
    refine s_y (y_assign rfl) rfl rfl rfl rfl ?_
    refine s_y (y_assign rfl) rfl rfl rfl rfl ?_
    refine s_nil ?_
    refine g_then ?_
    refine g_ret ?_
    have hkk : kN a b = k := kN_eq (by omega) (by rw [hpos]; unfold enP; rw [hen.1, hen.2]) hno
    rw [show wayL a b = zs from by unfold wayL; rw [hkk, hzs]]
    exact g_end trivial (fun a w ha hq_ => res2 ha rfl rfl rfl  w) (fun w h => ⟨(_, sv.mem 79 (cellsP zs)), ⟨(OwnP.sv hokz), w, (h.hand (List.Sublist.cons _ (List.Sublist.cons _ (sub_here (sv.mem 79 (cellsP zs)) _)))).at_⟩, rfl, h.hand (List.Sublist.cons _ (List.Sublist.cons _ (sub_here (sv.mem 79 (cellsP zs)) _)))⟩)

theorem OverWay_bad1 (w : World) (v v' : Value) (a b : List Int) (ha : RdV (Value.int .i64) w v a) (hb : RdV (Value.int .i64) w v' b) (hal : a.length ≤ 9223372036854775807) (hbl : b.length ≤ 9223372036854775807) (hma : melB a = false) :
    Calls Try.prog 52 [v, v'].toArray w fun e w' => e = .returned (.tuple #[.slice none 0 0, .int .i64 2]) ∧ Below w.heap.size w w' := by
  refine enter (N := 93) Try.func52 rfl rfl rfl ?_
  refine g_seq ?_
  refine g_region ?_
  refine s_y (y_assign rfl) rfl rfl rfl rfl ?_
  refine s_y (y_assign rfl) rfl rfl rfl rfl ?_
  refine s_nil ?_
  refine g_then ?_
  refine g_seq ?_
  refine g_seq ?_
  refine g_region ?_
  refine s_y (y_move rfl) rfl rfl rfl rfl ?_
  refine s_tr (t_call rfl rfl ent_82 (fun w h => by have h_ := isMelody_any w _ a (ha.below h.below) (by omega); rw [hma] at h_; exact h_)) rfl rfl rfl rfl (fun _ _ => ?_)
  refine s_y (y_not_f rfl) rfl rfl rfl rfl ?_
  refine s_y (y_move rfl) rfl rfl rfl rfl ?_
  refine s_no rfl rfl rfl ?_
  refine s_no rfl rfl rfl ?_
  refine s_no rfl rfl rfl ?_
  refine s_y (y_pick_t rfl rfl) rfl rfl rfl rfl ?_
  refine s_nil ?_
  refine g_then ?_
  refine g_cond_t rfl ?_
  refine g_seq ?_
  refine g_region ?_
  refine s_y (y_assign rfl) rfl rfl rfl rfl ?_
  refine s_y (y_assign rfl) rfl rfl rfl rfl ?_
  refine s_nil ?_
  refine g_then ?_
  refine g_ret ?_
  refine g_thenr ?_
  exact g_end trivial (fun a w ha hq_ => res2 ha rfl rfl rfl  w) (fun w h => ⟨rfl, h.below⟩)

theorem OverWay_bad2 (w : World) (v v' : Value) (a b : List Int) (ha : RdV (Value.int .i64) w v a) (hb : RdV (Value.int .i64) w v' b) (hal : a.length ≤ 9223372036854775807) (hbl : b.length ≤ 9223372036854775807) (hma : melB a = true) (hmb_ : melB b = false) :
    Calls Try.prog 52 [v, v'].toArray w fun e w' => e = .returned (.tuple #[.slice none 0 0, .int .i64 2]) ∧ Below w.heap.size w w' := by
  refine enter (N := 93) Try.func52 rfl rfl rfl ?_
  refine g_seq ?_
  refine g_region ?_
  refine s_y (y_assign rfl) rfl rfl rfl rfl ?_
  refine s_y (y_assign rfl) rfl rfl rfl rfl ?_
  refine s_nil ?_
  refine g_then ?_
  refine g_seq ?_
  refine g_seq ?_
  refine g_region ?_
  refine s_y (y_move rfl) rfl rfl rfl rfl ?_
  refine s_tr (t_call rfl rfl ent_82 (fun w h => by have h_ := isMelody_any w _ a (ha.below h.below) (by omega); rw [hma] at h_; exact h_)) rfl rfl rfl rfl (fun _ _ => ?_)
  refine s_y (y_not_t rfl) rfl rfl rfl rfl ?_
  refine s_y (y_move rfl) rfl rfl rfl rfl ?_
  refine s_y (y_move rfl) rfl rfl rfl rfl ?_
  refine s_tr (t_call rfl rfl ent_82 (fun w h => by have h_ := isMelody_any w _ b (hb.below h.below) (by omega); rw [hmb_] at h_; exact h_)) rfl rfl rfl rfl (fun _ _ => ?_)
  refine s_y (y_not_f rfl) rfl rfl rfl rfl ?_
  refine s_y (y_pick_f rfl rfl) rfl rfl rfl rfl ?_
  refine s_nil ?_
  refine g_then ?_
  refine g_cond_t rfl ?_
  refine g_seq ?_
  refine g_region ?_
  refine s_y (y_assign rfl) rfl rfl rfl rfl ?_
  refine s_y (y_assign rfl) rfl rfl rfl rfl ?_
  refine s_nil ?_
  refine g_then ?_
  refine g_ret ?_
  refine g_thenr ?_
  exact g_end trivial (fun a w ha hq_ => res2 ha rfl rfl rfl  w) (fun w h => ⟨rfl, h.below⟩)

theorem OverWay_bad (w : World) (v v' : Value) (a b : List Int) (ha : RdV (Value.int .i64) w v a) (hb : RdV (Value.int .i64) w v' b) (hal : a.length ≤ 9223372036854775807) (hbl : b.length ≤ 9223372036854775807) (h : ¬ (melB a = true ∧ melB b = true)) : Calls Try.prog 52 [v, v'].toArray w fun e w' => e = .returned (.tuple #[.slice none 0 0, .int .i64 2]) ∧ Below w.heap.size w w' := by
  cases hma : melB a with
  | false => exact OverWay_bad1 w v v' a b ha hb hal hbl hma
  | true =>
    cases hmb_ : melB b with
    | false => exact OverWay_bad2 w v v' a b ha hb hal hbl hma hmb_
    | true => exact absurd ⟨hma, hmb_⟩ h

end Go.Proofs.Ytnnpdgegejklpaa
