/- edits: Equal, Clone, Index, Contains, IsSorted, awake; the laws EditsWithin and EditsNear. -/
import Derived.Test.YtnnpdgegejklpaaEdI
namespace Go.Proofs.Ytnnpdgegejklpaa
open Go.RowKit Go.Sx 
set_option linter.unusedVariables false
set_option linter.unusedSimpArgs false
set_option maxRecDepth 100000
set_option maxHeartbeats 4000000

private theorem sle_46 : Try.prog.underlying 46 = some (.slice (Try.prog.elem 46)) := by kernel_rfl
private theorem size_3 : (Try.prog.info? 3).map (·.size) = some 1 := by kernel_rfl
private theorem agg_3 : isAggB Try.prog 3 = some false := by kernel_rfl
private theorem ent_74 : Enters Try.prog 74 := enters_of Try.func74 (by kernel_rfl) rfl
private theorem ent_89 : Enters Try.prog 89 := enters_of Try.func89 (by kernel_rfl) rfl
private theorem ent_73 : Enters Try.prog 73 := enters_of Try.func73 (by kernel_rfl) rfl
private theorem sle_45 : Try.prog.underlying 45 = some (.slice (Try.prog.elem 45)) := by kernel_rfl
private theorem inf_9 : ∃ ie, Try.prog.info? 9 = some ie ∧ ie.zero = some (.string ByteArray.empty) ∧ ie.size = 1 ∧ ie.bytes = 16 := info_of (by kernel_rfl) (by kernel_rfl)
private theorem bld_28_0_1_2 (x0 : Int) (x1 : Int) (x2 : Int) (w : World) : (Instr.build 28 #[(0, (.int .i64 x0)), (1, (.int .i64 x1)), (2, (.int .i64 x2))]).run Try.prog w = .ok (.agg #[(.int .i64 x0), (.int .i64 x1), (.int .i64 x2)]) w := by kernel_rfl
private theorem ent_18 : Enters Try.prog 18 := enters_of Try.func18 (by kernel_rfl) rfl
private theorem size_9 : (Try.prog.info? 9).map (·.size) = some 1 := by kernel_rfl
private theorem agg_9 : isAggB Try.prog 9 = some false := by kernel_rfl
private theorem ent_19 : Enters Try.prog 19 := enters_of Try.func19 (by kernel_rfl) rfl
private theorem agg_23 : isAggB Try.prog 23 = some true := by kernel_rfl
private theorem size_23 : (Try.prog.info? 23).map (·.size) = some 3 := by kernel_rfl
private theorem ent_20 : Enters Try.prog 20 := enters_of Try.func20 (by kernel_rfl) rfl
private theorem ent_31 : Enters Try.prog 31 := enters_of Try.func31 (by kernel_rfl) rfl
private theorem ent_24 : Enters Try.prog 24 := enters_of Try.func24 (by kernel_rfl) rfl
private theorem ent_23 : Enters Try.prog 23 := enters_of Try.func23 (by kernel_rfl) rfl
private theorem ent_32 : Enters Try.prog 32 := enters_of Try.func32 (by kernel_rfl) rfl
private theorem ent_34 : Enters Try.prog 34 := enters_of Try.func34 (by kernel_rfl) rfl
private theorem ent_33 : Enters Try.prog 33 := enters_of Try.func33 (by kernel_rfl) rfl
private theorem ent_22 : Enters Try.prog 22 := enters_of Try.func22 (by kernel_rfl) rfl
private theorem ent_38 : Enters Try.prog 38 := enters_of Try.func38 (by kernel_rfl) rfl
private theorem ent_39 : Enters Try.prog 39 := enters_of Try.func39 (by kernel_rfl) rfl
private theorem ent_40 : Enters Try.prog 40 := enters_of Try.func40 (by kernel_rfl) rfl



def ixI (xs : List Int) (x : Int) : Int := match xs.findIdx? (fun y => decide (x = y)) with
  | some i => i
  | none => -1
theorem rdI_getElem {xs : List Int} {j : Nat} (h : j < xs.length) : rdI xs (j : Int) = xs[j] := by simp [rdI_nat, List.getD_eq_getElem?_getD, h]
theorem ixI_some {xs : List Int} {x : Int} {i : Nat} (hi : i < xs.length) (h : x = rdI xs (i : Int)) (hno : ∀ j : Nat, j < i → x ≠ rdI xs (j : Int)) : ixI xs x = i := by
  have : xs.findIdx? (fun y => decide (x = y)) = some i := by
    rw [List.findIdx?_eq_some_iff_getElem]
    refine ⟨hi, by rw [← rdI_getElem hi]; simpa using h, fun j hj => ?_⟩
    rw [← rdI_getElem (by omega)]; simpa using hno j hj
  simp [ixI, this]
theorem ixI_none {xs : List Int} {x : Int} (hno : ∀ j : Nat, j < xs.length → x ≠ rdI xs (j : Int)) : ixI xs x = -1 := by
  have : xs.findIdx? (fun y => decide (x = y)) = none := by
    rw [List.findIdx?_eq_none_iff]
    intro y hy
    obtain ⟨j, hj, rfl⟩ := List.getElem_of_mem hy
    have := hno j hj
    rw [rdI_getElem hj] at this; simpa using this
  simp [ixI, this]
theorem ixI_mem {xs : List Int} {x : Int} : decide (ixI xs x ≥ 0) = decide (x ∈ xs) := by
  unfold ixI
  cases h : xs.findIdx? (fun y => decide (x = y)) with
  | some i =>
    obtain ⟨hi, hp, _⟩ := List.findIdx?_eq_some_iff_getElem.1 h
    have : x ∈ xs := by have := of_decide_eq_true hp; rw [this]; exact List.getElem_mem hi
    simp [this]
  | none =>
    have := List.findIdx?_eq_none_iff.1 h
    have : x ∉ xs := fun hx => by have := this x hx; simp at this
    simp [this]


theorem costR_ok {a b : ByteArray} {pi po ps : Int} (ha : a.size ≤ 12) (hb : b.size ≤ 12) (hp : okP pi po ps) : costR a b pi po ps = (D a b pi po ps a.size b.size, 0) := if_pos ⟨ha, hb, hp⟩
theorem costR_no {a b : ByteArray} {pi po ps : Int} (h : ¬ (a.size ≤ 12 ∧ b.size ≤ 12 ∧ okP pi po ps)) : costR a b pi po ps = (0, 2) := if_neg h
theorem costR_err {a b : ByteArray} {pi po ps : Int} : (costR a b pi po ps).2 = 0 ↔ (a.size ≤ 12 ∧ b.size ≤ 12 ∧ okP pi po ps) := by
  unfold costR; split <;> simp [*]
theorem bt_nat {s : ByteArray} {i : Nat} (h : i < s.size) : bt s i = ((s.data.toList[i]'(by simpa using h)).toNat : Int) := by
  unfold bt
  rw [Int.toNat_natCast, dif_pos h]
  rfl
theorem costR_awake : costR (⟨#[97]⟩ : ByteArray) (⟨#[97, 98]⟩ : ByteArray) 2 3 4 = (2, 0) := by
  rw [costR_ok (by decide) (by decide) (by decide)]
  have e0 : bt (⟨#[97]⟩ : ByteArray) ((0 : Nat) : Int) = 97 := by rw [bt_nat (by decide)]; rfl
  have e1 : bt (⟨#[97, 98]⟩ : ByteArray) ((0 : Nat) : Int) = 97 := by rw [bt_nat (by decide)]; rfl
  have e2 : bt (⟨#[97, 98]⟩ : ByteArray) ((1 : Nat) : Int) = 98 := by rw [bt_nat (by decide)]; rfl
  have e : D (⟨#[97]⟩ : ByteArray) (⟨#[97, 98]⟩ : ByteArray) 2 3 4 1 2 = 2 := by
    unfold D
    generalize hx : (fun k : Nat => bt (⟨#[97]⟩ : ByteArray) k) = x
    generalize hy : (fun k : Nat => bt (⟨#[97, 98]⟩ : ByteArray) k) = y
    have x0 : x 0 = 97 := by rw [← hx]; exact e0
    have y0 : y 0 = 97 := by rw [← hy]; exact e1
    have y1 : y 1 = 98 := by rw [← hy]; exact e2
    have h00 := EM.C_00 x y 2 3 4
    have h01 := EM.C_0s x y 2 3 4 0
    have h02 := EM.C_0s x y 2 3 4 1
    have h10 := EM.C_s0 x y 2 3 4 0
    have h11 := EM.C_ss x y 2 3 4 0 0
    have h12 := EM.C_ss x y 2 3 4 0 1
    simp only [x0, y0, y1, Nat.zero_add, Nat.reduceAdd] at h01 h02 h10 h11 h12
    rw [if_pos trivial] at h11
    rw [if_neg (by decide)] at h12
    omega
  exact congrArg (fun z => (z, (0 : Int))) e

theorem cut_app {xs : List ByteArray} {i : Nat} (h : i < xs.length) (h2 : (i : Int) < 23) : (xs.take (min i 23)).map textS ++ [textS (rdS xs (i : Int))] = (xs.take (min (i + 1) 23)).map textS := by
  rw [Nat.min_eq_left (by omega), Nat.min_eq_left (by omega), rdS_take h]; simp
theorem cut_skip {xs : List ByteArray} {i : Nat} (h2 : ¬ (i : Int) < 23) : (xs.take (min i 23)).map textS = (xs.take (min (i + 1) 23)).map textS := by
  rw [Nat.min_eq_right (by omega), Nat.min_eq_right (by omega)]
theorem listOk_true {xs : List ByteArray} : listOk xs = true ↔ xs.length ≤ 20 ∧ ∀ s ∈ xs, s.size ≤ 12 := by
  unfold listOk; rw [Bool.and_eq_true, allL_true, decide_eq_true_iff]; exact ⟨fun ⟨h, h2⟩ => ⟨by omega, h⟩, fun ⟨h, h2⟩ => ⟨h2, by omega⟩⟩
theorem cut_all {xs : List ByteArray} (h : xs.length ≤ 20) (h2 : ∀ s ∈ xs, s.size ≤ 12) : (xs.take (min xs.length 23)).map textS = xs := by
  rw [Nat.min_eq_left (by omega), List.take_length]
  exact (List.map_congr_left fun s hs => textS_id (h2 s hs)).trans (List.map_id xs)
theorem cut_no {xs : List ByteArray} (h : ((xs.take (min xs.length 23)).map textS).length ≤ 20) (h2 : allL ((xs.take (min xs.length 23)).map textS) = true) : listOk xs = true := by
  rw [List.length_map, List.length_take] at h
  have hl : xs.length ≤ 20 := by omega
  rw [Nat.min_eq_left (by omega), List.take_length] at h2
  refine listOk_true.2 ⟨hl, fun s hs => ?_⟩
  have := allL_true.1 h2 (textS s) (List.mem_map.2 ⟨s, hs, rfl⟩)
  rw [textS_size] at this; omega

theorem Equal_any (w : World) (v v' : Value) (xs ys : List Int) (hv : RdV (Value.int .i64) w v xs) (hv' : RdV (Value.int .i64) w v' ys) (hl : xs.length ≤ 1000000) :
    Calls Try.prog 33 [v, v'].toArray w fun e w' => e = .returned (.bool (decide (xs = ys))) ∧ Below w.heap.size w w' := by
  refine enter (N := 26) Try.func33 rfl rfl rfl ?_
  refine g_seq ?_
  refine g_region ?_
  refine s_y (y_assign rfl) rfl rfl rfl rfl ?_
  refine s_nil ?_
  refine g_then ?_
  refine g_seq ?_
  refine g_seq ?_
  refine g_region ?_
  refine s_y (y_move rfl) rfl rfl rfl rfl ?_
  refine s_y (y_lenV (n := xs.length) rfl (by obtain ⟨A, c, h1, _⟩ := hv; exact ⟨A, c, h1⟩) sle_46) rfl rfl rfl rfl ?_
  refine s_y (y_move rfl) rfl rfl rfl rfl ?_
  refine s_y (y_lenV (n := ys.length) rfl (by obtain ⟨A, c, h1, _⟩ := hv'; exact ⟨A, c, h1⟩) sle_46) rfl rfl rfl rfl ?_
  refine s_y (y_neq rfl rfl) rfl rfl rfl rfl ?_
  refine s_nil ?_
  refine g_then ?_
  refine g_cond rfl (fun cq1 => ?_) (fun cq1 => ?_)
  · (try simp at cq1)
    refine g_seq ?_
    refine g_region ?_
    refine s_y (y_assign rfl) rfl rfl rfl rfl ?_
    refine s_nil ?_
    refine g_then ?_
    refine g_ret ?_
    refine g_thenr ?_
    rw [show decide (xs = ys) = false from decide_eq_false fun h => by subst h; first | omega | contradiction]
    exact g_end trivial (fun a w ha hq_ => res1 ha rfl rfl  w) (fun w h => ⟨rfl, h.below⟩)
  · (try simp at cq1)
    have hll : xs.length = ys.length := by omega
    refine g_skip ?_
    refine g_then ?_
    refine g_seq ?_
    refine g_seq ?_
    refine g_region ?_
    refine s_y (y_move rfl) rfl rfl rfl rfl ?_
    refine s_y (y_lenV (n := xs.length) rfl (by obtain ⟨A, c, h1, _⟩ := hv; exact ⟨A, c, h1⟩) sle_46) rfl rfl rfl rfl ?_
    refine s_y (y_move rfl) rfl rfl rfl rfl ?_
    refine s_nil ?_
    refine g_then ?_
    refine g_block ?_
    refine g_loop (fun (i : Nat) act W => (i ≤ xs.length ∧ ∀ j : Nat, j < i → rdI xs (j : Int) = rdI ys (j : Int)) ∧ ∃ (w1 : World), Has 26 [] [(0, v), (1, v'), (12, .int .i64 (xs.length : Nat)), (13, .int .i64 (i : Int))] act ∧ Hp w w1 ([]) W) (fun i => xs.length - i) 0 (fun act W ha hw => ⟨⟨by omega, fun j hj => by omega⟩, W, ha.weak (sub_get ⟨rfl, rfl, rfl, rfl, trivial⟩), hw.toHq.lookSub (List.Sublist.refl _)⟩) ?_
    intro i act W ⟨hb_i, w1, ha, hw⟩
    refine g_go ha hw ?_
    clear ha hw act W
    refine g_seq ?_
    refine g_region ?_
    refine s_y (y_lss rfl rfl) rfl rfl rfl rfl ?_
    refine s_nil ?_
    refine g_then ?_
    refine g_seq ?_
    refine g_cond rfl (fun cq2 => ?_) (fun cq2 => ?_)
    · (try simp at cq2)
      refine g_skip ?_
      refine g_then ?_
      refine g_seq ?_
      refine g_block ?_
      refine g_seq ?_
      refine g_region ?_
      refine s_y (y_move rfl) rfl rfl rfl rfl ?_
      refine s_y (y_assign rfl) rfl rfl rfl rfl ?_
      refine s_nil ?_
      refine g_then ?_
      refine g_seq ?_
      refine g_draw 9 (by kernel_rfl) ?_
      refine j_p (i := 0) rfl (y_move rfl) (by kernel_rfl) (by kernel_rfl) (by kernel_rfl) rfl rfl rfl rfl rfl (.inr (fun _ h => h)) ?_
      refine j_p (i := 1) rfl (y_move rfl) (by kernel_rfl) (by kernel_rfl) (by kernel_rfl) rfl rfl rfl rfl rfl (.inr (fun _ h => h)) ?_
      refine j_p (i := 2) rfl (y_idxV (enc := (Value.int .i64)) rfl rfl hv Try.underlying46 size_3 (by omega) (by omega)) (by kernel_rfl) (by kernel_rfl) (by kernel_rfl) rfl rfl rfl rfl rfl (.inr (fun _ h => h)) ?_
      refine j_l (i := 3) rfl (y_ldV (enc := (Value.int .i64)) (xs := xs) (fun w h => hv.rdl.below h.below) rfl agg_3 (rdI_at (by omega) (by omega))) (by kernel_rfl) (by kernel_rfl) (by kernel_rfl) (by kernel_rfl) rfl rfl rfl rfl rfl (.inr (fun _ h => h)) ?_
      refine j_p (i := 4) rfl (y_move rfl) (by kernel_rfl) (by kernel_rfl) (by kernel_rfl) rfl rfl rfl rfl rfl (.inr (fun _ h => h)) ?_
      refine j_p (i := 5) rfl (y_move rfl) (by kernel_rfl) (by kernel_rfl) (by kernel_rfl) rfl rfl rfl rfl rfl (.inr (fun _ h => h)) ?_
      refine j_p (i := 6) rfl (y_idxV (enc := (Value.int .i64)) rfl rfl hv' Try.underlying46 size_3 (by omega) (by omega)) (by kernel_rfl) (by kernel_rfl) (by kernel_rfl) rfl rfl rfl rfl rfl (.inr (fun _ h => h)) ?_
      refine j_l (i := 7) rfl (y_ldV (enc := (Value.int .i64)) (xs := ys) (fun w h => hv'.rdl.below h.below) rfl agg_3 (rdI_at (by omega) (by omega))) (by kernel_rfl) (by kernel_rfl) (by kernel_rfl) (by kernel_rfl) rfl rfl rfl rfl rfl (.inr (fun _ h => h)) ?_
      refine j_p (i := 8) rfl (y_neq rfl rfl) (by kernel_rfl) (by kernel_rfl) (by kernel_rfl) rfl rfl rfl rfl rfl (.inr (fun _ h => h)) ?_
      refine j_nil (by kernel_rfl) ?_
      refine g_then ?_
      refine g_cond rfl (fun cq3 => ?_) (fun cq3 => ?_)
      · (try simp at cq3)
        refine g_seq ?_
        refine g_region ?_
        refine s_y (y_assign rfl) rfl rfl rfl rfl ?_
        refine s_nil ?_
        refine g_then ?_
        refine g_ret ?_
        refine g_inbr ?_
        refine g_thenr ?_
        refine g_thenr ?_
        refine g_inbr ?_
        refine g_thenr ?_
        rw [show decide (xs = ys) = false from decide_eq_false fun h => by subst h; first | omega | contradiction]
        exact g_end trivial (fun a w ha hq_ => res1 ha rfl rfl  w) (fun w h => ⟨rfl, h.below⟩)
      · (try simp at cq3)
        refine g_skip ?_
        refine g_inb ?_
        refine g_then ?_
        refine g_region ?_
        refine s_y (y_add rfl rfl (by omega) (by omega)) rfl rfl rfl rfl ?_
        refine s_y (y_move rfl) rfl rfl rfl rfl ?_
        refine s_nil ?_
        refine g_then ?_
        have hall : ∀ j : Nat, j < i + 1 → rdI xs (j : Int) = rdI ys (j : Int) := by
          intro k hk
          rcases Nat.lt_or_ge k i with h | h
          · exact hb_i.2 k h
          · have : k = i := by omega
            subst this; assumption
        exact fun act W ha hw => ⟨i + 1, by omega, ⟨by omega, hall⟩, W, ha.weak (sub_get ⟨rfl, rfl, rfl, rfl, trivial⟩), hw.toHq.lookSub (List.Sublist.refl _)⟩
    · (try simp at cq2)
      refine g_exit ?_
      refine g_thenx ?_
      refine g_thenx ?_
      refine g_inbx ?_
      refine g_then ?_
      refine g_seq ?_
      refine g_region ?_
      refine s_y (y_assign rfl) rfl rfl rfl rfl ?_
      refine s_nil ?_
      refine g_then ?_
      refine g_ret ?_
      rw [show decide (xs = ys) = true from decide_eq_true (rdI_ext hll fun j hj => hb_i.2 j (by omega))]
      exact g_end trivial (fun a w ha hq_ => res1 ha rfl rfl  w) (fun w h => ⟨rfl, h.below⟩)

theorem Index_any (w : World) (v : Value) (xs : List Int) (x : Int) (hv : RdV (Value.int .i64) w v xs) (hl : xs.length ≤ 1000000) :
    Calls Try.prog 74 [v, .int .i64 x].toArray w fun e w' => e = .returned (.int .i64 (ixI xs x)) ∧ Below w.heap.size w w' := by
  refine enter (N := 19) Try.func74 rfl rfl rfl ?_
  refine g_seq ?_
  refine g_region ?_
  refine s_y (y_assign rfl) rfl rfl rfl rfl ?_
  refine s_nil ?_
  refine g_then ?_
  refine g_seq ?_
  refine g_seq ?_
  refine g_region ?_
  refine s_y (y_move rfl) rfl rfl rfl rfl ?_
  refine s_y (y_lenV (n := xs.length) rfl (by obtain ⟨A, c, h1, _⟩ := hv; exact ⟨A, c, h1⟩) sle_46) rfl rfl rfl rfl ?_
  refine s_y (y_move rfl) rfl rfl rfl rfl ?_
  refine s_nil ?_
  refine g_then ?_
  refine g_block ?_
  refine g_loop (fun (i : Nat) act W => (i ≤ xs.length ∧ ∀ j : Nat, j < i → x ≠ rdI xs (j : Int)) ∧ ∃ (w1 : World), Has 19 [] [(0, v), (1, .int .i64 x), (7, .int .i64 (xs.length : Nat)), (8, .int .i64 (i : Int))] act ∧ Hp w w1 ([]) W) (fun i => xs.length - i) 0 (fun act W ha hw => ⟨⟨by omega, fun j hj => by omega⟩, W, ha.weak (sub_get ⟨rfl, rfl, rfl, rfl, trivial⟩), hw.toHq.lookSub (List.Sublist.refl _)⟩) ?_
  intro i act W ⟨hb_i, w1, ha, hw⟩
  refine g_go ha hw ?_
  clear ha hw act W
  refine g_seq ?_
  refine g_region ?_
  refine s_y (y_lss rfl rfl) rfl rfl rfl rfl ?_
  refine s_nil ?_
  refine g_then ?_
  refine g_seq ?_
  refine g_cond rfl (fun cq1 => ?_) (fun cq1 => ?_)
  · (try simp at cq1)
    refine g_skip ?_
    refine g_then ?_
    refine g_seq ?_
    refine g_block ?_
    refine g_seq ?_
    refine g_region ?_
    refine s_y (y_move rfl) rfl rfl rfl rfl ?_
    refine s_y (y_assign rfl) rfl rfl rfl rfl ?_
    refine s_nil ?_
    refine g_then ?_
    refine g_seq ?_
    refine g_region ?_
    refine s_y (y_move rfl) rfl rfl rfl rfl ?_
    refine s_y (y_move rfl) rfl rfl rfl rfl ?_
    refine s_y (y_move rfl) rfl rfl rfl rfl ?_
    refine s_y (y_idxV (enc := (Value.int .i64)) rfl rfl hv Try.underlying46 size_3 (by omega) (by omega)) rfl rfl rfl rfl ?_
    refine s_y (y_ldV (enc := (Value.int .i64)) (xs := xs) (fun w h => hv.rdl.below h.below) rfl agg_3 (rdI_at (by omega) (by omega))) rfl rfl rfl rfl ?_
    refine s_y (y_eql rfl rfl) rfl rfl rfl rfl ?_
    refine s_nil ?_
    refine g_then ?_
    refine g_cond rfl (fun cq2 => ?_) (fun cq2 => ?_)
    · (try simp at cq2)
      refine g_seq ?_
      refine g_region ?_
      refine s_y (y_move rfl) rfl rfl rfl rfl ?_
      refine s_y (y_assign rfl) rfl rfl rfl rfl ?_
      refine s_nil ?_
      refine g_then ?_
      refine g_ret ?_
      refine g_inbr ?_
      refine g_thenr ?_
      refine g_thenr ?_
      refine g_inbr ?_
      refine g_thenr ?_
      rw [ixI_some (i := i) (by omega) (by assumption) hb_i.2]
      exact g_end trivial (fun a w ha hq_ => res1 ha rfl rfl  w) (fun w h => ⟨rfl, h.below⟩)
    · (try simp at cq2)
      refine g_skip ?_
      refine g_inb ?_
      refine g_then ?_
      refine g_region ?_
      refine s_y (y_add rfl rfl (by omega) (by omega)) rfl rfl rfl rfl ?_
      refine s_y (y_move rfl) rfl rfl rfl rfl ?_
      refine s_nil ?_
      refine g_then ?_
      have hno : ∀ j : Nat, j < i + 1 → x ≠ rdI xs (j : Int) := by
        intro j hj
        rcases Nat.lt_or_ge j i with h | h
        · exact hb_i.2 j h
        · have : j = i := by omega
          subst this; assumption
      exact fun act W ha hw => ⟨i + 1, by omega, ⟨by omega, hno⟩, W, ha.weak (sub_get ⟨rfl, rfl, rfl, rfl, trivial⟩), hw.toHq.lookSub (List.Sublist.refl _)⟩
  · (try simp at cq1)
    refine g_exit ?_
    refine g_thenx ?_
    refine g_thenx ?_
    refine g_inbx ?_
    refine g_then ?_
    refine g_seq ?_
    refine g_region ?_
    refine s_y (y_assign rfl) rfl rfl rfl rfl ?_
    refine s_nil ?_
    refine g_then ?_
    refine g_ret ?_
    rw [ixI_none (fun j hj => hb_i.2 j (by omega))]
    exact g_end trivial (fun a w ha hq_ => res1 ha rfl rfl  w) (fun w h => ⟨rfl, h.below⟩)

theorem Contains_any (w : World) (v : Value) (xs : List Int) (x : Int) (hv : RdV (Value.int .i64) w v xs) (hl : xs.length ≤ 1000000) :
    Calls Try.prog 40 [v, .int .i64 x].toArray w fun e w' => e = .returned (.bool (decide (x ∈ xs))) ∧ Below w.heap.size w w' := by
  refine enter (N := 9) Try.func40 rfl rfl rfl ?_
  refine g_seq ?_
  refine g_region ?_
  refine s_y (y_assign rfl) rfl rfl rfl rfl ?_
  refine s_nil ?_
  refine g_then ?_
  refine g_seq ?_
  refine g_region ?_
  refine s_y (y_move rfl) rfl rfl rfl rfl ?_
  refine s_y (y_move rfl) rfl rfl rfl rfl ?_
  refine s_tr (t_call rfl rfl ent_74 (fun w h => Index_any w v xs x (hv.below h.below) hl)) rfl rfl rfl rfl (fun _ _ => ?_)
  refine s_y (y_geq rfl rfl) rfl rfl rfl rfl ?_
  refine s_y (y_assign rfl) rfl rfl rfl rfl ?_
  refine s_nil ?_
  refine g_then ?_
  refine g_ret ?_
  rw [← ixI_mem]
  exact g_end trivial (fun a w ha hq_ => res1 ha rfl rfl  w) (fun w h => ⟨rfl, h.below⟩)

theorem isNaN_any (w : World) (x : Int) :
    Calls Try.prog 89 [.int .i64 x].toArray w fun e w' => e = .returned (.bool (false)) ∧ Below w.heap.size w w' := by
  refine enter (N := 6) Try.func89 rfl rfl rfl ?_
  refine g_seq ?_
  refine g_region ?_
  refine s_y (y_assign rfl) rfl rfl rfl rfl ?_
  refine s_nil ?_
  refine g_then ?_
  refine g_seq ?_
  refine g_region ?_
  refine s_y (y_move rfl) rfl rfl rfl rfl ?_
  refine s_y (y_move rfl) rfl rfl rfl rfl ?_
  refine s_y (y_neq_f rfl rfl (rfl)) rfl rfl rfl rfl ?_
  refine s_y (y_assign rfl) rfl rfl rfl rfl ?_
  refine s_nil ?_
  refine g_then ?_
  refine g_ret ?_
  exact g_end trivial (fun a w ha hq_ => res1 ha rfl rfl  w) (fun w h => ⟨rfl, h.below⟩)

theorem Less_any (w : World) (x y : Int) :
    Calls Try.prog 73 [.int .i64 x, .int .i64 y].toArray w fun e w' => e = .returned (.bool (decide (x < y))) ∧ Below w.heap.size w w' := by
  refine enter (N := 17) Try.func73 rfl rfl rfl ?_
  refine g_seq ?_
  refine g_region ?_
  refine s_y (y_assign rfl) rfl rfl rfl rfl ?_
  refine s_nil ?_
  refine g_then ?_
  refine g_seq ?_
  refine g_region ?_
  refine s_y (y_move rfl) rfl rfl rfl rfl ?_
  refine s_tr (t_call rfl rfl ent_89 (fun w h => isNaN_any w _)) rfl rfl rfl rfl (fun _ _ => ?_)
  refine s_y (y_move rfl) rfl rfl rfl rfl ?_
  refine s_no rfl rfl rfl ?_
  refine s_no rfl rfl rfl ?_
  refine s_no rfl rfl rfl ?_
  refine s_y (y_pick_f rfl rfl) rfl rfl rfl rfl ?_
  refine s_y (y_move rfl) rfl rfl rfl rfl ?_
  refine s_y (y_move rfl) rfl rfl rfl rfl ?_
  refine s_y (y_move rfl) rfl rfl rfl rfl ?_
  refine s_y (y_lss rfl rfl) rfl rfl rfl rfl ?_
  refine s_y (y_pick_f rfl rfl) rfl rfl rfl rfl ?_
  refine s_y (y_assign rfl) rfl rfl rfl rfl ?_
  refine s_nil ?_
  refine g_then ?_
  refine g_ret ?_
  exact g_end trivial (fun a w ha hq_ => res1 ha rfl rfl  w) (fun w h => ⟨rfl, h.below⟩)

theorem IsSorted_t (w : World) (v : Value) (xs : List Int) (hv : RdV (Value.int .i64) w v xs) (hl : xs.length ≤ 1000000) (hs : ∀ j : Nat, j + 1 < xs.length → rdI xs (j : Int) < rdI xs ((j + 1 : Nat) : Int)) :
    Calls Try.prog 39 [v].toArray w fun e w' => e = .returned (.bool (true)) ∧ Below w.heap.size w w' := by
  refine enter (N := 21) Try.func39 rfl rfl rfl ?_
  refine g_seq ?_
  refine g_region ?_
  refine s_y (y_assign rfl) rfl rfl rfl rfl ?_
  refine s_nil ?_
  refine g_then ?_
  refine g_seq ?_
  refine g_seq ?_
  refine g_region ?_
  refine s_y (y_move rfl) rfl rfl rfl rfl ?_
  refine s_y (y_lenV (n := xs.length) rfl (by obtain ⟨A, c, h1, _⟩ := hv; exact ⟨A, c, h1⟩) sle_46) rfl rfl rfl rfl ?_
  refine s_y (y_sub rfl rfl (by omega) (by omega)) rfl rfl rfl rfl ?_
  refine s_y (y_assign rfl) rfl rfl rfl rfl ?_
  refine s_nil ?_
  refine g_then ?_
  refine g_block ?_
  refine g_loop (fun (i : Nat) act W => i ≤ xs.length ∧ ∃ (z : Int) (w1 : World), (z = ((xs.length : Nat) : Int) - 1 - (i : Int)) ∧ Has 21 [] [(0, v), (3, .int .i64 z)] act ∧ Hp w w1 ([]) W) (fun i => xs.length - i) 0 (fun act W ha hw => ⟨by omega, ((xs.length : Nat) : Int) - 1, W, (by omega), ha.weak (sub_get ⟨rfl, rfl, trivial⟩), hw.toHq.lookSub (List.Sublist.refl _)⟩) ?_
  intro i act W ⟨hb_i, z, w1, hz, ha, hw⟩
  refine g_go ha hw ?_
  clear ha hw act W
  refine g_seq ?_
  refine g_seq ?_
  refine g_region ?_
  refine s_y (y_move rfl) rfl rfl rfl rfl ?_
  refine s_y (y_gtr rfl rfl) rfl rfl rfl rfl ?_
  refine s_nil ?_
  refine g_then ?_
  refine g_cond rfl (fun cq1 => ?_) (fun cq1 => ?_)
  · (try simp at cq1)
    refine g_skip ?_
    refine g_then ?_
    refine g_seq ?_
    refine g_block ?_
    refine g_seq ?_
    obtain ⟨j, hj⟩ : ∃ j : Nat, z = ((j + 1 : Nat) : Int) := ⟨xs.length - 2 - i, by omega⟩
    refine g_draw 10 (by kernel_rfl) ?_
    refine j_p (i := 0) rfl (y_move rfl) (by kernel_rfl) (by kernel_rfl) (by kernel_rfl) rfl rfl rfl rfl rfl (.inr (fun _ h => h)) ?_
    refine j_p (i := 1) rfl (y_move rfl) (by kernel_rfl) (by kernel_rfl) (by kernel_rfl) rfl rfl rfl rfl rfl (.inr (fun _ h => h)) ?_
    refine j_p (i := 2) rfl (y_idxV (enc := (Value.int .i64)) rfl rfl hv Try.underlying46 size_3 (by omega) (by omega)) (by kernel_rfl) (by kernel_rfl) (by kernel_rfl) rfl rfl rfl rfl rfl (.inr (fun _ h => h)) ?_
    refine j_l (i := 3) rfl (y_ldV (enc := (Value.int .i64)) (xs := xs) (fun w h => hv.rdl.below h.below) rfl agg_3 (rdI_at (by omega) (by omega))) (by kernel_rfl) (by kernel_rfl) (by kernel_rfl) (by kernel_rfl) rfl rfl rfl rfl rfl (.inr (fun _ h => h)) ?_
    refine j_p (i := 4) rfl (y_move rfl) (by kernel_rfl) (by kernel_rfl) (by kernel_rfl) rfl rfl rfl rfl rfl (.inr (fun _ h => h)) ?_
    refine j_p (i := 5) rfl (y_move rfl) (by kernel_rfl) (by kernel_rfl) (by kernel_rfl) rfl rfl rfl rfl rfl (.inr (fun _ h => h)) ?_
    refine j_p (i := 6) rfl (y_sub rfl rfl (by omega) (by omega)) (by kernel_rfl) (by kernel_rfl) (by kernel_rfl) rfl rfl rfl rfl rfl (.inr (fun _ h => h)) ?_
    refine j_p (i := 7) rfl (y_idxV (enc := (Value.int .i64)) rfl rfl hv Try.underlying46 size_3 (by omega) (by omega)) (by kernel_rfl) (by kernel_rfl) (by kernel_rfl) rfl rfl rfl rfl rfl (.inr (fun _ h => h)) ?_
    refine j_l (i := 8) rfl (y_ldV (enc := (Value.int .i64)) (xs := xs) (fun w h => hv.rdl.below h.below) rfl agg_3 (rdI_at (by omega) (by omega))) (by kernel_rfl) (by kernel_rfl) (by kernel_rfl) (by kernel_rfl) rfl rfl rfl rfl rfl (.inr (fun _ h => h)) ?_
    refine j_tr (i := 9) rfl (t_call rfl rfl ent_73 (fun w h => Less_any w _ _)) (by kernel_rfl) rfl rfl rfl rfl (.inr (fun x w hb h => h)) (fun _ _ => ?_)
    refine j_nil (by kernel_rfl) ?_
    refine g_then ?_
    refine g_cond rfl (fun cq2 => ?_) (fun cq2 => ?_)
    · (try simp at cq2)
      rw [hj, show ((j + 1 : Nat) : Int) - 1 = (j : Int) by omega] at cq2; have := hs j (by omega); omega
    · (try simp at cq2)
      refine g_skip ?_
      refine g_inb ?_
      refine g_then ?_
      refine g_region ?_
      refine s_y (y_move rfl) rfl rfl rfl rfl ?_
      refine s_y (y_sub rfl rfl (by omega) (by omega)) rfl rfl rfl rfl ?_
      refine s_y (y_assign rfl) rfl rfl rfl rfl ?_
      refine s_nil ?_
      refine g_then ?_
      exact fun act W ha hw => ⟨i + 1, by omega, by omega, (z - 1), W, (by omega), ha.weak (sub_get ⟨rfl, rfl, trivial⟩), hw.toHq.lookSub (List.Sublist.refl _)⟩
  · (try simp at cq1)
    refine g_exit ?_
    refine g_thenx ?_
    refine g_thenx ?_
    refine g_inbx ?_
    refine g_then ?_
    refine g_seq ?_
    refine g_region ?_
    refine s_y (y_assign rfl) rfl rfl rfl rfl ?_
    refine s_nil ?_
    refine g_then ?_
    refine g_ret ?_
    exact g_end trivial (fun a w ha hq_ => res1 ha rfl rfl  w) (fun w h => ⟨rfl, h.below⟩)

theorem sorted_rd {xs : List Int} (h : xs.Pairwise (· < ·)) (j : Nat) (hj : j + 1 < xs.length) : rdI xs (j : Int) < rdI xs ((j + 1 : Nat) : Int) := by
  have := List.pairwise_iff_getElem.1 h j (j + 1) (by omega) hj (by omega)
  rw [rdI_getElem (by omega), rdI_getElem hj]; exact this

theorem CloneS_nil (w : World) (n c : Nat) :
    Calls Try.prog 38 [.slice none n c].toArray w fun e w' => ∃ x : Value × List (Nat × Obj), (OwnV Value.string x.1 ([] : List ByteArray) x.2 ∧ ∃ W : World, ∀ p ∈ x.2, W.heap[p.1]? = some p.2) ∧ e = .returned (x.1) ∧ Hq w w x.2 w' := by
  refine enter (N := 8) Try.func38 rfl rfl rfl ?_
  refine g_seq ?_
  refine g_region ?_
  refine s_y (y_assign rfl) rfl rfl rfl rfl ?_
  refine s_nil ?_
  refine g_then ?_
  refine g_seq ?_
  refine g_seq ?_
  refine g_region ?_
  refine s_y (y_move rfl) rfl rfl rfl rfl ?_
  refine s_y (y_eqnil rfl rfl sle_45 (fun w => by kernel_rfl)) rfl rfl rfl rfl ?_
  refine s_nil ?_
  refine g_then ?_
  refine g_cond_t rfl ?_
  refine g_seq ?_
  refine g_region ?_
  refine s_y (y_assign rfl) rfl rfl rfl rfl ?_
  refine s_nil ?_
  refine g_then ?_
  refine g_ret ?_
  refine g_thenr ?_
  exact g_end trivial (fun a w ha hq_ => res1 ha rfl rfl  w) (fun w h => ⟨(_, []), ⟨OwnV.nil, w, (h.hand (List.nil_sublist _)).at_⟩, rfl, h.hand (List.nil_sublist _)⟩)

theorem CloneS_some (w : World) (a : Addr) (n c : Nat) (xs : List ByteArray) (hv : RdV Value.string w (.slice (some a) n c) xs) (hl : xs.length ≤ 1000000) :
    Calls Try.prog 38 [.slice (some a) n c].toArray w fun e w' => ∃ x : Value × List (Nat × Obj), (OwnV Value.string x.1 xs x.2 ∧ ∃ W : World, ∀ p ∈ x.2, W.heap[p.1]? = some p.2) ∧ e = .returned (x.1) ∧ Hq w w x.2 w' := by
  obtain ⟨ie9, hi9⟩ := inf_9
  refine enter (N := 8) Try.func38 rfl rfl rfl ?_
  refine g_seq ?_
  refine g_region ?_
  refine s_y (y_assign rfl) rfl rfl rfl rfl ?_
  refine s_nil ?_
  refine g_then ?_
  refine g_seq ?_
  refine g_seq ?_
  refine g_region ?_
  refine s_y (y_move rfl) rfl rfl rfl rfl ?_
  refine s_y (y_eqnil rfl rfl sle_45 (fun w => by kernel_rfl)) rfl rfl rfl rfl ?_
  refine s_nil ?_
  refine g_then ?_
  refine g_cond_f rfl ?_
  refine g_skip ?_
  refine g_then ?_
  refine g_seq ?_
  refine g_region ?_
  refine s_tr (t_build0 (enc := Value.string) Try.underlying45 hi9.1) rfl rfl rfl rfl (fun be hbe => ?_)
  have hok1 : (SV.own be 0 []).ok 1 0 (List.map Value.string []) := ⟨Nat.le_refl _, Nat.zero_le _, rfl, rfl⟩
  refine s_y (y_move rfl) rfl rfl rfl rfl ?_
  refine s_tr (t_appendR0 (enc := Value.string) (sv := (SV.own be 0 [])) (xs := []) (ys := xs) (n := 0)  _ rfl rfl rfl hok1 Try.underlying45 hi9.1 hi9.2.1 hi9.2.2.1 hi9.2.2.2 rfl (fun w h => (hv.below h.below)) (fun _ => rfl) (by omega) (by unfold maxLen; omega)) rfl rfl rfl rfl (fun y5 hok4 => ?_)
  obtain ⟨sv2, gs3⟩ := y5
  refine s_y (y_assign rfl) rfl rfl rfl rfl ?_
  refine s_nil ?_
  refine g_then ?_
  refine g_ret ?_
  exact g_end trivial (fun a w ha hq_ => res1 ha rfl rfl  w) (fun w h => ⟨(_, sv2.mem 9 ((([]) ++ xs).map Value.string)), ⟨(OwnV.sv hok4), w, (h.hand (sub_here (sv2.mem 9 ((([]) ++ xs).map Value.string)) _)).at_⟩, rfl, h.hand (sub_here (sv2.mem 9 ((([]) ++ xs).map Value.string)) _)⟩)

theorem CloneS_any (w : World) (v : Value) (xs : List ByteArray) (hv : RdV Value.string w v xs) (hl : xs.length ≤ 1000000) : Calls Try.prog 38 [v].toArray w fun e w' => ∃ x : Value × List (Nat × Obj), (OwnV Value.string x.1 xs x.2 ∧ ∃ W : World, ∀ p ∈ x.2, W.heap[p.1]? = some p.2) ∧ e = .returned (x.1) ∧ Hq w w x.2 w' := by
  obtain ⟨A, c, rfl, hc, hr⟩ := id hv
  cases A with
  | none =>
    have : xs = [] := by
      cases xs with
      | nil => rfl
      | cons x xs => obtain ⟨ad, h, _⟩ := hr 0 x rfl; cases h
    subst this
    exact CloneS_nil w _ c
  | some a => exact CloneS_some w a _ c xs hv hl

theorem awakeE_t (w : World) :
    Calls Try.prog 22 [].toArray w fun e w' => e = .returned (.bool (true)) ∧ Below w.heap.size w w' := by
  refine enter (N := 14) Try.func22 rfl rfl rfl ?_
  refine g_seq ?_
  refine g_region ?_
  refine s_y (y_assign rfl) rfl rfl rfl rfl ?_
  refine s_nil ?_
  refine g_then ?_
  refine g_seq ?_
  refine g_region ?_
  refine s_y (y_build (vs := [(0, _), (1, _), (2, _)]) rfl rfl (fun w => bld_28_0_1_2 _ _ _ w)) rfl rfl rfl rfl ?_
  refine s_tr (t_call rfl rfl ent_18 (fun w h => by have h_ := Cost_any w (⟨#[97]⟩ : ByteArray) (⟨#[97, 98]⟩ : ByteArray) 2 3 4; rwa [costR_awake] at h_)) rfl rfl rfl rfl (fun _ _ => ?_)
  refine s_y (y_move rfl) rfl rfl rfl rfl ?_
  refine s_y (y_extract rfl rfl) rfl rfl rfl rfl ?_
  refine s_y (y_extract rfl rfl) rfl rfl rfl rfl ?_
  refine s_y (y_assign rfl) rfl rfl rfl rfl ?_
  refine s_y (y_assign rfl) rfl rfl rfl rfl ?_
  refine s_nil ?_
  refine g_then ?_
  refine g_seq ?_
  refine g_region ?_
  refine s_y (y_move rfl) rfl rfl rfl rfl ?_
  refine s_y (y_eql_t rfl rfl (by decide)) rfl rfl rfl rfl ?_
  refine s_y (y_move rfl) rfl rfl rfl rfl ?_
  refine s_y (y_move rfl) rfl rfl rfl rfl ?_
  refine s_y (y_eql_t rfl rfl (by decide)) rfl rfl rfl rfl ?_
  refine s_y (y_pick_t rfl rfl) rfl rfl rfl rfl ?_
  refine s_y (y_assign rfl) rfl rfl rfl rfl ?_
  refine s_nil ?_
  refine g_then ?_
  refine g_ret ?_
  exact g_end trivial (fun a w ha hq_ => res1 ha rfl rfl  w) (fun w h => ⟨rfl, h.below⟩)

theorem EditsWithin_ok (w : World) (a : ByteArray) (pi po ps : Int) (most : Int) (v : Value) (xs : List ByteArray) (hv : RdV Value.string w v xs) (ha : a.size ≤ 12) (hp : okP pi po ps) (hm0 : 0 ≤ most) (hm1 : most ≤ 100) (hl : xs.length ≤ 20) (hall : ∀ s ∈ xs, s.size ≤ 12) :
    Calls Try.prog 8 [.string a, .agg #[.int .i64 pi, .int .i64 po, .int .i64 ps], .int .i64 most, v].toArray w fun e w' => e = .returned (.bool true) ∧ Below w.heap.size w w' := by
  obtain ⟨ie9, hi9⟩ := inf_9
  refine enter (N := 84) Try.func8 rfl rfl rfl ?_
  refine g_seq ?_
  refine g_region ?_
  refine s_tr (t_box rfl rfl) rfl rfl rfl rfl (fun b1 hb1 => ?_)
  refine s_y (y_assign rfl) rfl rfl rfl rfl ?_
  refine s_nil ?_
  refine g_then ?_
  refine g_seq ?_
  refine g_region ?_
  refine s_y (y_assign rfl) rfl rfl rfl rfl ?_
  refine s_nil ?_
  refine g_then ?_
  refine g_seq ?_
  refine g_seq ?_
  refine g_region ?_
  refine s_y (y_move rfl) rfl rfl rfl rfl ?_
  refine s_y (y_lenV (n := xs.length) rfl (by obtain ⟨A, c, h1, _⟩ := hv; exact ⟨A, c, h1⟩) sle_45) rfl rfl rfl rfl ?_
  refine s_y (y_move rfl) rfl rfl rfl rfl ?_
  refine s_nil ?_
  refine g_then ?_
  refine g_block ?_
  refine g_loop (fun (i : Nat) act W => i ≤ xs.length ∧ ∃ (sv : SV) (m : Nat) (zs : List ByteArray) (w1 : World), (sv.ok 1 m (zs.map Value.string)) ∧ (m ≤ i) ∧ (zs = (xs.take (min i 23)).map textS) ∧ Has 84 [] [(0, .string a), (2, .int .i64 most), (3, v), (5, .pointer (some ⟨b1, 0, none⟩)), (8, .bool false), (9, sv.val m), (14, v), (15, .int .i64 (xs.length : Nat)), (16, .int .i64 (i : Int))] act ∧ Hp w w1 ((b1, .cells [.int .i64 pi, .int .i64 po, .int .i64 ps].toArray 23 (0, 0)) :: (sv.mem 9 (zs.map Value.string) ++ ([]))) W) (fun i => xs.length - i) 0 (fun act W ha hw => ⟨by omega, SV.nil, 0, [], W, (by exact ⟨rfl, rfl⟩), (by omega), (by simp), ha.weak (sub_get ⟨rfl, rfl, rfl, rfl, rfl, rfl, rfl, rfl, rfl, trivial⟩), hw.toHq.lookSub (List.Sublist.refl _)⟩) ?_
  intro i act W ⟨hb_i, sv, m, zs, w1, hokz, hmi, hzs, ha, hw⟩
  refine g_go ha hw ?_
  clear ha hw act W
  refine g_seq ?_
  refine g_region ?_
  refine s_y (y_lss rfl rfl) rfl rfl rfl rfl ?_
  refine s_nil ?_
  refine g_then ?_
  refine g_seq ?_
  refine g_cond rfl (fun cq2 => ?_) (fun cq2 => ?_)
  · (try simp at cq2)
    refine g_skip ?_
    refine g_then ?_
    refine g_seq ?_
    refine g_block ?_
    refine g_seq ?_
    refine g_region ?_
    refine s_y (y_move rfl) rfl rfl rfl rfl ?_
    refine s_y (y_idxV (enc := Value.string) rfl rfl hv Try.underlying45 size_9 (by omega) (by omega)) rfl rfl rfl rfl ?_
    refine s_y (y_ldV (enc := Value.string) (xs := xs) (fun w h => hv.rdl.below h.below) rfl agg_9 (rdS_at (by omega) (by omega))) rfl rfl rfl rfl ?_
    refine s_y (y_assign rfl) rfl rfl rfl rfl ?_
    refine s_y (y_assign rfl) rfl rfl rfl rfl ?_
    refine s_nil ?_
    refine g_then ?_
    refine g_seq ?_
    refine g_region ?_
    refine s_y (y_move rfl) rfl rfl rfl rfl ?_
    refine s_y (y_lss rfl rfl) rfl rfl rfl rfl ?_
    refine s_nil ?_
    refine g_then ?_
    refine g_cond rfl (fun cq3 => ?_) (fun cq3 => ?_)
    · (try simp at cq3)
      have hlt : (i : Int) < 23 := by omega
      refine g_region ?_
      refine s_y (y_move rfl) rfl rfl rfl rfl ?_
      refine s_y (y_move rfl) rfl rfl rfl rfl ?_
      refine s_tr (t_call rfl rfl ent_19 (fun w h => text_any w _)) rfl rfl rfl rfl (fun _ _ => ?_)
      refine s_tr (t_build (vs := [(0, .string (textS (rdS xs (i : Int))))]) (cells := [.string (textS (rdS xs (i : Int)))]) rfl rfl Try.underlying45 hi9.1 hi9.2.1 (by rw [hi9.2.2.1]; rfl) (by rw [hi9.2.2.1]; rfl) (by rw [hi9.2.2.1]; kernel_rfl)) rfl rfl rfl rfl (fun b4 hb4 => ?_)
      refine s_tr (t_appendL (enc := Value.string) (sv := sv) (xs := zs) (n := m) (v := textS (rdS xs (i : Int))) [_, _] _ rfl rfl rfl hokz Try.underlying45 hi9.1 hi9.2.1 hi9.2.2.1 hi9.2.2.2 rfl (fun w h => h.toHq.cell (i := 0) rfl rfl) rfl (by omega) (by unfold maxLen; omega)) rfl rfl rfl rfl (fun y8 hy9 => ?_)
      obtain ⟨sv5, gs6⟩ := y8
      obtain ⟨hok7, hok7b, hok7c, hok7j, hok7e⟩ := hy9
      refine s_y (y_assign rfl) rfl rfl rfl rfl ?_
      refine s_nil ?_
      refine g_inb ?_
      refine g_then ?_
      refine g_region ?_
      refine s_y (y_add rfl rfl (by omega) (by omega)) rfl rfl rfl rfl ?_
      refine s_y (y_move rfl) rfl rfl rfl rfl ?_
      refine s_nil ?_
      refine g_then ?_
      exact fun act W ha hw => ⟨i + 1, by omega, by omega, sv5, (m + 1), (zs ++ [textS (rdS xs (i : Int))]), W, (by exact hok7), (by omega), (by rw [hzs]; first | exact cut_app (by omega) hlt | exact cut_skip hlt), ha.weak (sub_get ⟨rfl, rfl, rfl, rfl, rfl, rfl, rfl, rfl, rfl, trivial⟩), hw.toHq.lookSub (List.Sublist.cons _ (List.Sublist.cons_cons _ (sub_app (sv5.mem 9 ((zs ++ [textS (rdS xs (i : Int))]).map Value.string)) (List.nil_sublist _))))⟩
    · (try simp at cq3)
      have hlt : ¬ (i : Int) < 23 := by omega
      refine g_skip ?_
      refine g_inb ?_
      refine g_then ?_
      refine g_region ?_
      refine s_y (y_add rfl rfl (by omega) (by omega)) rfl rfl rfl rfl ?_
      refine s_y (y_move rfl) rfl rfl rfl rfl ?_
      refine s_nil ?_
      refine g_then ?_
      exact fun act W ha hw => ⟨i + 1, by omega, by omega, sv, m, zs, W, (by exact hokz), (by omega), (by rw [hzs]; first | exact cut_app (by omega) hlt | exact cut_skip hlt), ha.weak (sub_get ⟨rfl, rfl, rfl, rfl, rfl, rfl, rfl, rfl, rfl, trivial⟩), hw.toHq.lookSub (List.Sublist.refl _)⟩
  · (try simp at cq2)
    refine g_exit ?_
    refine g_thenx ?_
    refine g_thenx ?_
    refine g_inbx ?_
    refine g_then ?_
    refine g_seq ?_
    have hze : zs = xs := by rw [hzs, show i = xs.length by omega]; exact cut_all hl hall
    have hta := textS_id ha
    refine g_draw 6 (by kernel_rfl) ?_
    refine j_p (i := 0) rfl (y_move rfl) (by kernel_rfl) (by kernel_rfl) (by kernel_rfl) rfl rfl rfl rfl rfl (.inr (fun _ h => h)) ?_
    refine j_l (i := 2) rfl (y_ldn 0 rfl rfl agg_23 size_23 rfl rfl) (by kernel_rfl) (by kernel_rfl) (by kernel_rfl) (by kernel_rfl) rfl rfl rfl rfl rfl (.inr (fun _ h => h)) ?_
    refine j_p (i := 4) rfl (y_move rfl) (by kernel_rfl) (by kernel_rfl) (by kernel_rfl) rfl rfl rfl rfl rfl (.inr (fun _ h => h)) ?_
    refine j_p (i := 5) rfl (y_move rfl) (by kernel_rfl) (by kernel_rfl) (by kernel_rfl) rfl rfl rfl rfl rfl (.inr (fun _ h => h)) ?_
    refine j_tr (i := 1) rfl (t_call rfl rfl ent_19 (fun w h => text_any w _)) (by kernel_rfl) rfl rfl rfl rfl (.inr (fun x w hb h => h)) (fun _ _ => ?_)
    refine j_tr (i := 3) rfl (t_call rfl rfl ent_20 (fun w h => Of_any w pi po ps)) (by kernel_rfl) rfl rfl rfl rfl (.inr (fun x w hb h => h)) (fun _ _ => ?_)
    refine j_tr (i := 6) rfl (t_callm rfl rfl ent_31 (fun w h => Within_ok w (textS a) pi po ps most _ zs (RdV.sv (e := 9) hokz fun p hp => h.at_ p (List.mem_cons_of_mem _ (mem_al (sv.mem 9 (zs.map Value.string)) hp))) (by rw [hta]; exact ha) hp hm0 hm1 (by rw [hze]; omega) (by rw [hze]; exact hall))) (by kernel_rfl) rfl rfl rfl rfl (.inl rfl) (fun x11 hx12 => ?_)
    obtain ⟨vo10, mo10⟩ := x11
    obtain ⟨hOo10, hEo10⟩ := hx12
    refine j_p (i := 7) rfl (y_move rfl) (by kernel_rfl) (by kernel_rfl) (by kernel_rfl) rfl rfl rfl rfl rfl (.inl rfl) ?_
    refine j_p (i := 8) rfl (y_extract rfl rfl) (by kernel_rfl) (by kernel_rfl) (by kernel_rfl) rfl rfl rfl rfl rfl (.inl rfl) ?_
    refine j_p (i := 9) rfl (y_extract rfl rfl) (by kernel_rfl) (by kernel_rfl) (by kernel_rfl) rfl rfl rfl rfl rfl (.inl rfl) ?_
    refine j_p (i := 10) rfl (y_assign rfl) (by kernel_rfl) (by kernel_rfl) (by kernel_rfl) rfl rfl rfl rfl rfl (.inl rfl) ?_
    refine j_p (i := 11) rfl (y_assign rfl) (by kernel_rfl) (by kernel_rfl) (by kernel_rfl) rfl rfl rfl rfl rfl (.inl rfl) ?_
    refine j_nil (by kernel_rfl) ?_
    refine g_then ?_
    refine g_seq ?_
    refine g_seq ?_
    refine g_region ?_
    refine s_y (y_move rfl) rfl rfl rfl rfl ?_
    refine s_tr (t_call rfl rfl ent_24 (fun w h => by have h_ := Line_any w a; rwa [decide_eq_true (show (a.size : Int) ≤ 12 by omega)] at h_)) rfl rfl rfl rfl (fun _ _ => ?_)
    refine s_y (y_not_t rfl) rfl rfl rfl rfl ?_
    refine s_y (y_move rfl) rfl rfl rfl rfl ?_
    refine s_y (y_ldMn (mem_ar mo10 (List.mem_cons_self ..)) rfl agg_23 size_23 rfl rfl) rfl rfl rfl rfl ?_
    refine s_tr (t_call rfl rfl ent_23 (fun w h => by have h_ := RValid_any w pi po ps; rwa [decide_eq_true hp] at h_)) rfl rfl rfl rfl (fun _ _ => ?_)
    refine s_y (y_not_t rfl) rfl rfl rfl rfl ?_
    refine s_y (y_pick_f rfl rfl) rfl rfl rfl rfl ?_
    refine s_y (y_move rfl) rfl rfl rfl rfl ?_
    refine s_y (y_move rfl) rfl rfl rfl rfl ?_
    refine s_y (y_lss_f rfl rfl (by omega)) rfl rfl rfl rfl ?_
    refine s_y (y_pick_f rfl rfl) rfl rfl rfl rfl ?_
    refine s_y (y_move rfl) rfl rfl rfl rfl ?_
    refine s_y (y_move rfl) rfl rfl rfl rfl ?_
    refine s_y (y_gtr_f rfl rfl (by omega)) rfl rfl rfl rfl ?_
    refine s_y (y_pick_f rfl rfl) rfl rfl rfl rfl ?_
    refine s_y (y_move rfl) rfl rfl rfl rfl ?_
    refine s_y (y_move rfl) rfl rfl rfl rfl ?_
    refine s_tr (t_call rfl rfl ent_32 (fun w h => (listOk_true.2 ⟨hl, hall⟩) ▸ List_any w _ xs (hv.below h.below) (by omega))) rfl rfl rfl rfl (fun _ _ => ?_)
    refine s_y (y_not_t rfl) rfl rfl rfl rfl ?_
    refine s_y (y_pick_f rfl rfl) rfl rfl rfl rfl ?_
    refine s_nil ?_
    refine g_then ?_
    refine g_cond_f rfl ?_
    refine g_skip ?_
    refine g_then ?_
    refine g_seq ?_
    refine g_region ?_
    refine s_y (y_move rfl) rfl rfl rfl rfl ?_
    refine s_y (y_move rfl) rfl rfl rfl rfl ?_
    refine s_y (y_ldMn (mem_ar mo10 (List.mem_cons_self ..)) rfl agg_23 size_23 rfl rfl) rfl rfl rfl rfl ?_
    refine s_y (y_move rfl) rfl rfl rfl rfl ?_
    refine s_y (y_move rfl) rfl rfl rfl rfl ?_
    refine s_tr (t_callm rfl rfl ent_34 (fun w h => RWithin_ok w a pi po ps most _ xs (hv.below h.below) ha hp hm0 hm1 hl hall)) rfl rfl rfl rfl (fun x14 hx15 => ?_)
    obtain ⟨vo13, mo13⟩ := x14
    obtain ⟨hOo13, hEo13⟩ := hx15
    refine s_tr (t_call rfl rfl ent_33 (fun w h => by have h_ := Equal_any w _ _ (nearL (cF (textS a) pi po ps zs) most zs.length) (nearL (cF a pi po ps xs) most xs.length) (hOo10.rd fun p hp => h.at_ p (mem_ar mo13 (mem_al mo10 hp))) (hOo13.rd fun p hp => h.at_ p (mem_al mo13 hp)) (Nat.le_trans (nearL_len ..) (by rw [hze]; omega)); rwa [decide_eq_true (show nearL (cF (textS a) pi po ps zs) most zs.length = nearL (cF a pi po ps xs) most xs.length by rw [hta, hze])] at h_)) rfl rfl rfl rfl (fun _ _ => ?_)
    refine s_y (y_move rfl) rfl rfl rfl rfl ?_
    refine s_y (y_move rfl) rfl rfl rfl rfl ?_
    refine s_y (y_eql_t rfl rfl (by decide)) rfl rfl rfl rfl ?_
    refine s_y (y_pick_t rfl rfl) rfl rfl rfl rfl ?_
    refine s_y (y_move rfl) rfl rfl rfl rfl ?_
    refine s_tr (t_call rfl rfl ent_22 (fun w h => awakeE_t w)) rfl rfl rfl rfl (fun _ _ => ?_)
    refine s_y (y_pick_t rfl rfl) rfl rfl rfl rfl ?_
    refine s_y (y_assign rfl) rfl rfl rfl rfl ?_
    refine s_nil ?_
    refine g_then ?_
    refine g_ret ?_
    exact g_end trivial (fun a w ha hq_ => res1 ha rfl rfl  w) (fun w h => ⟨rfl, h.below⟩)

theorem EditsWithin_no (w : World) (a : ByteArray) (pi po ps : Int) (most : Int) (v : Value) (xs : List ByteArray) (hv : RdV Value.string w v xs) (hlx : xs.length ≤ 9223372036854775807) (hno : ¬ (a.size ≤ 12 ∧ okP pi po ps ∧ 0 ≤ most ∧ most ≤ 100 ∧ listOk xs = true)) :
    Calls Try.prog 8 [.string a, .agg #[.int .i64 pi, .int .i64 po, .int .i64 ps], .int .i64 most, v].toArray w fun e w' => e = .returned (.bool true) ∧ Below w.heap.size w w' := by
  obtain ⟨ie9, hi9⟩ := inf_9
  refine enter (N := 84) Try.func8 rfl rfl rfl ?_
  refine g_seq ?_
  refine g_region ?_
  refine s_tr (t_box rfl rfl) rfl rfl rfl rfl (fun b1 hb1 => ?_)
  refine s_y (y_assign rfl) rfl rfl rfl rfl ?_
  refine s_nil ?_
  refine g_then ?_
  refine g_seq ?_
  refine g_region ?_
  refine s_y (y_assign rfl) rfl rfl rfl rfl ?_
  refine s_nil ?_
  refine g_then ?_
  refine g_seq ?_
  refine g_seq ?_
  refine g_region ?_
  refine s_y (y_move rfl) rfl rfl rfl rfl ?_
  refine s_y (y_lenV (n := xs.length) rfl (by obtain ⟨A, c, h1, _⟩ := hv; exact ⟨A, c, h1⟩) sle_45) rfl rfl rfl rfl ?_
  refine s_y (y_move rfl) rfl rfl rfl rfl ?_
  refine s_nil ?_
  refine g_then ?_
  refine g_block ?_
  refine g_loop (fun (i : Nat) act W => i ≤ xs.length ∧ ∃ (sv : SV) (m : Nat) (zs : List ByteArray) (w1 : World), (sv.ok 1 m (zs.map Value.string)) ∧ (m ≤ i) ∧ (zs = (xs.take (min i 23)).map textS) ∧ Has 84 [] [(0, .string a), (2, .int .i64 most), (3, v), (5, .pointer (some ⟨b1, 0, none⟩)), (8, .bool false), (9, sv.val m), (14, v), (15, .int .i64 (xs.length : Nat)), (16, .int .i64 (i : Int))] act ∧ Hp w w1 ((b1, .cells [.int .i64 pi, .int .i64 po, .int .i64 ps].toArray 23 (0, 0)) :: (sv.mem 9 (zs.map Value.string) ++ ([]))) W) (fun i => xs.length - i) 0 (fun act W ha hw => ⟨by omega, SV.nil, 0, [], W, (by exact ⟨rfl, rfl⟩), (by omega), (by simp), ha.weak (sub_get ⟨rfl, rfl, rfl, rfl, rfl, rfl, rfl, rfl, rfl, trivial⟩), hw.toHq.lookSub (List.Sublist.refl _)⟩) ?_
  intro i act W ⟨hb_i, sv, m, zs, w1, hokz, hmi, hzs, ha, hw⟩
  refine g_go ha hw ?_
  clear ha hw act W
  refine g_seq ?_
  refine g_region ?_
  refine s_y (y_lss rfl rfl) rfl rfl rfl rfl ?_
  refine s_nil ?_
  refine g_then ?_
  refine g_seq ?_
  refine g_cond rfl (fun cq2 => ?_) (fun cq2 => ?_)
  · (try simp at cq2)
    refine g_skip ?_
    refine g_then ?_
    refine g_seq ?_
    refine g_block ?_
    refine g_seq ?_
    refine g_region ?_
    refine s_y (y_move rfl) rfl rfl rfl rfl ?_
    refine s_y (y_idxV (enc := Value.string) rfl rfl hv Try.underlying45 size_9 (by omega) (by omega)) rfl rfl rfl rfl ?_
    refine s_y (y_ldV (enc := Value.string) (xs := xs) (fun w h => hv.rdl.below h.below) rfl agg_9 (rdS_at (by omega) (by omega))) rfl rfl rfl rfl ?_
    refine s_y (y_assign rfl) rfl rfl rfl rfl ?_
    refine s_y (y_assign rfl) rfl rfl rfl rfl ?_
    refine s_nil ?_
    refine g_then ?_
    refine g_seq ?_
    refine g_region ?_
    refine s_y (y_move rfl) rfl rfl rfl rfl ?_
    refine s_y (y_lss rfl rfl) rfl rfl rfl rfl ?_
    refine s_nil ?_
    refine g_then ?_
    refine g_cond rfl (fun cq3 => ?_) (fun cq3 => ?_)
    · (try simp at cq3)
      have hlt : (i : Int) < 23 := by omega
      refine g_region ?_
      refine s_y (y_move rfl) rfl rfl rfl rfl ?_
      refine s_y (y_move rfl) rfl rfl rfl rfl ?_
      refine s_tr (t_call rfl rfl ent_19 (fun w h => text_any w _)) rfl rfl rfl rfl (fun _ _ => ?_)
      refine s_tr (t_build (vs := [(0, .string (textS (rdS xs (i : Int))))]) (cells := [.string (textS (rdS xs (i : Int)))]) rfl rfl Try.underlying45 hi9.1 hi9.2.1 (by rw [hi9.2.2.1]; rfl) (by rw [hi9.2.2.1]; rfl) (by rw [hi9.2.2.1]; kernel_rfl)) rfl rfl rfl rfl (fun b4 hb4 => ?_)
      refine s_tr (t_appendL (enc := Value.string) (sv := sv) (xs := zs) (n := m) (v := textS (rdS xs (i : Int))) [_, _] _ rfl rfl rfl hokz Try.underlying45 hi9.1 hi9.2.1 hi9.2.2.1 hi9.2.2.2 rfl (fun w h => h.toHq.cell (i := 0) rfl rfl) rfl (by omega) (by unfold maxLen; omega)) rfl rfl rfl rfl (fun y8 hy9 => ?_)
      obtain ⟨sv5, gs6⟩ := y8
      obtain ⟨hok7, hok7b, hok7c, hok7j, hok7e⟩ := hy9
      refine s_y (y_assign rfl) rfl rfl rfl rfl ?_
      refine s_nil ?_
      refine g_inb ?_
      refine g_then ?_
      refine g_region ?_
      refine s_y (y_add rfl rfl (by omega) (by omega)) rfl rfl rfl rfl ?_
      refine s_y (y_move rfl) rfl rfl rfl rfl ?_
      refine s_nil ?_
      refine g_then ?_
      exact fun act W ha hw => ⟨i + 1, by omega, by omega, sv5, (m + 1), (zs ++ [textS (rdS xs (i : Int))]), W, (by exact hok7), (by omega), (by rw [hzs]; first | exact cut_app (by omega) hlt | exact cut_skip hlt), ha.weak (sub_get ⟨rfl, rfl, rfl, rfl, rfl, rfl, rfl, rfl, rfl, trivial⟩), hw.toHq.lookSub (List.Sublist.cons _ (List.Sublist.cons_cons _ (sub_app (sv5.mem 9 ((zs ++ [textS (rdS xs (i : Int))]).map Value.string)) (List.nil_sublist _))))⟩
    · (try simp at cq3)
      have hlt : ¬ (i : Int) < 23 := by omega
      refine g_skip ?_
      refine g_inb ?_
      refine g_then ?_
      refine g_region ?_
      refine s_y (y_add rfl rfl (by omega) (by omega)) rfl rfl rfl rfl ?_
      refine s_y (y_move rfl) rfl rfl rfl rfl ?_
      refine s_nil ?_
      refine g_then ?_
      exact fun act W ha hw => ⟨i + 1, by omega, by omega, sv, m, zs, W, (by exact hokz), (by omega), (by rw [hzs]; first | exact cut_app (by omega) hlt | exact cut_skip hlt), ha.weak (sub_get ⟨rfl, rfl, rfl, rfl, rfl, rfl, rfl, rfl, rfl, trivial⟩), hw.toHq.lookSub (List.Sublist.refl _)⟩
  · (try simp at cq2)
    refine g_exit ?_
    refine g_thenx ?_
    refine g_thenx ?_
    refine g_inbx ?_
    refine g_then ?_
    refine g_seq ?_
    have hnw : ¬ ((textS a).size ≤ 12 ∧ okP pi po ps ∧ 0 ≤ most ∧ most ≤ 100 ∧ zs.length ≤ 20 ∧ allL zs = true) := by
      rintro ⟨h1, h2, h3, h4, h5, h6⟩
      rw [hzs, show i = xs.length by omega] at h5 h6
      rw [textS_size] at h1
      exact hno ⟨by omega, h2, h3, h4, cut_no h5 h6⟩
    refine g_draw 6 (by kernel_rfl) ?_
    refine j_p (i := 0) rfl (y_move rfl) (by kernel_rfl) (by kernel_rfl) (by kernel_rfl) rfl rfl rfl rfl rfl (.inr (fun _ h => h)) ?_
    refine j_l (i := 2) rfl (y_ldn 0 rfl rfl agg_23 size_23 rfl rfl) (by kernel_rfl) (by kernel_rfl) (by kernel_rfl) (by kernel_rfl) rfl rfl rfl rfl rfl (.inr (fun _ h => h)) ?_
    refine j_p (i := 4) rfl (y_move rfl) (by kernel_rfl) (by kernel_rfl) (by kernel_rfl) rfl rfl rfl rfl rfl (.inr (fun _ h => h)) ?_
    refine j_p (i := 5) rfl (y_move rfl) (by kernel_rfl) (by kernel_rfl) (by kernel_rfl) rfl rfl rfl rfl rfl (.inr (fun _ h => h)) ?_
    refine j_tr (i := 1) rfl (t_call rfl rfl ent_19 (fun w h => text_any w _)) (by kernel_rfl) rfl rfl rfl rfl (.inr (fun x w hb h => h)) (fun _ _ => ?_)
    refine j_tr (i := 3) rfl (t_call rfl rfl ent_20 (fun w h => Of_any w pi po ps)) (by kernel_rfl) rfl rfl rfl rfl (.inr (fun x w hb h => h)) (fun _ _ => ?_)
    refine j_tr (i := 6) rfl (t_call rfl rfl ent_31 (fun w h => Within_no w (textS a) pi po ps most _ zs (RdV.sv (e := 9) hokz fun p hp => h.at_ p (List.mem_cons_of_mem _ (mem_al (sv.mem 9 (zs.map Value.string)) hp))) hnw)) (by kernel_rfl) rfl rfl rfl rfl (.inl rfl) (fun _ _ => ?_)
    refine j_p (i := 7) rfl (y_move rfl) (by kernel_rfl) (by kernel_rfl) (by kernel_rfl) rfl rfl rfl rfl rfl (.inl rfl) ?_
    refine j_p (i := 8) rfl (y_extract rfl rfl) (by kernel_rfl) (by kernel_rfl) (by kernel_rfl) rfl rfl rfl rfl rfl (.inl rfl) ?_
    refine j_p (i := 9) rfl (y_extract rfl rfl) (by kernel_rfl) (by kernel_rfl) (by kernel_rfl) rfl rfl rfl rfl rfl (.inl rfl) ?_
    refine j_p (i := 10) rfl (y_assign rfl) (by kernel_rfl) (by kernel_rfl) (by kernel_rfl) rfl rfl rfl rfl rfl (.inl rfl) ?_
    refine j_p (i := 11) rfl (y_assign rfl) (by kernel_rfl) (by kernel_rfl) (by kernel_rfl) rfl rfl rfl rfl rfl (.inl rfl) ?_
    refine j_nil (by kernel_rfl) ?_
    refine g_then ?_
    refine g_seq ?_
    refine g_seq ?_
    refine g_region ?_
    refine s_y (y_move rfl) rfl rfl rfl rfl ?_
    refine s_tr (t_call rfl rfl ent_24 (fun w h => Line_any w a)) rfl rfl rfl rfl (fun _ _ => ?_)
    refine s_y (y_not rfl) rfl rfl rfl rfl ?_
    refine s_y (y_move rfl) rfl rfl rfl rfl ?_
    refine g_bool 42 rfl (fun cq10 => ?_) (fun cq10 => ?_)
    · (try simp at cq10)
      refine s_no rfl rfl rfl ?_
      refine s_no rfl rfl rfl ?_
      refine s_no rfl rfl rfl ?_
      refine s_y (y_pick_t rfl rfl) rfl rfl rfl rfl ?_
      refine s_y (y_move rfl) rfl rfl rfl rfl ?_
      refine s_no rfl rfl rfl ?_
      refine s_no rfl rfl rfl ?_
      refine s_y (y_pick_t rfl rfl) rfl rfl rfl rfl ?_
      refine s_y (y_move rfl) rfl rfl rfl rfl ?_
      refine s_no rfl rfl rfl ?_
      refine s_no rfl rfl rfl ?_
      refine s_y (y_pick_t rfl rfl) rfl rfl rfl rfl ?_
      refine s_y (y_move rfl) rfl rfl rfl rfl ?_
      refine s_no rfl rfl rfl ?_
      refine s_no rfl rfl rfl ?_
      refine s_no rfl rfl rfl ?_
      refine s_y (y_pick_t rfl rfl) rfl rfl rfl rfl ?_
      refine s_nil ?_
      refine g_then ?_
      refine g_cond_t rfl ?_
      refine g_seq ?_
      refine g_region ?_
      refine s_y (y_move rfl) rfl rfl rfl rfl ?_
      refine s_y (y_lensl rfl sle_46) rfl rfl rfl rfl ?_
      refine s_y (y_eql_t rfl rfl (by decide)) rfl rfl rfl rfl ?_
      refine s_y (y_move rfl) rfl rfl rfl rfl ?_
      refine s_y (y_move rfl) rfl rfl rfl rfl ?_
      refine s_y (y_eql_t rfl rfl (by decide)) rfl rfl rfl rfl ?_
      refine s_y (y_pick_t rfl rfl) rfl rfl rfl rfl ?_
      refine s_y (y_move rfl) rfl rfl rfl rfl ?_
      refine s_tr (t_call rfl rfl ent_22 (fun w h => awakeE_t w)) rfl rfl rfl rfl (fun _ _ => ?_)
      refine s_y (y_pick_t rfl rfl) rfl rfl rfl rfl ?_
      refine s_y (y_assign rfl) rfl rfl rfl rfl ?_
      refine s_nil ?_
      refine g_then ?_
      refine g_ret ?_
      refine g_thenr ?_
      exact g_end trivial (fun a w ha hq_ => res1 ha rfl rfl  w) (fun w h => ⟨rfl, h.below⟩)
    · (try simp at cq10)
      refine s_y (y_ldn 0 rfl rfl agg_23 size_23 rfl rfl) rfl rfl rfl rfl ?_
      refine s_tr (t_call rfl rfl ent_23 (fun w h => RValid_any w pi po ps)) rfl rfl rfl rfl (fun _ _ => ?_)
      refine s_y (y_not rfl) rfl rfl rfl rfl ?_
      refine s_y (y_pick_f rfl rfl) rfl rfl rfl rfl ?_
      refine s_y (y_move rfl) rfl rfl rfl rfl ?_
      refine g_bool 47 rfl (fun cq11 => ?_) (fun cq11 => ?_)
      · (try simp at cq11)
        refine s_no rfl rfl rfl ?_
        refine s_no rfl rfl rfl ?_
        refine s_y (y_pick_t rfl rfl) rfl rfl rfl rfl ?_
        refine s_y (y_move rfl) rfl rfl rfl rfl ?_
        refine s_no rfl rfl rfl ?_
        refine s_no rfl rfl rfl ?_
        refine s_y (y_pick_t rfl rfl) rfl rfl rfl rfl ?_
        refine s_y (y_move rfl) rfl rfl rfl rfl ?_
        refine s_no rfl rfl rfl ?_
        refine s_no rfl rfl rfl ?_
        refine s_no rfl rfl rfl ?_
        refine s_y (y_pick_t rfl rfl) rfl rfl rfl rfl ?_
        refine s_nil ?_
        refine g_then ?_
        refine g_cond_t rfl ?_
        refine g_seq ?_
        refine g_region ?_
        refine s_y (y_move rfl) rfl rfl rfl rfl ?_
        refine s_y (y_lensl rfl sle_46) rfl rfl rfl rfl ?_
        refine s_y (y_eql_t rfl rfl (by decide)) rfl rfl rfl rfl ?_
        refine s_y (y_move rfl) rfl rfl rfl rfl ?_
        refine s_y (y_move rfl) rfl rfl rfl rfl ?_
        refine s_y (y_eql_t rfl rfl (by decide)) rfl rfl rfl rfl ?_
        refine s_y (y_pick_t rfl rfl) rfl rfl rfl rfl ?_
        refine s_y (y_move rfl) rfl rfl rfl rfl ?_
        refine s_tr (t_call rfl rfl ent_22 (fun w h => awakeE_t w)) rfl rfl rfl rfl (fun _ _ => ?_)
        refine s_y (y_pick_t rfl rfl) rfl rfl rfl rfl ?_
        refine s_y (y_assign rfl) rfl rfl rfl rfl ?_
        refine s_nil ?_
        refine g_then ?_
        refine g_ret ?_
        refine g_thenr ?_
        exact g_end trivial (fun a w ha hq_ => res1 ha rfl rfl  w) (fun w h => ⟨rfl, h.below⟩)
      · (try simp at cq11)
        refine s_y (y_move rfl) rfl rfl rfl rfl ?_
        refine s_y (y_lss rfl rfl) rfl rfl rfl rfl ?_
        refine s_y (y_pick_f rfl rfl) rfl rfl rfl rfl ?_
        refine s_y (y_move rfl) rfl rfl rfl rfl ?_
        refine g_bool 51 rfl (fun cq12 => ?_) (fun cq12 => ?_)
        · (try simp at cq12)
          refine s_no rfl rfl rfl ?_
          refine s_no rfl rfl rfl ?_
          refine s_y (y_pick_t rfl rfl) rfl rfl rfl rfl ?_
          refine s_y (y_move rfl) rfl rfl rfl rfl ?_
          refine s_no rfl rfl rfl ?_
          refine s_no rfl rfl rfl ?_
          refine s_no rfl rfl rfl ?_
          refine s_y (y_pick_t rfl rfl) rfl rfl rfl rfl ?_
          refine s_nil ?_
          refine g_then ?_
          refine g_cond_t rfl ?_
          refine g_seq ?_
          refine g_region ?_
          refine s_y (y_move rfl) rfl rfl rfl rfl ?_
          refine s_y (y_lensl rfl sle_46) rfl rfl rfl rfl ?_
          refine s_y (y_eql_t rfl rfl (by decide)) rfl rfl rfl rfl ?_
          refine s_y (y_move rfl) rfl rfl rfl rfl ?_
          refine s_y (y_move rfl) rfl rfl rfl rfl ?_
          refine s_y (y_eql_t rfl rfl (by decide)) rfl rfl rfl rfl ?_
          refine s_y (y_pick_t rfl rfl) rfl rfl rfl rfl ?_
          refine s_y (y_move rfl) rfl rfl rfl rfl ?_
          refine s_tr (t_call rfl rfl ent_22 (fun w h => awakeE_t w)) rfl rfl rfl rfl (fun _ _ => ?_)
          refine s_y (y_pick_t rfl rfl) rfl rfl rfl rfl ?_
          refine s_y (y_assign rfl) rfl rfl rfl rfl ?_
          refine s_nil ?_
          refine g_then ?_
          refine g_ret ?_
          refine g_thenr ?_
          exact g_end trivial (fun a w ha hq_ => res1 ha rfl rfl  w) (fun w h => ⟨rfl, h.below⟩)
        · (try simp at cq12)
          refine s_y (y_move rfl) rfl rfl rfl rfl ?_
          refine s_y (y_gtr rfl rfl) rfl rfl rfl rfl ?_
          refine s_y (y_pick_f rfl rfl) rfl rfl rfl rfl ?_
          refine s_y (y_move rfl) rfl rfl rfl rfl ?_
          refine g_bool 55 rfl (fun cq13 => ?_) (fun cq13 => ?_)
          · (try simp at cq13)
            refine s_no rfl rfl rfl ?_
            refine s_no rfl rfl rfl ?_
            refine s_no rfl rfl rfl ?_
            refine s_y (y_pick_t rfl rfl) rfl rfl rfl rfl ?_
            refine s_nil ?_
            refine g_then ?_
            refine g_cond_t rfl ?_
            refine g_seq ?_
            refine g_region ?_
            refine s_y (y_move rfl) rfl rfl rfl rfl ?_
            refine s_y (y_lensl rfl sle_46) rfl rfl rfl rfl ?_
            refine s_y (y_eql_t rfl rfl (by decide)) rfl rfl rfl rfl ?_
            refine s_y (y_move rfl) rfl rfl rfl rfl ?_
            refine s_y (y_move rfl) rfl rfl rfl rfl ?_
            refine s_y (y_eql_t rfl rfl (by decide)) rfl rfl rfl rfl ?_
            refine s_y (y_pick_t rfl rfl) rfl rfl rfl rfl ?_
            refine s_y (y_move rfl) rfl rfl rfl rfl ?_
            refine s_tr (t_call rfl rfl ent_22 (fun w h => awakeE_t w)) rfl rfl rfl rfl (fun _ _ => ?_)
            refine s_y (y_pick_t rfl rfl) rfl rfl rfl rfl ?_
            refine s_y (y_assign rfl) rfl rfl rfl rfl ?_
            refine s_nil ?_
            refine g_then ?_
            refine g_ret ?_
            refine g_thenr ?_
            exact g_end trivial (fun a w ha hq_ => res1 ha rfl rfl  w) (fun w h => ⟨rfl, h.below⟩)
          · (try simp at cq13)
            refine s_y (y_move rfl) rfl rfl rfl rfl ?_
            refine s_tr (t_call rfl rfl ent_32 (fun w h => List_any w _ xs (hv.below h.below) (by omega))) rfl rfl rfl rfl (fun _ _ => ?_)
            refine s_y (y_not rfl) rfl rfl rfl rfl ?_
            refine s_y (y_pick_f rfl rfl) rfl rfl rfl rfl ?_
            refine s_nil ?_
            refine g_then ?_
            refine g_cond rfl (fun cq14 => ?_) (fun cq14 => ?_)
            · (try simp at cq14)
              refine g_seq ?_
              refine g_region ?_
              refine s_y (y_move rfl) rfl rfl rfl rfl ?_
              refine s_y (y_lensl rfl sle_46) rfl rfl rfl rfl ?_
              refine s_y (y_eql_t rfl rfl (by decide)) rfl rfl rfl rfl ?_
              refine s_y (y_move rfl) rfl rfl rfl rfl ?_
              refine s_y (y_move rfl) rfl rfl rfl rfl ?_
              refine s_y (y_eql_t rfl rfl (by decide)) rfl rfl rfl rfl ?_
              refine s_y (y_pick_t rfl rfl) rfl rfl rfl rfl ?_
              refine s_y (y_move rfl) rfl rfl rfl rfl ?_
              refine s_tr (t_call rfl rfl ent_22 (fun w h => awakeE_t w)) rfl rfl rfl rfl (fun _ _ => ?_)
              refine s_y (y_pick_t rfl rfl) rfl rfl rfl rfl ?_
              refine s_y (y_assign rfl) rfl rfl rfl rfl ?_
              refine s_nil ?_
              refine g_then ?_
              refine g_ret ?_
              refine g_thenr ?_
              exact g_end trivial (fun a w ha hq_ => res1 ha rfl rfl  w) (fun w h => ⟨rfl, h.below⟩)
            · (try simp at cq14)
              exact absurd ⟨by omega, by assumption, by omega, by omega, by simpa using cq14⟩ hno

theorem EditsWithin_law (w : World) (a : ByteArray) (pi po ps most : Int) (v : Value) (xs : List ByteArray) (_ : a.size ≤ 140737488351232) (_ : (Lit.int .i64 pi).wf = true) (_ : (Lit.int .i64 po).wf = true) (_ : (Lit.int .i64 ps).wf = true) (_ : (Lit.int .i64 most).wf = true) (hv : RdV Value.string w v xs) (hlx : xs.length ≤ maxLen) (_ : ∀ x ∈ xs, x.size ≤ maxLen) : Calls Try.prog 8 [.string a, .agg #[.int .i64 pi, .int .i64 po, .int .i64 ps], .int .i64 most, v].toArray w fun e w' => e = .returned (.bool true) ∧ Below w.heap.size w w' := by
  by_cases h : a.size ≤ 12 ∧ okP pi po ps ∧ 0 ≤ most ∧ most ≤ 100 ∧ listOk xs = true
  · obtain ⟨h1, h2, h3, h4, h5⟩ := h
    exact EditsWithin_ok w a pi po ps most v xs hv h1 h2 h3 h4 (listOk_true.1 h5).1 (listOk_true.1 h5).2
  · exact EditsWithin_no w a pi po ps most v xs hv (by unfold maxLen at hlx; omega) h

theorem EditsNear_ok (w : World) (a : ByteArray) (pi po ps : Int) (most : Int) (v : Value) (xs : List ByteArray) (hv : RdV Value.string w v xs) (ha : a.size ≤ 12) (hp : okP pi po ps) (hm0 : 0 ≤ most) (hm1 : most ≤ 100) (hl : xs.length ≤ 20) (hall : ∀ s ∈ xs, s.size ≤ 12) :
    Calls Try.prog 10 [.string a, .agg #[.int .i64 pi, .int .i64 po, .int .i64 ps], .int .i64 most, v].toArray w fun e w' => e = .returned (.bool true) ∧ Below w.heap.size w w' := by
  refine enter (N := 108) Try.func10 rfl rfl rfl ?_
  refine g_seq ?_
  refine g_region ?_
  refine s_tr (t_box rfl rfl) rfl rfl rfl rfl (fun b1 hb1 => ?_)
  refine s_y (y_assign rfl) rfl rfl rfl rfl ?_
  refine s_nil ?_
  refine g_then ?_
  refine g_seq ?_
  refine g_seq ?_
  refine g_region ?_
  refine s_y (y_move rfl) rfl rfl rfl rfl ?_
  refine s_tr (t_call rfl rfl ent_24 (fun w h => by have h_ := Line_any w a; rwa [decide_eq_true (show (a.size : Int) ≤ 12 by omega)] at h_)) rfl rfl rfl rfl (fun _ _ => ?_)
  refine s_y (y_not_t rfl) rfl rfl rfl rfl ?_
  refine s_y (y_move rfl) rfl rfl rfl rfl ?_
  refine s_y (y_ldn 0 rfl rfl agg_23 size_23 rfl rfl) rfl rfl rfl rfl ?_
  refine s_tr (t_call rfl rfl ent_23 (fun w h => by have h_ := RValid_any w pi po ps; rwa [decide_eq_true hp] at h_)) rfl rfl rfl rfl (fun _ _ => ?_)
  refine s_y (y_not_t rfl) rfl rfl rfl rfl ?_
  refine s_y (y_pick_f rfl rfl) rfl rfl rfl rfl ?_
  refine s_y (y_move rfl) rfl rfl rfl rfl ?_
  refine s_y (y_move rfl) rfl rfl rfl rfl ?_
  refine s_y (y_lss_f rfl rfl (by omega)) rfl rfl rfl rfl ?_
  refine s_y (y_pick_f rfl rfl) rfl rfl rfl rfl ?_
  refine s_y (y_move rfl) rfl rfl rfl rfl ?_
  refine s_y (y_move rfl) rfl rfl rfl rfl ?_
  refine s_y (y_gtr_f rfl rfl (by omega)) rfl rfl rfl rfl ?_
  refine s_y (y_pick_f rfl rfl) rfl rfl rfl rfl ?_
  refine s_y (y_move rfl) rfl rfl rfl rfl ?_
  refine s_y (y_move rfl) rfl rfl rfl rfl ?_
  refine s_tr (t_call rfl rfl ent_32 (fun w h => (listOk_true.2 ⟨hl, hall⟩) ▸ List_any w _ xs (hv.below h.below) (by omega))) rfl rfl rfl rfl (fun _ _ => ?_)
  refine s_y (y_not_t rfl) rfl rfl rfl rfl ?_
  refine s_y (y_pick_f rfl rfl) rfl rfl rfl rfl ?_
  refine s_nil ?_
  refine g_then ?_
  refine g_cond_f rfl ?_
  refine g_skip ?_
  refine g_then ?_
  refine g_seq ?_
  refine g_region ?_
  refine s_y (y_move rfl) rfl rfl rfl rfl ?_
  refine s_y (y_ldn 0 rfl rfl agg_23 size_23 rfl rfl) rfl rfl rfl rfl ?_
  refine s_tr (t_call rfl rfl ent_20 (fun w h => Of_any w pi po ps)) rfl rfl rfl rfl (fun _ _ => ?_)
  refine s_y (y_move rfl) rfl rfl rfl rfl ?_
  refine s_y (y_move rfl) rfl rfl rfl rfl ?_
  refine s_tr (t_callm rfl rfl ent_38 (fun w h => CloneS_any w _ xs (hv.below h.below) (by omega))) rfl rfl rfl rfl (fun x3 hx4 => ?_)
  obtain ⟨vo2, mo2⟩ := x3
  obtain ⟨hOo2, hEo2⟩ := hx4
  refine s_tr (t_callm rfl rfl ent_31 (fun w h => Within_ok w a pi po ps most _ xs (hOo2.rd fun p hp => h.at_ p (mem_al mo2 hp)) ha hp (by omega) (by omega) hl hall)) rfl rfl rfl rfl (fun x6 hx7 => ?_)
  obtain ⟨vo5, mo5⟩ := x6
  obtain ⟨hOo5, hEo5⟩ := hx7
  refine s_y (y_move rfl) rfl rfl rfl rfl ?_
  refine s_y (y_extract rfl rfl) rfl rfl rfl rfl ?_
  refine s_y (y_extract rfl rfl) rfl rfl rfl rfl ?_
  refine s_y (y_assign rfl) rfl rfl rfl rfl ?_
  refine s_y (y_assign rfl) rfl rfl rfl rfl ?_
  refine s_nil ?_
  refine g_then ?_
  refine g_seq ?_
  refine g_seq ?_
  refine g_region ?_
  refine s_y (y_move rfl) rfl rfl rfl rfl ?_
  refine s_y (y_neq_f rfl rfl (by decide)) rfl rfl rfl rfl ?_
  refine s_y (y_move rfl) rfl rfl rfl rfl ?_
  refine s_y (y_move rfl) rfl rfl rfl rfl ?_
  refine s_tr (t_call rfl rfl ent_39 (fun w h => IsSorted_t w _ (nearL (cF a pi po ps xs) most xs.length) (hOo5.rd fun p hp => h.at_ p (mem_al mo5 hp)) (Nat.le_trans (nearL_len ..) (by omega)) (sorted_rd (nearL_sorted ..)))) rfl rfl rfl rfl (fun _ _ => ?_)
  refine s_y (y_not_t rfl) rfl rfl rfl rfl ?_
  refine s_y (y_pick_f rfl rfl) rfl rfl rfl rfl ?_
  refine s_nil ?_
  refine g_then ?_
  refine g_cond_f rfl ?_
  refine g_skip ?_
  refine g_then ?_
  refine g_seq ?_
  refine g_seq ?_
  refine g_region ?_
  refine s_y (y_move rfl) rfl rfl rfl rfl ?_
  refine s_y (y_lenV (n := xs.length) rfl (by obtain ⟨A, c, h1, _⟩ := hv; exact ⟨A, c, h1⟩) sle_45) rfl rfl rfl rfl ?_
  refine s_y (y_move rfl) rfl rfl rfl rfl ?_
  refine s_nil ?_
  refine g_then ?_
  refine g_block ?_
  refine g_loop (fun (i : Nat) act W => i ≤ xs.length ∧ ∃ (w1 : World), Has 108 [] [(0, .string a), (2, .int .i64 most), (3, v), (5, .pointer (some ⟨b1, 0, none⟩)), (9, vo5), (10, .int .i64 0), (55, v), (56, .int .i64 (xs.length : Nat)), (57, .int .i64 (i : Int))] act ∧ Hp w w1 ((mo5 ++ ((mo2 ++ ((b1, .cells [.int .i64 pi, .int .i64 po, .int .i64 ps].toArray 23 (0, 0)) :: []))))) W) (fun i => xs.length - i) 0 (fun act W ha hw => ⟨by omega, W, ha.weak (sub_get ⟨rfl, rfl, rfl, rfl, rfl, rfl, rfl, rfl, rfl, trivial⟩), hw.toHq.lookSub (List.Sublist.refl _)⟩) ?_
  intro i act W ⟨hb_i, w1, ha, hw⟩
  refine g_go ha hw ?_
  clear ha hw act W
  refine g_seq ?_
  refine g_region ?_
  refine s_y (y_lss rfl rfl) rfl rfl rfl rfl ?_
  refine s_nil ?_
  refine g_then ?_
  refine g_seq ?_
  refine g_cond rfl (fun cq8 => ?_) (fun cq8 => ?_)
  · (try simp at cq8)
    refine g_skip ?_
    refine g_then ?_
    refine g_seq ?_
    refine g_block ?_
    refine g_seq ?_
    refine g_region ?_
    refine s_y (y_move rfl) rfl rfl rfl rfl ?_
    refine s_y (y_idxV (enc := Value.string) rfl rfl hv Try.underlying45 size_9 (by omega) (by omega)) rfl rfl rfl rfl ?_
    refine s_y (y_ldV (enc := Value.string) (xs := xs) (fun w h => hv.rdl.below h.below) rfl agg_9 (rdS_at (by omega) (by omega))) rfl rfl rfl rfl ?_
    refine s_y (y_assign rfl) rfl rfl rfl rfl ?_
    refine s_y (y_assign rfl) rfl rfl rfl rfl ?_
    refine s_nil ?_
    refine g_then ?_
    refine g_seq ?_
    refine g_region ?_
    refine s_y (y_move rfl) rfl rfl rfl rfl ?_
    refine s_y (y_move rfl) rfl rfl rfl rfl ?_
    refine s_y (y_ldMn (mem_ar mo5 (mem_ar mo2 (List.mem_cons_self ..))) rfl agg_23 size_23 rfl rfl) rfl rfl rfl rfl ?_
    refine s_tr (t_call rfl rfl ent_20 (fun w h => Of_any w pi po ps)) rfl rfl rfl rfl (fun _ _ => ?_)
    refine s_tr (t_call rfl rfl ent_18 (fun w h => Cost_ok w a (rdS xs (i : Int)) pi po ps ha (hall _ (rdS_mem (by omega) (by omega))) hp)) rfl rfl rfl rfl (fun _ _ => ?_)
    refine s_y (y_move rfl) rfl rfl rfl rfl ?_
    refine s_y (y_extract rfl rfl) rfl rfl rfl rfl ?_
    refine s_y (y_extract rfl rfl) rfl rfl rfl rfl ?_
    refine s_y (y_assign rfl) rfl rfl rfl rfl ?_
    refine s_y (y_assign rfl) rfl rfl rfl rfl ?_
    refine s_nil ?_
    refine g_then ?_
    refine g_seq ?_
    refine g_region ?_
    refine s_y (y_move rfl) rfl rfl rfl rfl ?_
    refine s_y (y_neq_f rfl rfl (by decide)) rfl rfl rfl rfl ?_
    refine s_y (y_move rfl) rfl rfl rfl rfl ?_
    refine s_y (y_move rfl) rfl rfl rfl rfl ?_
    refine s_y (y_move rfl) rfl rfl rfl rfl ?_
    refine s_tr (t_call rfl rfl ent_40 (fun w h => by have h_ := Contains_any w _ (nearL (cF a pi po ps xs) most xs.length) (i : Int) (hOo5.rd fun p hp => h.at_ p (mem_al mo5 hp)) (Nat.le_trans (nearL_len ..) (by omega)); rwa [show decide ((i : Int) ∈ nearL (cF a pi po ps xs) most xs.length) = decide (D a (rdS xs (i : Int)) pi po ps a.size (rdS xs (i : Int)).size ≤ most) from decide_eq_decide.2 ((nearL_mem _ _ _ _).trans ⟨fun h => h.2, fun h => ⟨by omega, h⟩⟩)] at h_)) rfl rfl rfl rfl (fun _ _ => ?_)
    refine s_y (y_move rfl) rfl rfl rfl rfl ?_
    refine s_y (y_move rfl) rfl rfl rfl rfl ?_
    refine s_y (y_leq rfl rfl) rfl rfl rfl rfl ?_
    refine s_y (y_bneq rfl rfl Try.underlying4) rfl rfl rfl rfl ?_
    refine s_y (y_pick_f rfl rfl) rfl rfl rfl rfl ?_
    refine s_nil ?_
    refine g_then ?_
    refine g_cond rfl (fun cq9 => ?_) (fun cq9 => ?_)
    · (try simp at cq9)
      try (simp at cq9)
    · (try simp at cq9)
      refine g_skip ?_
      refine g_inb ?_
      refine g_then ?_
      refine g_region ?_
      refine s_y (y_add rfl rfl (by omega) (by omega)) rfl rfl rfl rfl ?_
      refine s_y (y_move rfl) rfl rfl rfl rfl ?_
      refine s_nil ?_
      refine g_then ?_
      exact fun act W ha hw => ⟨i + 1, by omega, by omega, W, ha.weak (sub_get ⟨rfl, rfl, rfl, rfl, rfl, rfl, rfl, rfl, rfl, trivial⟩), hw.toHq.lookSub (List.Sublist.refl _)⟩
  · (try simp at cq8)
    refine g_exit ?_
    refine g_thenx ?_
    refine g_thenx ?_
    refine g_inbx ?_
    refine g_then ?_
    refine g_seq ?_
    refine g_seq ?_
    refine g_region ?_
    refine s_y (y_move rfl) rfl rfl rfl rfl ?_
    refine s_y (y_eql rfl rfl) rfl rfl rfl rfl ?_
    refine s_nil ?_
    refine g_then ?_
    refine g_cond rfl (fun cq10 => ?_) (fun cq10 => ?_)
    · (try simp at cq10)
      refine g_seq ?_
      refine g_region ?_
      refine s_tr (t_call rfl rfl ent_22 (fun w h => awakeE_t w)) rfl rfl rfl rfl (fun _ _ => ?_)
      refine s_y (y_assign rfl) rfl rfl rfl rfl ?_
      refine s_nil ?_
      refine g_then ?_
      refine g_ret ?_
      refine g_thenr ?_
      exact g_end trivial (fun a w ha hq_ => res1 ha rfl rfl  w) (fun w h => ⟨rfl, h.below⟩)
    · (try simp at cq10)
      refine g_skip ?_
      refine g_then ?_
      refine g_seq ?_
      refine g_region ?_
      refine s_y (y_move rfl) rfl rfl rfl rfl ?_
      refine s_y (y_ldMn (mem_ar mo5 (mem_ar mo2 (List.mem_cons_self ..))) rfl agg_23 size_23 rfl rfl) rfl rfl rfl rfl ?_
      refine s_tr (t_call rfl rfl ent_20 (fun w h => Of_any w pi po ps)) rfl rfl rfl rfl (fun _ _ => ?_)
      refine s_y (y_move rfl) rfl rfl rfl rfl ?_
      refine s_y (y_add rfl rfl (by omega) (by omega)) rfl rfl rfl rfl ?_
      refine s_y (y_move rfl) rfl rfl rfl rfl ?_
      refine s_tr (t_callm rfl rfl ent_38 (fun w h => CloneS_any w _ xs (hv.below h.below) (by omega))) rfl rfl rfl rfl (fun x12 hx13 => ?_)
      obtain ⟨vo11, mo11⟩ := x12
      obtain ⟨hOo11, hEo11⟩ := hx13
      refine s_tr (t_callm rfl rfl ent_31 (fun w h => Within_ok w a pi po ps (most + 1) _ xs (hOo11.rd fun p hp => h.at_ p (mem_al mo11 hp)) ha hp (by omega) (by omega) hl hall)) rfl rfl rfl rfl (fun x15 hx16 => ?_)
      obtain ⟨vo14, mo14⟩ := x15
      obtain ⟨hOo14, hEo14⟩ := hx16
      refine s_y (y_move rfl) rfl rfl rfl rfl ?_
      refine s_y (y_extract rfl rfl) rfl rfl rfl rfl ?_
      refine s_y (y_extract rfl rfl) rfl rfl rfl rfl ?_
      refine s_y (y_assign rfl) rfl rfl rfl rfl ?_
      refine s_y (y_assign rfl) rfl rfl rfl rfl ?_
      refine s_nil ?_
      refine g_then ?_
      refine g_seq ?_
      refine g_region ?_
      refine s_y (y_move rfl) rfl rfl rfl rfl ?_
      refine s_y (y_eql_t rfl rfl (by decide)) rfl rfl rfl rfl ?_
      refine s_y (y_move rfl) rfl rfl rfl rfl ?_
      refine s_y (y_move rfl) rfl rfl rfl rfl ?_
      refine s_y (y_lenV (n := ((nearL (cF a pi po ps xs) (most + 1) xs.length).length)) rfl hOo14.1 sle_46) rfl rfl rfl rfl ?_
      refine s_y (y_move rfl) rfl rfl rfl rfl ?_
      refine s_y (y_lenV (n := ((nearL (cF a pi po ps xs) most xs.length).length)) rfl hOo5.1 sle_46) rfl rfl rfl rfl ?_
      refine s_y (y_geq_t rfl rfl (by have h_ := nearL_mono (cF a pi po ps xs) (show most ≤ most + 1 by omega) xs.length; omega)) rfl rfl rfl rfl ?_
      refine s_y (y_pick_t rfl rfl) rfl rfl rfl rfl ?_
      refine s_y (y_move rfl) rfl rfl rfl rfl ?_
      refine s_tr (t_call rfl rfl ent_22 (fun w h => awakeE_t w)) rfl rfl rfl rfl (fun _ _ => ?_)
      refine s_y (y_pick_t rfl rfl) rfl rfl rfl rfl ?_
      refine s_y (y_assign rfl) rfl rfl rfl rfl ?_
      refine s_nil ?_
      refine g_then ?_
      refine g_ret ?_
      exact g_end trivial (fun a w ha hq_ => res1 ha rfl rfl  w) (fun w h => ⟨rfl, h.below⟩)

theorem EditsNear_no (w : World) (a : ByteArray) (pi po ps : Int) (most : Int) (v : Value) (xs : List ByteArray) (hv : RdV Value.string w v xs) (hlx : xs.length ≤ 9223372036854775807) (hno : ¬ (a.size ≤ 12 ∧ okP pi po ps ∧ 0 ≤ most ∧ most ≤ 100 ∧ listOk xs = true)) :
    Calls Try.prog 10 [.string a, .agg #[.int .i64 pi, .int .i64 po, .int .i64 ps], .int .i64 most, v].toArray w fun e w' => e = .returned (.bool true) ∧ Below w.heap.size w w' := by
  refine enter (N := 108) Try.func10 rfl rfl rfl ?_
  refine g_seq ?_
  refine g_region ?_
  refine s_tr (t_box rfl rfl) rfl rfl rfl rfl (fun b1 hb1 => ?_)
  refine s_y (y_assign rfl) rfl rfl rfl rfl ?_
  refine s_nil ?_
  refine g_then ?_
  refine g_seq ?_
  refine g_seq ?_
  refine g_region ?_
  refine s_y (y_move rfl) rfl rfl rfl rfl ?_
  refine s_tr (t_call rfl rfl ent_24 (fun w h => Line_any w a)) rfl rfl rfl rfl (fun _ _ => ?_)
  refine s_y (y_not rfl) rfl rfl rfl rfl ?_
  refine s_y (y_move rfl) rfl rfl rfl rfl ?_
  refine g_bool 19 rfl (fun cq2 => ?_) (fun cq2 => ?_)
  · (try simp at cq2)
    refine s_no rfl rfl rfl ?_
    refine s_no rfl rfl rfl ?_
    refine s_no rfl rfl rfl ?_
    refine s_y (y_pick_t rfl rfl) rfl rfl rfl rfl ?_
    refine s_y (y_move rfl) rfl rfl rfl rfl ?_
    refine s_no rfl rfl rfl ?_
    refine s_no rfl rfl rfl ?_
    refine s_y (y_pick_t rfl rfl) rfl rfl rfl rfl ?_
    refine s_y (y_move rfl) rfl rfl rfl rfl ?_
    refine s_no rfl rfl rfl ?_
    refine s_no rfl rfl rfl ?_
    refine s_y (y_pick_t rfl rfl) rfl rfl rfl rfl ?_
    refine s_y (y_move rfl) rfl rfl rfl rfl ?_
    refine s_no rfl rfl rfl ?_
    refine s_no rfl rfl rfl ?_
    refine s_no rfl rfl rfl ?_
    refine s_y (y_pick_t rfl rfl) rfl rfl rfl rfl ?_
    refine s_nil ?_
    refine g_then ?_
    refine g_cond_t rfl ?_
    refine g_seq ?_
    refine g_region ?_
    refine s_tr (t_call rfl rfl ent_22 (fun w h => awakeE_t w)) rfl rfl rfl rfl (fun _ _ => ?_)
    refine s_y (y_assign rfl) rfl rfl rfl rfl ?_
    refine s_nil ?_
    refine g_then ?_
    refine g_ret ?_
    refine g_thenr ?_
    exact g_end trivial (fun a w ha hq_ => res1 ha rfl rfl  w) (fun w h => ⟨rfl, h.below⟩)
  · (try simp at cq2)
    refine s_y (y_ldn 0 rfl rfl agg_23 size_23 rfl rfl) rfl rfl rfl rfl ?_
    refine s_tr (t_call rfl rfl ent_23 (fun w h => RValid_any w pi po ps)) rfl rfl rfl rfl (fun _ _ => ?_)
    refine s_y (y_not rfl) rfl rfl rfl rfl ?_
    refine s_y (y_pick_f rfl rfl) rfl rfl rfl rfl ?_
    refine s_y (y_move rfl) rfl rfl rfl rfl ?_
    refine g_bool 24 rfl (fun cq3 => ?_) (fun cq3 => ?_)
    · (try simp at cq3)
      refine s_no rfl rfl rfl ?_
      refine s_no rfl rfl rfl ?_
      refine s_y (y_pick_t rfl rfl) rfl rfl rfl rfl ?_
      refine s_y (y_move rfl) rfl rfl rfl rfl ?_
      refine s_no rfl rfl rfl ?_
      refine s_no rfl rfl rfl ?_
      refine s_y (y_pick_t rfl rfl) rfl rfl rfl rfl ?_
      refine s_y (y_move rfl) rfl rfl rfl rfl ?_
      refine s_no rfl rfl rfl ?_
      refine s_no rfl rfl rfl ?_
      refine s_no rfl rfl rfl ?_
      refine s_y (y_pick_t rfl rfl) rfl rfl rfl rfl ?_
      refine s_nil ?_
      refine g_then ?_
      refine g_cond_t rfl ?_
      refine g_seq ?_
      refine g_region ?_
      refine s_tr (t_call rfl rfl ent_22 (fun w h => awakeE_t w)) rfl rfl rfl rfl (fun _ _ => ?_)
      refine s_y (y_assign rfl) rfl rfl rfl rfl ?_
      refine s_nil ?_
      refine g_then ?_
      refine g_ret ?_
      refine g_thenr ?_
      exact g_end trivial (fun a w ha hq_ => res1 ha rfl rfl  w) (fun w h => ⟨rfl, h.below⟩)
    · (try simp at cq3)
      refine s_y (y_move rfl) rfl rfl rfl rfl ?_
      refine s_y (y_lss rfl rfl) rfl rfl rfl rfl ?_
      refine s_y (y_pick_f rfl rfl) rfl rfl rfl rfl ?_
      refine s_y (y_move rfl) rfl rfl rfl rfl ?_
      refine g_bool 28 rfl (fun cq4 => ?_) (fun cq4 => ?_)
      · (try simp at cq4)
        refine s_no rfl rfl rfl ?_
        refine s_no rfl rfl rfl ?_
        refine s_y (y_pick_t rfl rfl) rfl rfl rfl rfl ?_
        refine s_y (y_move rfl) rfl rfl rfl rfl ?_
        refine s_no rfl rfl rfl ?_
        refine s_no rfl rfl rfl ?_
        refine s_no rfl rfl rfl ?_
        refine s_y (y_pick_t rfl rfl) rfl rfl rfl rfl ?_
        refine s_nil ?_
        refine g_then ?_
        refine g_cond_t rfl ?_
        refine g_seq ?_
        refine g_region ?_
        refine s_tr (t_call rfl rfl ent_22 (fun w h => awakeE_t w)) rfl rfl rfl rfl (fun _ _ => ?_)
        refine s_y (y_assign rfl) rfl rfl rfl rfl ?_
        refine s_nil ?_
        refine g_then ?_
        refine g_ret ?_
        refine g_thenr ?_
        exact g_end trivial (fun a w ha hq_ => res1 ha rfl rfl  w) (fun w h => ⟨rfl, h.below⟩)
      · (try simp at cq4)
        refine s_y (y_move rfl) rfl rfl rfl rfl ?_
        refine s_y (y_gtr rfl rfl) rfl rfl rfl rfl ?_
        refine s_y (y_pick_f rfl rfl) rfl rfl rfl rfl ?_
        refine s_y (y_move rfl) rfl rfl rfl rfl ?_
        refine g_bool 32 rfl (fun cq5 => ?_) (fun cq5 => ?_)
        · (try simp at cq5)
          refine s_no rfl rfl rfl ?_
          refine s_no rfl rfl rfl ?_
          refine s_no rfl rfl rfl ?_
          refine s_y (y_pick_t rfl rfl) rfl rfl rfl rfl ?_
          refine s_nil ?_
          refine g_then ?_
          refine g_cond_t rfl ?_
          refine g_seq ?_
          refine g_region ?_
          refine s_tr (t_call rfl rfl ent_22 (fun w h => awakeE_t w)) rfl rfl rfl rfl (fun _ _ => ?_)
          refine s_y (y_assign rfl) rfl rfl rfl rfl ?_
          refine s_nil ?_
          refine g_then ?_
          refine g_ret ?_
          refine g_thenr ?_
          exact g_end trivial (fun a w ha hq_ => res1 ha rfl rfl  w) (fun w h => ⟨rfl, h.below⟩)
        · (try simp at cq5)
          refine s_y (y_move rfl) rfl rfl rfl rfl ?_
          refine s_tr (t_call rfl rfl ent_32 (fun w h => List_any w _ xs (hv.below h.below) (by omega))) rfl rfl rfl rfl (fun _ _ => ?_)
          refine s_y (y_not rfl) rfl rfl rfl rfl ?_
          refine s_y (y_pick_f rfl rfl) rfl rfl rfl rfl ?_
          refine s_nil ?_
          refine g_then ?_
          refine g_cond rfl (fun cq6 => ?_) (fun cq6 => ?_)
          · (try simp at cq6)
            refine g_seq ?_
            refine g_region ?_
            refine s_tr (t_call rfl rfl ent_22 (fun w h => awakeE_t w)) rfl rfl rfl rfl (fun _ _ => ?_)
            refine s_y (y_assign rfl) rfl rfl rfl rfl ?_
            refine s_nil ?_
            refine g_then ?_
            refine g_ret ?_
            refine g_thenr ?_
            exact g_end trivial (fun a w ha hq_ => res1 ha rfl rfl  w) (fun w h => ⟨rfl, h.below⟩)
          · (try simp at cq6)
            exact absurd ⟨by omega, by assumption, by omega, by omega, by simpa using cq6⟩ hno

theorem EditsNear_law (w : World) (a : ByteArray) (pi po ps most : Int) (v : Value) (xs : List ByteArray) (_ : a.size ≤ 140737488351232) (_ : (Lit.int .i64 pi).wf = true) (_ : (Lit.int .i64 po).wf = true) (_ : (Lit.int .i64 ps).wf = true) (_ : (Lit.int .i64 most).wf = true) (hv : RdV Value.string w v xs) (hlx : xs.length ≤ maxLen) (_ : ∀ x ∈ xs, x.size ≤ maxLen) : Calls Try.prog 10 [.string a, .agg #[.int .i64 pi, .int .i64 po, .int .i64 ps], .int .i64 most, v].toArray w fun e w' => e = .returned (.bool true) ∧ Below w.heap.size w w' := by
  by_cases h : a.size ≤ 12 ∧ okP pi po ps ∧ 0 ≤ most ∧ most ≤ 100 ∧ listOk xs = true
  · obtain ⟨h1, h2, h3, h4, h5⟩ := h
    exact EditsNear_ok w a pi po ps most v xs hv h1 h2 h3 h4 (listOk_true.1 h5).1 (listOk_true.1 h5).2
  · exact EditsNear_no w a pi po ps most v xs hv (by unfold maxLen at hlx; omega) h

end Go.Proofs.Ytnnpdgegejklpaa
