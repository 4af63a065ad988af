/- The law WheelsHeard, walked. -/
import Derived.Test.YtncenmgkdodioaaWhM
import Derived.Test.YtncenmgkdodioaaWhHrd
import Derived.Test.YtncenmgkdodioaaWhLO
namespace Go.Proofs.Ytncenmgkdodioaa
open Go.RowKit Go.Sx Go.Wh Go.Dft
set_option linter.unusedVariables false
set_option linter.unusedSimpArgs false
set_option maxRecDepth 100000
set_option maxHeartbeats 4000000

private theorem ent_23 : Enters Try.prog 23 := enters_of Try.func23 (by kernel_rfl) rfl
private theorem ent_24 : Enters Try.prog 24 := enters_of Try.func24 (by kernel_rfl) rfl
private theorem ent_50 : Enters Try.prog 50 := enters_of Try.func50 (by kernel_rfl) rfl
private theorem inf_3 : ∃ ie, Try.prog.info? 3 = some ie ∧ ie.zero = some (.int .i64 0) ∧ ie.size = 1 ∧ ie.bytes = 8 := info_of (by kernel_rfl) (by kernel_rfl)
private theorem size_3 : (Try.prog.info? 3).map (·.size) = some 1 := by kernel_rfl
private theorem agg_3 : isAggB Try.prog 3 = some false := by kernel_rfl
private theorem sle_32 : Try.prog.underlying 32 = some (.slice (Try.prog.elem 32)) := by kernel_rfl
private theorem ent_41 : Enters Try.prog 41 := enters_of Try.func41 (by kernel_rfl) rfl
private theorem ent_51 : Enters Try.prog 51 := enters_of Try.func51 (by kernel_rfl) rfl
private theorem ent_30 : Enters Try.prog 30 := enters_of Try.func30 (by kernel_rfl) rfl
private theorem ent_20 : Enters Try.prog 20 := enters_of Try.func20 (by kernel_rfl) rfl

theorem WheelsHeard_ok (w : World) (n a b : Nat) (hn : 2 ≤ n) (hn2 : n ≤ 16) (hma : a < 2 ^ n) (hmb : b < 2 ^ n) :
    Calls Try.prog 13 [.int .i64 (n : Int), .int .i64 (a : Int), .int .i64 (b : Int)].toArray w fun e w' => e = .returned (.bool true) ∧ Below w.heap.size w w' := by
  have hpe : ((2 ^ n : Nat) : Int) = (2 : Int) ^ n := by simp
  have hp16 := pow_le hn2
  have hA0 : (0 : Int) ≤ (a : Int) := by omega
  have hA1 : (a : Int) < 2 ^ n := by omega
  have hB0 : (0 : Int) ≤ (b : Int) := by omega
  have hB1 : (b : Int) < 2 ^ n := by omega
  obtain ⟨ie3, hi3⟩ := inf_3
  refine enter (N := 131) Try.func13 rfl rfl rfl ?_
  refine g_seq ?_
  refine g_region ?_
  refine s_y (y_assign rfl) rfl rfl rfl rfl ?_
  refine s_nil ?_
  refine g_then ?_
  refine g_seq ?_
  refine g_region ?_
  refine s_y (y_move rfl) rfl rfl rfl rfl ?_
  refine s_y (y_move rfl) rfl rfl rfl rfl ?_
  refine s_y (y_move rfl) rfl rfl rfl rfl ?_
  refine s_tr (t_call rfl rfl ent_23 (fun w h => Alike_ok w n (a : Int) (b : Int) hn hn2 hA0 hA1 hB0 hB1)) rfl rfl rfl rfl (fun _ _ => ?_)
  refine s_y (y_move rfl) rfl rfl rfl rfl ?_
  refine s_y (y_extract rfl rfl) rfl rfl rfl rfl ?_
  refine s_y (y_extract rfl rfl) rfl rfl rfl rfl ?_
  refine s_y (y_assign rfl) rfl rfl rfl rfl ?_
  refine s_y (y_assign rfl) rfl rfl rfl rfl ?_
  refine s_nil ?_
  refine g_then ?_
  refine g_seq ?_
  refine g_seq ?_
  refine g_region ?_
  refine s_y (y_move rfl) rfl rfl rfl rfl ?_
  refine s_y (y_neq_f rfl rfl (by decide)) rfl rfl rfl rfl ?_
  refine s_y (y_move rfl) rfl rfl rfl rfl ?_
  refine s_y (y_move rfl) rfl rfl rfl rfl ?_
  refine s_y (y_move rfl) rfl rfl rfl rfl ?_
  refine s_tr (t_call rfl rfl ent_24 (fun w h => Valid_t w n (a : Int) hn hn2 hA0 hA1)) rfl rfl rfl rfl (fun _ _ => ?_)
  refine s_y (y_not_t rfl) rfl rfl rfl rfl ?_
  refine s_y (y_pick_f rfl rfl) rfl rfl rfl rfl ?_
  refine s_y (y_move rfl) rfl rfl rfl rfl ?_
  refine s_y (y_move rfl) rfl rfl rfl rfl ?_
  refine s_y (y_move rfl) rfl rfl rfl rfl ?_
  refine s_tr (t_call rfl rfl ent_24 (fun w h => Valid_t w n (b : Int) hn hn2 hB0 hB1)) rfl rfl rfl rfl (fun _ _ => ?_)
  refine s_y (y_not_t rfl) rfl rfl rfl rfl ?_
  refine s_y (y_pick_f rfl rfl) rfl rfl rfl rfl ?_
  refine s_nil ?_
  refine g_then ?_
  refine g_cond_f rfl ?_
  refine g_skip ?_
  refine g_then ?_
  refine g_seq ?_
  refine g_region ?_
  refine s_y (y_move rfl) rfl rfl rfl rfl ?_
  refine s_y (y_move rfl) rfl rfl rfl rfl ?_
  refine s_tr (t_call rfl rfl ent_50 (fun w h => Flat_ok w n (a : Int) hn hn2 hA0 hA1)) rfl rfl rfl rfl (fun _ _ => ?_)
  refine s_y (y_move rfl) rfl rfl rfl rfl ?_
  refine s_y (y_extract rfl rfl) rfl rfl rfl rfl ?_
  refine s_y (y_extract rfl rfl) rfl rfl rfl rfl ?_
  refine s_y (y_assign rfl) rfl rfl rfl rfl ?_
  refine s_y (y_assign rfl) rfl rfl rfl rfl ?_
  refine s_nil ?_
  refine g_then ?_
  refine g_seq ?_
  refine g_seq ?_
  refine g_region ?_
  refine s_y (y_move rfl) rfl rfl rfl rfl ?_
  refine s_y (y_neq_f rfl rfl (by decide)) rfl rfl rfl rfl ?_
  refine s_nil ?_
  refine g_then ?_
  refine g_cond_f rfl ?_
  refine g_skip ?_
  refine g_then ?_
  refine g_seq ?_
  refine g_region ?_
  refine s_y (y_move rfl) rfl rfl rfl rfl ?_
  refine s_tr (t_makeL (enc := (Value.int .i64)) (z := (0 : Int)) (n := n) rfl Try.underlying32 hi3.1 hi3.2.1 hi3.2.2.1 rfl (by rw [hi3.2.2.2]; omega) (by omega)) rfl rfl rfl rfl (fun bz hbz => ?_)
  refine s_y (y_assign rfl) rfl rfl rfl rfl ?_
  refine s_nil ?_
  refine g_then ?_
  refine g_seq ?_
  refine g_seq ?_
  refine g_region ?_
  refine s_y (y_move rfl) rfl rfl rfl rfl ?_
  refine s_y (y_move rfl) rfl rfl rfl rfl ?_
  refine s_nil ?_
  refine g_then ?_
  refine g_block ?_
  refine g_loop (fun (i : Nat) act W => i ≤ n ∧ ∃ (zs : List Int) (w1 : World), (zs.length = n) ∧ (∀ e : Nat, 0 ≤ rdI zs (e : Int) ∧ rdI zs (e : Int) ≤ 16 * (i : Int)) ∧ (∀ e : Nat, e < n → rdI zs (e : Int) = Sm (fun x => Sm (fun y => gT n (a : Int) e x y) n) i) ∧ Has 131 [] [(0, .int .i64 (n : Int)), (1, .int .i64 (a : Int)), (2, .int .i64 (b : Int)), (6, .bool false), (7, .bool (decide (powL (qOf n) (wOf n) n (chL n (a : Int)) = powL (qOf n) (wOf n) n (chL n (b : Int))))), (9, .bool (flatB (powL (qOf n) (wOf n) n (chL n (a : Int))))), (10, .slice (some ⟨bz, 0, none⟩) n n), (52, .int .i64 (n : Int)), (53, .int .i64 (i : Int))] act ∧ Hp w w1 ((bz, .cells (zs.map (Value.int .i64) ++ []).toArray 3 (0, 0)) :: []) W) (fun i => n - i) 0 (fun act W ha hw => ⟨by omega, List.replicate n 0, W, (by simp), (by intro e; rw [rdI_replicate]; omega), (by intro e _; exact rdI_replicate), ha.weak (sub_get ⟨rfl, rfl, rfl, rfl, rfl, rfl, rfl, rfl, rfl, trivial⟩), hw.toHq.lookSub (List.Sublist.refl _)⟩) ?_
  intro i act W ⟨hb_i, zs, w1, hzl, hzr, hzs, ha, hw⟩
  refine g_go ha hw ?_
  clear ha hw act W
  refine g_seq ?_
  refine g_region ?_
  refine s_y (y_lss rfl rfl) rfl rfl rfl rfl ?_
  refine s_nil ?_
  refine g_then ?_
  refine g_seq ?_
  refine g_cond rfl (fun cq1 => ?_) (fun cq1 => ?_)
  · (try simp at cq1)
    refine g_skip ?_
    refine g_then ?_
    refine g_seq ?_
    refine g_block ?_
    refine g_seq ?_
    refine g_region ?_
    refine s_y (y_move rfl) rfl rfl rfl rfl ?_
    refine s_y (y_assign rfl) rfl rfl rfl rfl ?_
    refine s_nil ?_
    refine g_then ?_
    refine g_seq ?_
    refine g_region ?_
    refine s_y (y_move rfl) rfl rfl rfl rfl ?_
    refine s_y (y_move rfl) rfl rfl rfl rfl ?_
    refine s_nil ?_
    refine g_then ?_
    refine g_block ?_
    refine g_loop (fun (j : Nat) act W => j ≤ n ∧ ∃ (zs : List Int) (w1 : World), (zs.length = n) ∧ (∀ e : Nat, 0 ≤ rdI zs (e : Int) ∧ rdI zs (e : Int) ≤ 16 * (i : Int) + (j : Int)) ∧ (∀ e : Nat, e < n → rdI zs (e : Int) = Sm (fun x => Sm (fun y => gT n (a : Int) e x y) n) i + Sm (fun y => gT n (a : Int) e i y) j) ∧ Has 131 [] [(0, .int .i64 (n : Int)), (1, .int .i64 (a : Int)), (2, .int .i64 (b : Int)), (6, .bool false), (7, .bool (decide (powL (qOf n) (wOf n) n (chL n (a : Int)) = powL (qOf n) (wOf n) n (chL n (b : Int))))), (9, .bool (flatB (powL (qOf n) (wOf n) n (chL n (a : Int))))), (10, .slice (some ⟨bz, 0, none⟩) n n), (11, .int .i64 (i : Int)), (52, .int .i64 (n : Int)), (53, .int .i64 (i : Int)), (54, .bool (decide ((i : Int) < (n : Int)))), (55, .int .i64 (i : Int)), (56, .int .i64 (n : Int)), (57, .int .i64 (j : Int))] act ∧ Hp w w1 ((bz, .cells (zs.map (Value.int .i64) ++ []).toArray 3 (0, 0)) :: []) W) (fun j => n - j) 0 (fun act W ha hw => ⟨by omega, zs, W, (by exact hzl), (by intro e; have := hzr e; omega), (by intro e he; rw [hzs e he]; simp [Sm]), ha.weak (sub_get ⟨rfl, rfl, rfl, rfl, rfl, rfl, rfl, rfl, rfl, rfl, rfl, rfl, rfl, rfl, trivial⟩), hw.toHq.lookSub (List.Sublist.refl _)⟩) ?_
    intro j act W ⟨hb_j, zs, w1, hzl, hzr, hzs, ha, hw⟩
    refine g_go ha hw ?_
    clear ha hw act W
    refine g_seq ?_
    refine g_region ?_
    refine s_y (y_lss rfl rfl) rfl rfl rfl rfl ?_
    refine s_nil ?_
    refine g_then ?_
    refine g_seq ?_
    refine g_cond rfl (fun cq2 => ?_) (fun cq2 => ?_)
    · (try simp at cq2)
      refine g_skip ?_
      refine g_then ?_
      refine g_seq ?_
      refine g_block ?_
      refine g_seq ?_
      refine g_region ?_
      refine s_y (y_move rfl) rfl rfl rfl rfl ?_
      refine s_y (y_assign rfl) rfl rfl rfl rfl ?_
      refine s_nil ?_
      refine g_then ?_
      refine g_seq ?_
      have hdi := Int.ediv_nonneg hA0 (show (0 : Int) ≤ 2 ^ (i : Int).toNat from Int.pow_nonneg (by decide))
      have hdi2 := Int.ediv_le_self (2 ^ (i : Int).toNat) hA0
      have hdj := Int.ediv_nonneg hA0 (show (0 : Int) ≤ 2 ^ (j : Int).toNat from Int.pow_nonneg (by decide))
      have hdj2 := Int.ediv_le_self (2 ^ (j : Int).toNat) hA0
      refine g_region ?_
      refine s_y (y_move rfl) rfl rfl rfl rfl ?_
      refine s_y (y_move rfl) rfl rfl rfl rfl ?_
      refine s_y (y_neq rfl rfl) rfl rfl rfl rfl ?_
      refine s_y (y_move rfl) rfl rfl rfl rfl ?_
      refine g_bool 63 rfl (fun cq3 => ?_) (fun cq3 => ?_)
      · (try simp at cq3)
        have hxy : i ≠ j := by first | exact cq3 | omega
        refine s_y (y_move rfl) rfl rfl rfl rfl ?_
        refine s_y (y_move rfl) rfl rfl rfl rfl ?_
        refine s_y (y_shr rfl rfl (by omega) (by omega) (by omega)) rfl rfl rfl rfl ?_
        refine s_y (y_and rfl rfl (by omega) (by omega)) rfl rfl rfl rfl ?_
        rw [show ((((a : Int) / 2 ^ ((i : Int) : Int).toNat : Int).toNat &&& (1 : Int).toNat : Nat) : Int) = bitI (a : Int) i from rfl]
        refine s_y (y_eql rfl rfl) rfl rfl rfl rfl ?_
        refine s_y (y_pick_t rfl rfl) rfl rfl rfl rfl ?_
        refine s_y (y_move rfl) rfl rfl rfl rfl ?_
        refine g_bool 70 rfl (fun cq4 => ?_) (fun cq4 => ?_)
        · (try simp at cq4)
          have hb1 : bitI (a : Int) i = 1 := cq4
          refine s_y (y_move rfl) rfl rfl rfl rfl ?_
          refine s_y (y_move rfl) rfl rfl rfl rfl ?_
          refine s_y (y_shr rfl rfl (by omega) (by omega) (by omega)) rfl rfl rfl rfl ?_
          refine s_y (y_and rfl rfl (by omega) (by omega)) rfl rfl rfl rfl ?_
          rw [show ((((a : Int) / 2 ^ ((j : Int) : Int).toNat : Int).toNat &&& (1 : Int).toNat : Nat) : Int) = bitI (a : Int) j from rfl]
          refine s_y (y_eql rfl rfl) rfl rfl rfl rfl ?_
          refine s_y (y_pick_t rfl rfl) rfl rfl rfl rfl ?_
          refine s_nil ?_
          refine g_then ?_
          refine g_cond rfl (fun cq5 => ?_) (fun cq5 => ?_)
          · (try simp at cq5)
            have hb2 : bitI (a : Int) j = 1 := cq5
            have hmr := mod_range (show 0 < n by omega) ((i : Int) - (j : Int) + (n : Int))
            obtain ⟨q, hq⟩ : ∃ q : Nat, ((i : Int) - (j : Int) + (n : Int)) % (n : Int) = (q : Int) := ⟨(((i : Int) - (j : Int) + (n : Int)) % (n : Int)).toNat, by omega⟩
            have hzq := hzr q
            rw [← hq] at hzq
            have hall : ∀ e : Nat, e < n → rdI (zs.set (((i : Int) - (j : Int) + (n : Int)) % (n : Int) : Int).toNat (rdI zs (((i : Int) - (j : Int) + (n : Int)) % (n : Int)) + 1)) (e : Int) = Sm (fun x => Sm (fun y => gT n (a : Int) e x y) n) i + Sm (fun y => gT n (a : Int) e i y) (j + 1) := by
              intro e he
              rw [rdI_setI hmr.1 (by omega), Sm]
              have hg : gT n (a : Int) e i j = if ((i : Int) - (j : Int) + (n : Int)) % (n : Int) = (e : Int) then 1 else 0 := by
                unfold gT
                by_cases h : ((i : Int) - (j : Int) + (n : Int)) % (n : Int) = (e : Int)
                · rw [if_pos ⟨hxy, h⟩, if_pos h, hb1, hb2]; rfl
                · rw [if_neg (fun h2 => h h2.2), if_neg h]
              rw [hg]
              by_cases h : ((i : Int) - (j : Int) + (n : Int)) % (n : Int) = (e : Int)
              · rw [if_pos h, if_pos h, h, hzs e he]; omega
              · rw [if_neg h, if_neg h, hzs e he]; omega
            have hrr : ∀ e : Nat, 0 ≤ rdI (zs.set (((i : Int) - (j : Int) + (n : Int)) % (n : Int) : Int).toNat (rdI zs (((i : Int) - (j : Int) + (n : Int)) % (n : Int)) + 1)) (e : Int) ∧ rdI (zs.set (((i : Int) - (j : Int) + (n : Int)) % (n : Int) : Int).toNat (rdI zs (((i : Int) - (j : Int) + (n : Int)) % (n : Int)) + 1)) (e : Int) ≤ 16 * (i : Int) + ((j + 1 : Nat) : Int) := by
              intro e
              rw [rdI_setI hmr.1 (by omega)]
              have := hzr e
              split <;> omega
            refine g_region ?_
            refine s_y (y_move rfl) rfl rfl rfl rfl ?_
            refine s_y (y_move rfl) rfl rfl rfl rfl ?_
            refine s_y (y_move rfl) rfl rfl rfl rfl ?_
            refine s_y (y_sub rfl rfl (by omega) (by omega)) rfl rfl rfl rfl ?_
            refine s_y (y_move rfl) rfl rfl rfl rfl ?_
            refine s_y (y_add rfl rfl (by omega) (by omega)) rfl rfl rfl rfl ?_
            refine s_y (y_move rfl) rfl rfl rfl rfl ?_
            refine s_y (y_rem rfl rfl (by omega) (by omega)) rfl rfl rfl rfl ?_
            refine s_y (y_idxb1 rfl rfl Try.underlying32 size_3 (by omega) (by omega)) rfl rfl rfl rfl ?_
            refine s_y (y_ldL (enc := (Value.int .i64)) (xs := zs) (jk := []) 0 rfl rfl agg_3 (rdI_at (by omega) (by omega))) rfl rfl rfl rfl ?_
            refine s_y (y_add rfl rfl (by omega) (by omega)) rfl rfl rfl rfl ?_
            refine s_y (y_idxb1 rfl rfl Try.underlying32 size_3 (by omega) (by omega)) rfl rfl rfl rfl ?_
            refine s_tr0 (t_storeL (enc := (Value.int .i64)) (v := (rdI zs ((((i : Int) - (j : Int)) + (n : Int)) % (n : Int))) + 1) (xs := zs) (jk := []) 0 rfl rfl rfl rfl rfl size_3 (by omega)) rfl rfl rfl (fun _ _ => ?_)
            refine s_nil ?_
            refine g_inb ?_
            refine g_then ?_
            refine g_region ?_
            refine s_y (y_add rfl rfl (by omega) (by omega)) rfl rfl rfl rfl ?_
            refine s_y (y_move rfl) rfl rfl rfl rfl ?_
            refine s_nil ?_
            refine g_then ?_
            exact fun act W ha hw => ⟨j + 1, by omega, by omega, (zs.set (((((i : Int) - (j : Int)) + (n : Int)) % (n : Int) : Int).toNat) ((rdI zs ((((i : Int) - (j : Int)) + (n : Int)) % (n : Int))) + 1)), W, (by first | exact hzl | (simp; exact hzl)), (by first | exact hrr | (intro e; have := hzr e; omega)), (by first | exact hall | exact hskip), ha.weak (sub_get ⟨rfl, rfl, rfl, rfl, rfl, rfl, rfl, rfl, rfl, rfl, rfl, rfl, rfl, rfl, trivial⟩), hw.toHq.lookSub (List.Sublist.refl _)⟩
          · (try simp at cq5)
            have h3 : bitI (a : Int) j = 0 := by rcases bit_or (a : Int) j with h | h; exact h; exact absurd h cq5
            have hskip : ∀ e : Nat, e < n → rdI zs (e : Int) = Sm (fun x => Sm (fun y => gT n (a : Int) e x y) n) i + Sm (fun y => gT n (a : Int) e i y) (j + 1) := by
              intro e he
              have hg : gT n (a : Int) e i j = 0 := by
                unfold gT; split
                · rename_i hc_
                  rw [h3, Int.mul_zero]
                · rfl
              rw [hzs e he, Sm, hg]; omega
            refine g_skip ?_
            refine g_inb ?_
            refine g_then ?_
            refine g_region ?_
            refine s_y (y_add rfl rfl (by omega) (by omega)) rfl rfl rfl rfl ?_
            refine s_y (y_move rfl) rfl rfl rfl rfl ?_
            refine s_nil ?_
            refine g_then ?_
            exact fun act W ha hw => ⟨j + 1, by omega, by omega, zs, W, (by first | exact hzl | (simp; exact hzl)), (by first | exact hrr | (intro e; have := hzr e; omega)), (by first | exact hall | exact hskip), ha.weak (sub_get ⟨rfl, rfl, rfl, rfl, rfl, rfl, rfl, rfl, rfl, rfl, rfl, rfl, rfl, rfl, trivial⟩), hw.toHq.lookSub (List.Sublist.refl _)⟩
        · (try simp at cq4)
          have h3 : bitI (a : Int) i = 0 := by rcases bit_or (a : Int) i with h | h; exact h; exact absurd h cq4
          have hskip : ∀ e : Nat, e < n → rdI zs (e : Int) = Sm (fun x => Sm (fun y => gT n (a : Int) e x y) n) i + Sm (fun y => gT n (a : Int) e i y) (j + 1) := by
            intro e he
            have hg : gT n (a : Int) e i j = 0 := by
              unfold gT; split
              · rename_i hc_
                rw [h3, Int.zero_mul]
              · rfl
            rw [hzs e he, Sm, hg]; omega
          refine s_no rfl rfl rfl ?_
          refine s_no rfl rfl rfl ?_
          refine s_no rfl rfl rfl ?_
          refine s_no rfl rfl rfl ?_
          refine s_no rfl rfl rfl ?_
          refine s_y (y_pick_f rfl rfl) rfl rfl rfl rfl ?_
          refine s_nil ?_
          refine g_then ?_
          refine g_cond_f rfl ?_
          refine g_skip ?_
          refine g_inb ?_
          refine g_then ?_
          refine g_region ?_
          refine s_y (y_add rfl rfl (by omega) (by omega)) rfl rfl rfl rfl ?_
          refine s_y (y_move rfl) rfl rfl rfl rfl ?_
          refine s_nil ?_
          refine g_then ?_
          exact fun act W ha hw => ⟨j + 1, by omega, by omega, zs, W, (by first | exact hzl | (simp; exact hzl)), (by first | exact hrr | (intro e; have := hzr e; omega)), (by first | exact hall | exact hskip), ha.weak (sub_get ⟨rfl, rfl, rfl, rfl, rfl, rfl, rfl, rfl, rfl, rfl, rfl, rfl, rfl, rfl, trivial⟩), hw.toHq.lookSub (List.Sublist.refl _)⟩
      · (try simp at cq3)
        have hskip : ∀ e : Nat, e < n → rdI zs (e : Int) = Sm (fun x => Sm (fun y => gT n (a : Int) e x y) n) i + Sm (fun y => gT n (a : Int) e i y) (j + 1) := by
          intro e he
          have hg : gT n (a : Int) e i j = 0 := by
            unfold gT; split
            · rename_i hc_
              exact absurd (show i = j by first | exact cq3 | omega) hc_.1
            · rfl
          rw [hzs e he, Sm, hg]; omega
        refine s_no rfl rfl rfl ?_
        refine s_no rfl rfl rfl ?_
        refine s_no rfl rfl rfl ?_
        refine s_no rfl rfl rfl ?_
        refine s_no rfl rfl rfl ?_
        refine s_y (y_pick_f rfl rfl) rfl rfl rfl rfl ?_
        refine s_y (y_move rfl) rfl rfl rfl rfl ?_
        refine s_no rfl rfl rfl ?_
        refine s_no rfl rfl rfl ?_
        refine s_no rfl rfl rfl ?_
        refine s_no rfl rfl rfl ?_
        refine s_no rfl rfl rfl ?_
        refine s_y (y_pick_f rfl rfl) rfl rfl rfl rfl ?_
        refine s_nil ?_
        refine g_then ?_
        refine g_cond_f rfl ?_
        refine g_skip ?_
        refine g_inb ?_
        refine g_then ?_
        refine g_region ?_
        refine s_y (y_add rfl rfl (by omega) (by omega)) rfl rfl rfl rfl ?_
        refine s_y (y_move rfl) rfl rfl rfl rfl ?_
        refine s_nil ?_
        refine g_then ?_
        exact fun act W ha hw => ⟨j + 1, by omega, by omega, zs, W, (by first | exact hzl | (simp; exact hzl)), (by first | exact hrr | (intro e; have := hzr e; omega)), (by first | exact hall | exact hskip), ha.weak (sub_get ⟨rfl, rfl, rfl, rfl, rfl, rfl, rfl, rfl, rfl, rfl, rfl, rfl, rfl, rfl, trivial⟩), hw.toHq.lookSub (List.Sublist.refl _)⟩
    · (try simp at cq2)
      refine g_exit ?_
      refine g_thenx ?_
      refine g_thenx ?_
      refine g_inbx ?_
      refine g_inb ?_
      refine g_then ?_
      refine g_region ?_
      refine s_y (y_add rfl rfl (by omega) (by omega)) rfl rfl rfl rfl ?_
      refine s_y (y_move rfl) rfl rfl rfl rfl ?_
      refine s_nil ?_
      refine g_then ?_
      have hji : j = n := by omega
      have hall2 : ∀ e : Nat, e < n → rdI zs (e : Int) = Sm (fun x => Sm (fun y => gT n (a : Int) e x y) n) (i + 1) := by intro e he; rw [hzs e he, hji]; rfl
      exact fun act W ha hw => ⟨i + 1, by omega, by omega, zs, W, (by exact hzl), (by intro e; have := hzr e; omega), (by exact hall2), ha.weak (sub_get ⟨rfl, rfl, rfl, rfl, rfl, rfl, rfl, rfl, rfl, trivial⟩), hw.toHq.lookSub (List.Sublist.refl _)⟩
  · (try simp at cq1)
    refine g_exit ?_
    refine g_thenx ?_
    refine g_thenx ?_
    refine g_inbx ?_
    refine g_then ?_
    refine g_seq ?_
    have hzt : ∀ e : Nat, 1 ≤ e → e < n → rdI zs (e : Int) = Rm n (a : Int) e := by intro e h1 h2; rw [hzs e h2, show i = n by omega]; exact times_at _ h1 h2
    refine g_region ?_
    refine s_y (y_assign rfl) rfl rfl rfl rfl ?_
    refine s_nil ?_
    refine g_then ?_
    refine g_seq ?_
    refine g_seq ?_
    refine g_region ?_
    refine s_y (y_move rfl) rfl rfl rfl rfl ?_
    refine s_y (y_slice rfl (some_ev rfl) none_ev (fun W => cut_run W Try.underlying32 hi3.1 hi3.2.2.1 (by omega)) sle_32) rfl rfl rfl rfl ?_
    refine s_y (y_lensl rfl sle_32) rfl rfl rfl rfl ?_
    refine s_y (y_move rfl) rfl rfl rfl rfl ?_
    refine s_nil ?_
    refine g_then ?_
    refine g_block ?_
    refine g_loop (fun (p : Nat) act W => p ≤ n - 1 ∧ ∃ (ev : Bool) (w1 : World), (ev = true ↔ ∀ k : Nat, k < p → rdI zs (1 + (k : Int)) = rdI zs 1) ∧ Has 131 [] [(0, .int .i64 (n : Int)), (1, .int .i64 (a : Int)), (2, .int .i64 (b : Int)), (6, .bool false), (7, .bool (decide (powL (qOf n) (wOf n) n (chL n (a : Int)) = powL (qOf n) (wOf n) n (chL n (b : Int))))), (9, .bool (flatB (powL (qOf n) (wOf n) n (chL n (a : Int))))), (10, .slice (some ⟨bz, 0, none⟩) n n), (13, .bool ev), (92, .slice (some ⟨bz, 1, none⟩) (n - 1) (n - 1)), (93, .int .i64 ((n - 1 : Nat) : Int)), (94, .int .i64 (p : Int))] act ∧ Hp w w1 ((bz, .cells (zs.map (Value.int .i64) ++ []).toArray 3 (0, 0)) :: []) W) (fun p => n - p) 0 (fun act W ha hw => ⟨by omega, true, W, (by exact ⟨fun _ k hk => absurd hk (by omega), fun _ => rfl⟩), ha.weak (sub_get ⟨rfl, rfl, rfl, rfl, rfl, rfl, rfl, rfl, rfl, rfl, rfl, trivial⟩), hw.toHq.lookSub (List.Sublist.refl _)⟩) ?_
    intro p act W ⟨hb_p, ev, w1, hev, ha, hw⟩
    refine g_go ha hw ?_
    clear ha hw act W
    refine g_seq ?_
    refine g_region ?_
    refine s_y (y_lss rfl rfl) rfl rfl rfl rfl ?_
    refine s_nil ?_
    refine g_then ?_
    refine g_seq ?_
    refine g_cond rfl (fun cq6 => ?_) (fun cq6 => ?_)
    · (try simp at cq6)
      refine g_skip ?_
      refine g_then ?_
      refine g_seq ?_
      refine g_block ?_
      refine g_seq ?_
      refine g_region ?_
      refine s_y (y_idx1 rfl rfl Try.underlying32 size_3 (by omega) (by omega)) rfl rfl rfl rfl ?_
      refine s_y (y_ldL (enc := (Value.int .i64)) (xs := zs) (jk := []) 0 rfl rfl agg_3 (rdI_at (by omega) (by omega))) rfl rfl rfl rfl ?_
      refine s_y (y_assign rfl) rfl rfl rfl rfl ?_
      refine s_nil ?_
      refine g_then ?_
      refine g_region ?_
      refine s_y (y_move rfl) rfl rfl rfl rfl ?_
      refine s_y (y_move rfl) rfl rfl rfl rfl ?_
      refine g_bool 99 rfl (fun cq7 => ?_) (fun cq7 => ?_)
      · (try simp at cq7)
        have hevt : ev = true := cq7
        have hstep : decide (rdI zs (1 + (p : Int)) = rdI zs 1) = true ↔ ∀ k : Nat, k < p + 1 → rdI zs (1 + (k : Int)) = rdI zs 1 := by
          rw [decide_eq_true_iff]
          exact ⟨fun h k hk => by rcases Nat.lt_or_ge k p with h2 | h2; exact hev.1 hevt k h2; rw [show k = p by omega]; exact h, fun h => h p (by omega)⟩
        refine s_y (y_move rfl) rfl rfl rfl rfl ?_
        refine s_y (y_move rfl) rfl rfl rfl rfl ?_
        refine s_y (y_idxb1 rfl rfl Try.underlying32 size_3 (by omega) (by omega)) rfl rfl rfl rfl ?_
        refine s_y (y_ldL (enc := (Value.int .i64)) (xs := zs) (jk := []) 0 rfl rfl agg_3 (rdI_at (by omega) (by omega))) rfl rfl rfl rfl ?_
        refine s_y (y_eql rfl rfl) rfl rfl rfl rfl ?_
        refine s_y (y_pick_t rfl rfl) rfl rfl rfl rfl ?_
        refine s_y (y_assign rfl) rfl rfl rfl rfl ?_
        refine s_nil ?_
        refine g_inb ?_
        refine g_then ?_
        refine g_region ?_
        refine s_y (y_add rfl rfl (by omega) (by omega)) rfl rfl rfl rfl ?_
        refine s_y (y_move rfl) rfl rfl rfl rfl ?_
        refine s_nil ?_
        refine g_then ?_
        exact fun act W ha hw => ⟨p + 1, by omega, by omega, (decide ((rdI zs (1 + (p : Int))) = (rdI zs 1))), W, (by exact hstep), ha.weak (sub_get ⟨rfl, rfl, rfl, rfl, rfl, rfl, rfl, rfl, rfl, rfl, rfl, trivial⟩), hw.toHq.lookSub (List.Sublist.refl _)⟩
      · (try simp at cq7)
        have hevf : ev = false := cq7
        have hstep : false = true ↔ ∀ k : Nat, k < p + 1 → rdI zs (1 + (k : Int)) = rdI zs 1 := ⟨fun h => (by cases h), fun h => by rw [hev.2 (fun k hk => h k (by omega))] at hevf; cases hevf⟩
        refine s_no rfl rfl rfl ?_
        refine s_no rfl rfl rfl ?_
        refine s_no rfl rfl rfl ?_
        refine s_no rfl rfl rfl ?_
        refine s_no rfl rfl rfl ?_
        refine s_y (y_pick_f rfl rfl) rfl rfl rfl rfl ?_
        refine s_y (y_assign rfl) rfl rfl rfl rfl ?_
        refine s_nil ?_
        refine g_inb ?_
        refine g_then ?_
        refine g_region ?_
        refine s_y (y_add rfl rfl (by omega) (by omega)) rfl rfl rfl rfl ?_
        refine s_y (y_move rfl) rfl rfl rfl rfl ?_
        refine s_nil ?_
        refine g_then ?_
        exact fun act W ha hw => ⟨p + 1, by omega, by omega, false, W, (by exact hstep), ha.weak (sub_get ⟨rfl, rfl, rfl, rfl, rfl, rfl, rfl, rfl, rfl, rfl, rfl, trivial⟩), hw.toHq.lookSub (List.Sublist.refl _)⟩
    · (try simp at cq6)
      refine g_exit ?_
      refine g_thenx ?_
      refine g_thenx ?_
      refine g_inbx ?_
      refine g_then ?_
      refine g_seq ?_
      have hfl_ : flatB (powL (qOf n) (wOf n) n (chL n (a : Int))) = ev := by
        rw [Bool.eq_iff_iff, Rm_flat hn hn2, hev]
        have h1_ := hzt 1 (by omega) (by omega)
        constructor
        · intro h k hk; have h2 := hzt (k + 1) (by omega) (by omega); rw [show ((k + 1 : Nat) : Int) = 1 + (k : Int) by omega] at h2; rw [h2, h (k + 1) (by omega) (by omega)]; exact h1_.symm
        · intro h d h1 h2; rw [← hzt d h1 h2]; have h3 := h (d - 1) (by omega); rw [show 1 + ((d - 1 : Nat) : Int) = (d : Int) by omega] at h3; rw [h3]; exact h1_
      refine g_region ?_
      refine s_y (y_move rfl) rfl rfl rfl rfl ?_
      refine s_y (y_move rfl) rfl rfl rfl rfl ?_
      refine s_tr (t_call rfl rfl ent_41 (fun w h => Size_any w n a hn2 hma)) rfl rfl rfl rfl (fun _ _ => ?_)
      refine s_y (y_move rfl) rfl rfl rfl rfl ?_
      refine s_tr (t_call rfl rfl ent_41 (fun w h => Size_any w n b hn2 hmb)) rfl rfl rfl rfl (fun _ _ => ?_)
      refine s_y (y_eql rfl rfl) rfl rfl rfl rfl ?_
      refine s_y (y_move rfl) rfl rfl rfl rfl ?_
      refine g_bool 113 rfl (fun cq8 => ?_) (fun cq8 => ?_)
      · (try simp at cq8)
        have hsz : bs n a = bs n b := by first | exact cq8 | omega
        have hq_ : decide (powL (qOf n) (wOf n) n (chL n (a : Int)) = powL (qOf n) (wOf n) n (chL n (b : Int))) = decide (vecL n (a : Int) = vecL n (b : Int)) := decide_eq_decide.2 ((heard hn hn2 a b).trans ⟨fun h => h.2, fun h => ⟨hsz, h⟩⟩)
        refine s_y (y_move rfl) rfl rfl rfl rfl ?_
        refine s_y (y_move rfl) rfl rfl rfl rfl ?_
        refine s_tr (t_callm (A := New _ _) rfl rfl ent_51 (fun w h => (Vector_any w n (a : Int) hn hn2 hA0 hA1).mono fun e w' ⟨b, h1, h2⟩ => ⟨b, ⟨Nat.le_trans h.below.size (h2.ge _ (List.mem_cons_self ..)), Nat.le_trans h.size (h2.ge _ (List.mem_cons_self ..))⟩, h1, h2⟩)) rfl rfl rfl rfl (fun bva hbva => ?_)
        refine s_y (y_move rfl) rfl rfl rfl rfl ?_
        refine s_y (y_move rfl) rfl rfl rfl rfl ?_
        refine s_tr (t_callm (A := New _ _) rfl rfl ent_51 (fun w h => (Vector_any w n (b : Int) hn hn2 hB0 hB1).mono fun e w' ⟨b, h1, h2⟩ => ⟨b, ⟨Nat.le_trans h.below.size (h2.ge _ (List.mem_cons_self ..)), Nat.le_trans h.size (h2.ge _ (List.mem_cons_self ..))⟩, h1, h2⟩)) rfl rfl rfl rfl (fun bvb hbvb => ?_)
        refine s_tr (t_call rfl rfl ent_30 (fun w h => Equal_any w _ _ (vecL n (a : Int)) (vecL n (b : Int)) (RdV.own (jk := []) (at_of (i := 1) h rfl) vecL_len.symm (Nat.le_refl _)) (RdV.own (jk := []) (at_of (i := 0) h rfl) vecL_len.symm (Nat.le_refl _)) (by rw [vecL_len]; omega))) rfl rfl rfl rfl (fun _ _ => ?_)
        refine s_y (y_pick_t rfl rfl) rfl rfl rfl rfl ?_
        refine s_y (y_beql_t rfl rfl Try.underlying4 (hq_)) rfl rfl rfl rfl ?_
        refine s_y (y_move rfl) rfl rfl rfl rfl ?_
        refine s_y (y_move rfl) rfl rfl rfl rfl ?_
        refine s_y (y_move rfl) rfl rfl rfl rfl ?_
        refine s_y (y_beql_t rfl rfl Try.underlying4 (hfl_)) rfl rfl rfl rfl ?_
        refine s_y (y_pick_t rfl rfl) rfl rfl rfl rfl ?_
        refine s_y (y_move rfl) rfl rfl rfl rfl ?_
        refine s_tr (t_call rfl rfl ent_20 (fun w h => awake_t w)) rfl rfl rfl rfl (fun _ _ => ?_)
        refine s_y (y_pick_t rfl rfl) rfl rfl rfl rfl ?_
        refine s_y (y_assign rfl) rfl rfl rfl rfl ?_
        refine s_nil ?_
        refine g_then ?_
        refine g_ret ?_
        exact g_end trivial (fun a w ha hq_ => res1 ha rfl rfl  w) (fun w h => ⟨rfl, h.below⟩)
      · (try simp at cq8)
        have hsz : ¬ bs n a = bs n b := by first | exact cq8 | omega
        have hq_ : decide (powL (qOf n) (wOf n) n (chL n (a : Int)) = powL (qOf n) (wOf n) n (chL n (b : Int))) = false := decide_eq_false fun h => hsz ((heard hn hn2 a b).1 h).1
        refine s_no rfl rfl rfl ?_
        refine s_no rfl rfl rfl ?_
        refine s_no rfl rfl rfl ?_
        refine s_no rfl rfl rfl ?_
        refine s_no rfl rfl rfl ?_
        refine s_no rfl rfl rfl ?_
        refine s_no rfl rfl rfl ?_
        refine s_y (y_pick_f rfl rfl) rfl rfl rfl rfl ?_
        refine s_y (y_beql_t rfl rfl Try.underlying4 (hq_)) rfl rfl rfl rfl ?_
        refine s_y (y_move rfl) rfl rfl rfl rfl ?_
        refine s_y (y_move rfl) rfl rfl rfl rfl ?_
        refine s_y (y_move rfl) rfl rfl rfl rfl ?_
        refine s_y (y_beql_t rfl rfl Try.underlying4 (hfl_)) rfl rfl rfl rfl ?_
        refine s_y (y_pick_t rfl rfl) rfl rfl rfl rfl ?_
        refine s_y (y_move rfl) rfl rfl rfl rfl ?_
        refine s_tr (t_call rfl rfl ent_20 (fun w h => awake_t w)) rfl rfl rfl rfl (fun _ _ => ?_)
        refine s_y (y_pick_t rfl rfl) rfl rfl rfl rfl ?_
        refine s_y (y_assign rfl) rfl rfl rfl rfl ?_
        refine s_nil ?_
        refine g_then ?_
        refine g_ret ?_
        exact g_end trivial (fun a w ha hq_ => res1 ha rfl rfl  w) (fun w h => ⟨rfl, h.below⟩)

theorem WheelsHeard_no (w : World) (n a b : Int) (hno : ¬ (okC n a ∧ okC n b)) :
    Calls Try.prog 13 [.int .i64 n, .int .i64 a, .int .i64 b].toArray w fun e w' => e = .returned (.bool true) ∧ Below w.heap.size w w' := by
  refine enter (N := 131) Try.func13 rfl rfl rfl ?_
  refine g_seq ?_
  refine g_region ?_
  refine s_y (y_assign rfl) rfl rfl rfl rfl ?_
  refine s_nil ?_
  refine g_then ?_
  refine g_seq ?_
  refine g_region ?_
  refine s_y (y_move rfl) rfl rfl rfl rfl ?_
  refine s_y (y_move rfl) rfl rfl rfl rfl ?_
  refine s_y (y_move rfl) rfl rfl rfl rfl ?_
  refine s_tr (t_call rfl rfl ent_23 (fun w h => Alike_no w n a b hno)) rfl rfl rfl rfl (fun _ _ => ?_)
  refine s_y (y_move rfl) rfl rfl rfl rfl ?_
  refine s_y (y_extract rfl rfl) rfl rfl rfl rfl ?_
  refine s_y (y_extract rfl rfl) rfl rfl rfl rfl ?_
  refine s_y (y_assign rfl) rfl rfl rfl rfl ?_
  refine s_y (y_assign rfl) rfl rfl rfl rfl ?_
  refine s_nil ?_
  refine g_then ?_
  refine g_seq ?_
  refine g_seq ?_
  refine g_region ?_
  refine s_y (y_move rfl) rfl rfl rfl rfl ?_
  refine s_y (y_neq_t rfl rfl (by decide)) rfl rfl rfl rfl ?_
  refine s_y (y_move rfl) rfl rfl rfl rfl ?_
  refine s_no rfl rfl rfl ?_
  refine s_no rfl rfl rfl ?_
  refine s_no rfl rfl rfl ?_
  refine s_no rfl rfl rfl ?_
  refine s_y (y_pick_t rfl rfl) rfl rfl rfl rfl ?_
  refine s_y (y_move rfl) rfl rfl rfl rfl ?_
  refine s_no rfl rfl rfl ?_
  refine s_no rfl rfl rfl ?_
  refine s_no rfl rfl rfl ?_
  refine s_no rfl rfl rfl ?_
  refine s_y (y_pick_t rfl rfl) rfl rfl rfl rfl ?_
  refine s_nil ?_
  refine g_then ?_
  refine g_cond_t rfl ?_
  refine g_seq ?_
  refine g_region ?_
  refine s_y (y_move rfl) rfl rfl rfl rfl ?_
  refine s_y (y_eql_t rfl rfl (by decide)) rfl rfl rfl rfl ?_
  refine s_y (y_move rfl) rfl rfl rfl rfl ?_
  refine s_tr (t_call rfl rfl ent_20 (fun w h => awake_t w)) rfl rfl rfl rfl (fun _ _ => ?_)
  refine s_y (y_pick_t rfl rfl) rfl rfl rfl rfl ?_
  refine s_y (y_assign rfl) rfl rfl rfl rfl ?_
  refine s_nil ?_
  refine g_then ?_
  refine g_ret ?_
  refine g_thenr ?_
  exact g_end trivial (fun a w ha hq_ => res1 ha rfl rfl  w) (fun w h => ⟨rfl, h.below⟩)

theorem WheelsHeard_law (w : World) (n a b : Int) (_ : (Lit.int .i64 n).wf = true) (_ : (Lit.int .i64 a).wf = true) (_ : (Lit.int .i64 b).wf = true) : Calls Try.prog 13 [.int .i64 n, .int .i64 a, .int .i64 b].toArray w fun e w' => e = .returned (.bool true) ∧ Below w.heap.size w w' := by
  by_cases h : okC n a ∧ okC n b
  · have h1 := h.1.1.1
    have h2 := h.1.1.2
    obtain ⟨p, rfl⟩ := Int.eq_ofNat_of_zero_le (show 0 ≤ n by omega)
    obtain ⟨x, rfl⟩ := Int.eq_ofNat_of_zero_le h.1.2.1
    obtain ⟨y, rfl⟩ := Int.eq_ofNat_of_zero_le h.2.2.1
    have h3 : (x : Int) < 2 ^ p := h.1.2.2
    have h4 : (y : Int) < 2 ^ p := h.2.2.2
    have hpe : ((2 ^ p : Nat) : Int) = (2 : Int) ^ p := by simp
    exact WheelsHeard_ok w p x y (by omega) (by omega) (by omega) (by omega)
  · exact WheelsHeard_no w n a b h

end Go.Proofs.Ytncenmgkdodioaa
