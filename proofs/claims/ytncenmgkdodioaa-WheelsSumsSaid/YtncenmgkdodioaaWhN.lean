/- wheels: the reference's mod, Distance, Vector. -/
import Derived.Test.YtncenmgkdodioaaWhK
import Derived.Test.YtncenmgkdodioaaWhOth
namespace Go.Proofs.Ytncenmgkdodioaa
open Go.RowKit Go.Sx Go.Wh Go.Dft
set_option linter.unusedVariables false
set_option linter.unusedSimpArgs false
set_option maxRecDepth 100000
set_option maxHeartbeats 4000000

private theorem ent_86 : Enters Try.prog 86 := enters_of Try.func86 (by kernel_rfl) rfl
private theorem inf_3 : ∃ ie, Try.prog.info? 3 = some ie ∧ ie.zero = some (.int .i64 0) ∧ ie.size = 1 ∧ ie.bytes = 8 := info_of (by kernel_rfl) (by kernel_rfl)
private theorem ent_74 : Enters Try.prog 74 := enters_of Try.func74 (by kernel_rfl) rfl
private theorem size_3 : (Try.prog.info? 3).map (·.size) = some 1 := by kernel_rfl
private theorem agg_3 : isAggB Try.prog 3 = some false := by kernel_rfl

def dI (n x y : Nat) : Int := if (n : Int) - ((x : Int) - (y : Int)) < (x : Int) - (y : Int) then (n : Int) - ((x : Int) - (y : Int)) else (x : Int) - (y : Int)
theorem dI_range {n x y : Nat} (h : y < x) (h2 : x < n) : 1 ≤ dI n x y ∧ dI n x y ≤ ((n / 2 : Nat) : Int) := by unfold dI; split <;> omega
def gV (n : Nat) (c : Int) (x y e : Nat) : Int := if dI n x y - 1 = (e : Int) then bitI c x * bitI c y else 0
def vecL (n : Nat) (c : Int) : List Int := (List.range (n / 2)).map fun e => Sm (fun x => Sm (fun y => gV n c x y e) x) n
theorem bit_or (c : Int) (x : Nat) : bitI c x = 0 ∨ bitI c x = 1 := by have := bitI_range c x; omega

theorem mod_any (w : World) (n : Nat) (x : Int) (hn : 2 ≤ n) (hn2 : n ≤ 16) (hx : -16 ≤ x) (hx2 : x ≤ 16) :
    Calls Try.prog 86 [.int .i64 x, .int .i64 (n : Int)].toArray w fun e w' => e = .returned (.int .i64 ((Int.tmod x (n : Int) + (n : Int)) % (n : Int))) ∧ Below w.heap.size w w' := by
  have ht := tmod_range (show 0 < n by omega) x
  refine enter (N := 12) Try.func86 rfl rfl rfl ?_
  refine g_seq ?_
  refine g_region ?_
  refine s_y (y_assign rfl) rfl rfl rfl rfl ?_
  refine s_nil ?_
  refine g_then ?_
  refine g_seq ?_
  refine g_region ?_
  refine s_y (y_move rfl) rfl rfl rfl rfl ?_
  refine s_y (y_move rfl) rfl rfl rfl rfl ?_
  refine s_y (y_remt rfl rfl (by omega)) rfl rfl rfl rfl ?_
  refine s_y (y_move rfl) rfl rfl rfl rfl ?_
  refine s_y (y_add rfl rfl (by omega) (by omega)) rfl rfl rfl rfl ?_
  refine s_y (y_move rfl) rfl rfl rfl rfl ?_
  refine s_y (y_rem rfl rfl (by omega) (by omega)) rfl rfl rfl rfl ?_
  refine s_y (y_assign rfl) rfl rfl rfl rfl ?_
  refine s_nil ?_
  refine g_then ?_
  refine g_ret ?_
  exact g_end trivial (fun a w ha hq_ => res1 ha rfl rfl  w) (fun w h => ⟨rfl, h.below⟩)

theorem Distance_any (w : World) (n x y : Nat) (hn : 2 ≤ n) (hn2 : n ≤ 16) (hy : y < x) (hx : x < n) :
    Calls Try.prog 74 [.int .i64 (n : Int), .int .i64 (x : Int), .int .i64 (y : Int)].toArray w fun e w' => e = .returned (.int .i64 (dI n x y)) ∧ Below w.heap.size w w' := by
  have e1 : (Int.tmod ((x : Int) - (y : Int)) (n : Int) + (n : Int)) % (n : Int) = (x : Int) - (y : Int) := by rw [Int.tmod_eq_of_lt (by omega) (by omega), Int.add_emod_right, Int.emod_eq_of_lt (by omega) (by omega)]
  have e2 : (Int.tmod ((y : Int) - (x : Int)) (n : Int) + (n : Int)) % (n : Int) = (n : Int) - ((x : Int) - (y : Int)) := by rw [show (y : Int) - (x : Int) = -((x : Int) - (y : Int)) by omega, Int.neg_tmod, Int.tmod_eq_of_lt (by omega) (by omega), Int.emod_eq_of_lt (by omega) (by omega)]; omega
  refine enter (N := 18) Try.func74 rfl rfl rfl ?_
  refine g_seq ?_
  refine g_region ?_
  refine s_y (y_assign rfl) rfl rfl rfl rfl ?_
  refine s_nil ?_
  refine g_then ?_
  refine g_seq ?_
  refine g_region ?_
  refine s_y (y_move rfl) rfl rfl rfl rfl ?_
  refine s_y (y_move rfl) rfl rfl rfl rfl ?_
  refine s_y (y_sub rfl rfl (by omega) (by omega)) rfl rfl rfl rfl ?_
  refine s_y (y_move rfl) rfl rfl rfl rfl ?_
  refine s_tr (t_call rfl rfl ent_86 (fun w h => mod_any w n ((x : Int) - (y : Int)) hn hn2 (by omega) (by omega))) rfl rfl rfl rfl (fun _ _ => ?_)
  rw [e1]
  refine s_y (y_move rfl) rfl rfl rfl rfl ?_
  refine s_y (y_move rfl) rfl rfl rfl rfl ?_
  refine s_y (y_sub rfl rfl (by omega) (by omega)) rfl rfl rfl rfl ?_
  refine s_y (y_move rfl) rfl rfl rfl rfl ?_
  refine s_tr (t_call rfl rfl ent_86 (fun w h => mod_any w n ((y : Int) - (x : Int)) hn hn2 (by omega) (by omega))) rfl rfl rfl rfl (fun _ _ => ?_)
  rw [e2]
  refine s_y (y_min rfl rfl) rfl rfl rfl rfl ?_
  refine s_y (y_assign rfl) rfl rfl rfl rfl ?_
  refine s_nil ?_
  refine g_then ?_
  refine g_ret ?_
  unfold dI
  exact g_end trivial (fun a w ha hq_ => res1 ha rfl rfl  w) (fun w h => ⟨rfl, h.below⟩)

theorem Vector_any (w : World) (n : Nat) (c : Int) (hn : 2 ≤ n) (hn2 : n ≤ 16) (hc0 : 0 ≤ c) (hc1 : c < 2 ^ n) :
    Calls Try.prog 51 [.int .i64 (n : Int), .int .i64 c].toArray w fun e w' => ∃ b : Nat, e = .returned (.slice (some ⟨b, 0, none⟩) (n / 2) (n / 2)) ∧ Hq w w [(b, .cells ((vecL n c).map (Value.int .i64) ++ []).toArray 3 (0, 0))] w' := by
  obtain ⟨ie3, hi3⟩ := inf_3
  refine enter (N := 44) Try.func51 rfl rfl rfl ?_
  refine g_seq ?_
  refine g_region ?_
  refine s_y (y_assign rfl) rfl rfl rfl rfl ?_
  refine s_nil ?_
  refine g_then ?_
  refine g_seq ?_
  refine g_region ?_
  refine s_y (y_move rfl) rfl rfl rfl rfl ?_
  refine s_y (y_quo rfl rfl (by omega) (by omega)) rfl rfl rfl rfl ?_
  rw [show (n : Int) / 2 = ((n / 2 : Nat) : Int) from by omega]
  refine s_tr (t_makeL (enc := (Value.int .i64)) (z := (0 : Int)) (n := n / 2) rfl Try.underlying32 hi3.1 hi3.2.1 hi3.2.2.1 rfl (by rw [hi3.2.2.2]; omega) (by omega)) rfl rfl rfl rfl (fun bz hbz => ?_)
  refine s_y (y_assign rfl) rfl rfl rfl rfl ?_
  refine s_nil ?_
  refine g_then ?_
  refine g_seq ?_
  refine g_seq ?_
  refine g_region ?_
  refine s_y (y_move rfl) rfl rfl rfl rfl ?_
  refine s_y (y_move rfl) rfl rfl rfl rfl ?_
  refine s_nil ?_
  refine g_then ?_
  refine g_block ?_
  refine g_loop (fun (i : Nat) act W => i ≤ n ∧ ∃ (zs : List Int) (w1 : World), (zs.length = n / 2) ∧ (∀ e : Nat, 0 ≤ rdI zs (e : Int) ∧ rdI zs (e : Int) ≤ 16 * (i : Int)) ∧ (∀ e : Nat, e < n / 2 → rdI zs (e : Int) = Sm (fun x => Sm (fun y => gV n c x y e) x) i) ∧ Has 44 [] [(0, .int .i64 (n : Int)), (1, .int .i64 c), (4, .slice none 0 0), (5, .slice (some ⟨bz, 0, none⟩) (n / 2) (n / 2)), (11, .int .i64 (n : Int)), (12, .int .i64 (i : Int))] act ∧ Hp w w1 ((bz, .cells (zs.map (Value.int .i64) ++ []).toArray 3 (0, 0)) :: []) W) (fun i => n - i) 0 (fun act W ha hw => ⟨by omega, List.replicate (n / 2) 0, W, (by simp), (by intro e; rw [rdI_replicate]; omega), (by intro e _; exact rdI_replicate), ha.weak (sub_get ⟨rfl, rfl, rfl, rfl, rfl, rfl, trivial⟩), hw.toHq.lookSub (List.Sublist.refl _)⟩) ?_
  intro i act W ⟨hb_i, zs, w1, hzl, hzr, hzs, ha, hw⟩
  refine g_go ha hw ?_
  clear ha hw act W
  refine g_seq ?_
  refine g_region ?_
  refine s_y (y_lss rfl rfl) rfl rfl rfl rfl ?_
  refine s_nil ?_
  refine g_then ?_
  refine g_seq ?_
  refine g_cond rfl (fun cq1 => ?_) (fun cq1 => ?_)
  · (try simp at cq1)
    refine g_skip ?_
    refine g_then ?_
    refine g_seq ?_
    refine g_block ?_
    refine g_seq ?_
    refine g_region ?_
    refine s_y (y_move rfl) rfl rfl rfl rfl ?_
    refine s_y (y_assign rfl) rfl rfl rfl rfl ?_
    refine s_nil ?_
    refine g_then ?_
    refine g_seq ?_
    refine g_region ?_
    refine s_y (y_move rfl) rfl rfl rfl rfl ?_
    refine s_y (y_move rfl) rfl rfl rfl rfl ?_
    refine s_nil ?_
    refine g_then ?_
    refine g_block ?_
    refine g_loop (fun (j : Nat) act W => j ≤ i ∧ ∃ (zs : List Int) (w1 : World), (zs.length = n / 2) ∧ (∀ e : Nat, 0 ≤ rdI zs (e : Int) ∧ rdI zs (e : Int) ≤ 16 * (i : Int) + (j : Int)) ∧ (∀ e : Nat, e < n / 2 → rdI zs (e : Int) = Sm (fun x => Sm (fun y => gV n c x y e) x) i + Sm (fun y => gV n c i y e) j) ∧ Has 44 [] [(0, .int .i64 (n : Int)), (1, .int .i64 c), (4, .slice none 0 0), (5, .slice (some ⟨bz, 0, none⟩) (n / 2) (n / 2)), (6, .int .i64 (i : Int)), (11, .int .i64 (n : Int)), (12, .int .i64 (i : Int)), (13, .bool (decide ((i : Int) < (n : Int)))), (14, .int .i64 (i : Int)), (15, .int .i64 (i : Int)), (16, .int .i64 (j : Int))] act ∧ Hp w w1 ((bz, .cells (zs.map (Value.int .i64) ++ []).toArray 3 (0, 0)) :: []) W) (fun j => i - j) 0 (fun act W ha hw => ⟨by omega, zs, W, (by exact hzl), (by intro e; have := hzr e; omega), (by intro e he; rw [hzs e he]; simp [Sm]), ha.weak (sub_get ⟨rfl, rfl, rfl, rfl, rfl, rfl, rfl, rfl, rfl, rfl, rfl, trivial⟩), hw.toHq.lookSub (List.Sublist.refl _)⟩) ?_
    intro j act W ⟨hb_j, zs, w1, hzl, hzr, hzs, ha, hw⟩
    refine g_go ha hw ?_
    clear ha hw act W
    refine g_seq ?_
    refine g_region ?_
    refine s_y (y_lss rfl rfl) rfl rfl rfl rfl ?_
    refine s_nil ?_
    refine g_then ?_
    refine g_seq ?_
    refine g_cond rfl (fun cq2 => ?_) (fun cq2 => ?_)
    · (try simp at cq2)
      refine g_skip ?_
      refine g_then ?_
      refine g_seq ?_
      refine g_block ?_
      refine g_seq ?_
      refine g_region ?_
      refine s_y (y_move rfl) rfl rfl rfl rfl ?_
      refine s_y (y_assign rfl) rfl rfl rfl rfl ?_
      refine s_nil ?_
      refine g_then ?_
      refine g_seq ?_
      have hp16 := pow_le hn2
      have hdi := Int.ediv_nonneg hc0 (show (0 : Int) ≤ 2 ^ (i : Int).toNat from Int.pow_nonneg (by decide))
      have hdi2 := Int.ediv_le_self (2 ^ (i : Int).toNat) hc0
      have hdj := Int.ediv_nonneg hc0 (show (0 : Int) ≤ 2 ^ (j : Int).toNat from Int.pow_nonneg (by decide))
      have hdj2 := Int.ediv_le_self (2 ^ (j : Int).toNat) hc0
      refine g_region ?_
      refine s_y (y_move rfl) rfl rfl rfl rfl ?_
      refine s_y (y_move rfl) rfl rfl rfl rfl ?_
      refine s_y (y_shr rfl rfl (by omega) (by omega) (by omega)) rfl rfl rfl rfl ?_
      refine s_y (y_and rfl rfl (by omega) (by omega)) rfl rfl rfl rfl ?_
      rw [show (((c / 2 ^ ((i : Int) : Int).toNat : Int).toNat &&& (1 : Int).toNat : Nat) : Int) = bitI c i from rfl]
      refine s_y (y_eql rfl rfl) rfl rfl rfl rfl ?_
      refine s_y (y_move rfl) rfl rfl rfl rfl ?_
      refine g_bool 24 rfl (fun cq3 => ?_) (fun cq3 => ?_)
      · (try simp at cq3)
        have hb1 : bitI c i = 1 := cq3
        refine s_y (y_move rfl) rfl rfl rfl rfl ?_
        refine s_y (y_move rfl) rfl rfl rfl rfl ?_
        refine s_y (y_shr rfl rfl (by omega) (by omega) (by omega)) rfl rfl rfl rfl ?_
        refine s_y (y_and rfl rfl (by omega) (by omega)) rfl rfl rfl rfl ?_
        rw [show (((c / 2 ^ ((j : Int) : Int).toNat : Int).toNat &&& (1 : Int).toNat : Nat) : Int) = bitI c j from rfl]
        refine s_y (y_eql rfl rfl) rfl rfl rfl rfl ?_
        refine s_y (y_pick_t rfl rfl) rfl rfl rfl rfl ?_
        refine s_nil ?_
        refine g_then ?_
        refine g_cond rfl (fun cq4 => ?_) (fun cq4 => ?_)
        · (try simp at cq4)
          have hb2 : bitI c j = 1 := cq4
          have hd := dI_range (n := n) (show j < i by omega) (by omega)
          obtain ⟨q, hq⟩ : ∃ q : Nat, dI n i j - 1 = (q : Int) := ⟨(dI n i j - 1).toNat, by omega⟩
          have hzq := hzr q
          rw [← hq] at hzq
          have hall : ∀ e : Nat, e < n / 2 → rdI (zs.set (dI n i j - 1 : Int).toNat (rdI zs (dI n i j - 1) + 1)) (e : Int) = Sm (fun x => Sm (fun y => gV n c x y e) x) i + Sm (fun y => gV n c i y e) (j + 1) := by
            intro e he
            rw [rdI_setI (by omega) (by omega), Sm, gV]
            split
            · rename_i h; rw [h, hzs e he, hb1, hb2]; omega
            · rw [hzs e he]; omega
          have hrr : ∀ e : Nat, 0 ≤ rdI (zs.set (dI n i j - 1 : Int).toNat (rdI zs (dI n i j - 1) + 1)) (e : Int) ∧ rdI (zs.set (dI n i j - 1 : Int).toNat (rdI zs (dI n i j - 1) + 1)) (e : Int) ≤ 16 * (i : Int) + ((j + 1 : Nat) : Int) := by
            intro e
            rw [rdI_setI (by omega) (by omega)]
            have := hzr e
            split <;> omega
          refine g_region ?_
          refine s_y (y_move rfl) rfl rfl rfl rfl ?_
          refine s_y (y_move rfl) rfl rfl rfl rfl ?_
          refine s_y (y_move rfl) rfl rfl rfl rfl ?_
          refine s_y (y_move rfl) rfl rfl rfl rfl ?_
          refine s_tr (t_call rfl rfl ent_74 (fun w h => Distance_any w n i j hn hn2 (by omega) (by omega))) rfl rfl rfl rfl (fun _ _ => ?_)
          refine s_y (y_sub rfl rfl (by omega) (by omega)) rfl rfl rfl rfl ?_
          refine s_y (y_idxb1 rfl rfl Try.underlying32 size_3 (by omega) (by omega)) rfl rfl rfl rfl ?_
          refine s_y (y_ldL (enc := (Value.int .i64)) (xs := zs) (jk := []) 0 rfl rfl agg_3 (rdI_at (by omega) (by omega))) rfl rfl rfl rfl ?_
          refine s_y (y_add rfl rfl (by omega) (by omega)) rfl rfl rfl rfl ?_
          refine s_y (y_idxb1 rfl rfl Try.underlying32 size_3 (by omega) (by omega)) rfl rfl rfl rfl ?_
          refine s_tr0 (t_storeL (enc := (Value.int .i64)) (v := (rdI zs ((dI n i j) - 1)) + 1) (xs := zs) (jk := []) 0 rfl rfl rfl rfl rfl size_3 (by omega)) rfl rfl rfl (fun _ _ => ?_)
          refine s_nil ?_
          refine g_inb ?_
          refine g_then ?_
          refine g_region ?_
          refine s_y (y_add rfl rfl (by omega) (by omega)) rfl rfl rfl rfl ?_
          refine s_y (y_move rfl) rfl rfl rfl rfl ?_
          refine s_nil ?_
          refine g_then ?_
          exact fun act W ha hw => ⟨j + 1, by omega, by omega, (zs.set (((dI n i j) - 1 : Int).toNat) ((rdI zs ((dI n i j) - 1)) + 1)), W, (by first | exact hzl | (simp; exact hzl)), (by first | exact hrr | (intro e; have := hzr e; omega)), (by first | exact hall | exact hskip), ha.weak (sub_get ⟨rfl, rfl, rfl, rfl, rfl, rfl, rfl, rfl, rfl, rfl, rfl, trivial⟩), hw.toHq.lookSub (List.Sublist.refl _)⟩
        · (try simp at cq4)
          have h3 : bitI c i = 0 ∨ bitI c j = 0 := .inr (by rcases bit_or c j with h | h; exact h; exact absurd h cq4)
          have hskip : ∀ e : Nat, e < n / 2 → rdI zs (e : Int) = Sm (fun x => Sm (fun y => gV n c x y e) x) i + Sm (fun y => gV n c i y e) (j + 1) := by
            intro e he
            have hg : gV n c i j e = 0 := by unfold gV; split; rcases h3 with h | h <;> simp [h]; rfl
            rw [hzs e he, Sm, hg]; omega
          refine g_skip ?_
          refine g_inb ?_
          refine g_then ?_
          refine g_region ?_
          refine s_y (y_add rfl rfl (by omega) (by omega)) rfl rfl rfl rfl ?_
          refine s_y (y_move rfl) rfl rfl rfl rfl ?_
          refine s_nil ?_
          refine g_then ?_
          exact fun act W ha hw => ⟨j + 1, by omega, by omega, zs, W, (by first | exact hzl | (simp; exact hzl)), (by first | exact hrr | (intro e; have := hzr e; omega)), (by first | exact hall | exact hskip), ha.weak (sub_get ⟨rfl, rfl, rfl, rfl, rfl, rfl, rfl, rfl, rfl, rfl, rfl, trivial⟩), hw.toHq.lookSub (List.Sublist.refl _)⟩
      · (try simp at cq3)
        have h3 : bitI c i = 0 ∨ bitI c j = 0 := .inl (by rcases bit_or c i with h | h; exact h; exact absurd h cq3)
        have hskip : ∀ e : Nat, e < n / 2 → rdI zs (e : Int) = Sm (fun x => Sm (fun y => gV n c x y e) x) i + Sm (fun y => gV n c i y e) (j + 1) := by
          intro e he
          have hg : gV n c i j e = 0 := by unfold gV; split; rcases h3 with h | h <;> simp [h]; rfl
          rw [hzs e he, Sm, hg]; omega
        refine s_no rfl rfl rfl ?_
        refine s_no rfl rfl rfl ?_
        refine s_no rfl rfl rfl ?_
        refine s_no rfl rfl rfl ?_
        refine s_no rfl rfl rfl ?_
        refine s_y (y_pick_f rfl rfl) rfl rfl rfl rfl ?_
        refine s_nil ?_
        refine g_then ?_
        refine g_cond_f rfl ?_
        refine g_skip ?_
        refine g_inb ?_
        refine g_then ?_
        refine g_region ?_
        refine s_y (y_add rfl rfl (by omega) (by omega)) rfl rfl rfl rfl ?_
        refine s_y (y_move rfl) rfl rfl rfl rfl ?_
        refine s_nil ?_
        refine g_then ?_
        exact fun act W ha hw => ⟨j + 1, by omega, by omega, zs, W, (by first | exact hzl | (simp; exact hzl)), (by first | exact hrr | (intro e; have := hzr e; omega)), (by first | exact hall | exact hskip), ha.weak (sub_get ⟨rfl, rfl, rfl, rfl, rfl, rfl, rfl, rfl, rfl, rfl, rfl, trivial⟩), hw.toHq.lookSub (List.Sublist.refl _)⟩
    · (try simp at cq2)
      refine g_exit ?_
      refine g_thenx ?_
      refine g_thenx ?_
      refine g_inbx ?_
      refine g_inb ?_
      refine g_then ?_
      refine g_region ?_
      refine s_y (y_add rfl rfl (by omega) (by omega)) rfl rfl rfl rfl ?_
      refine s_y (y_move rfl) rfl rfl rfl rfl ?_
      refine s_nil ?_
      refine g_then ?_
      have hji : j = i := by omega
      have hall2 : ∀ e : Nat, e < n / 2 → rdI zs (e : Int) = Sm (fun x => Sm (fun y => gV n c x y e) x) (i + 1) := by intro e he; rw [hzs e he, hji]; rfl
      exact fun act W ha hw => ⟨i + 1, by omega, by omega, zs, W, (by exact hzl), (by intro e; have := hzr e; omega), (by exact hall2), ha.weak (sub_get ⟨rfl, rfl, rfl, rfl, rfl, rfl, trivial⟩), hw.toHq.lookSub (List.Sublist.refl _)⟩
  · (try simp at cq1)
    refine g_exit ?_
    refine g_thenx ?_
    refine g_thenx ?_
    refine g_inbx ?_
    refine g_then ?_
    refine g_seq ?_
    refine g_region ?_
    refine s_y (y_move rfl) rfl rfl rfl rfl ?_
    refine s_y (y_assign rfl) rfl rfl rfl rfl ?_
    refine s_nil ?_
    refine g_then ?_
    refine g_ret ?_
    have hin : i = n := by omega
    have hz : zs = vecL n c := eq_map hzl (fun e he => by rw [hzs e he, hin])
    subst hz
    exact g_end trivial (fun a w ha hq_ => res1 ha rfl rfl  w) (fun w h => ⟨bz, rfl, h.hand (List.Sublist.refl _)⟩)

end Go.Proofs.Ytncenmgkdodioaa
