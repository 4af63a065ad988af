/- wheels: the references' sums, products, moves; Wheel; Clone, list. -/
import Derived.Test.YtncenmgkdodioaaWhE
namespace Go.Proofs.Ytncenmgkdodioaa
open Go.RowKit Go.Sx Go.Wh
set_option linter.unusedVariables false
set_option linter.unusedSimpArgs false
set_option maxRecDepth 100000
set_option maxHeartbeats 4000000

private theorem ent_58 : Enters Try.prog 58 := enters_of Try.func58 (by kernel_rfl) rfl
private theorem ent_21 : Enters Try.prog 21 := enters_of Try.func21 (by kernel_rfl) rfl
private theorem ent_22 : Enters Try.prog 22 := enters_of Try.func22 (by kernel_rfl) rfl
private theorem inf_3 : ∃ ie, Try.prog.info? 3 = some ie ∧ ie.zero = some (.int .i64 0) ∧ ie.size = 1 ∧ ie.bytes = 8 := info_of (by kernel_rfl) (by kernel_rfl)
private theorem sle_32 : Try.prog.underlying 32 = some (.slice (Try.prog.elem 32)) := by kernel_rfl
private theorem size_3 : (Try.prog.info? 3).map (·.size) = some 1 := by kernel_rfl
private theorem agg_3 : isAggB Try.prog 3 = some false := by kernel_rfl
private theorem ent_66 : Enters Try.prog 66 := enters_of Try.func66 (by kernel_rfl) rfl
private theorem ent_67 : Enters Try.prog 67 := enters_of Try.func67 (by kernel_rfl) rfl
private theorem ent_36 : Enters Try.prog 36 := enters_of Try.func36 (by kernel_rfl) rfl
private theorem ent_19 : Enters Try.prog 19 := enters_of Try.func19 (by kernel_rfl) rfl
private theorem ent_43 : Enters Try.prog 43 := enters_of Try.func43 (by kernel_rfl) rfl

theorem Rinverse_any (w : World) (q x : Int) (hq : 2 ≤ q) (hq2 : q ≤ 1000) (hx : 0 ≤ x) (hx2 : x ≤ 1000) :
    Calls Try.prog 67 [.int .i64 x, .int .i64 q].toArray w fun e w' => e = .returned (.int .i64 (pw q x (q - 2).toNat)) ∧ Below w.heap.size w w' := by
  refine enter (N := 10) Try.func67 rfl rfl rfl ?_
  refine g_seq ?_
  refine g_region ?_
  refine s_y (y_assign rfl) rfl rfl rfl rfl ?_
  refine s_nil ?_
  refine g_then ?_
  refine g_seq ?_
  refine g_region ?_
  refine s_y (y_move rfl) rfl rfl rfl rfl ?_
  refine s_y (y_move rfl) rfl rfl rfl rfl ?_
  refine s_y (y_sub rfl rfl (by omega) (by omega)) rfl rfl rfl rfl ?_
  refine s_y (y_move rfl) rfl rfl rfl rfl ?_
  refine s_tr (t_call rfl rfl ent_58 (fun w h => by have := Rpower_any w q x (q - 2).toNat hq hq2 hx hx2 (by omega); rw [show (((q - 2).toNat : Nat) : Int) = q - 2 by omega] at this; exact this)) rfl rfl rfl rfl (fun _ _ => ?_)
  refine s_y (y_assign rfl) rfl rfl rfl rfl ?_
  refine s_nil ?_
  refine g_then ?_
  refine g_ret ?_
  exact g_end trivial (fun a w ha hq_ => res1 ha rfl rfl  w) (fun w h => ⟨rfl, h.below⟩)

theorem sums_any (w : World) (n : Nat) (v : Value) (xs : List Int) (sg : Int) (hsg : sg = 1 ∨ sg = -1) (hv : RdV (Value.int .i64) w v xs) (hn : 2 ≤ n) (hn2 : n ≤ 16) (hok : okW n (qOf n) xs = true) :
    Calls Try.prog 66 [.int .i64 (n : Int), v, .int .i64 sg].toArray w fun e w' => ∃ b : Nat, e = .returned (.slice (some ⟨b, 0, none⟩) n n) ∧ Hq w w [(b, .cells ((sumsL sg n xs).map (Value.int .i64) ++ []).toArray 3 (0, 0))] w' := by
  obtain ⟨hf1, hf2, hf3, hf4, hf5, hf6, hf7⟩ := q_facts hn hn2
  obtain ⟨hxl, hx⟩ := okW_true.1 hok
  obtain ⟨ie3, hi3⟩ := inf_3
  refine enter (N := 60) Try.func66 rfl rfl rfl ?_
  refine g_seq ?_
  refine g_region ?_
  refine s_y (y_assign rfl) rfl rfl rfl rfl ?_
  refine s_nil ?_
  refine g_then ?_
  refine g_seq ?_
  refine g_region ?_
  refine s_y (y_move rfl) rfl rfl rfl rfl ?_
  refine s_tr (t_call rfl rfl ent_21 (fun w h => RPrime_any w n hn hn2)) rfl rfl rfl rfl (fun _ _ => ?_)
  refine s_y (y_move rfl) rfl rfl rfl rfl ?_
  refine s_tr (t_call rfl rfl ent_22 (fun w h => RRoot_any w n hn hn2)) rfl rfl rfl rfl (fun _ _ => ?_)
  refine s_y (y_assign rfl) rfl rfl rfl rfl ?_
  refine s_y (y_assign rfl) rfl rfl rfl rfl ?_
  refine s_nil ?_
  refine g_then ?_
  refine g_seq ?_
  refine g_region ?_
  refine s_y (y_move rfl) rfl rfl rfl rfl ?_
  refine s_tr (t_makeL (enc := (Value.int .i64)) (z := (0 : Int)) (n := n) rfl Try.underlying32 hi3.1 hi3.2.1 hi3.2.2.1 rfl (by rw [hi3.2.2.2]; omega) (by omega)) rfl rfl rfl rfl (fun bo hbo => ?_)
  refine s_y (y_assign rfl) rfl rfl rfl rfl ?_
  refine s_nil ?_
  refine g_then ?_
  refine g_seq ?_
  refine g_seq ?_
  refine g_region ?_
  refine s_y (y_move rfl) rfl rfl rfl rfl ?_
  refine s_y (y_lensl rfl sle_32) rfl rfl rfl rfl ?_
  refine s_y (y_move rfl) rfl rfl rfl rfl ?_
  refine s_nil ?_
  refine g_then ?_
  refine g_block ?_
  refine g_loop (fun (i : Nat) act W => i ≤ n ∧ ∃ (zs : List Int) (w1 : World), (zs.length = n) ∧ (∀ k : Nat, k < i → rdI zs (k : Int) = racc (qOf n) (wOf n) n xs (sidx sg n k) n) ∧ (∀ k : Nat, i ≤ k → k < n → rdI zs (k : Int) = 0) ∧ Has 60 [] [(0, .int .i64 (n : Int)), (1, v), (2, .int .i64 sg), (6, .slice none 0 0), (7, .int .i64 (qOf n)), (8, .int .i64 (wOf n)), (9, .slice (some ⟨bo, 0, none⟩) n n), (20, .int .i64 (n : Nat)), (21, .int .i64 (i : Int))] act ∧ Hp w w1 ((bo, .cells (zs.map (Value.int .i64) ++ []).toArray 3 (0, 0)) :: []) W) (fun i => n - i) 0 (fun act W ha hw => ⟨by omega, List.replicate n 0, W, (by simp), (by intro k hk; omega), (by intro k _ _; exact rdI_replicate), ha.weak (sub_get ⟨rfl, rfl, rfl, rfl, rfl, rfl, rfl, rfl, rfl, trivial⟩), hw.toHq.lookSub (List.Sublist.refl _)⟩) ?_
  intro i act W ⟨hb_i, zs, w1, hzl, hzs, hz0, ha, hw⟩
  refine g_go ha hw ?_
  clear ha hw act W
  refine g_seq ?_
  refine g_region ?_
  refine s_y (y_lss rfl rfl) rfl rfl rfl rfl ?_
  refine s_nil ?_
  refine g_then ?_
  refine g_seq ?_
  refine g_cond rfl (fun cq1 => ?_) (fun cq1 => ?_)
  · (try simp at cq1)
    refine g_skip ?_
    refine g_then ?_
    refine g_seq ?_
    refine g_block ?_
    refine g_seq ?_
    refine g_region ?_
    refine s_y (y_move rfl) rfl rfl rfl rfl ?_
    refine s_y (y_assign rfl) rfl rfl rfl rfl ?_
    refine s_nil ?_
    refine g_then ?_
    refine g_seq ?_
    refine g_region ?_
    refine s_y (y_move rfl) rfl rfl rfl rfl ?_
    refine s_y (y_lenV (n := xs.length) rfl (by obtain ⟨A, c, h1, _⟩ := hv; exact ⟨A, c, h1⟩) sle_32) rfl rfl rfl rfl ?_
    refine s_y (y_move rfl) rfl rfl rfl rfl ?_
    refine s_nil ?_
    refine g_then ?_
    refine g_block ?_
    refine g_loop (fun (j : Nat) act W => j ≤ n ∧ ∃ (zs : List Int) (w1 : World), (zs.length = n) ∧ (∀ k : Nat, k < i → rdI zs (k : Int) = racc (qOf n) (wOf n) n xs (sidx sg n k) n) ∧ (∀ k : Nat, i + 1 ≤ k → k < n → rdI zs (k : Int) = 0) ∧ (rdI zs (i : Int) = racc (qOf n) (wOf n) n xs (sidx sg n i) j) ∧ Has 60 [] [(0, .int .i64 (n : Int)), (1, v), (2, .int .i64 sg), (6, .slice none 0 0), (7, .int .i64 (qOf n)), (8, .int .i64 (wOf n)), (9, .slice (some ⟨bo, 0, none⟩) n n), (10, .int .i64 (i : Int)), (20, .int .i64 (n : Nat)), (21, .int .i64 (i : Int)), (22, .bool (decide ((i : Int) < (n : Nat)))), (23, .int .i64 (i : Int)), (24, v), (25, .int .i64 (xs.length : Nat)), (26, .int .i64 (j : Int))] act ∧ Hp w w1 ((bo, .cells (zs.map (Value.int .i64) ++ []).toArray 3 (0, 0)) :: []) W) (fun j => n - j) 0 (fun act W ha hw => ⟨by omega, zs, W, (by exact hzl), (by exact hzs), (by intro k h1 h2; exact hz0 k (by omega) h2), (by exact hz0 i (Nat.le_refl _) (by omega)), ha.weak (sub_get ⟨rfl, rfl, rfl, rfl, rfl, rfl, rfl, rfl, rfl, rfl, rfl, rfl, rfl, rfl, rfl, trivial⟩), hw.toHq.lookSub (List.Sublist.refl _)⟩) ?_
    intro j act W ⟨hb_j, zs, w1, hzl, hzs, hz0, hzi, ha, hw⟩
    refine g_go ha hw ?_
    clear ha hw act W
    refine g_seq ?_
    refine g_region ?_
    refine s_y (y_lss rfl rfl) rfl rfl rfl rfl ?_
    refine s_nil ?_
    refine g_then ?_
    refine g_seq ?_
    refine g_cond rfl (fun cq2 => ?_) (fun cq2 => ?_)
    · (try simp at cq2)
      refine g_skip ?_
      refine g_then ?_
      refine g_seq ?_
      refine g_block ?_
      refine g_seq ?_
      refine g_region ?_
      refine s_y (y_move rfl) rfl rfl rfl rfl ?_
      refine s_y (y_idxV (enc := (Value.int .i64)) rfl rfl hv Try.underlying32 size_3 (by omega) (by omega)) rfl rfl rfl rfl ?_
      refine s_y (y_ldV (enc := (Value.int .i64)) (xs := xs) (fun w h => hv.rdl.below h.below) rfl agg_3 (rdI_at (by omega) (by omega))) rfl rfl rfl rfl ?_
      refine s_y (y_assign rfl) rfl rfl rfl rfl ?_
      refine s_y (y_assign rfl) rfl rfl rfl rfl ?_
      refine s_nil ?_
      refine g_then ?_
      have hxj := at_range hxl hx (i := (j : Int)) (by omega) (by omega)
      have hp := pw_range (x := wOf n) (show 2 ≤ qOf n by omega) (sidx sg n i j)
      have hm := mul_small (a := rdI xs (j : Int)) (b := pw (qOf n) (wOf n) (sidx sg n i j)) (by omega) (by omega) (by omega) (by omega)
      have hra := racc_range (wOf n) n xs (sidx sg n i) (show 2 ≤ qOf n by omega) j
      rw [← hzi] at hra
      have hs0 : sg * (i : Int) = (i : Int) ∨ sg * (i : Int) = -(i : Int) := by rcases hsg with h | h <;> subst h <;> omega
      have hij := mul_small (a := (i : Int)) (b := (j : Int)) (by omega) (by omega) (by omega) (by omega)
      have hs1 : sg * (i : Int) * (j : Int) = (i : Int) * (j : Int) ∨ sg * (i : Int) * (j : Int) = -((i : Int) * (j : Int)) := by rcases hs0 with h | h <;> rw [h]; exact .inl rfl; exact .inr (Int.neg_mul _ _)
      have htm := tmod_range (show 0 < n by omega) (sg * (i : Int) * (j : Int))
      refine g_draw 26 (by kernel_rfl) ?_
      refine j_p (i := 0) rfl (y_move rfl) (by kernel_rfl) (by kernel_rfl) (by kernel_rfl) rfl rfl rfl rfl rfl (.inr (fun _ h => h)) ?_
      refine j_p (i := 1) rfl (y_move rfl) (by kernel_rfl) (by kernel_rfl) (by kernel_rfl) rfl rfl rfl rfl rfl (.inr (fun _ h => h)) ?_
      refine j_p (i := 2) rfl (y_move rfl) (by kernel_rfl) (by kernel_rfl) (by kernel_rfl) rfl rfl rfl rfl rfl (.inr (fun _ h => h)) ?_
      refine j_p (i := 3) rfl (y_move rfl) (by kernel_rfl) (by kernel_rfl) (by kernel_rfl) rfl rfl rfl rfl rfl (.inr (fun _ h => h)) ?_
      refine j_p (i := 4) rfl (y_idxb1 rfl rfl Try.underlying32 size_3 (by omega) (by omega)) (by kernel_rfl) (by kernel_rfl) (by kernel_rfl) rfl rfl rfl rfl rfl (.inr (fun _ h => h)) ?_
      refine j_l (i := 5) rfl (y_ldL (enc := (Value.int .i64)) (xs := zs) (jk := []) 0 rfl rfl agg_3 (rdI_at (by omega) (by omega))) (by kernel_rfl) (by kernel_rfl) (by kernel_rfl) (by kernel_rfl) rfl rfl rfl rfl rfl (.inr (fun _ h => h)) ?_
      refine j_p (i := 6) rfl (y_move rfl) (by kernel_rfl) (by kernel_rfl) (by kernel_rfl) rfl rfl rfl rfl rfl (.inr (fun _ h => h)) ?_
      refine j_p (i := 7) rfl (y_move rfl) (by kernel_rfl) (by kernel_rfl) (by kernel_rfl) rfl rfl rfl rfl rfl (.inr (fun _ h => h)) ?_
      refine j_p (i := 8) rfl (y_move rfl) (by kernel_rfl) (by kernel_rfl) (by kernel_rfl) rfl rfl rfl rfl rfl (.inr (fun _ h => h)) ?_
      refine j_p (i := 9) rfl (y_move rfl) (by kernel_rfl) (by kernel_rfl) (by kernel_rfl) rfl rfl rfl rfl rfl (.inr (fun _ h => h)) ?_
      refine j_p (i := 10) rfl (y_mul rfl rfl (by omega) (by omega)) (by kernel_rfl) (by kernel_rfl) (by kernel_rfl) rfl rfl rfl rfl rfl (.inr (fun _ h => h)) ?_
      refine j_p (i := 11) rfl (y_move rfl) (by kernel_rfl) (by kernel_rfl) (by kernel_rfl) rfl rfl rfl rfl rfl (.inr (fun _ h => h)) ?_
      refine j_p (i := 12) rfl (y_mul rfl rfl (by omega) (by omega)) (by kernel_rfl) (by kernel_rfl) (by kernel_rfl) rfl rfl rfl rfl rfl (.inr (fun _ h => h)) ?_
      refine j_p (i := 13) rfl (y_move rfl) (by kernel_rfl) (by kernel_rfl) (by kernel_rfl) rfl rfl rfl rfl rfl (.inr (fun _ h => h)) ?_
      refine j_p (i := 14) rfl (y_remt rfl rfl (by omega)) (by kernel_rfl) (by kernel_rfl) (by kernel_rfl) rfl rfl rfl rfl rfl (.inr (fun _ h => h)) ?_
      refine j_p (i := 15) rfl (y_move rfl) (by kernel_rfl) (by kernel_rfl) (by kernel_rfl) rfl rfl rfl rfl rfl (.inr (fun _ h => h)) ?_
      refine j_p (i := 16) rfl (y_add rfl rfl (by omega) (by omega)) (by kernel_rfl) (by kernel_rfl) (by kernel_rfl) rfl rfl rfl rfl rfl (.inr (fun _ h => h)) ?_
      refine j_p (i := 17) rfl (y_move rfl) (by kernel_rfl) (by kernel_rfl) (by kernel_rfl) rfl rfl rfl rfl rfl (.inr (fun _ h => h)) ?_
      refine j_p (i := 18) rfl (y_rem rfl rfl (by omega) (by omega)) (by kernel_rfl) (by kernel_rfl) (by kernel_rfl) rfl rfl rfl rfl rfl (.inr (fun _ h => h)) ?_
      refine j_p (i := 19) rfl (y_move rfl) (by kernel_rfl) (by kernel_rfl) (by kernel_rfl) rfl rfl rfl rfl rfl (.inr (fun _ h => h)) ?_
      refine j_p (i := 23) rfl (y_move rfl) (by kernel_rfl) (by kernel_rfl) (by kernel_rfl) rfl rfl rfl rfl rfl (.inr (fun _ h => h)) ?_
      refine j_tr (i := 20) rfl (t_call rfl rfl ent_58 (fun w h => (sidx_eq (k := i) (j := j) hsg (show 0 < n by omega)) ▸ Rpower_any w (qOf n) (wOf n) (sidx sg n i j) (by omega) (by omega) (by omega) (by omega) (by have := sidx_lt sg (k := i) (j := j) (show 0 < n by omega); omega))) (by kernel_rfl) rfl rfl rfl rfl (.inr (fun x w hb h => h)) (fun _ _ => ?_)
      refine j_p (i := 21) rfl (y_mul rfl rfl (by omega) (by omega)) (by kernel_rfl) (by kernel_rfl) (by kernel_rfl) rfl rfl rfl rfl rfl (.inr (fun _ h => h)) ?_
      refine j_p (i := 22) rfl (y_add rfl rfl (by omega) (by omega)) (by kernel_rfl) (by kernel_rfl) (by kernel_rfl) rfl rfl rfl rfl rfl (.inr (fun _ h => h)) ?_
      refine j_p (i := 24) rfl (y_rem rfl rfl (by omega) (by omega)) (by kernel_rfl) (by kernel_rfl) (by kernel_rfl) rfl rfl rfl rfl rfl (.inr (fun _ h => h)) ?_
      refine j_p (i := 25) rfl (y_idxb1 rfl rfl Try.underlying32 size_3 (by omega) (by omega)) (by kernel_rfl) (by kernel_rfl) (by kernel_rfl) rfl rfl rfl rfl rfl (.inr (fun _ h => h)) ?_
      refine j_tr0 (i := 26) rfl (t_storeL (enc := (Value.int .i64)) (v := ((rdI zs (i : Int)) + ((rdI xs (j : Int)) * (pw (qOf n) (wOf n) (sidx sg n i j)))) % (qOf n)) (xs := zs) (jk := []) 0 rfl rfl rfl rfl rfl size_3 (by omega)) (by kernel_rfl) rfl rfl rfl (.inl rfl) (fun _ _ => ?_)
      refine j_nil (by kernel_rfl) ?_
      refine g_inb ?_
      refine g_then ?_
      refine g_region ?_
      refine s_y (y_add rfl rfl (by omega) (by omega)) rfl rfl rfl rfl ?_
      refine s_y (y_move rfl) rfl rfl rfl rfl ?_
      refine s_nil ?_
      refine g_then ?_
      exact fun act W ha hw => ⟨j + 1, by omega, by omega, (zs.set (((i : Int) : Int).toNat) (((rdI zs (i : Int)) + ((rdI xs (j : Int)) * (pw (qOf n) (wOf n) (sidx sg n i j)))) % (qOf n))), W, (by simp; exact hzl), (by intro k hk; rw [rdI_set (by omega), if_neg (by omega)]; exact hzs k hk), (by intro k h1 h2; rw [rdI_set (by omega), if_neg (by omega)]; exact hz0 k h1 h2), (by rw [rdI_set (by omega), if_pos rfl, hzi]; rfl), ha.weak (sub_get ⟨rfl, rfl, rfl, rfl, rfl, rfl, rfl, rfl, rfl, rfl, rfl, rfl, rfl, rfl, rfl, trivial⟩), hw.toHq.lookSub (List.Sublist.refl _)⟩
    · (try simp at cq2)
      refine g_exit ?_
      refine g_thenx ?_
      refine g_thenx ?_
      refine g_inbx ?_
      refine g_inb ?_
      refine g_then ?_
      refine g_region ?_
      refine s_y (y_add rfl rfl (by omega) (by omega)) rfl rfl rfl rfl ?_
      refine s_y (y_move rfl) rfl rfl rfl rfl ?_
      refine s_nil ?_
      refine g_then ?_
      obtain rfl : j = n := by omega
      have hall : ∀ k : Nat, k < i + 1 → rdI zs (k : Int) = racc (qOf j) (wOf j) j xs (sidx sg j k) j := by
        intro k hk
        rcases Nat.lt_or_ge k i with h | h
        · exact hzs k h
        · have : k = i := by omega
          subst this; exact hzi
      exact fun act W ha hw => ⟨i + 1, by omega, by omega, zs, W, (by exact hzl), (by exact hall), (by intro k h1 h2; exact hz0 k (by omega) h2), ha.weak (sub_get ⟨rfl, rfl, rfl, rfl, rfl, rfl, rfl, rfl, rfl, trivial⟩), hw.toHq.lookSub (List.Sublist.refl _)⟩
  · (try simp at cq1)
    refine g_exit ?_
    refine g_thenx ?_
    refine g_thenx ?_
    refine g_inbx ?_
    refine g_then ?_
    refine g_seq ?_
    refine g_region ?_
    refine s_y (y_move rfl) rfl rfl rfl rfl ?_
    refine s_y (y_assign rfl) rfl rfl rfl rfl ?_
    refine s_nil ?_
    refine g_then ?_
    refine g_ret ?_
    obtain rfl : i = n := by omega
    have hz : zs = sumsL sg i xs := eq_map hzl hzs
    subst hz
    exact g_end trivial (fun a w ha hq_ => res1 ha rfl rfl  w) (fun w h => ⟨bo, rfl, h.hand (List.Sublist.refl _)⟩)

theorem RSpectrum_ok (w : World) (n : Nat) (v : Value) (xs : List Int) (hv : RdV (Value.int .i64) w v xs) (hn : 2 ≤ n) (hn2 : n ≤ 16) (hok : okW n (qOf n) xs = true) :
    Calls Try.prog 36 [.int .i64 (n : Int), v].toArray w fun e w' => ∃ b : Nat, e = .returned (.slice (some ⟨b, 0, none⟩) n n) ∧ Hq w w [(b, .cells ((turnL (qOf n) (wOf n) n xs).map (Value.int .i64) ++ []).toArray 3 (0, 0))] w' := by
  refine enter (N := 8) Try.func36 rfl rfl rfl ?_
  refine g_seq ?_
  refine g_region ?_
  refine s_y (y_assign rfl) rfl rfl rfl rfl ?_
  refine s_nil ?_
  refine g_then ?_
  refine g_seq ?_
  refine g_region ?_
  refine s_y (y_move rfl) rfl rfl rfl rfl ?_
  refine s_y (y_move rfl) rfl rfl rfl rfl ?_
  refine s_tr (t_callm (A := New _ _) rfl rfl ent_66 (fun w h => (sums_pos (n := n) (xs := xs) ▸ sums_any w n v xs 1 (.inl rfl) (hv.below h.below) hn hn2 hok).mono fun e w' ⟨b, h1, h2⟩ => ⟨b, ⟨Nat.le_trans h.below.size (h2.ge _ (List.mem_cons_self ..)), Nat.le_trans h.size (h2.ge _ (List.mem_cons_self ..))⟩, h1, h2⟩)) rfl rfl rfl rfl (fun bc1 hbc1 => ?_)
  refine s_y (y_assign rfl) rfl rfl rfl rfl ?_
  refine s_nil ?_
  refine g_then ?_
  refine g_ret ?_
  exact g_end trivial (fun a w ha hq_ => res1 ha rfl rfl  w) (fun w h => ⟨bc1, rfl, h.hand (List.Sublist.refl _)⟩)

theorem RBack_ok (w : World) (n : Nat) (v : Value) (xs : List Int) (hv : RdV (Value.int .i64) w v xs) (hn : 2 ≤ n) (hn2 : n ≤ 16) (hok : okW n (qOf n) xs = true) :
    Calls Try.prog 37 [.int .i64 (n : Int), v].toArray w fun e w' => ∃ b : Nat, e = .returned (.slice (some ⟨b, 0, none⟩) n n) ∧ Hq w w [(b, .cells ((backL (qOf n) (wOf n) n xs).map (Value.int .i64) ++ []).toArray 3 (0, 0))] w' := by
  obtain ⟨hf1, hf2, hf3, hf4, hf5, hf6, hf7⟩ := q_facts hn hn2
  obtain ⟨hxl, hx⟩ := okW_true.1 hok
  have hnq : (n : Int) % qOf n = n := Int.emod_eq_of_lt (by omega) (by omega)
  refine enter (N := 33) Try.func37 rfl rfl rfl ?_
  refine g_seq ?_
  refine g_region ?_
  refine s_y (y_assign rfl) rfl rfl rfl rfl ?_
  refine s_nil ?_
  refine g_then ?_
  refine g_seq ?_
  refine g_region ?_
  refine s_y (y_move rfl) rfl rfl rfl rfl ?_
  refine s_tr (t_call rfl rfl ent_21 (fun w h => RPrime_any w n hn hn2)) rfl rfl rfl rfl (fun _ _ => ?_)
  refine s_y (y_assign rfl) rfl rfl rfl rfl ?_
  refine s_nil ?_
  refine g_then ?_
  refine g_seq ?_
  refine g_region ?_
  refine s_y (y_move rfl) rfl rfl rfl rfl ?_
  refine s_y (y_move rfl) rfl rfl rfl rfl ?_
  refine s_tr (t_callm (A := New _ _) rfl rfl ent_66 (fun w h => (sums_neg hn hn2 (xs := xs) ▸ sums_any w n v xs (-1) (.inr rfl) (hv.below h.below) hn hn2 hok).mono fun e w' ⟨b, h1, h2⟩ => ⟨b, ⟨Nat.le_trans h.below.size (h2.ge _ (List.mem_cons_self ..)), Nat.le_trans h.size (h2.ge _ (List.mem_cons_self ..))⟩, h1, h2⟩)) rfl rfl rfl rfl (fun bo hbo => ?_)
  refine s_y (y_assign rfl) rfl rfl rfl rfl ?_
  refine s_nil ?_
  refine g_then ?_
  refine g_seq ?_
  refine g_seq ?_
  refine g_region ?_
  refine s_y (y_move rfl) rfl rfl rfl rfl ?_
  refine s_y (y_lensl rfl sle_32) rfl rfl rfl rfl ?_
  refine s_y (y_move rfl) rfl rfl rfl rfl ?_
  refine s_nil ?_
  refine g_then ?_
  refine g_block ?_
  refine g_loop (fun (i : Nat) act W => i ≤ n ∧ ∃ (zs : List Int) (w1 : World), (zs.length = n) ∧ (∀ k : Nat, k < i → rdI zs (k : Int) = rdI (turnL (qOf n) (pw (qOf n) (wOf n) (qOf n - 2).toNat) n xs) (k : Int) * pw (qOf n) ((n : Int) % qOf n) (qOf n - 2).toNat % qOf n) ∧ (∀ k : Nat, i ≤ k → k < n → rdI zs (k : Int) = rdI (turnL (qOf n) (pw (qOf n) (wOf n) (qOf n - 2).toNat) n xs) (k : Int)) ∧ Has 33 [] [(0, .int .i64 (n : Int)), (4, .slice none 0 0), (5, .int .i64 (qOf n)), (6, .slice (some ⟨bo, 0, none⟩) n n), (14, .int .i64 (n : Nat)), (15, .int .i64 (i : Int))] act ∧ Hp w w1 ((bo, .cells (zs.map (Value.int .i64) ++ []).toArray 3 (0, 0)) :: []) W) (fun i => n - i) 0 (fun act W ha hw => ⟨by omega, turnL (qOf n) (pw (qOf n) (wOf n) (qOf n - 2).toNat) n xs, W, (by simp [turnL_len]), (by intro k hk; omega), (by intro k _ _; rfl), ha.weak (sub_get ⟨rfl, rfl, rfl, rfl, rfl, rfl, trivial⟩), hw.toHq.lookSub (List.Sublist.refl _)⟩) ?_
  intro i act W ⟨hb_i, zs, w1, hzl, hzs, hz0, ha, hw⟩
  refine g_go ha hw ?_
  clear ha hw act W
  refine g_seq ?_
  refine g_region ?_
  refine s_y (y_lss rfl rfl) rfl rfl rfl rfl ?_
  refine s_nil ?_
  refine g_then ?_
  refine g_seq ?_
  refine g_cond rfl (fun cq1 => ?_) (fun cq1 => ?_)
  · (try simp at cq1)
    refine g_skip ?_
    refine g_then ?_
    refine g_seq ?_
    refine g_block ?_
    refine g_seq ?_
    refine g_region ?_
    refine s_y (y_move rfl) rfl rfl rfl rfl ?_
    refine s_y (y_assign rfl) rfl rfl rfl rfl ?_
    refine s_nil ?_
    refine g_then ?_
    have hr := turnL_range' hn hn2 (pw (qOf n) (wOf n) (qOf n - 2).toNat) xs _ (rdI_mem (xs := turnL (qOf n) (pw (qOf n) (wOf n) (qOf n - 2).toNat) n xs) (i := (i : Int)) (by omega) (by rw [turnL_len]; omega))
    rw [← hz0 i (Nat.le_refl _) (by omega)] at hr
    have hp := pw_range (x := (n : Int)) (show 2 ≤ qOf n by omega) (qOf n - 2).toNat
    have hm := mul_small (a := rdI zs (i : Int)) (b := pw (qOf n) n (qOf n - 2).toNat) (by omega) (by omega) (by omega) (by omega)
    refine g_draw 13 (by kernel_rfl) ?_
    refine j_p (i := 0) rfl (y_move rfl) (by kernel_rfl) (by kernel_rfl) (by kernel_rfl) rfl rfl rfl rfl rfl (.inr (fun _ h => h)) ?_
    refine j_p (i := 1) rfl (y_move rfl) (by kernel_rfl) (by kernel_rfl) (by kernel_rfl) rfl rfl rfl rfl rfl (.inr (fun _ h => h)) ?_
    refine j_p (i := 2) rfl (y_move rfl) (by kernel_rfl) (by kernel_rfl) (by kernel_rfl) rfl rfl rfl rfl rfl (.inr (fun _ h => h)) ?_
    refine j_p (i := 3) rfl (y_move rfl) (by kernel_rfl) (by kernel_rfl) (by kernel_rfl) rfl rfl rfl rfl rfl (.inr (fun _ h => h)) ?_
    refine j_p (i := 4) rfl (y_idxb1 rfl rfl Try.underlying32 size_3 (by omega) (by omega)) (by kernel_rfl) (by kernel_rfl) (by kernel_rfl) rfl rfl rfl rfl rfl (.inr (fun _ h => h)) ?_
    refine j_l (i := 5) rfl (y_ldL (enc := (Value.int .i64)) (xs := zs) (jk := []) 0 rfl rfl agg_3 (rdI_at (by omega) (by omega))) (by kernel_rfl) (by kernel_rfl) (by kernel_rfl) (by kernel_rfl) rfl rfl rfl rfl rfl (.inr (fun _ h => h)) ?_
    refine j_p (i := 6) rfl (y_move rfl) (by kernel_rfl) (by kernel_rfl) (by kernel_rfl) rfl rfl rfl rfl rfl (.inr (fun _ h => h)) ?_
    refine j_p (i := 7) rfl (y_move rfl) (by kernel_rfl) (by kernel_rfl) (by kernel_rfl) rfl rfl rfl rfl rfl (.inr (fun _ h => h)) ?_
    refine j_p (i := 10) rfl (y_move rfl) (by kernel_rfl) (by kernel_rfl) (by kernel_rfl) rfl rfl rfl rfl rfl (.inr (fun _ h => h)) ?_
    refine j_tr (i := 8) rfl (t_call rfl rfl ent_67 (fun w h => Rinverse_any w (qOf n) n (by omega) (by omega) (by omega) (by omega))) (by kernel_rfl) rfl rfl rfl rfl (.inr (fun x w hb h => h)) (fun _ _ => ?_)
    refine j_p (i := 9) rfl (y_mul rfl rfl (by omega) (by omega)) (by kernel_rfl) (by kernel_rfl) (by kernel_rfl) rfl rfl rfl rfl rfl (.inr (fun _ h => h)) ?_
    refine j_p (i := 11) rfl (y_rem rfl rfl (by omega) (by omega)) (by kernel_rfl) (by kernel_rfl) (by kernel_rfl) rfl rfl rfl rfl rfl (.inr (fun _ h => h)) ?_
    refine j_p (i := 12) rfl (y_idxb1 rfl rfl Try.underlying32 size_3 (by omega) (by omega)) (by kernel_rfl) (by kernel_rfl) (by kernel_rfl) rfl rfl rfl rfl rfl (.inr (fun _ h => h)) ?_
    refine j_tr0 (i := 13) rfl (t_storeL (enc := (Value.int .i64)) (v := ((rdI zs (i : Int)) * (pw (qOf n) n (qOf n - 2).toNat)) % (qOf n)) (xs := zs) (jk := []) 0 rfl rfl rfl rfl rfl size_3 (by omega)) (by kernel_rfl) rfl rfl rfl (.inl rfl) (fun _ _ => ?_)
    refine j_nil (by kernel_rfl) ?_
    refine g_inb ?_
    refine g_then ?_
    refine g_region ?_
    refine s_y (y_add rfl rfl (by omega) (by omega)) rfl rfl rfl rfl ?_
    refine s_y (y_move rfl) rfl rfl rfl rfl ?_
    refine s_nil ?_
    refine g_then ?_
    have hall : ∀ k : Nat, k < i + 1 → rdI (zs.set (i : Int).toNat (rdI zs (i : Int) * pw (qOf n) n (qOf n - 2).toNat % qOf n)) (k : Int) = rdI (turnL (qOf n) (pw (qOf n) (wOf n) (qOf n - 2).toNat) n xs) (k : Int) * pw (qOf n) ((n : Int) % qOf n) (qOf n - 2).toNat % qOf n := by
      intro k hk
      rw [rdI_set (by omega)]
      split
      · rename_i h; subst h; rw [hz0 i (Nat.le_refl _) (by omega), hnq]
      · exact hzs k (by omega)
    exact fun act W ha hw => ⟨i + 1, by omega, by omega, (zs.set (((i : Int) : Int).toNat) (((rdI zs (i : Int)) * (pw (qOf n) n (qOf n - 2).toNat)) % (qOf n))), W, (by simp; exact hzl), (by exact hall), (by intro k h1 h2; rw [rdI_set (by omega), if_neg (by omega)]; exact hz0 k (by omega) h2), ha.weak (sub_get ⟨rfl, rfl, rfl, rfl, rfl, rfl, trivial⟩), hw.toHq.lookSub (List.Sublist.refl _)⟩
  · (try simp at cq1)
    refine g_exit ?_
    refine g_thenx ?_
    refine g_thenx ?_
    refine g_inbx ?_
    refine g_then ?_
    refine g_seq ?_
    refine g_region ?_
    refine s_y (y_move rfl) rfl rfl rfl rfl ?_
    refine s_y (y_assign rfl) rfl rfl rfl rfl ?_
    refine s_nil ?_
    refine g_then ?_
    refine g_ret ?_
    obtain rfl : i = n := by omega
    have hz : zs = backL (qOf i) (wOf i) i xs := eq_map hzl hzs
    subst hz
    exact g_end trivial (fun a w ha hq_ => res1 ha rfl rfl  w) (fun w h => ⟨bo, rfl, h.hand (List.Sublist.refl _)⟩)

theorem RPower_ok (w : World) (n : Nat) (v : Value) (xs : List Int) (hv : RdV (Value.int .i64) w v xs) (hn : 2 ≤ n) (hn2 : n ≤ 16) (hok : okW n (qOf n) xs = true) :
    Calls Try.prog 38 [.int .i64 (n : Int), v].toArray w fun e w' => ∃ b : Nat, e = .returned (.slice (some ⟨b, 0, none⟩) n n) ∧ Hq w w [(b, .cells ((powL (qOf n) (wOf n) n xs).map (Value.int .i64) ++ []).toArray 3 (0, 0))] w' := by
  obtain ⟨hf1, hf2, hf3, hf4, hf5, hf6, hf7⟩ := q_facts hn hn2
  obtain ⟨hxl, hx⟩ := okW_true.1 hok
  obtain ⟨ie3, hi3⟩ := inf_3
  refine enter (N := 41) Try.func38 rfl rfl rfl ?_
  refine g_seq ?_
  refine g_region ?_
  refine s_y (y_assign rfl) rfl rfl rfl rfl ?_
  refine s_nil ?_
  refine g_then ?_
  refine g_seq ?_
  refine g_region ?_
  refine s_y (y_move rfl) rfl rfl rfl rfl ?_
  refine s_tr (t_call rfl rfl ent_21 (fun w h => RPrime_any w n hn hn2)) rfl rfl rfl rfl (fun _ _ => ?_)
  refine s_y (y_assign rfl) rfl rfl rfl rfl ?_
  refine s_nil ?_
  refine g_then ?_
  refine g_seq ?_
  refine g_region ?_
  refine s_y (y_move rfl) rfl rfl rfl rfl ?_
  refine s_y (y_move rfl) rfl rfl rfl rfl ?_
  refine s_tr (t_callm (A := New _ _) rfl rfl ent_36 (fun w h => (RSpectrum_ok w n v xs (hv.below h.below) hn hn2 hok).mono fun e w' ⟨b, h1, h2⟩ => ⟨b, ⟨Nat.le_trans h.below.size (h2.ge _ (List.mem_cons_self ..)), Nat.le_trans h.size (h2.ge _ (List.mem_cons_self ..))⟩, h1, h2⟩)) rfl rfl rfl rfl (fun bs hbs => ?_)
  refine s_y (y_assign rfl) rfl rfl rfl rfl ?_
  refine s_nil ?_
  refine g_then ?_
  refine g_seq ?_
  refine g_region ?_
  refine s_y (y_move rfl) rfl rfl rfl rfl ?_
  refine s_tr (t_makeL (enc := (Value.int .i64)) (z := (0 : Int)) (n := n) rfl Try.underlying32 hi3.1 hi3.2.1 hi3.2.2.1 rfl (by rw [hi3.2.2.2]; omega) (by omega)) rfl rfl rfl rfl (fun bo hbo => ?_)
  refine s_y (y_assign rfl) rfl rfl rfl rfl ?_
  refine s_nil ?_
  refine g_then ?_
  refine g_seq ?_
  refine g_seq ?_
  refine g_region ?_
  refine s_y (y_move rfl) rfl rfl rfl rfl ?_
  refine s_y (y_lensl rfl sle_32) rfl rfl rfl rfl ?_
  refine s_y (y_move rfl) rfl rfl rfl rfl ?_
  refine s_nil ?_
  refine g_then ?_
  refine g_block ?_
  refine g_loop (fun (i : Nat) act W => i ≤ n ∧ ∃ (zs : List Int) (w1 : World), (zs.length = n) ∧ (∀ k : Nat, k < i → rdI zs (k : Int) = rdI (turnL (qOf n) (wOf n) n xs) (k : Int) * rdI (turnL (qOf n) (wOf n) n xs) (((n : Int) - (k : Int)) % (n : Int)) % qOf n) ∧ Has 41 [] [(0, .int .i64 (n : Int)), (4, .slice none 0 0), (5, .int .i64 (qOf n)), (6, .slice (some ⟨bs, 0, none⟩) n n), (7, .slice (some ⟨bo, 0, none⟩) n n), (17, .int .i64 (n : Nat)), (18, .int .i64 (i : Int))] act ∧ Hp w w1 ((bo, .cells (zs.map (Value.int .i64) ++ []).toArray 3 (0, 0)) :: (bs, .cells ((turnL (qOf n) (wOf n) n xs).map (Value.int .i64) ++ []).toArray 3 (0, 0)) :: []) W) (fun i => n - i) 0 (fun act W ha hw => ⟨by omega, List.replicate n 0, W, (by simp), (by intro k hk; omega), ha.weak (sub_get ⟨rfl, rfl, rfl, rfl, rfl, rfl, rfl, trivial⟩), hw.toHq.lookSub (List.Sublist.refl _)⟩) ?_
  intro i act W ⟨hb_i, zs, w1, hzl, hzs, ha, hw⟩
  refine g_go ha hw ?_
  clear ha hw act W
  refine g_seq ?_
  refine g_region ?_
  refine s_y (y_lss rfl rfl) rfl rfl rfl rfl ?_
  refine s_nil ?_
  refine g_then ?_
  refine g_seq ?_
  refine g_cond rfl (fun cq1 => ?_) (fun cq1 => ?_)
  · (try simp at cq1)
    refine g_skip ?_
    refine g_then ?_
    refine g_seq ?_
    refine g_block ?_
    refine g_seq ?_
    refine g_region ?_
    refine s_y (y_move rfl) rfl rfl rfl rfl ?_
    refine s_y (y_assign rfl) rfl rfl rfl rfl ?_
    refine s_nil ?_
    refine g_then ?_
    have hlT : (turnL (qOf n) (wOf n) n xs).length = n := turnL_len
    have hmr := mod_range (show 0 < n by omega) ((n : Int) - (i : Int))
    have hr := at_range hlT (turnL_range' hn hn2 (wOf n) xs) (i := (i : Int)) (by omega) (by omega)
    have hr' := at_range hlT (turnL_range' hn hn2 (wOf n) xs) hmr.1 hmr.2
    have hm := mul_small (a := rdI (turnL (qOf n) (wOf n) n xs) (i : Int)) (b := rdI (turnL (qOf n) (wOf n) n xs) (((n : Int) - (i : Int)) % (n : Int))) (by omega) (by omega) (by omega) (by omega)
    refine g_draw 18 (by kernel_rfl) ?_
    refine j_p (i := 0) rfl (y_move rfl) (by kernel_rfl) (by kernel_rfl) (by kernel_rfl) rfl rfl rfl rfl rfl (.inr (fun _ h => h)) ?_
    refine j_p (i := 1) rfl (y_move rfl) (by kernel_rfl) (by kernel_rfl) (by kernel_rfl) rfl rfl rfl rfl rfl (.inr (fun _ h => h)) ?_
    refine j_p (i := 2) rfl (y_move rfl) (by kernel_rfl) (by kernel_rfl) (by kernel_rfl) rfl rfl rfl rfl rfl (.inr (fun _ h => h)) ?_
    refine j_p (i := 3) rfl (y_move rfl) (by kernel_rfl) (by kernel_rfl) (by kernel_rfl) rfl rfl rfl rfl rfl (.inr (fun _ h => h)) ?_
    refine j_p (i := 4) rfl (y_idxb1 rfl rfl Try.underlying32 size_3 (by omega) (by omega)) (by kernel_rfl) (by kernel_rfl) (by kernel_rfl) rfl rfl rfl rfl rfl (.inr (fun _ h => h)) ?_
    refine j_l (i := 5) rfl (y_ldL (enc := (Value.int .i64)) (xs := turnL (qOf n) (wOf n) n xs) (jk := []) 1 rfl rfl agg_3 (rdI_at (by omega) (by omega))) (by kernel_rfl) (by kernel_rfl) (by kernel_rfl) (by kernel_rfl) rfl rfl rfl rfl rfl (.inr (fun _ h => h)) ?_
    refine j_p (i := 6) rfl (y_move rfl) (by kernel_rfl) (by kernel_rfl) (by kernel_rfl) rfl rfl rfl rfl rfl (.inr (fun _ h => h)) ?_
    refine j_p (i := 7) rfl (y_move rfl) (by kernel_rfl) (by kernel_rfl) (by kernel_rfl) rfl rfl rfl rfl rfl (.inr (fun _ h => h)) ?_
    refine j_p (i := 8) rfl (y_move rfl) (by kernel_rfl) (by kernel_rfl) (by kernel_rfl) rfl rfl rfl rfl rfl (.inr (fun _ h => h)) ?_
    refine j_p (i := 9) rfl (y_sub rfl rfl (by omega) (by omega)) (by kernel_rfl) (by kernel_rfl) (by kernel_rfl) rfl rfl rfl rfl rfl (.inr (fun _ h => h)) ?_
    refine j_p (i := 10) rfl (y_move rfl) (by kernel_rfl) (by kernel_rfl) (by kernel_rfl) rfl rfl rfl rfl rfl (.inr (fun _ h => h)) ?_
    refine j_p (i := 11) rfl (y_rem rfl rfl (by omega) (by omega)) (by kernel_rfl) (by kernel_rfl) (by kernel_rfl) rfl rfl rfl rfl rfl (.inr (fun _ h => h)) ?_
    refine j_p (i := 12) rfl (y_idxb1 rfl rfl Try.underlying32 size_3 (by omega) (by omega)) (by kernel_rfl) (by kernel_rfl) (by kernel_rfl) rfl rfl rfl rfl rfl (.inr (fun _ h => h)) ?_
    refine j_l (i := 13) rfl (y_ldL (enc := (Value.int .i64)) (xs := turnL (qOf n) (wOf n) n xs) (jk := []) 1 rfl rfl agg_3 (rdI_at (by omega) (by omega))) (by kernel_rfl) (by kernel_rfl) (by kernel_rfl) (by kernel_rfl) rfl rfl rfl rfl rfl (.inr (fun _ h => h)) ?_
    refine j_p (i := 14) rfl (y_mul rfl rfl (by omega) (by omega)) (by kernel_rfl) (by kernel_rfl) (by kernel_rfl) rfl rfl rfl rfl rfl (.inr (fun _ h => h)) ?_
    refine j_p (i := 15) rfl (y_move rfl) (by kernel_rfl) (by kernel_rfl) (by kernel_rfl) rfl rfl rfl rfl rfl (.inr (fun _ h => h)) ?_
    refine j_p (i := 16) rfl (y_rem rfl rfl (by omega) (by omega)) (by kernel_rfl) (by kernel_rfl) (by kernel_rfl) rfl rfl rfl rfl rfl (.inr (fun _ h => h)) ?_
    refine j_p (i := 17) rfl (y_idxb1 rfl rfl Try.underlying32 size_3 (by omega) (by omega)) (by kernel_rfl) (by kernel_rfl) (by kernel_rfl) rfl rfl rfl rfl rfl (.inr (fun _ h => h)) ?_
    refine j_tr0 (i := 18) rfl (t_storeL (enc := (Value.int .i64)) (v := ((rdI (turnL (qOf n) (wOf n) n xs) (i : Int)) * (rdI (turnL (qOf n) (wOf n) n xs) (((n : Int) - (i : Int)) % (n : Int)))) % (qOf n)) (xs := zs) (jk := []) 0 rfl rfl rfl rfl rfl size_3 (by omega)) (by kernel_rfl) rfl rfl rfl (.inl rfl) (fun _ _ => ?_)
    refine j_nil (by kernel_rfl) ?_
    refine g_inb ?_
    refine g_then ?_
    refine g_region ?_
    refine s_y (y_add rfl rfl (by omega) (by omega)) rfl rfl rfl rfl ?_
    refine s_y (y_move rfl) rfl rfl rfl rfl ?_
    refine s_nil ?_
    refine g_then ?_
    have hall : ∀ k : Nat, k < i + 1 → rdI (zs.set (i : Int).toNat (rdI (turnL (qOf n) (wOf n) n xs) (i : Int) * rdI (turnL (qOf n) (wOf n) n xs) (((n : Int) - (i : Int)) % (n : Int)) % qOf n)) (k : Int) = rdI (turnL (qOf n) (wOf n) n xs) (k : Int) * rdI (turnL (qOf n) (wOf n) n xs) (((n : Int) - (k : Int)) % (n : Int)) % qOf n := by
      intro k hk
      rw [rdI_set (by omega)]
      split
      · rename_i h; subst h; rfl
      · exact hzs k (by omega)
    exact fun act W ha hw => ⟨i + 1, by omega, by omega, (zs.set (((i : Int) : Int).toNat) (((rdI (turnL (qOf n) (wOf n) n xs) (i : Int)) * (rdI (turnL (qOf n) (wOf n) n xs) (((n : Int) - (i : Int)) % (n : Int)))) % (qOf n))), W, (by simp; exact hzl), (by exact hall), ha.weak (sub_get ⟨rfl, rfl, rfl, rfl, rfl, rfl, rfl, trivial⟩), hw.toHq.lookSub (List.Sublist.refl _)⟩
  · (try simp at cq1)
    refine g_exit ?_
    refine g_thenx ?_
    refine g_thenx ?_
    refine g_inbx ?_
    refine g_then ?_
    refine g_seq ?_
    refine g_region ?_
    refine s_y (y_move rfl) rfl rfl rfl rfl ?_
    refine s_y (y_assign rfl) rfl rfl rfl rfl ?_
    refine s_nil ?_
    refine g_then ?_
    refine g_ret ?_
    obtain rfl : i = n := by omega
    have hz : zs = powL (qOf i) (wOf i) i xs := eq_map hzl hzs
    subst hz
    exact g_end trivial (fun a w ha hq_ => res1 ha rfl rfl  w) (fun w h => ⟨bo, rfl, h.hand (List.Sublist.cons_cons _ (List.nil_sublist _))⟩)

theorem RTimes_ok (w : World) (n : Nat) (v v' : Value) (xs ys : List Int) (hv : RdV (Value.int .i64) w v xs) (hv' : RdV (Value.int .i64) w v' ys) (hn : 2 ≤ n) (hn2 : n ≤ 16) (hok : okW n (qOf n) xs = true) (hok' : okW n (qOf n) ys = true) :
    Calls Try.prog 49 [.int .i64 (n : Int), v, v'].toArray w fun e w' => ∃ b : Nat, e = .returned (.slice (some ⟨b, 0, none⟩) n n) ∧ Hq w w [(b, .cells ((timL (qOf n) n xs ys).map (Value.int .i64) ++ []).toArray 3 (0, 0))] w' := by
  obtain ⟨hf1, hf2, hf3, hf4, hf5, hf6, hf7⟩ := q_facts hn hn2
  obtain ⟨hxl, hx⟩ := okW_true.1 hok
  obtain ⟨hyl, hy⟩ := okW_true.1 hok'
  obtain ⟨ie3, hi3⟩ := inf_3
  refine enter (N := 53) Try.func49 rfl rfl rfl ?_
  refine g_seq ?_
  refine g_region ?_
  refine s_y (y_assign rfl) rfl rfl rfl rfl ?_
  refine s_nil ?_
  refine g_then ?_
  refine g_seq ?_
  refine g_region ?_
  refine s_y (y_move rfl) rfl rfl rfl rfl ?_
  refine s_tr (t_call rfl rfl ent_21 (fun w h => RPrime_any w n hn hn2)) rfl rfl rfl rfl (fun _ _ => ?_)
  refine s_y (y_assign rfl) rfl rfl rfl rfl ?_
  refine s_nil ?_
  refine g_then ?_
  refine g_seq ?_
  refine g_region ?_
  refine s_y (y_move rfl) rfl rfl rfl rfl ?_
  refine s_tr (t_makeL (enc := (Value.int .i64)) (z := (0 : Int)) (n := n) rfl Try.underlying32 hi3.1 hi3.2.1 hi3.2.2.1 rfl (by rw [hi3.2.2.2]; omega) (by omega)) rfl rfl rfl rfl (fun bo hbo => ?_)
  refine s_y (y_assign rfl) rfl rfl rfl rfl ?_
  refine s_nil ?_
  refine g_then ?_
  refine g_seq ?_
  refine g_seq ?_
  refine g_region ?_
  refine s_y (y_move rfl) rfl rfl rfl rfl ?_
  refine s_y (y_lensl rfl sle_32) rfl rfl rfl rfl ?_
  refine s_y (y_move rfl) rfl rfl rfl rfl ?_
  refine s_nil ?_
  refine g_then ?_
  refine g_block ?_
  refine g_loop (fun (i : Nat) act W => i ≤ n ∧ ∃ (zs : List Int) (w1 : World), (zs.length = n) ∧ (∀ k : Nat, k < i → rdI zs (k : Int) = tms n xs ys k n % qOf n) ∧ (∀ k : Nat, i ≤ k → k < n → rdI zs (k : Int) = 0) ∧ Has 53 [] [(0, .int .i64 (n : Int)), (1, v), (2, v'), (6, .slice none 0 0), (7, .int .i64 (qOf n)), (8, .slice (some ⟨bo, 0, none⟩) n n), (16, .int .i64 (n : Nat)), (17, .int .i64 (i : Int))] act ∧ Hp w w1 ((bo, .cells (zs.map (Value.int .i64) ++ []).toArray 3 (0, 0)) :: []) W) (fun i => n - i) 0 (fun act W ha hw => ⟨by omega, List.replicate n 0, W, (by simp), (by intro k hk; omega), (by intro k _ _; exact rdI_replicate), ha.weak (sub_get ⟨rfl, rfl, rfl, rfl, rfl, rfl, rfl, rfl, trivial⟩), hw.toHq.lookSub (List.Sublist.refl _)⟩) ?_
  intro i act W ⟨hb_i, zs, w1, hzl, hzs, hz0, ha, hw⟩
  refine g_go ha hw ?_
  clear ha hw act W
  refine g_seq ?_
  refine g_region ?_
  refine s_y (y_lss rfl rfl) rfl rfl rfl rfl ?_
  refine s_nil ?_
  refine g_then ?_
  refine g_seq ?_
  refine g_cond rfl (fun cq1 => ?_) (fun cq1 => ?_)
  · (try simp at cq1)
    refine g_skip ?_
    refine g_then ?_
    refine g_seq ?_
    refine g_block ?_
    refine g_seq ?_
    refine g_region ?_
    refine s_y (y_move rfl) rfl rfl rfl rfl ?_
    refine s_y (y_assign rfl) rfl rfl rfl rfl ?_
    refine s_nil ?_
    refine g_then ?_
    refine g_seq ?_
    refine g_region ?_
    refine s_y (y_move rfl) rfl rfl rfl rfl ?_
    refine s_y (y_lenV (n := xs.length) rfl (by obtain ⟨A, c, h1, _⟩ := hv; exact ⟨A, c, h1⟩) sle_32) rfl rfl rfl rfl ?_
    refine s_y (y_move rfl) rfl rfl rfl rfl ?_
    refine s_nil ?_
    refine g_then ?_
    refine g_block ?_
    refine g_loop (fun (j : Nat) act W => j ≤ n ∧ ∃ (zs : List Int) (w1 : World), (zs.length = n) ∧ (∀ k : Nat, k < i → rdI zs (k : Int) = tms n xs ys k n % qOf n) ∧ (∀ k : Nat, i + 1 ≤ k → k < n → rdI zs (k : Int) = 0) ∧ (rdI zs (i : Int) = ract (qOf n) n xs ys i j) ∧ Has 53 [] [(0, .int .i64 (n : Int)), (1, v), (2, v'), (6, .slice none 0 0), (7, .int .i64 (qOf n)), (8, .slice (some ⟨bo, 0, none⟩) n n), (9, .int .i64 (i : Int)), (16, .int .i64 (n : Nat)), (17, .int .i64 (i : Int)), (18, .bool (decide ((i : Int) < (n : Nat)))), (19, .int .i64 (i : Int)), (20, v), (21, .int .i64 (xs.length : Nat)), (22, .int .i64 (j : Int))] act ∧ Hp w w1 ((bo, .cells (zs.map (Value.int .i64) ++ []).toArray 3 (0, 0)) :: []) W) (fun j => n - j) 0 (fun act W ha hw => ⟨by omega, zs, W, (by exact hzl), (by exact hzs), (by intro k h1 h2; exact hz0 k (by omega) h2), (by exact hz0 i (Nat.le_refl _) (by omega)), ha.weak (sub_get ⟨rfl, rfl, rfl, rfl, rfl, rfl, rfl, rfl, rfl, rfl, rfl, rfl, rfl, rfl, trivial⟩), hw.toHq.lookSub (List.Sublist.refl _)⟩) ?_
    intro j act W ⟨hb_j, zs, w1, hzl, hzs, hz0, hzi, ha, hw⟩
    refine g_go ha hw ?_
    clear ha hw act W
    refine g_seq ?_
    refine g_region ?_
    refine s_y (y_lss rfl rfl) rfl rfl rfl rfl ?_
    refine s_nil ?_
    refine g_then ?_
    refine g_seq ?_
    refine g_cond rfl (fun cq2 => ?_) (fun cq2 => ?_)
    · (try simp at cq2)
      refine g_skip ?_
      refine g_then ?_
      refine g_seq ?_
      refine g_block ?_
      refine g_seq ?_
      refine g_region ?_
      refine s_y (y_move rfl) rfl rfl rfl rfl ?_
      refine s_y (y_assign rfl) rfl rfl rfl rfl ?_
      refine s_nil ?_
      refine g_then ?_
      have hxj := at_range hxl hx (i := (j : Int)) (by omega) (by omega)
      have hmr := mod_range (show 0 < n by omega) ((i : Int) - (j : Int) + (n : Int))
      have hyj := at_range hyl hy hmr.1 hmr.2
      have hm := mul_small (a := rdI xs (j : Int)) (b := rdI ys (((i : Int) - (j : Int) + (n : Int)) % (n : Int))) (by omega) (by omega) (by omega) (by omega)
      have hra := ract_range (n := n) (xs := xs) (ys := ys) (x := i) (show 2 ≤ qOf n by omega) j
      rw [← hzi] at hra
      refine g_draw 25 (by kernel_rfl) ?_
      refine j_p (i := 0) rfl (y_move rfl) (by kernel_rfl) (by kernel_rfl) (by kernel_rfl) rfl rfl rfl rfl rfl (.inr (fun _ h => h)) ?_
      refine j_p (i := 1) rfl (y_move rfl) (by kernel_rfl) (by kernel_rfl) (by kernel_rfl) rfl rfl rfl rfl rfl (.inr (fun _ h => h)) ?_
      refine j_p (i := 2) rfl (y_move rfl) (by kernel_rfl) (by kernel_rfl) (by kernel_rfl) rfl rfl rfl rfl rfl (.inr (fun _ h => h)) ?_
      refine j_p (i := 3) rfl (y_move rfl) (by kernel_rfl) (by kernel_rfl) (by kernel_rfl) rfl rfl rfl rfl rfl (.inr (fun _ h => h)) ?_
      refine j_p (i := 4) rfl (y_idxb1 rfl rfl Try.underlying32 size_3 (by omega) (by omega)) (by kernel_rfl) (by kernel_rfl) (by kernel_rfl) rfl rfl rfl rfl rfl (.inr (fun _ h => h)) ?_
      refine j_l (i := 5) rfl (y_ldL (enc := (Value.int .i64)) (xs := zs) (jk := []) 0 rfl rfl agg_3 (rdI_at (by omega) (by omega))) (by kernel_rfl) (by kernel_rfl) (by kernel_rfl) (by kernel_rfl) rfl rfl rfl rfl rfl (.inr (fun _ h => h)) ?_
      refine j_p (i := 6) rfl (y_move rfl) (by kernel_rfl) (by kernel_rfl) (by kernel_rfl) rfl rfl rfl rfl rfl (.inr (fun _ h => h)) ?_
      refine j_p (i := 7) rfl (y_move rfl) (by kernel_rfl) (by kernel_rfl) (by kernel_rfl) rfl rfl rfl rfl rfl (.inr (fun _ h => h)) ?_
      refine j_p (i := 8) rfl (y_idxV (enc := (Value.int .i64)) rfl rfl hv Try.underlying32 size_3 (by omega) (by omega)) (by kernel_rfl) (by kernel_rfl) (by kernel_rfl) rfl rfl rfl rfl rfl (.inr (fun _ h => h)) ?_
      refine j_l (i := 9) rfl (y_ldV (enc := (Value.int .i64)) (xs := xs) (fun w h => hv.rdl.below h.below) rfl agg_3 (rdI_at (by omega) (by omega))) (by kernel_rfl) (by kernel_rfl) (by kernel_rfl) (by kernel_rfl) rfl rfl rfl rfl rfl (.inr (fun _ h => h)) ?_
      refine j_p (i := 10) rfl (y_move rfl) (by kernel_rfl) (by kernel_rfl) (by kernel_rfl) rfl rfl rfl rfl rfl (.inr (fun _ h => h)) ?_
      refine j_p (i := 11) rfl (y_move rfl) (by kernel_rfl) (by kernel_rfl) (by kernel_rfl) rfl rfl rfl rfl rfl (.inr (fun _ h => h)) ?_
      refine j_p (i := 12) rfl (y_move rfl) (by kernel_rfl) (by kernel_rfl) (by kernel_rfl) rfl rfl rfl rfl rfl (.inr (fun _ h => h)) ?_
      refine j_p (i := 13) rfl (y_sub rfl rfl (by omega) (by omega)) (by kernel_rfl) (by kernel_rfl) (by kernel_rfl) rfl rfl rfl rfl rfl (.inr (fun _ h => h)) ?_
      refine j_p (i := 14) rfl (y_move rfl) (by kernel_rfl) (by kernel_rfl) (by kernel_rfl) rfl rfl rfl rfl rfl (.inr (fun _ h => h)) ?_
      refine j_p (i := 15) rfl (y_add rfl rfl (by omega) (by omega)) (by kernel_rfl) (by kernel_rfl) (by kernel_rfl) rfl rfl rfl rfl rfl (.inr (fun _ h => h)) ?_
      refine j_p (i := 16) rfl (y_move rfl) (by kernel_rfl) (by kernel_rfl) (by kernel_rfl) rfl rfl rfl rfl rfl (.inr (fun _ h => h)) ?_
      refine j_p (i := 17) rfl (y_rem rfl rfl (by omega) (by omega)) (by kernel_rfl) (by kernel_rfl) (by kernel_rfl) rfl rfl rfl rfl rfl (.inr (fun _ h => h)) ?_
      refine j_p (i := 18) rfl (y_idxV (enc := (Value.int .i64)) rfl rfl hv' Try.underlying32 size_3 (by omega) (by omega)) (by kernel_rfl) (by kernel_rfl) (by kernel_rfl) rfl rfl rfl rfl rfl (.inr (fun _ h => h)) ?_
      refine j_l (i := 19) rfl (y_ldV (enc := (Value.int .i64)) (xs := ys) (fun w h => hv'.rdl.below h.below) rfl agg_3 (rdI_at (by omega) (by omega))) (by kernel_rfl) (by kernel_rfl) (by kernel_rfl) (by kernel_rfl) rfl rfl rfl rfl rfl (.inr (fun _ h => h)) ?_
      refine j_p (i := 20) rfl (y_mul rfl rfl (by omega) (by omega)) (by kernel_rfl) (by kernel_rfl) (by kernel_rfl) rfl rfl rfl rfl rfl (.inr (fun _ h => h)) ?_
      refine j_p (i := 21) rfl (y_add rfl rfl (by omega) (by omega)) (by kernel_rfl) (by kernel_rfl) (by kernel_rfl) rfl rfl rfl rfl rfl (.inr (fun _ h => h)) ?_
      refine j_p (i := 22) rfl (y_move rfl) (by kernel_rfl) (by kernel_rfl) (by kernel_rfl) rfl rfl rfl rfl rfl (.inr (fun _ h => h)) ?_
      refine j_p (i := 23) rfl (y_rem rfl rfl (by omega) (by omega)) (by kernel_rfl) (by kernel_rfl) (by kernel_rfl) rfl rfl rfl rfl rfl (.inr (fun _ h => h)) ?_
      refine j_p (i := 24) rfl (y_idxb1 rfl rfl Try.underlying32 size_3 (by omega) (by omega)) (by kernel_rfl) (by kernel_rfl) (by kernel_rfl) rfl rfl rfl rfl rfl (.inr (fun _ h => h)) ?_
      refine j_tr0 (i := 25) rfl (t_storeL (enc := (Value.int .i64)) (v := ((rdI zs (i : Int)) + ((rdI xs (j : Int)) * (rdI ys ((((i : Int) - (j : Int)) + (n : Int)) % (n : Int))))) % (qOf n)) (xs := zs) (jk := []) 0 rfl rfl rfl rfl rfl size_3 (by omega)) (by kernel_rfl) rfl rfl rfl (.inl rfl) (fun _ _ => ?_)
      refine j_nil (by kernel_rfl) ?_
      refine g_inb ?_
      refine g_then ?_
      refine g_region ?_
      refine s_y (y_add rfl rfl (by omega) (by omega)) rfl rfl rfl rfl ?_
      refine s_y (y_move rfl) rfl rfl rfl rfl ?_
      refine s_nil ?_
      refine g_then ?_
      exact fun act W ha hw => ⟨j + 1, by omega, by omega, (zs.set (((i : Int) : Int).toNat) (((rdI zs (i : Int)) + ((rdI xs (j : Int)) * (rdI ys ((((i : Int) - (j : Int)) + (n : Int)) % (n : Int))))) % (qOf n))), W, (by simp; exact hzl), (by intro k hk; rw [rdI_set (by omega), if_neg (by omega)]; exact hzs k hk), (by intro k h1 h2; rw [rdI_set (by omega), if_neg (by omega)]; exact hz0 k h1 h2), (by rw [rdI_set (by omega), if_pos rfl, hzi]; rfl), ha.weak (sub_get ⟨rfl, rfl, rfl, rfl, rfl, rfl, rfl, rfl, rfl, rfl, rfl, rfl, rfl, rfl, trivial⟩), hw.toHq.lookSub (List.Sublist.refl _)⟩
    · (try simp at cq2)
      refine g_exit ?_
      refine g_thenx ?_
      refine g_thenx ?_
      refine g_inbx ?_
      refine g_inb ?_
      refine g_then ?_
      refine g_region ?_
      refine s_y (y_add rfl rfl (by omega) (by omega)) rfl rfl rfl rfl ?_
      refine s_y (y_move rfl) rfl rfl rfl rfl ?_
      refine s_nil ?_
      refine g_then ?_
      obtain rfl : j = n := by omega
      have hall : ∀ k : Nat, k < i + 1 → rdI zs (k : Int) = tms j xs ys k j % qOf j := by
        intro k hk
        rcases Nat.lt_or_ge k i with h | h
        · exact hzs k h
        · have : k = i := by omega
          subst this; rw [hzi, ract_tms]
      exact fun act W ha hw => ⟨i + 1, by omega, by omega, zs, W, (by exact hzl), (by exact hall), (by intro k h1 h2; exact hz0 k (by omega) h2), ha.weak (sub_get ⟨rfl, rfl, rfl, rfl, rfl, rfl, rfl, rfl, trivial⟩), hw.toHq.lookSub (List.Sublist.refl _)⟩
  · (try simp at cq1)
    refine g_exit ?_
    refine g_thenx ?_
    refine g_thenx ?_
    refine g_inbx ?_
    refine g_then ?_
    refine g_seq ?_
    refine g_region ?_
    refine s_y (y_move rfl) rfl rfl rfl rfl ?_
    refine s_y (y_assign rfl) rfl rfl rfl rfl ?_
    refine s_nil ?_
    refine g_then ?_
    refine g_ret ?_
    obtain rfl : i = n := by omega
    have hz : zs = timL (qOf i) i xs ys := eq_map hzl hzs
    subst hz
    exact g_end trivial (fun a w ha hq_ => res1 ha rfl rfl  w) (fun w h => ⟨bo, rfl, h.hand (List.Sublist.refl _)⟩)

theorem RMove_ok (w : World) (n : Nat) (v : Value) (xs : List Int) (k : Int) (hv : RdV (Value.int .i64) w v xs) (hn : 2 ≤ n) (hn2 : n ≤ 16) (hok : okW n (qOf n) xs = true) :
    Calls Try.prog 31 [.int .i64 (n : Int), v, .int .i64 k].toArray w fun e w' => ∃ b : Nat, e = .returned (.slice (some ⟨b, 0, none⟩) n n) ∧ Hq w w [(b, .cells ((movL n (kOf n k) xs).map (Value.int .i64) ++ []).toArray 3 (0, 0))] w' := by
  obtain ⟨hf1, hf2, hf3, hf4, hf5, hf6, hf7⟩ := q_facts hn hn2
  obtain ⟨hxl, hx⟩ := okW_true.1 hok
  obtain ⟨ie3, hi3⟩ := inf_3
  refine enter (N := 35) Try.func31 rfl rfl rfl ?_
  refine g_seq ?_
  refine g_region ?_
  refine s_y (y_assign rfl) rfl rfl rfl rfl ?_
  refine s_nil ?_
  refine g_then ?_
  refine g_seq ?_
  refine g_region ?_
  refine s_y (y_move rfl) rfl rfl rfl rfl ?_
  refine s_tr (t_makeL (enc := (Value.int .i64)) (z := (0 : Int)) (n := n) rfl Try.underlying32 hi3.1 hi3.2.1 hi3.2.2.1 rfl (by rw [hi3.2.2.2]; omega) (by omega)) rfl rfl rfl rfl (fun bo hbo => ?_)
  refine s_y (y_assign rfl) rfl rfl rfl rfl ?_
  refine s_nil ?_
  refine g_then ?_
  refine g_seq ?_
  refine g_seq ?_
  refine g_region ?_
  refine s_y (y_move rfl) rfl rfl rfl rfl ?_
  refine s_y (y_lenV (n := xs.length) rfl (by obtain ⟨A, c, h1, _⟩ := hv; exact ⟨A, c, h1⟩) sle_32) rfl rfl rfl rfl ?_
  refine s_y (y_move rfl) rfl rfl rfl rfl ?_
  refine s_nil ?_
  refine g_then ?_
  refine g_block ?_
  refine g_loop (fun (j : Nat) act W => j ≤ n ∧ ∃ (zs : List Int) (w1 : World), (zs.length = n) ∧ (∀ y : Nat, y < j → rdI zs (((y : Int) + kOf n k) % (n : Int)) = rdI xs (y : Int)) ∧ Has 35 [] [(0, .int .i64 (n : Int)), (2, .int .i64 k), (6, .slice none 0 0), (7, .slice (some ⟨bo, 0, none⟩) n n), (12, v), (13, .int .i64 (xs.length : Nat)), (14, .int .i64 (j : Int))] act ∧ Hp w w1 ((bo, .cells (zs.map (Value.int .i64) ++ []).toArray 3 (0, 0)) :: []) W) (fun j => n - j) 0 (fun act W ha hw => ⟨by omega, List.replicate n 0, W, (by simp), (by intro y hy; omega), ha.weak (sub_get ⟨rfl, rfl, rfl, rfl, rfl, rfl, rfl, trivial⟩), hw.toHq.lookSub (List.Sublist.refl _)⟩) ?_
  intro j act W ⟨hb_j, zs, w1, hzl, hzs, ha, hw⟩
  refine g_go ha hw ?_
  clear ha hw act W
  refine g_seq ?_
  refine g_region ?_
  refine s_y (y_lss rfl rfl) rfl rfl rfl rfl ?_
  refine s_nil ?_
  refine g_then ?_
  refine g_seq ?_
  refine g_cond rfl (fun cq1 => ?_) (fun cq1 => ?_)
  · (try simp at cq1)
    refine g_skip ?_
    refine g_then ?_
    refine g_seq ?_
    refine g_block ?_
    refine g_seq ?_
    refine g_region ?_
    refine s_y (y_move rfl) rfl rfl rfl rfl ?_
    refine s_y (y_idxV (enc := (Value.int .i64)) rfl rfl hv Try.underlying32 size_3 (by omega) (by omega)) rfl rfl rfl rfl ?_
    refine s_y (y_ldV (enc := (Value.int .i64)) (xs := xs) (fun w h => hv.rdl.below h.below) rfl agg_3 (rdI_at (by omega) (by omega))) rfl rfl rfl rfl ?_
    refine s_y (y_assign rfl) rfl rfl rfl rfl ?_
    refine s_y (y_assign rfl) rfl rfl rfl rfl ?_
    refine s_nil ?_
    refine g_then ?_
    have hki := kOf_idx (show 0 < n by omega) k j (by omega)
    have hmr := mod_range (show 0 < n by omega) ((j : Int) + kOf n k)
    have ht1 := tmod_range (show 0 < n by omega) k
    have ht2 := tmod_range (show 0 < n by omega) ((j : Int) + Int.tmod k (n : Int))
    have hmr' := hmr
    rw [← hki] at hmr'
    refine g_region ?_
    refine s_y (y_move rfl) rfl rfl rfl rfl ?_
    refine s_y (y_move rfl) rfl rfl rfl rfl ?_
    refine s_y (y_move rfl) rfl rfl rfl rfl ?_
    refine s_y (y_move rfl) rfl rfl rfl rfl ?_
    refine s_y (y_remt rfl rfl (by omega)) rfl rfl rfl rfl ?_
    refine s_y (y_add rfl rfl (by omega) (by omega)) rfl rfl rfl rfl ?_
    refine s_y (y_move rfl) rfl rfl rfl rfl ?_
    refine s_y (y_remt rfl rfl (by omega)) rfl rfl rfl rfl ?_
    refine s_y (y_move rfl) rfl rfl rfl rfl ?_
    refine s_y (y_add rfl rfl (by omega) (by omega)) rfl rfl rfl rfl ?_
    refine s_y (y_move rfl) rfl rfl rfl rfl ?_
    refine s_y (y_rem rfl rfl (by omega) (by omega)) rfl rfl rfl rfl ?_
    refine s_y (y_move rfl) rfl rfl rfl rfl ?_
    refine s_y (y_idxb1 rfl rfl Try.underlying32 size_3 (by omega) (by omega)) rfl rfl rfl rfl ?_
    refine s_tr0 (t_storeL (enc := (Value.int .i64)) (v := rdI xs (j : Int)) (xs := zs) (jk := []) 0 rfl rfl rfl rfl rfl size_3 (by omega)) rfl rfl rfl (fun _ _ => ?_)
    refine s_nil ?_
    refine g_inb ?_
    refine g_then ?_
    refine g_region ?_
    refine s_y (y_add rfl rfl (by omega) (by omega)) rfl rfl rfl rfl ?_
    refine s_y (y_move rfl) rfl rfl rfl rfl ?_
    refine s_nil ?_
    refine g_then ?_
    have hall : ∀ y : Nat, y < j + 1 → rdI (zs.set ((Int.tmod ((j : Int) + Int.tmod k (n : Int)) (n : Int) + (n : Int)) % (n : Int)).toNat (rdI xs (j : Int))) (((y : Int) + kOf n k) % (n : Int)) = rdI xs (y : Int) := by
      intro y hy
      rw [hki]
      have h1 := mod_range (show 0 < n by omega) ((y : Int) + kOf n k)
      obtain ⟨p, hp⟩ := Int.eq_ofNat_of_zero_le h1.1
      rw [hp, rdI_setI hmr.1 (by omega)]
      split
      · rename_i h; rw [← hp] at h; rw [mod_inj (show 0 < n by omega) (show j < n by omega) (show y < n by omega) h]
      · rename_i h; rw [← hp] at h; rw [← hp]; refine hzs y ?_
        rcases Nat.lt_or_ge y j with h2 | h2
        · exact h2
        · exact absurd (by rw [show y = j by omega]) h
    exact fun act W ha hw => ⟨j + 1, by omega, by omega, (zs.set ((((Int.tmod ((j : Int) + (Int.tmod k (n : Int))) (n : Int)) + (n : Int)) % (n : Int) : Int).toNat) (rdI xs (j : Int))), W, (by simp; exact hzl), (by exact hall), ha.weak (sub_get ⟨rfl, rfl, rfl, rfl, rfl, rfl, rfl, trivial⟩), hw.toHq.lookSub (List.Sublist.refl _)⟩
  · (try simp at cq1)
    refine g_exit ?_
    refine g_thenx ?_
    refine g_thenx ?_
    refine g_inbx ?_
    refine g_then ?_
    refine g_seq ?_
    refine g_region ?_
    refine s_y (y_move rfl) rfl rfl rfl rfl ?_
    refine s_y (y_assign rfl) rfl rfl rfl rfl ?_
    refine s_nil ?_
    refine g_then ?_
    refine g_ret ?_
    obtain rfl : j = n := by omega
    have hz := movL_of (show 0 < j by omega) (kOf_range (show 0 < j by omega) k) hzl hzs
    subst hz
    exact g_end trivial (fun a w ha hq_ => res1 ha rfl rfl  w) (fun w h => ⟨bo, rfl, h.hand (List.Sublist.refl _)⟩)

theorem RTurn_ok (w : World) (n : Nat) (v : Value) (xs : List Int) (hv : RdV (Value.int .i64) w v xs) (hn : 2 ≤ n) (hn2 : n ≤ 16) (hok : okW n (qOf n) xs = true) :
    Calls Try.prog 32 [.int .i64 (n : Int), v].toArray w fun e w' => ∃ b : Nat, e = .returned (.slice (some ⟨b, 0, none⟩) n n) ∧ Hq w w [(b, .cells ((trnL n xs).map (Value.int .i64) ++ []).toArray 3 (0, 0))] w' := by
  obtain ⟨hf1, hf2, hf3, hf4, hf5, hf6, hf7⟩ := q_facts hn hn2
  obtain ⟨hxl, hx⟩ := okW_true.1 hok
  obtain ⟨ie3, hi3⟩ := inf_3
  refine enter (N := 27) Try.func32 rfl rfl rfl ?_
  refine g_seq ?_
  refine g_region ?_
  refine s_y (y_assign rfl) rfl rfl rfl rfl ?_
  refine s_nil ?_
  refine g_then ?_
  refine g_seq ?_
  refine g_region ?_
  refine s_y (y_move rfl) rfl rfl rfl rfl ?_
  refine s_tr (t_makeL (enc := (Value.int .i64)) (z := (0 : Int)) (n := n) rfl Try.underlying32 hi3.1 hi3.2.1 hi3.2.2.1 rfl (by rw [hi3.2.2.2]; omega) (by omega)) rfl rfl rfl rfl (fun bo hbo => ?_)
  refine s_y (y_assign rfl) rfl rfl rfl rfl ?_
  refine s_nil ?_
  refine g_then ?_
  refine g_seq ?_
  refine g_seq ?_
  refine g_region ?_
  refine s_y (y_move rfl) rfl rfl rfl rfl ?_
  refine s_y (y_lenV (n := xs.length) rfl (by obtain ⟨A, c, h1, _⟩ := hv; exact ⟨A, c, h1⟩) sle_32) rfl rfl rfl rfl ?_
  refine s_y (y_move rfl) rfl rfl rfl rfl ?_
  refine s_nil ?_
  refine g_then ?_
  refine g_block ?_
  refine g_loop (fun (j : Nat) act W => j ≤ n ∧ ∃ (zs : List Int) (w1 : World), (zs.length = n) ∧ (∀ y : Nat, y < j → rdI zs (((n : Int) - (y : Int)) % (n : Int)) = rdI xs (y : Int)) ∧ Has 27 [] [(0, .int .i64 (n : Int)), (4, .slice none 0 0), (5, .slice (some ⟨bo, 0, none⟩) n n), (10, v), (11, .int .i64 (xs.length : Nat)), (12, .int .i64 (j : Int))] act ∧ Hp w w1 ((bo, .cells (zs.map (Value.int .i64) ++ []).toArray 3 (0, 0)) :: []) W) (fun j => n - j) 0 (fun act W ha hw => ⟨by omega, List.replicate n 0, W, (by simp), (by intro y hy; omega), ha.weak (sub_get ⟨rfl, rfl, rfl, rfl, rfl, rfl, trivial⟩), hw.toHq.lookSub (List.Sublist.refl _)⟩) ?_
  intro j act W ⟨hb_j, zs, w1, hzl, hzs, ha, hw⟩
  refine g_go ha hw ?_
  clear ha hw act W
  refine g_seq ?_
  refine g_region ?_
  refine s_y (y_lss rfl rfl) rfl rfl rfl rfl ?_
  refine s_nil ?_
  refine g_then ?_
  refine g_seq ?_
  refine g_cond rfl (fun cq1 => ?_) (fun cq1 => ?_)
  · (try simp at cq1)
    refine g_skip ?_
    refine g_then ?_
    refine g_seq ?_
    refine g_block ?_
    refine g_seq ?_
    refine g_region ?_
    refine s_y (y_move rfl) rfl rfl rfl rfl ?_
    refine s_y (y_idxV (enc := (Value.int .i64)) rfl rfl hv Try.underlying32 size_3 (by omega) (by omega)) rfl rfl rfl rfl ?_
    refine s_y (y_ldV (enc := (Value.int .i64)) (xs := xs) (fun w h => hv.rdl.below h.below) rfl agg_3 (rdI_at (by omega) (by omega))) rfl rfl rfl rfl ?_
    refine s_y (y_assign rfl) rfl rfl rfl rfl ?_
    refine s_y (y_assign rfl) rfl rfl rfl rfl ?_
    refine s_nil ?_
    refine g_then ?_
    have hmr := mod_range (show 0 < n by omega) ((n : Int) - (j : Int))
    refine g_region ?_
    refine s_y (y_move rfl) rfl rfl rfl rfl ?_
    refine s_y (y_move rfl) rfl rfl rfl rfl ?_
    refine s_y (y_move rfl) rfl rfl rfl rfl ?_
    refine s_y (y_sub rfl rfl (by omega) (by omega)) rfl rfl rfl rfl ?_
    refine s_y (y_move rfl) rfl rfl rfl rfl ?_
    refine s_y (y_rem rfl rfl (by omega) (by omega)) rfl rfl rfl rfl ?_
    refine s_y (y_move rfl) rfl rfl rfl rfl ?_
    refine s_y (y_idxb1 rfl rfl Try.underlying32 size_3 (by omega) (by omega)) rfl rfl rfl rfl ?_
    refine s_tr0 (t_storeL (enc := (Value.int .i64)) (v := rdI xs (j : Int)) (xs := zs) (jk := []) 0 rfl rfl rfl rfl rfl size_3 (by omega)) rfl rfl rfl (fun _ _ => ?_)
    refine s_nil ?_
    refine g_inb ?_
    refine g_then ?_
    refine g_region ?_
    refine s_y (y_add rfl rfl (by omega) (by omega)) rfl rfl rfl rfl ?_
    refine s_y (y_move rfl) rfl rfl rfl rfl ?_
    refine s_nil ?_
    refine g_then ?_
    have hall : ∀ y : Nat, y < j + 1 → rdI (zs.set (((n : Int) - (j : Int)) % (n : Int)).toNat (rdI xs (j : Int))) (((n : Int) - (y : Int)) % (n : Int)) = rdI xs (y : Int) := by
      intro y hy
      have h1 := mod_range (show 0 < n by omega) ((n : Int) - (y : Int))
      obtain ⟨p, hp⟩ := Int.eq_ofNat_of_zero_le h1.1
      rw [hp, rdI_setI hmr.1 (by omega)]
      split
      · rename_i h; rw [← hp] at h; rw [mod_injn (show 0 < n by omega) (show j < n by omega) (show y < n by omega) h]
      · rename_i h; rw [← hp] at h; rw [← hp]; refine hzs y ?_
        rcases Nat.lt_or_ge y j with h2 | h2
        · exact h2
        · exact absurd (by rw [show y = j by omega]) h
    exact fun act W ha hw => ⟨j + 1, by omega, by omega, (zs.set ((((n : Int) - (j : Int)) % (n : Int) : Int).toNat) (rdI xs (j : Int))), W, (by simp; exact hzl), (by exact hall), ha.weak (sub_get ⟨rfl, rfl, rfl, rfl, rfl, rfl, trivial⟩), hw.toHq.lookSub (List.Sublist.refl _)⟩
  · (try simp at cq1)
    refine g_exit ?_
    refine g_thenx ?_
    refine g_thenx ?_
    refine g_inbx ?_
    refine g_then ?_
    refine g_seq ?_
    refine g_region ?_
    refine s_y (y_move rfl) rfl rfl rfl rfl ?_
    refine s_y (y_assign rfl) rfl rfl rfl rfl ?_
    refine s_nil ?_
    refine g_then ?_
    refine g_ret ?_
    obtain rfl : j = n := by omega
    have hz := trnL_of (show 0 < j by omega) hzl hzs
    subst hz
    exact g_end trivial (fun a w ha hq_ => res1 ha rfl rfl  w) (fun w h => ⟨bo, rfl, h.hand (List.Sublist.refl _)⟩)

theorem RWheel_t (w : World) (n : Nat) (v : Value) (xs : List Int) (hv : RdV (Value.int .i64) w v xs) (hn : 2 ≤ n) (hn2 : n ≤ 16) (hok : okW n (qOf n) xs = true) :
    Calls Try.prog 29 [.int .i64 (n : Int), v].toArray w fun e w' => e = .returned (.bool true) ∧ Below w.heap.size w w' := by
  obtain ⟨hf1, hf2, hf3, hf4, hf5, hf6, hf7⟩ := q_facts hn hn2
  obtain ⟨hxl, hx⟩ := okW_true.1 hok
  refine enter (N := 31) Try.func29 rfl rfl rfl ?_
  refine g_seq ?_
  refine g_region ?_
  refine s_y (y_assign rfl) rfl rfl rfl rfl ?_
  refine s_nil ?_
  refine g_then ?_
  refine g_seq ?_
  refine g_seq ?_
  refine g_region ?_
  refine s_y (y_move rfl) rfl rfl rfl rfl ?_
  refine s_tr (t_call rfl rfl ent_19 (fun w h => Circle_t w n ⟨by omega, by omega⟩)) rfl rfl rfl rfl (fun _ _ => ?_)
  refine s_y (y_not_t rfl) rfl rfl rfl rfl ?_
  refine s_y (y_move rfl) rfl rfl rfl rfl ?_
  refine s_y (y_move rfl) rfl rfl rfl rfl ?_
  refine s_y (y_lenV (n := xs.length) rfl (by obtain ⟨A, c, h1, _⟩ := hv; exact ⟨A, c, h1⟩) sle_32) rfl rfl rfl rfl ?_
  refine s_y (y_move rfl) rfl rfl rfl rfl ?_
  refine s_y (y_neq_f rfl rfl (by omega)) rfl rfl rfl rfl ?_
  refine s_y (y_pick_f rfl rfl) rfl rfl rfl rfl ?_
  refine s_nil ?_
  refine g_then ?_
  refine g_cond_f rfl ?_
  refine g_skip ?_
  refine g_then ?_
  refine g_seq ?_
  refine g_seq ?_
  refine g_region ?_
  refine s_y (y_move rfl) rfl rfl rfl rfl ?_
  refine s_y (y_lenV (n := xs.length) rfl (by obtain ⟨A, c, h1, _⟩ := hv; exact ⟨A, c, h1⟩) sle_32) rfl rfl rfl rfl ?_
  refine s_y (y_move rfl) rfl rfl rfl rfl ?_
  refine s_nil ?_
  refine g_then ?_
  refine g_block ?_
  refine g_loop (fun (j : Nat) act W => j ≤ n ∧ ∃ (w1 : World), Has 31 [] [(0, .int .i64 (n : Int)), (16, v), (17, .int .i64 (xs.length : Nat)), (18, .int .i64 (j : Int))] act ∧ Hp w w1 ([]) W) (fun j => n - j) 0 (fun act W ha hw => ⟨by omega, W, ha.weak (sub_get ⟨rfl, rfl, rfl, rfl, trivial⟩), hw.toHq.lookSub (List.Sublist.refl _)⟩) ?_
  intro j act W ⟨hb_j, w1, ha, hw⟩
  refine g_go ha hw ?_
  clear ha hw act W
  refine g_seq ?_
  refine g_region ?_
  refine s_y (y_lss rfl rfl) rfl rfl rfl rfl ?_
  refine s_nil ?_
  refine g_then ?_
  refine g_seq ?_
  refine g_cond rfl (fun cq1 => ?_) (fun cq1 => ?_)
  · (try simp at cq1)
    refine g_skip ?_
    refine g_then ?_
    refine g_seq ?_
    refine g_block ?_
    refine g_seq ?_
    refine g_region ?_
    refine s_y (y_idxV (enc := (Value.int .i64)) rfl rfl hv Try.underlying32 size_3 (by omega) (by omega)) rfl rfl rfl rfl ?_
    refine s_y (y_ldV (enc := (Value.int .i64)) (xs := xs) (fun w h => hv.rdl.below h.below) rfl agg_3 (rdI_at (by omega) (by omega))) rfl rfl rfl rfl ?_
    refine s_y (y_assign rfl) rfl rfl rfl rfl ?_
    refine s_nil ?_
    refine g_then ?_
    refine g_seq ?_
    refine g_region ?_
    have hxj := at_range hxl hx (i := (j : Int)) (by omega) (by omega)
    refine s_y (y_move rfl) rfl rfl rfl rfl ?_
    refine s_y (y_lss rfl rfl) rfl rfl rfl rfl ?_
    refine s_y (y_move rfl) rfl rfl rfl rfl ?_
    refine g_bool 24 rfl (fun cq2 => ?_) (fun cq2 => ?_)
    · (try simp at cq2)
      omega
    · (try simp at cq2)
      refine s_y (y_move rfl) rfl rfl rfl rfl ?_
      refine s_y (y_move rfl) rfl rfl rfl rfl ?_
      refine s_tr (t_call rfl rfl ent_21 (fun w h => RPrime_any w n hn hn2)) rfl rfl rfl rfl (fun _ _ => ?_)
      refine s_y (y_geq rfl rfl) rfl rfl rfl rfl ?_
      refine s_y (y_pick_f rfl rfl) rfl rfl rfl rfl ?_
      refine s_nil ?_
      refine g_then ?_
      refine g_cond rfl (fun cq3 => ?_) (fun cq3 => ?_)
      · (try simp at cq3)
        omega
      · (try simp at cq3)
        refine g_skip ?_
        refine g_inb ?_
        refine g_then ?_
        refine g_region ?_
        refine s_y (y_add rfl rfl (by omega) (by omega)) rfl rfl rfl rfl ?_
        refine s_y (y_move rfl) rfl rfl rfl rfl ?_
        refine s_nil ?_
        refine g_then ?_
        exact fun act W ha hw => ⟨j + 1, by omega, by omega, W, ha.weak (sub_get ⟨rfl, rfl, rfl, rfl, trivial⟩), hw.toHq.lookSub (List.Sublist.refl _)⟩
  · (try simp at cq1)
    refine g_exit ?_
    refine g_thenx ?_
    refine g_thenx ?_
    refine g_inbx ?_
    refine g_then ?_
    refine g_seq ?_
    refine g_region ?_
    refine s_y (y_assign rfl) rfl rfl rfl rfl ?_
    refine s_nil ?_
    refine g_then ?_
    refine g_ret ?_
    exact g_end trivial (fun a w ha hq_ => res1 ha rfl rfl  w) (fun w h => ⟨rfl, h.below⟩)

theorem RWheel_c (w : World) (n : Int) (v : Value) (xs : List Int) (hv : RdV (Value.int .i64) w v xs) (h_ : ¬ RIn n) :
    Calls Try.prog 29 [.int .i64 n, v].toArray w fun e w' => e = .returned (.bool false) ∧ Below w.heap.size w w' := by
  refine enter (N := 31) Try.func29 rfl rfl rfl ?_
  refine g_seq ?_
  refine g_region ?_
  refine s_y (y_assign rfl) rfl rfl rfl rfl ?_
  refine s_nil ?_
  refine g_then ?_
  refine g_seq ?_
  refine g_seq ?_
  refine g_region ?_
  refine s_y (y_move rfl) rfl rfl rfl rfl ?_
  refine s_tr (t_call rfl rfl ent_19 (fun w h => Circle_f w n h_)) rfl rfl rfl rfl (fun _ _ => ?_)
  refine s_y (y_not_f rfl) rfl rfl rfl rfl ?_
  refine s_y (y_move rfl) rfl rfl rfl rfl ?_
  refine s_no rfl rfl rfl ?_
  refine s_no rfl rfl rfl ?_
  refine s_no rfl rfl rfl ?_
  refine s_no rfl rfl rfl ?_
  refine s_y (y_pick_t rfl rfl) rfl rfl rfl rfl ?_
  refine s_nil ?_
  refine g_then ?_
  refine g_cond_t rfl ?_
  refine g_seq ?_
  refine g_region ?_
  refine s_y (y_assign rfl) rfl rfl rfl rfl ?_
  refine s_nil ?_
  refine g_then ?_
  refine g_ret ?_
  refine g_thenr ?_
  exact g_end trivial (fun a w ha hq_ => res1 ha rfl rfl  w) (fun w h => ⟨rfl, h.below⟩)

theorem RWheel_x (w : World) (n : Nat) (v : Value) (xs : List Int) (hv : RdV (Value.int .i64) w v xs) (hn : 2 ≤ n) (hn2 : n ≤ 16) (hok : okW n (qOf n) xs = false) :
    Calls Try.prog 29 [.int .i64 (n : Int), v].toArray w fun e w' => e = .returned (.bool false) ∧ Below w.heap.size w w' := by
  refine enter (N := 31) Try.func29 rfl rfl rfl ?_
  refine g_seq ?_
  refine g_region ?_
  refine s_y (y_assign rfl) rfl rfl rfl rfl ?_
  refine s_nil ?_
  refine g_then ?_
  refine g_seq ?_
  refine g_seq ?_
  refine g_region ?_
  refine s_y (y_move rfl) rfl rfl rfl rfl ?_
  refine s_tr (t_call rfl rfl ent_19 (fun w h => Circle_t w n ⟨by omega, by omega⟩)) rfl rfl rfl rfl (fun _ _ => ?_)
  refine s_y (y_not_t rfl) rfl rfl rfl rfl ?_
  refine s_y (y_move rfl) rfl rfl rfl rfl ?_
  refine s_y (y_move rfl) rfl rfl rfl rfl ?_
  refine s_y (y_lenV (n := xs.length) rfl (by obtain ⟨A, c, h1, _⟩ := hv; exact ⟨A, c, h1⟩) sle_32) rfl rfl rfl rfl ?_
  refine s_y (y_move rfl) rfl rfl rfl rfl ?_
  refine s_y (y_neq rfl rfl) rfl rfl rfl rfl ?_
  refine s_y (y_pick_f rfl rfl) rfl rfl rfl rfl ?_
  refine s_nil ?_
  refine g_then ?_
  refine g_cond rfl (fun cq1 => ?_) (fun cq1 => ?_)
  · (try simp at cq1)
    refine g_seq ?_
    refine g_region ?_
    refine s_y (y_assign rfl) rfl rfl rfl rfl ?_
    refine s_nil ?_
    refine g_then ?_
    refine g_ret ?_
    refine g_thenr ?_
    exact g_end trivial (fun a w ha hq_ => res1 ha rfl rfl  w) (fun w h => ⟨rfl, h.below⟩)
  · (try simp at cq1)
    have hll : xs.length = n := by omega
    refine g_skip ?_
    refine g_then ?_
    refine g_seq ?_
    refine g_seq ?_
    refine g_region ?_
    refine s_y (y_move rfl) rfl rfl rfl rfl ?_
    refine s_y (y_lenV (n := xs.length) rfl (by obtain ⟨A, c, h1, _⟩ := hv; exact ⟨A, c, h1⟩) sle_32) rfl rfl rfl rfl ?_
    refine s_y (y_move rfl) rfl rfl rfl rfl ?_
    refine s_nil ?_
    refine g_then ?_
    refine g_block ?_
    refine g_loop (fun (j : Nat) act W => (j ≤ n ∧ ∀ k : Nat, k < j → 0 ≤ rdI xs (k : Int) ∧ rdI xs (k : Int) < qOf n) ∧ ∃ (w1 : World), Has 31 [] [(0, .int .i64 (n : Int)), (16, v), (17, .int .i64 (xs.length : Nat)), (18, .int .i64 (j : Int))] act ∧ Hp w w1 ([]) W) (fun j => n - j) 0 (fun act W ha hw => ⟨⟨by omega, fun k hk => by omega⟩, W, ha.weak (sub_get ⟨rfl, rfl, rfl, rfl, trivial⟩), hw.toHq.lookSub (List.Sublist.refl _)⟩) ?_
    intro j act W ⟨hb_j, w1, ha, hw⟩
    refine g_go ha hw ?_
    clear ha hw act W
    refine g_seq ?_
    refine g_region ?_
    refine s_y (y_lss rfl rfl) rfl rfl rfl rfl ?_
    refine s_nil ?_
    refine g_then ?_
    refine g_seq ?_
    refine g_cond rfl (fun cq2 => ?_) (fun cq2 => ?_)
    · (try simp at cq2)
      refine g_skip ?_
      refine g_then ?_
      refine g_seq ?_
      refine g_block ?_
      refine g_seq ?_
      refine g_region ?_
      refine s_y (y_idxV (enc := (Value.int .i64)) rfl rfl hv Try.underlying32 size_3 (by omega) (by omega)) rfl rfl rfl rfl ?_
      refine s_y (y_ldV (enc := (Value.int .i64)) (xs := xs) (fun w h => hv.rdl.below h.below) rfl agg_3 (rdI_at (by omega) (by omega))) rfl rfl rfl rfl ?_
      refine s_y (y_assign rfl) rfl rfl rfl rfl ?_
      refine s_nil ?_
      refine g_then ?_
      refine g_seq ?_
      refine g_region ?_
      refine s_y (y_move rfl) rfl rfl rfl rfl ?_
      refine s_y (y_lss rfl rfl) rfl rfl rfl rfl ?_
      refine s_y (y_move rfl) rfl rfl rfl rfl ?_
      refine g_bool 24 rfl (fun cq3 => ?_) (fun cq3 => ?_)
      · (try simp at cq3)
        refine s_no rfl rfl rfl ?_
        refine s_no rfl rfl rfl ?_
        refine s_no rfl rfl rfl ?_
        refine s_no rfl rfl rfl ?_
        refine s_y (y_pick_t rfl rfl) rfl rfl rfl rfl ?_
        refine s_nil ?_
        refine g_then ?_
        refine g_cond_t rfl ?_
        refine g_seq ?_
        refine g_region ?_
        refine s_y (y_assign rfl) rfl rfl rfl rfl ?_
        refine s_nil ?_
        refine g_then ?_
        refine g_ret ?_
        refine g_inbr ?_
        refine g_thenr ?_
        refine g_thenr ?_
        refine g_inbr ?_
        refine g_thenr ?_
        exact g_end trivial (fun a w ha hq_ => res1 ha rfl rfl  w) (fun w h => ⟨rfl, h.below⟩)
      · (try simp at cq3)
        refine s_y (y_move rfl) rfl rfl rfl rfl ?_
        refine s_y (y_move rfl) rfl rfl rfl rfl ?_
        refine s_tr (t_call rfl rfl ent_21 (fun w h => RPrime_any w n hn hn2)) rfl rfl rfl rfl (fun _ _ => ?_)
        refine s_y (y_geq rfl rfl) rfl rfl rfl rfl ?_
        refine s_y (y_pick_f rfl rfl) rfl rfl rfl rfl ?_
        refine s_nil ?_
        refine g_then ?_
        refine g_cond rfl (fun cq4 => ?_) (fun cq4 => ?_)
        · (try simp at cq4)
          refine g_seq ?_
          refine g_region ?_
          refine s_y (y_assign rfl) rfl rfl rfl rfl ?_
          refine s_nil ?_
          refine g_then ?_
          refine g_ret ?_
          refine g_inbr ?_
          refine g_thenr ?_
          refine g_thenr ?_
          refine g_inbr ?_
          refine g_thenr ?_
          exact g_end trivial (fun a w ha hq_ => res1 ha rfl rfl  w) (fun w h => ⟨rfl, h.below⟩)
        · (try simp at cq4)
          refine g_skip ?_
          refine g_inb ?_
          refine g_then ?_
          refine g_region ?_
          refine s_y (y_add rfl rfl (by omega) (by omega)) rfl rfl rfl rfl ?_
          refine s_y (y_move rfl) rfl rfl rfl rfl ?_
          refine s_nil ?_
          refine g_then ?_
          have hall : ∀ k : Nat, k < j + 1 → 0 ≤ rdI xs (k : Int) ∧ rdI xs (k : Int) < qOf n := by
            intro k hk
            rcases Nat.lt_or_ge k j with h | h
            · exact hb_j.2 k h
            · have : k = j := by omega
              subst this; omega
          exact fun act W ha hw => ⟨j + 1, by omega, ⟨by omega, hall⟩, W, ha.weak (sub_get ⟨rfl, rfl, rfl, rfl, trivial⟩), hw.toHq.lookSub (List.Sublist.refl _)⟩
    · (try simp at cq2)
      refine g_exit ?_
      refine g_thenx ?_
      refine g_thenx ?_
      refine g_inbx ?_
      refine g_then ?_
      refine g_seq ?_
      refine g_region ?_
      refine s_y (y_assign rfl) rfl rfl rfl rfl ?_
      refine s_nil ?_
      refine g_then ?_
      refine g_ret ?_
      have hall : ∀ x ∈ xs, 0 ≤ x ∧ x < qOf n := by
        intro x hx
        obtain ⟨k, hk, rfl⟩ := List.getElem_of_mem hx
        have := hb_j.2 k (by omega)
        rwa [rdI_nat, List.getD_eq_getElem?_getD, List.getElem?_eq_getElem hk] at this
      rw [okW_true.2 ⟨hll, hall⟩] at hok
      cases hok

theorem RWheel_f (w : World) (n : Int) (v : Value) (xs : List Int) (hv : RdV (Value.int .i64) w v xs) (h : ¬ (RIn n ∧ okI n xs = true)) : Calls Try.prog 29 [.int .i64 n, v].toArray w fun e w' => e = .returned (.bool false) ∧ Below w.heap.size w w' := by
  by_cases hn : RIn n
  · obtain ⟨m, rfl⟩ := Int.eq_ofNat_of_zero_le (show 0 ≤ n by have := hn.1; omega)
    have h1 := hn.1
    have h2 := hn.2
    refine RWheel_x w m v xs hv (by omega) (by omega) ?_
    cases c : okW m (qOf m) xs with
    | false => rfl
    | true => exact absurd ⟨hn, c⟩ h
  · exact RWheel_c w n v xs hv hn

theorem Clone_nil (w : World) (n c : Nat) :
    Calls Try.prog 43 [.slice none n c].toArray w fun e w' => ∃ x : Value × List (Nat × Obj), (OwnV (Value.int .i64) x.1 ([] : List Int) x.2 ∧ ∃ W : World, ∀ p ∈ x.2, W.heap[p.1]? = some p.2) ∧ e = .returned (x.1) ∧ Hq w w x.2 w' := by
  refine enter (N := 8) Try.func43 rfl rfl rfl ?_
  refine g_seq ?_
  refine g_region ?_
  refine s_y (y_assign rfl) rfl rfl rfl rfl ?_
  refine s_nil ?_
  refine g_then ?_
  refine g_seq ?_
  refine g_seq ?_
  refine g_region ?_
  refine s_y (y_move rfl) rfl rfl rfl rfl ?_
  refine s_y (y_eqnil rfl rfl sle_32 (fun w => by kernel_rfl)) rfl rfl rfl rfl ?_
  refine s_nil ?_
  refine g_then ?_
  refine g_cond_t rfl ?_
  refine g_seq ?_
  refine g_region ?_
  refine s_y (y_assign rfl) rfl rfl rfl rfl ?_
  refine s_nil ?_
  refine g_then ?_
  refine g_ret ?_
  refine g_thenr ?_
  exact g_end trivial (fun a w ha hq_ => res1 ha rfl rfl  w) (fun w h => ⟨(_, []), ⟨OwnV.nil, w, (h.hand (List.nil_sublist _)).at_⟩, rfl, h.hand (List.nil_sublist _)⟩)

theorem Clone_some (w : World) (a : Addr) (n c : Nat) (xs : List Int) (hv : RdV (Value.int .i64) w (.slice (some a) n c) xs) (hl : xs.length ≤ 1000000) :
    Calls Try.prog 43 [.slice (some a) n c].toArray w fun e w' => ∃ x : Value × List (Nat × Obj), (OwnV (Value.int .i64) x.1 xs x.2 ∧ ∃ W : World, ∀ p ∈ x.2, W.heap[p.1]? = some p.2) ∧ e = .returned (x.1) ∧ Hq w w x.2 w' := by
  obtain ⟨ie3, hi3⟩ := inf_3
  refine enter (N := 8) Try.func43 rfl rfl rfl ?_
  refine g_seq ?_
  refine g_region ?_
  refine s_y (y_assign rfl) rfl rfl rfl rfl ?_
  refine s_nil ?_
  refine g_then ?_
  refine g_seq ?_
  refine g_seq ?_
  refine g_region ?_
  refine s_y (y_move rfl) rfl rfl rfl rfl ?_
  refine s_y (y_eqnil rfl rfl sle_32 (fun w => by kernel_rfl)) rfl rfl rfl rfl ?_
  refine s_nil ?_
  refine g_then ?_
  refine g_cond_f rfl ?_
  refine g_skip ?_
  refine g_then ?_
  refine g_seq ?_
  refine g_region ?_
  refine s_tr (t_build0 (enc := (Value.int .i64)) Try.underlying32 hi3.1) rfl rfl rfl rfl (fun be hbe => ?_)
  have hok1 : (SV.own be 0 []).ok 1 0 (List.map (Value.int .i64) []) := ⟨Nat.le_refl _, Nat.zero_le _, rfl, rfl⟩
  refine s_y (y_move rfl) rfl rfl rfl rfl ?_
  refine s_tr (t_appendR0 (enc := (Value.int .i64)) (sv := (SV.own be 0 [])) (xs := []) (ys := xs) (n := 0)  _ rfl rfl rfl hok1 Try.underlying32 hi3.1 hi3.2.1 hi3.2.2.1 hi3.2.2.2 rfl (fun w h => (hv.below h.below)) (fun _ => rfl) (by omega) (by unfold maxLen; omega)) rfl rfl rfl rfl (fun y5 hok4 => ?_)
  obtain ⟨sv2, gs3⟩ := y5
  refine s_y (y_assign rfl) rfl rfl rfl rfl ?_
  refine s_nil ?_
  refine g_then ?_
  refine g_ret ?_
  exact g_end trivial (fun a w ha hq_ => res1 ha rfl rfl  w) (fun w h => ⟨(_, sv2.mem 3 ((([]) ++ xs).map (Value.int .i64))), ⟨(OwnV.sv hok4), w, (h.hand (sub_here (sv2.mem 3 ((([]) ++ xs).map (Value.int .i64))) _)).at_⟩, rfl, h.hand (sub_here (sv2.mem 3 ((([]) ++ xs).map (Value.int .i64))) _)⟩)

theorem Clone_any (w : World) (v : Value) (xs : List Int) (hv : RdV (Value.int .i64) w v xs) (hl : xs.length ≤ 1000000) : Calls Try.prog 43 [v].toArray w fun e w' => ∃ x : Value × List (Nat × Obj), (OwnV (Value.int .i64) x.1 xs x.2 ∧ ∃ W : World, ∀ p ∈ x.2, W.heap[p.1]? = some p.2) ∧ e = .returned (x.1) ∧ Hq w w x.2 w' := by
  obtain ⟨A, c, rfl, hc, hr⟩ := id hv
  cases A with
  | none =>
    have : xs = [] := by
      cases xs with
      | nil => rfl
      | cons x xs => obtain ⟨ad, h, _⟩ := hr 0 x rfl; cases h
    subst this
    exact Clone_nil w _ c
  | some a => exact Clone_some w a _ c xs hv hl

theorem list_any (w : World) (v : Value) (xs : List Int) (hv : RdV (Value.int .i64) w v xs) :
    Calls Try.prog 27 [v].toArray w fun e w' => ∃ x : Value × List (Nat × Obj), (OwnV (Value.int .i64) x.1 (xs.take 19) x.2 ∧ ∃ W : World, ∀ p ∈ x.2, W.heap[p.1]? = some p.2) ∧ e = .returned (x.1) ∧ Hq w w x.2 w' := by
  have e19 : (if (19 : Int) < ((xs.length : Nat) : Int) then (19 : Int) else ((xs.length : Nat) : Int)) = ((min xs.length 19 : Nat) : Int) := by split <;> omega
  obtain ⟨ie32_, hi32_⟩ := inf_3
  obtain ⟨v7, hc7, hr7⟩ := run_cut_hi (P := Try.prog) hv Try.underlying32 hi32_.1 hi32_.2.2.1 (min xs.length 19) (by omega)
  refine enter (N := 9) Try.func27 rfl rfl rfl ?_
  refine g_seq ?_
  refine g_region ?_
  refine s_y (y_assign rfl) rfl rfl rfl rfl ?_
  refine s_nil ?_
  refine g_then ?_
  refine g_seq ?_
  refine g_region ?_
  refine s_y (y_move rfl) rfl rfl rfl rfl ?_
  refine s_y (y_move rfl) rfl rfl rfl rfl ?_
  refine s_y (y_lenV (n := xs.length) rfl (by obtain ⟨A, c, h1, _⟩ := hv; exact ⟨A, c, h1⟩) sle_32) rfl rfl rfl rfl ?_
  refine s_y (y_min rfl rfl) rfl rfl rfl rfl ?_
  rw [e19]
  refine s_y (y_slice rfl none_ev (some_ev rfl) hc7 sle_32) rfl rfl rfl rfl ?_
  refine s_tr (t_callm rfl rfl ent_43 (fun w h => Clone_any w v7 (xs.take (min xs.length 19)) (hr7 w (hv.below h.below)) (by rw [List.length_take]; omega))) rfl rfl rfl rfl (fun x2 hx3 => ?_)
  obtain ⟨vo1, mo1⟩ := x2
  obtain ⟨hOo1, hEo1⟩ := hx3
  refine s_y (y_assign rfl) rfl rfl rfl rfl ?_
  refine s_nil ?_
  refine g_then ?_
  refine g_ret ?_
  rw [show xs.take 19 = xs.take (min xs.length 19) from by rcases Nat.le_total xs.length 19 with h | h; rw [Nat.min_eq_left h, List.take_length, List.take_of_length_le h]; rw [Nat.min_eq_right h]]
  exact g_end trivial (fun a w ha hq_ => res1 ha rfl rfl  w) (fun w h => ⟨(_, mo1), ⟨hOo1, w, (h.hand (sub_here mo1 _)).at_⟩, rfl, h.hand (sub_here mo1 _)⟩)

end Go.Proofs.Ytncenmgkdodioaa
