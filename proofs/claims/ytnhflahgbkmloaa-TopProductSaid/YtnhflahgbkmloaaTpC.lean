/- top: canon's Tiles, rhythms, turns; the law TopProduct. -/
import Derived.Test.YtnhflahgbkmloaaTpB
import Derived.Test.YtnhflahgbkmloaaTpProd
import Derived.Test.YtnhflahgbkmloaaWhJ
namespace Go.Proofs.Ytnhflahgbkmloaa
open Go.RowKit Go.Sx Go.Wh Go.Dft
set_option linter.unusedVariables false
set_option linter.unusedSimpArgs false
set_option maxRecDepth 100000
set_option maxHeartbeats 4000000

private theorem ent_81 : Enters Try.prog 81 := enters_of Try.func81 (by kernel_rfl) rfl
private theorem ent_79 : Enters Try.prog 79 := enters_of Try.func79 (by kernel_rfl) rfl
private theorem ent_80 : Enters Try.prog 80 := enters_of Try.func80 (by kernel_rfl) rfl
private theorem agg_81 : isAggB Try.prog 81 = some false := by kernel_rfl
private theorem ent_78 : Enters Try.prog 78 := enters_of Try.func78 (by kernel_rfl) rfl
private theorem ent_59 : Enters Try.prog 59 := enters_of Try.func59 (by kernel_rfl) rfl
private theorem inf_3 : ∃ ie, Try.prog.info? 3 = some ie ∧ ie.zero = some (.int .i64 0) ∧ ie.size = 1 ∧ ie.bytes = 8 := info_of (by kernel_rfl) (by kernel_rfl)
private theorem ent_57 : Enters Try.prog 57 := enters_of Try.func57 (by kernel_rfl) rfl
private theorem ent_58 : Enters Try.prog 58 := enters_of Try.func58 (by kernel_rfl) rfl
private theorem ent_51 : Enters Try.prog 51 := enters_of Try.func51 (by kernel_rfl) rfl
private theorem ent_52 : Enters Try.prog 52 := enters_of Try.func52 (by kernel_rfl) rfl
private theorem ent_29 : Enters Try.prog 29 := enters_of Try.func29 (by kernel_rfl) rfl
private theorem ent_31 : Enters Try.prog 31 := enters_of Try.func31 (by kernel_rfl) rfl
private theorem ent_32 : Enters Try.prog 32 := enters_of Try.func32 (by kernel_rfl) rfl
private theorem ent_33 : Enters Try.prog 33 := enters_of Try.func33 (by kernel_rfl) rfl
private theorem sle_27 : Try.prog.underlying 27 = some (.slice (Try.prog.elem 27)) := by kernel_rfl
private theorem size_3 : (Try.prog.info? 3).map (·.size) = some 1 := by kernel_rfl
private theorem agg_3 : isAggB Try.prog 3 = some false := by kernel_rfl
private theorem ent_30 : Enters Try.prog 30 := enters_of Try.func30 (by kernel_rfl) rfl

theorem pow_small {n : Nat} (h : n ≤ 16) : 2 ^ n ≤ 65536 := by
  have := Nat.pow_le_pow_right (show 0 < 2 by decide) h
  exact this
theorem two_cast (n : Nat) : (2 : Int) ^ (n : Int).toNat = ((2 ^ n : Nat) : Int) := by rw [Int.toNat_natCast]; simp
def rhB (n c : Int) : Bool := decide (2 ≤ n ∧ n ≤ 24 ∧ 0 ≤ c ∧ c < 2 ^ n.toNat ∧ ((c.toNat &&& (1 : Int).toNat : Nat) : Int) = 1)

theorem all_any (w : World) (n : Nat) (hn : 2 ≤ n) (hn2 : n ≤ 16) :
    Calls Try.prog 81 [.int .i64 (n : Int)].toArray w fun e w' => e = .returned (.int .i64 (((2 ^ n - 1 : Nat) : Int))) ∧ Below w.heap.size w w' := by
  have hpw := pow_small hn2
  have hpp := Nat.two_pow_pos n
  refine enter (N := 6) Try.func81 rfl rfl rfl ?_
  refine g_seq ?_
  refine g_region ?_
  refine s_y (y_assign rfl) rfl rfl rfl rfl ?_
  refine s_nil ?_
  refine g_then ?_
  refine g_seq ?_
  refine g_region ?_
  refine s_y (y_move rfl) rfl rfl rfl rfl ?_
  refine s_y (y_shl1 rfl rfl (by omega) (by omega)) rfl rfl rfl rfl ?_
  rw [two_cast]
  refine s_y (y_sub rfl rfl (by omega) (by omega)) rfl rfl rfl rfl ?_
  refine s_y (y_assign rfl) rfl rfl rfl rfl ?_
  refine s_nil ?_
  refine g_then ?_
  refine g_ret ?_
  rw [show ((2 ^ n - 1 : Nat) : Int) = ((2 ^ n : Nat) : Int) - 1 from by have := Nat.two_pow_pos n; omega]
  exact g_end trivial (fun a w ha hq_ => res1 ha rfl rfl  w) (fun w h => ⟨rfl, h.below⟩)

theorem move_any (w : World) (n a k : Nat) (hn : 2 ≤ n) (hn2 : n ≤ 16) (ha : a < 2 ^ n) (hk : k < n) :
    Calls Try.prog 80 [.int .i64 (n : Int), .int .i64 (a : Int), .int .i64 (k : Int)].toArray w fun e w' => e = .returned (.int .i64 (((movN n a k : Nat) : Int))) ∧ Below w.heap.size w w' := by
  have hpw := pow_small hn2
  have hpp := Nat.two_pow_pos n
  have hs : a <<< k < 4294967296 := by
    have h1 : 2 ^ k ≤ 65536 := pow_small (by omega)
    have h2 : a * 2 ^ k < 65536 * 65536 := Nat.mul_lt_mul_of_lt_of_le (by omega) h1 (by decide)
    rw [Nat.shiftLeft_eq]; omega
  have hr := shr_le a (n - k)
  have ho : (a <<< k) ||| (a >>> (n - k)) < 2 ^ 32 := Nat.or_lt_two_pow (by generalize a <<< k = z at hs; omega) (by omega)
  have ho' : (a <<< k) ||| (a >>> (n - k)) < 4611686018427387904 := by generalize (a <<< k) ||| (a >>> (n - k)) = z at ho; omega
  have hs' : a <<< k < 4611686018427387904 := by generalize a <<< k = z at hs; omega
  refine enter (N := 19) Try.func80 rfl rfl rfl ?_
  refine g_seq ?_
  refine g_region ?_
  refine s_y (y_assign rfl) rfl rfl rfl rfl ?_
  refine s_nil ?_
  refine g_then ?_
  refine g_seq ?_
  refine g_draw 13 (by kernel_rfl) ?_
  refine j_p (i := 0) rfl (y_move rfl) (by kernel_rfl) (by kernel_rfl) (by kernel_rfl) rfl rfl rfl rfl rfl (.inr (fun _ h => h)) ?_
  refine j_p (i := 1) rfl (y_move rfl) (by kernel_rfl) (by kernel_rfl) (by kernel_rfl) rfl rfl rfl rfl rfl (.inr (fun _ h => h)) ?_
  refine j_p (i := 2) rfl (y_shlN a k rfl rfl rfl rfl (by omega) (by omega)) (by kernel_rfl) (by kernel_rfl) (by kernel_rfl) rfl rfl rfl rfl rfl (.inr (fun _ h => h)) ?_
  refine j_p (i := 3) rfl (y_move rfl) (by kernel_rfl) (by kernel_rfl) (by kernel_rfl) rfl rfl rfl rfl rfl (.inr (fun _ h => h)) ?_
  refine j_p (i := 4) rfl (y_move rfl) (by kernel_rfl) (by kernel_rfl) (by kernel_rfl) rfl rfl rfl rfl rfl (.inr (fun _ h => h)) ?_
  refine j_p (i := 5) rfl (y_move rfl) (by kernel_rfl) (by kernel_rfl) (by kernel_rfl) rfl rfl rfl rfl rfl (.inr (fun _ h => h)) ?_
  refine j_p (i := 6) rfl (y_sub rfl rfl (by omega) (by omega)) (by kernel_rfl) (by kernel_rfl) (by kernel_rfl) rfl rfl rfl rfl rfl (.inr (fun _ h => h)) ?_
  refine j_p (i := 7) rfl (y_shrN a (n - k) rfl rfl rfl (by omega) (by omega)) (by kernel_rfl) (by kernel_rfl) (by kernel_rfl) rfl rfl rfl rfl rfl (.inr (fun _ h => h)) ?_
  refine j_p (i := 8) rfl (y_orN (a <<< k) (a >>> (n - k)) rfl rfl rfl rfl (by omega) (by omega)) (by kernel_rfl) (by kernel_rfl) (by kernel_rfl) rfl rfl rfl rfl rfl (.inr (fun _ h => h)) ?_
  refine j_p (i := 9) rfl (y_move rfl) (by kernel_rfl) (by kernel_rfl) (by kernel_rfl) rfl rfl rfl rfl rfl (.inr (fun _ h => h)) ?_
  refine j_tr (i := 10) rfl (t_call rfl rfl ent_81 (fun w h => all_any w n hn hn2)) (by kernel_rfl) rfl rfl rfl rfl (.inr (fun x w hb h => h)) (fun _ _ => ?_)
  refine j_p (i := 11) rfl (y_andN ((a <<< k) ||| (a >>> (n - k))) (2 ^ n - 1) rfl rfl rfl rfl (by omega) (by omega)) (by kernel_rfl) (by kernel_rfl) (by kernel_rfl) rfl rfl rfl rfl rfl (.inr (fun _ h => h)) ?_
  refine j_p (i := 12) rfl (y_assign rfl) (by kernel_rfl) (by kernel_rfl) (by kernel_rfl) rfl rfl rfl rfl rfl (.inr (fun _ h => h)) ?_
  refine j_nil (by kernel_rfl) ?_
  refine g_then ?_
  refine g_ret ?_
  rw [show movN n a k = ((a <<< k) ||| (a >>> (n - k))) &&& (2 ^ n - 1) from rfl]
  exact g_end trivial (fun a w ha hq_ => res1 ha rfl rfl  w) (fun w h => ⟨rfl, h.below⟩)

theorem tiles_any (w : World) (n a b : Nat) (hn : 2 ≤ n) (hn2 : n ≤ 16) (ha : a < 2 ^ n) (hb : b < 2 ^ n) :
    Calls Try.prog 58 [.int .i64 (n : Int), .int .i64 (a : Int), .int .i64 (b : Int)].toArray w fun e w' => e = .returned (.bool (tileB n a b)) ∧ Below w.heap.size w w' := by
  have hpw := pow_small hn2
  have hpp := Nat.two_pow_pos n
  have h16 := bs_le 16 a
  have h16' := bs_le 16 b
  have hmm : (bs 16 a : Int) * (bs 16 b : Int) ≤ 16 * 16 := Int.mul_le_mul (by omega) (by omega) (by omega) (by omega)
  refine enter (N := 36) Try.func58 rfl rfl rfl ?_
  refine g_seq ?_
  refine g_region ?_
  refine s_y (y_assign rfl) rfl rfl rfl rfl ?_
  refine s_nil ?_
  refine g_then ?_
  refine g_seq ?_
  refine g_seq ?_
  refine g_region ?_
  refine s_y (y_move rfl) rfl rfl rfl rfl ?_
  refine s_tr (t_call rfl rfl ent_79 (fun w h => canon_count w a (by omega))) rfl rfl rfl rfl (fun _ _ => ?_)
  refine s_y (y_move rfl) rfl rfl rfl rfl ?_
  refine s_tr (t_call rfl rfl ent_79 (fun w h => canon_count w b (by omega))) rfl rfl rfl rfl (fun _ _ => ?_)
  refine s_y (y_mul rfl rfl (by have := Int.mul_nonneg (show (0 : Int) ≤ (bs 16 a : Nat) by omega) (show (0 : Int) ≤ (bs 16 b : Nat) by omega); omega) (by omega)) rfl rfl rfl rfl ?_
  refine s_y (y_move rfl) rfl rfl rfl rfl ?_
  refine s_y (y_neq rfl rfl) rfl rfl rfl rfl ?_
  refine s_nil ?_
  refine g_then ?_
  refine g_cond rfl (fun cq1 => ?_) (fun cq1 => ?_)
  · (try simp at cq1)
    have hbs : ¬ bs 16 a * bs 16 b = n := fun h_ => by apply cq1; rw [← h_]; simp
    refine g_seq ?_
    refine g_region ?_
    refine s_y (y_assign rfl) rfl rfl rfl rfl ?_
    refine s_nil ?_
    refine g_then ?_
    refine g_ret ?_
    refine g_thenr ?_
    rw [show tileB n a b = false from by unfold tileB; rw [decide_eq_false (by assumption)]; rfl]
    exact g_end trivial (fun a w ha hq_ => res1 ha rfl rfl  w) (fun w h => ⟨rfl, h.below⟩)
  · (try simp at cq1)
    have hbs : bs 16 a * bs 16 b = n := by have h_ := cq1; exact_mod_cast h_
    refine g_skip ?_
    refine g_then ?_
    refine g_seq ?_
    refine g_region ?_
    refine s_y (y_assign rfl) rfl rfl rfl rfl ?_
    refine s_nil ?_
    refine g_then ?_
    refine g_seq ?_
    refine g_seq ?_
    refine g_region ?_
    refine s_y (y_move rfl) rfl rfl rfl rfl ?_
    refine s_y (y_move rfl) rfl rfl rfl rfl ?_
    refine s_nil ?_
    refine g_then ?_
    refine g_block ?_
    refine g_loop (fun (k : Nat) act W => k ≤ n ∧ ∃ (z : Nat) (w1 : World), (z = filN n a b k) ∧ Has 36 [] [(0, .int .i64 (n : Int)), (1, .int .i64 (a : Int)), (2, .int .i64 (b : Int)), (6, .bool false), (7, .int .i64 ((z : Nat) : Int)), (16, .int .i64 (n : Int)), (17, .int .i64 (k : Int))] act ∧ Hp w w1 ([]) W) (fun k => n - k) 0 (fun act W ha hw => ⟨by omega, 0, W, (by rfl), ha.weak (sub_get ⟨rfl, rfl, rfl, rfl, rfl, rfl, rfl, trivial⟩), hw.toHq.lookSub (List.Sublist.refl _)⟩) ?_
    intro k act W ⟨hb_k, z, w1, hz, ha, hw⟩
    refine g_go ha hw ?_
    clear ha hw act W
    have hfl := filN_lt n a b k
    have hmv := movN_lt n a k
    have hdb := Int.ediv_nonneg (show (0 : Int) ≤ (b : Int) by omega) (show (0 : Int) ≤ 2 ^ (k : Int).toNat from Int.pow_nonneg (by decide))
    have hdb2 := Int.ediv_le_self (2 ^ (k : Int).toNat) (show (0 : Int) ≤ (b : Int) by omega)
    rw [← hz] at hfl
    refine g_seq ?_
    refine g_region ?_
    refine s_y (y_lss rfl rfl) rfl rfl rfl rfl ?_
    refine s_nil ?_
    refine g_then ?_
    refine g_seq ?_
    refine g_cond rfl (fun cq2 => ?_) (fun cq2 => ?_)
    · (try simp at cq2)
      refine g_skip ?_
      refine g_then ?_
      refine g_seq ?_
      refine g_block ?_
      refine g_seq ?_
      refine g_region ?_
      refine s_y (y_move rfl) rfl rfl rfl rfl ?_
      refine s_y (y_assign rfl) rfl rfl rfl rfl ?_
      refine s_nil ?_
      refine g_then ?_
      refine g_seq ?_
      refine g_region ?_
      refine s_y (y_move rfl) rfl rfl rfl rfl ?_
      refine s_y (y_move rfl) rfl rfl rfl rfl ?_
      refine s_y (y_shr rfl rfl (by omega) (by omega) (by omega)) rfl rfl rfl rfl ?_
      refine s_y (y_and rfl rfl (by omega) (by omega)) rfl rfl rfl rfl ?_
      rw [show ((((b : Int) / 2 ^ ((k : Int) : Int).toNat : Int).toNat &&& (1 : Int).toNat : Nat) : Int) = bitI (b : Int) k from rfl]
      refine s_y (y_eql rfl rfl) rfl rfl rfl rfl ?_
      refine s_nil ?_
      refine g_then ?_
      refine g_cond rfl (fun cq3 => ?_) (fun cq3 => ?_)
      · (try simp at cq3)
        refine g_region ?_
        refine s_y (y_move rfl) rfl rfl rfl rfl ?_
        refine s_y (y_move rfl) rfl rfl rfl rfl ?_
        refine s_y (y_move rfl) rfl rfl rfl rfl ?_
        refine s_y (y_move rfl) rfl rfl rfl rfl ?_
        refine s_tr (t_call rfl rfl ent_80 (fun w h => move_any w n a k hn hn2 ha (by omega))) rfl rfl rfl rfl (fun _ _ => ?_)
        refine s_y (y_orN z (movN n a k) rfl rfl rfl rfl (by omega) (by omega)) rfl rfl rfl rfl ?_
        refine s_y (y_assign rfl) rfl rfl rfl rfl ?_
        refine s_nil ?_
        refine g_inb ?_
        refine g_then ?_
        refine g_region ?_
        refine s_y (y_add rfl rfl (by omega) (by omega)) rfl rfl rfl rfl ?_
        refine s_y (y_move rfl) rfl rfl rfl rfl ?_
        refine s_nil ?_
        refine g_then ?_
        exact fun act W ha hw => ⟨k + 1, by omega, by omega, (z ||| movN n a k), W, (by rw [hz]; first | exact (if_pos (by assumption)).symm | exact (if_neg (by assumption)).symm), ha.weak (sub_get ⟨rfl, rfl, rfl, rfl, rfl, rfl, rfl, trivial⟩), hw.toHq.lookSub (List.Sublist.refl _)⟩
      · (try simp at cq3)
        refine g_skip ?_
        refine g_inb ?_
        refine g_then ?_
        refine g_region ?_
        refine s_y (y_add rfl rfl (by omega) (by omega)) rfl rfl rfl rfl ?_
        refine s_y (y_move rfl) rfl rfl rfl rfl ?_
        refine s_nil ?_
        refine g_then ?_
        exact fun act W ha hw => ⟨k + 1, by omega, by omega, z, W, (by rw [hz]; first | exact (if_pos (by assumption)).symm | exact (if_neg (by assumption)).symm), ha.weak (sub_get ⟨rfl, rfl, rfl, rfl, rfl, rfl, rfl, trivial⟩), hw.toHq.lookSub (List.Sublist.refl _)⟩
    · (try simp at cq2)
      refine g_exit ?_
      refine g_thenx ?_
      refine g_thenx ?_
      refine g_inbx ?_
      refine g_then ?_
      refine g_seq ?_
      refine g_region ?_
      refine s_y (y_move rfl) rfl rfl rfl rfl ?_
      refine s_y (y_move rfl) rfl rfl rfl rfl ?_
      refine s_tr (t_call rfl rfl ent_81 (fun w h => all_any w n hn hn2)) rfl rfl rfl rfl (fun _ _ => ?_)
      refine s_y (y_eql rfl rfl) rfl rfl rfl rfl ?_
      refine s_y (y_assign rfl) rfl rfl rfl rfl ?_
      refine s_nil ?_
      refine g_then ?_
      refine g_ret ?_
      rw [show k = n by omega] at hz
      rw [show tileB n a b = decide (((z : Nat) : Int) = ((2 ^ n - 1 : Nat) : Int)) from by unfold tileB; rw [decide_eq_true hbs, Bool.true_and]; exact decide_eq_decide.2 (by omega)]
      exact g_end trivial (fun a w ha hq_ => res1 ha rfl rfl  w) (fun w h => ⟨rfl, h.below⟩)

theorem valid1_t (w : World) (x : Int) (n bn : Nat) (hn : 2 ≤ n) (hn2 : n ≤ 16) (hx : 0 ≤ x) (hx2 : x < 2 ^ n) (ho : (((x : Int).toNat &&& (1 : Int).toNat : Nat) : Int) = 1) (hbn : w.heap[bn]? = some (.cells [.int .i64 (n : Int)].toArray 81 (0, 0))) :
    Calls Try.prog 78 [.int .i64 x, .pointer (some ⟨bn, 0, none⟩)].toArray w fun e w' => e = .returned (.bool (false)) ∧ Below w.heap.size w w' := by
  have hpw := pow_small hn2
  have hpp := Nat.two_pow_pos n
  have hx3 : x < ((2 ^ n : Nat) : Int) := by rw [show ((2 ^ n : Nat) : Int) = (2 : Int) ^ n by simp]; exact hx2
  refine enter (N := 17) Try.func78 rfl rfl rfl ?_
  refine g_seq ?_
  refine g_region ?_
  refine s_y (y_assign rfl) rfl rfl rfl rfl ?_
  refine s_nil ?_
  refine g_then ?_
  refine g_seq ?_
  refine g_region ?_
  refine s_y (y_move rfl) rfl rfl rfl rfl ?_
  refine s_y (y_lss_f rfl rfl (by omega)) rfl rfl rfl rfl ?_
  refine s_y (y_move rfl) rfl rfl rfl rfl ?_
  refine s_y (y_move rfl) rfl rfl rfl rfl ?_
  refine s_y (y_ldO1 hbn rfl agg_81 rfl) rfl rfl rfl rfl ?_
  refine s_y (y_shl1 rfl rfl (by omega) (by omega)) rfl rfl rfl rfl ?_
  rw [two_cast]
  refine s_y (y_geq_f rfl rfl (by omega)) rfl rfl rfl rfl ?_
  refine s_y (y_pick_f rfl rfl) rfl rfl rfl rfl ?_
  refine s_y (y_move rfl) rfl rfl rfl rfl ?_
  refine s_y (y_move rfl) rfl rfl rfl rfl ?_
  refine s_y (y_and rfl rfl (by omega) (by omega)) rfl rfl rfl rfl ?_
  refine s_y (y_eql_f rfl rfl (by omega)) rfl rfl rfl rfl ?_
  refine s_y (y_pick_f rfl rfl) rfl rfl rfl rfl ?_
  refine s_y (y_assign rfl) rfl rfl rfl rfl ?_
  refine s_nil ?_
  refine g_then ?_
  refine g_ret ?_
  exact g_end trivial (fun a w ha hq_ => res1 ha rfl rfl  w) (fun w h => ⟨rfl, h.below⟩)

theorem valid_t (w : World) (n : Nat) (v : Value) (xs : List Int) (hv : RdV (Value.int .i64) w v xs) (hl : xs.length ≤ 10) (hn : 2 ≤ n) (hn2 : n ≤ 16) (hxs : ∀ x ∈ xs, 0 ≤ x ∧ x < 2 ^ n ∧ (((x : Int).toNat &&& (1 : Int).toNat : Nat) : Int) = 1) :
    Calls Try.prog 57 [.int .i64 (n : Int), v].toArray w fun e w' => e = .returned (.bool (true)) ∧ Below w.heap.size w w' := by
  refine enter (N := 17) Try.func57 rfl rfl rfl ?_
  refine g_seq ?_
  refine g_region ?_
  refine s_tr (t_box rfl rfl) rfl rfl rfl rfl (fun bn hbn => ?_)
  refine s_y (y_assign rfl) rfl rfl rfl rfl ?_
  refine s_nil ?_
  refine g_then ?_
  refine g_seq ?_
  refine g_region ?_
  refine s_y (y_ld1 0 rfl rfl agg_81 rfl) rfl rfl rfl rfl ?_
  refine s_y (y_geq_t rfl rfl (by omega)) rfl rfl rfl rfl ?_
  refine s_y (y_move rfl) rfl rfl rfl rfl ?_
  refine s_y (y_ld1 0 rfl rfl agg_81 rfl) rfl rfl rfl rfl ?_
  refine s_y (y_leq_t rfl rfl (by omega)) rfl rfl rfl rfl ?_
  refine s_y (y_pick_t rfl rfl) rfl rfl rfl rfl ?_
  refine s_y (y_move rfl) rfl rfl rfl rfl ?_
  refine s_y (y_move rfl) rfl rfl rfl rfl ?_
  refine s_y (y_func rfl rfl) rfl rfl rfl rfl ?_
  refine s_tr (t_call rfl rfl ent_59 (fun w h => by have h_ := ContainsFunc_any w v xs (hv.below h.below) (by omega) 78 [.pointer (some ⟨bn, 0, none⟩)] (fun _ => false) ent_78 (fun x W hx hb => valid1_t W x n bn hn hn2 (hxs x hx).1 (hxs x hx).2.1 (hxs x hx).2.2 (below_at hb (at_of (i := 0) h rfl))); rwa [show xs.any (fun _ => false) = false from by simp] at h_)) rfl rfl rfl rfl (fun _ _ => ?_)
  refine s_y (y_not_f rfl) rfl rfl rfl rfl ?_
  refine s_y (y_pick_t rfl rfl) rfl rfl rfl rfl ?_
  refine s_y (y_assign rfl) rfl rfl rfl rfl ?_
  refine s_nil ?_
  refine g_then ?_
  refine g_ret ?_
  exact g_end trivial (fun a w ha hq_ => res1 ha rfl rfl  w) (fun w h => ⟨rfl, h.below⟩)

theorem Tiles_ok (w : World) (n a b : Nat) (hn : 2 ≤ n) (hn2 : n ≤ 16) (ha : a < 2 ^ n) (hb : b < 2 ^ n) (oa : ((((a : Int) : Int).toNat &&& (1 : Int).toNat : Nat) : Int) = 1) (ob : ((((b : Int) : Int).toNat &&& (1 : Int).toNat : Nat) : Int) = 1) :
    Calls Try.prog 33 [.int .i64 (n : Int), .int .i64 (a : Int), .int .i64 (b : Int)].toArray w fun e w' => e = .returned (.tuple #[.bool (tileB n a b), .int .i64 0]) ∧ Below w.heap.size w w' := by
  obtain ⟨ie3, hi3⟩ := inf_3
  refine enter (N := 18) Try.func33 rfl rfl rfl ?_
  refine g_seq ?_
  refine g_region ?_
  refine s_y (y_assign rfl) rfl rfl rfl rfl ?_
  refine s_y (y_assign rfl) rfl rfl rfl rfl ?_
  refine s_nil ?_
  refine g_then ?_
  refine g_seq ?_
  refine g_seq ?_
  refine g_region ?_
  refine s_y (y_move rfl) rfl rfl rfl rfl ?_
  refine s_y (y_move rfl) rfl rfl rfl rfl ?_
  refine s_y (y_move rfl) rfl rfl rfl rfl ?_
  refine s_tr (t_build (vs := [(0, .int .i64 (a : Int)), (1, .int .i64 (b : Int))]) (cells := [.int .i64 (a : Int), .int .i64 (b : Int)]) rfl rfl Try.underlying27 hi3.1 hi3.2.1 (by rw [hi3.2.2.1]; rfl) (by rw [hi3.2.2.1]; rfl) (by rw [hi3.2.2.1]; kernel_rfl)) rfl rfl rfl rfl (fun bl hbl => ?_)
  refine s_tr (t_call rfl rfl ent_57 (fun w h => valid_t w n _ [(a : Int), (b : Int)] (RdV.own (enc := (Value.int .i64)) (xs := [(a : Int), (b : Int)]) (jk := []) (at_of (i := 0) h rfl) rfl (Nat.le_refl _)) (by simp) hn hn2 (by intro x hx; simp only [List.mem_cons, List.not_mem_nil, or_false] at hx; rcases hx with rfl | rfl; exact ⟨by omega, by exact_mod_cast ha, oa⟩; exact ⟨by omega, by exact_mod_cast hb, ob⟩))) rfl rfl rfl rfl (fun _ _ => ?_)
  refine s_y (y_not_t rfl) rfl rfl rfl rfl ?_
  refine s_nil ?_
  refine g_then ?_
  refine g_cond_f rfl ?_
  refine g_skip ?_
  refine g_then ?_
  refine g_seq ?_
  refine g_region ?_
  refine s_y (y_move rfl) rfl rfl rfl rfl ?_
  refine s_y (y_move rfl) rfl rfl rfl rfl ?_
  refine s_y (y_move rfl) rfl rfl rfl rfl ?_
  refine s_tr (t_call rfl rfl ent_58 (fun w h => tiles_any w n a b hn hn2 ha hb)) rfl rfl rfl rfl (fun _ _ => ?_)
  refine s_y (y_assign rfl) rfl rfl rfl rfl ?_
  refine s_y (y_assign rfl) rfl rfl rfl rfl ?_
  refine s_nil ?_
  refine g_then ?_
  refine g_ret ?_
  exact g_end trivial (fun a w ha hq_ => res2 ha rfl rfl rfl  w) (fun w h => ⟨rfl, h.below⟩)

theorem Rhythm_any (w : World) (n c : Int) (hc : c ≤ 9223372036854775807) :
    Calls Try.prog 29 [.int .i64 n, .int .i64 c].toArray w fun e w' => e = .returned (.bool (rhB n c)) ∧ Below w.heap.size w w' := by
  refine enter (N := 26) Try.func29 rfl rfl rfl ?_
  refine g_seq ?_
  refine g_region ?_
  refine s_y (y_assign rfl) rfl rfl rfl rfl ?_
  refine s_nil ?_
  refine g_then ?_
  refine g_seq ?_
  refine g_region ?_
  refine s_y (y_move rfl) rfl rfl rfl rfl ?_
  refine s_y (y_geq rfl rfl) rfl rfl rfl rfl ?_
  refine s_y (y_move rfl) rfl rfl rfl rfl ?_
  refine g_bool 7 rfl (fun cq1 => ?_) (fun cq1 => ?_)
  · (try simp at cq1)
    refine s_y (y_move rfl) rfl rfl rfl rfl ?_
    refine s_y (y_leq rfl rfl) rfl rfl rfl rfl ?_
    refine s_y (y_pick_t rfl rfl) rfl rfl rfl rfl ?_
    refine s_y (y_move rfl) rfl rfl rfl rfl ?_
    refine g_bool 11 rfl (fun cq2 => ?_) (fun cq2 => ?_)
    · (try simp at cq2)
      refine s_y (y_move rfl) rfl rfl rfl rfl ?_
      refine s_y (y_geq rfl rfl) rfl rfl rfl rfl ?_
      refine s_y (y_pick_t rfl rfl) rfl rfl rfl rfl ?_
      refine s_y (y_move rfl) rfl rfl rfl rfl ?_
      refine g_bool 15 rfl (fun cq3 => ?_) (fun cq3 => ?_)
      · (try simp at cq3)
        refine s_y (y_move rfl) rfl rfl rfl rfl ?_
        refine s_y (y_move rfl) rfl rfl rfl rfl ?_
        refine s_y (y_shl1 rfl rfl (by omega) (by omega)) rfl rfl rfl rfl ?_
        refine s_y (y_lss rfl rfl) rfl rfl rfl rfl ?_
        refine s_y (y_pick_t rfl rfl) rfl rfl rfl rfl ?_
        refine s_y (y_move rfl) rfl rfl rfl rfl ?_
        refine g_bool 21 rfl (fun cq4 => ?_) (fun cq4 => ?_)
        · (try simp at cq4)
          refine s_y (y_move rfl) rfl rfl rfl rfl ?_
          refine s_y (y_and rfl rfl (by omega) (by omega)) rfl rfl rfl rfl ?_
          refine s_y (y_eql rfl rfl) rfl rfl rfl rfl ?_
          refine s_y (y_pick_t rfl rfl) rfl rfl rfl rfl ?_
          refine s_y (y_assign rfl) rfl rfl rfl rfl ?_
          refine s_nil ?_
          refine g_then ?_
          refine g_ret ?_
          rw [show rhB n c = decide ((((c : Int).toNat &&& (1 : Int).toNat : Nat) : Int) = 1) from by unfold rhB; first | exact decide_eq_false (by omega) | exact decide_eq_true (by omega) | exact decide_eq_decide.2 (by constructor <;> intro h_ <;> omega)]
          exact g_end trivial (fun a w ha hq_ => res1 ha rfl rfl  w) (fun w h => ⟨rfl, h.below⟩)
        · (try simp at cq4)
          refine s_no rfl rfl rfl ?_
          refine s_no rfl rfl rfl ?_
          refine s_no rfl rfl rfl ?_
          refine s_y (y_pick_f rfl rfl) rfl rfl rfl rfl ?_
          refine s_y (y_assign rfl) rfl rfl rfl rfl ?_
          refine s_nil ?_
          refine g_then ?_
          refine g_ret ?_
          rw [show rhB n c = false from by unfold rhB; first | exact decide_eq_false (by omega) | exact decide_eq_true (by omega) | exact decide_eq_decide.2 (by constructor <;> intro h_ <;> omega)]
          exact g_end trivial (fun a w ha hq_ => res1 ha rfl rfl  w) (fun w h => ⟨rfl, h.below⟩)
      · (try simp at cq3)
        refine s_no rfl rfl rfl ?_
        refine s_no rfl rfl rfl ?_
        refine s_no rfl rfl rfl ?_
        refine s_no rfl rfl rfl ?_
        refine s_y (y_pick_f rfl rfl) rfl rfl rfl rfl ?_
        refine s_y (y_move rfl) rfl rfl rfl rfl ?_
        refine s_no rfl rfl rfl ?_
        refine s_no rfl rfl rfl ?_
        refine s_no rfl rfl rfl ?_
        refine s_y (y_pick_f rfl rfl) rfl rfl rfl rfl ?_
        refine s_y (y_assign rfl) rfl rfl rfl rfl ?_
        refine s_nil ?_
        refine g_then ?_
        refine g_ret ?_
        rw [show rhB n c = false from by unfold rhB; first | exact decide_eq_false (by omega) | exact decide_eq_true (by omega) | exact decide_eq_decide.2 (by constructor <;> intro h_ <;> omega)]
        exact g_end trivial (fun a w ha hq_ => res1 ha rfl rfl  w) (fun w h => ⟨rfl, h.below⟩)
    · (try simp at cq2)
      refine s_no rfl rfl rfl ?_
      refine s_no rfl rfl rfl ?_
      refine s_y (y_pick_f rfl rfl) rfl rfl rfl rfl ?_
      refine s_y (y_move rfl) rfl rfl rfl rfl ?_
      refine s_no rfl rfl rfl ?_
      refine s_no rfl rfl rfl ?_
      refine s_no rfl rfl rfl ?_
      refine s_no rfl rfl rfl ?_
      refine s_y (y_pick_f rfl rfl) rfl rfl rfl rfl ?_
      refine s_y (y_move rfl) rfl rfl rfl rfl ?_
      refine s_no rfl rfl rfl ?_
      refine s_no rfl rfl rfl ?_
      refine s_no rfl rfl rfl ?_
      refine s_y (y_pick_f rfl rfl) rfl rfl rfl rfl ?_
      refine s_y (y_assign rfl) rfl rfl rfl rfl ?_
      refine s_nil ?_
      refine g_then ?_
      refine g_ret ?_
      rw [show rhB n c = false from by unfold rhB; first | exact decide_eq_false (by omega) | exact decide_eq_true (by omega) | exact decide_eq_decide.2 (by constructor <;> intro h_ <;> omega)]
      exact g_end trivial (fun a w ha hq_ => res1 ha rfl rfl  w) (fun w h => ⟨rfl, h.below⟩)
  · (try simp at cq1)
    refine s_no rfl rfl rfl ?_
    refine s_no rfl rfl rfl ?_
    refine s_y (y_pick_f rfl rfl) rfl rfl rfl rfl ?_
    refine s_y (y_move rfl) rfl rfl rfl rfl ?_
    refine s_no rfl rfl rfl ?_
    refine s_no rfl rfl rfl ?_
    refine s_y (y_pick_f rfl rfl) rfl rfl rfl rfl ?_
    refine s_y (y_move rfl) rfl rfl rfl rfl ?_
    refine s_no rfl rfl rfl ?_
    refine s_no rfl rfl rfl ?_
    refine s_no rfl rfl rfl ?_
    refine s_no rfl rfl rfl ?_
    refine s_y (y_pick_f rfl rfl) rfl rfl rfl rfl ?_
    refine s_y (y_move rfl) rfl rfl rfl rfl ?_
    refine s_no rfl rfl rfl ?_
    refine s_no rfl rfl rfl ?_
    refine s_no rfl rfl rfl ?_
    refine s_y (y_pick_f rfl rfl) rfl rfl rfl rfl ?_
    refine s_y (y_assign rfl) rfl rfl rfl rfl ?_
    refine s_nil ?_
    refine g_then ?_
    refine g_ret ?_
    rw [show rhB n c = false from by unfold rhB; first | exact decide_eq_false (by omega) | exact decide_eq_true (by omega) | exact decide_eq_decide.2 (by constructor <;> intro h_ <;> omega)]
    exact g_end trivial (fun a w ha hq_ => res1 ha rfl rfl  w) (fun w h => ⟨rfl, h.below⟩)

theorem turns_t (w : World) :
    Calls Try.prog 30 [].toArray w fun e w' => e = .returned (.bool true) ∧ Below w.heap.size w w' := by
  obtain ⟨ie3, hi3⟩ := inf_3
  refine enter (N := 15) Try.func30 rfl rfl rfl ?_
  refine g_seq ?_
  refine g_region ?_
  refine s_y (y_assign rfl) rfl rfl rfl rfl ?_
  refine s_nil ?_
  refine g_then ?_
  refine g_seq ?_
  refine g_region ?_
  refine s_tr (t_build (vs := [(0, .int .i64 0), (1, .int .i64 1), (2, .int .i64 0), (3, .int .i64 0)]) (cells := [.int .i64 0, .int .i64 1, .int .i64 0, .int .i64 0]) rfl rfl Try.underlying27 hi3.1 hi3.2.1 (by rw [hi3.2.2.1]; rfl) (by rw [hi3.2.2.1]; rfl) (by rw [hi3.2.2.1]; kernel_rfl)) rfl rfl rfl rfl (fun bl hbl => ?_)
  refine s_tr (t_callm (A := New _ _) rfl rfl ent_51 (fun w h => (Spectrum_ok w 4 _ [0, 1, 0, 0] (RdV.own (enc := (Value.int .i64)) (xs := [0, 1, 0, 0]) (jk := []) (at_of (i := 0) h rfl) rfl (Nat.le_refl _)) (by decide) (by decide) (by decide)).mono fun e w' ⟨b, h1, h2⟩ => ⟨b, ⟨Nat.le_trans h.below.size (h2.ge _ (List.mem_cons_self ..)), Nat.le_trans h.size (h2.ge _ (List.mem_cons_self ..))⟩, h1, h2⟩)) rfl rfl rfl rfl (fun bs hbs => ?_)
  refine s_y (y_move rfl) rfl rfl rfl rfl ?_
  refine s_y (y_extract rfl rfl) rfl rfl rfl rfl ?_
  refine s_y (y_extract rfl rfl) rfl rfl rfl rfl ?_
  refine s_y (y_assign rfl) rfl rfl rfl rfl ?_
  refine s_y (y_assign rfl) rfl rfl rfl rfl ?_
  refine s_nil ?_
  refine g_then ?_
  refine g_seq ?_
  refine g_region ?_
  refine s_y (y_move rfl) rfl rfl rfl rfl ?_
  refine s_y (y_eql_t rfl rfl (by decide)) rfl rfl rfl rfl ?_
  refine s_y (y_move rfl) rfl rfl rfl rfl ?_
  refine s_y (y_move rfl) rfl rfl rfl rfl ?_
  refine s_tr (t_build (vs := [(0, .int .i64 1), (1, .int .i64 5), (2, .int .i64 12), (3, .int .i64 8)]) (cells := [.int .i64 1, .int .i64 5, .int .i64 12, .int .i64 8]) rfl rfl Try.underlying27 hi3.1 hi3.2.1 (by rw [hi3.2.2.1]; rfl) (by rw [hi3.2.2.1]; rfl) (by rw [hi3.2.2.1]; kernel_rfl)) rfl rfl rfl rfl (fun br hbr => ?_)
  refine s_tr (t_call rfl rfl ent_52 (fun w h => Equal_t w _ _ (turnL (qOf 4) (wOf 4) 4 [0, 1, 0, 0]) [1, 5, 12, 8] (RdV.own (jk := []) (at_of (i := 1) h rfl) (by decide) (Nat.le_refl _)) (RdV.own (enc := (Value.int .i64)) (xs := [1, 5, 12, 8]) (jk := []) (at_of (i := 0) h rfl) rfl (Nat.le_refl _)) (by decide) (by decide))) rfl rfl rfl rfl (fun _ _ => ?_)
  refine s_y (y_pick_t rfl rfl) rfl rfl rfl rfl ?_
  refine s_y (y_assign rfl) rfl rfl rfl rfl ?_
  refine s_nil ?_
  refine g_then ?_
  refine g_ret ?_
  exact g_end trivial (fun a w ha hq_ => res1 ha rfl rfl  w) (fun w h => ⟨rfl, h.below⟩)

theorem TopProduct_ok (w : World) (n a b : Nat) (hn : 2 ≤ n) (hn2 : n ≤ 16) (ha : a < 2 ^ n) (hb : b < 2 ^ n) (oa : ((((a : Int) : Int).toNat &&& (1 : Int).toNat : Nat) : Int) = 1) (ob : ((((b : Int) : Int).toNat &&& (1 : Int).toNat : Nat) : Int) = 1) :
    Calls Try.prog 7 [.int .i64 (n : Int), .int .i64 (a : Int), .int .i64 (b : Int)].toArray w fun e w' => e = .returned (.bool (true)) ∧ Below w.heap.size w w' := by
  have hpw := pow_small hn2
  have hpp := Nat.two_pow_pos n
  refine enter (N := 97) Try.func7 rfl rfl rfl ?_
  refine g_seq ?_
  refine g_region ?_
  refine s_y (y_assign rfl) rfl rfl rfl rfl ?_
  refine s_nil ?_
  refine g_then ?_
  refine g_seq ?_
  refine g_seq ?_
  refine g_region ?_
  refine s_y (y_move rfl) rfl rfl rfl rfl ?_
  refine s_y (y_move rfl) rfl rfl rfl rfl ?_
  refine s_tr (t_call rfl rfl ent_29 (fun w h => by have h_ := Rhythm_any w (n : Int) (a : Int) (by omega); rwa [show rhB (n : Int) (a : Int) = true from decide_eq_true ⟨by omega, by omega, by omega, by exact_mod_cast ha, oa⟩] at h_)) rfl rfl rfl rfl (fun _ _ => ?_)
  refine s_y (y_not_t rfl) rfl rfl rfl rfl ?_
  refine s_y (y_move rfl) rfl rfl rfl rfl ?_
  refine s_y (y_move rfl) rfl rfl rfl rfl ?_
  refine s_y (y_move rfl) rfl rfl rfl rfl ?_
  refine s_tr (t_call rfl rfl ent_29 (fun w h => by have h_ := Rhythm_any w (n : Int) (b : Int) (by omega); rwa [show rhB (n : Int) (b : Int) = true from decide_eq_true ⟨by omega, by omega, by omega, by exact_mod_cast hb, ob⟩] at h_)) rfl rfl rfl rfl (fun _ _ => ?_)
  refine s_y (y_not_t rfl) rfl rfl rfl rfl ?_
  refine s_y (y_pick_f rfl rfl) rfl rfl rfl rfl ?_
  refine s_y (y_move rfl) rfl rfl rfl rfl ?_
  refine s_y (y_move rfl) rfl rfl rfl rfl ?_
  refine s_y (y_gtr_f rfl rfl (by omega)) rfl rfl rfl rfl ?_
  refine s_y (y_pick_f rfl rfl) rfl rfl rfl rfl ?_
  refine s_nil ?_
  refine g_then ?_
  refine g_cond_f rfl ?_
  refine g_skip ?_
  refine g_then ?_
  refine g_seq ?_
  refine g_region ?_
  refine s_y (y_move rfl) rfl rfl rfl rfl ?_
  refine s_y (y_move rfl) rfl rfl rfl rfl ?_
  refine s_tr (t_callm rfl rfl ent_31 (fun w h => Chord_ok w n (a : Int) hn hn2 (by omega) (by exact_mod_cast ha))) rfl rfl rfl rfl (fun x2 hx3 => ?_)
  obtain ⟨vo1, mo1⟩ := x2
  obtain ⟨hOo1, hEo1⟩ := hx3
  refine s_y (y_move rfl) rfl rfl rfl rfl ?_
  refine s_y (y_extract rfl rfl) rfl rfl rfl rfl ?_
  refine s_y (y_extract rfl rfl) rfl rfl rfl rfl ?_
  refine s_y (y_assign rfl) rfl rfl rfl rfl ?_
  refine s_y (y_assign rfl) rfl rfl rfl rfl ?_
  refine s_nil ?_
  refine g_then ?_
  refine g_seq ?_
  refine g_region ?_
  refine s_y (y_move rfl) rfl rfl rfl rfl ?_
  refine s_y (y_move rfl) rfl rfl rfl rfl ?_
  refine s_tr (t_callm rfl rfl ent_31 (fun w h => Chord_ok w n (b : Int) hn hn2 (by omega) (by exact_mod_cast hb))) rfl rfl rfl rfl (fun x5 hx6 => ?_)
  obtain ⟨vo4, mo4⟩ := x5
  obtain ⟨hOo4, hEo4⟩ := hx6
  refine s_y (y_move rfl) rfl rfl rfl rfl ?_
  refine s_y (y_extract rfl rfl) rfl rfl rfl rfl ?_
  refine s_y (y_extract rfl rfl) rfl rfl rfl rfl ?_
  refine s_y (y_assign rfl) rfl rfl rfl rfl ?_
  refine s_y (y_assign rfl) rfl rfl rfl rfl ?_
  refine s_nil ?_
  refine g_then ?_
  refine g_seq ?_
  refine g_seq ?_
  refine g_region ?_
  refine s_y (y_move rfl) rfl rfl rfl rfl ?_
  refine s_y (y_neq_f rfl rfl (by decide)) rfl rfl rfl rfl ?_
  refine s_y (y_move rfl) rfl rfl rfl rfl ?_
  refine s_y (y_move rfl) rfl rfl rfl rfl ?_
  refine s_y (y_neq_f rfl rfl (by decide)) rfl rfl rfl rfl ?_
  refine s_y (y_pick_f rfl rfl) rfl rfl rfl rfl ?_
  refine s_nil ?_
  refine g_then ?_
  refine g_cond_f rfl ?_
  refine g_skip ?_
  refine g_then ?_
  refine g_seq ?_
  refine g_region ?_
  refine s_y (y_move rfl) rfl rfl rfl rfl ?_
  refine s_y (y_move rfl) rfl rfl rfl rfl ?_
  refine s_y (y_move rfl) rfl rfl rfl rfl ?_
  refine s_tr (t_callm (A := New _ _) rfl rfl ent_32 (fun w h => (Times_ok w n _ _ (chL n (a : Int)) (chL n (b : Int)) (hOo1.rd fun p hp => h.at_ p (mem_ar mo4 (mem_al mo1 hp))) (hOo4.rd fun p hp => h.at_ p (mem_al mo4 hp)) hn hn2 (chL_ok hn hn2) (chL_ok hn hn2)).mono fun e w' ⟨b, h1, h2⟩ => ⟨b, ⟨Nat.le_trans h.below.size (h2.ge _ (List.mem_cons_self ..)), Nat.le_trans h.size (h2.ge _ (List.mem_cons_self ..))⟩, h1, h2⟩)) rfl rfl rfl rfl (fun bt hbt => ?_)
  refine s_y (y_move rfl) rfl rfl rfl rfl ?_
  refine s_y (y_extract rfl rfl) rfl rfl rfl rfl ?_
  refine s_y (y_extract rfl rfl) rfl rfl rfl rfl ?_
  refine s_y (y_assign rfl) rfl rfl rfl rfl ?_
  refine s_y (y_assign rfl) rfl rfl rfl rfl ?_
  refine s_nil ?_
  refine g_then ?_
  refine g_seq ?_
  refine g_region ?_
  refine s_y (y_move rfl) rfl rfl rfl rfl ?_
  refine s_y (y_move rfl) rfl rfl rfl rfl ?_
  refine s_y (y_move rfl) rfl rfl rfl rfl ?_
  refine s_tr (t_call rfl rfl ent_33 (fun w h => Tiles_ok w n a b hn hn2 ha hb oa ob)) rfl rfl rfl rfl (fun _ _ => ?_)
  refine s_y (y_move rfl) rfl rfl rfl rfl ?_
  refine s_y (y_extract rfl rfl) rfl rfl rfl rfl ?_
  refine s_y (y_extract rfl rfl) rfl rfl rfl rfl ?_
  refine s_y (y_assign rfl) rfl rfl rfl rfl ?_
  refine s_y (y_assign rfl) rfl rfl rfl rfl ?_
  refine s_nil ?_
  refine g_then ?_
  refine g_seq ?_
  refine g_region ?_
  refine s_y (y_assign rfl) rfl rfl rfl rfl ?_
  refine s_nil ?_
  refine g_then ?_
  refine g_seq ?_
  refine g_seq ?_
  have htl : (timL (qOf n) n (chL n (a : Int)) (chL n (b : Int))).length = n := timL_len
  refine g_region ?_
  refine s_y (y_move rfl) rfl rfl rfl rfl ?_
  refine s_y (y_lensl rfl sle_27) rfl rfl rfl rfl ?_
  refine s_y (y_move rfl) rfl rfl rfl rfl ?_
  refine s_nil ?_
  refine g_then ?_
  refine g_block ?_
  refine g_loop (fun (i : Nat) act W => i ≤ n ∧ ∃ (on : Bool) (w1 : World), (on = oneF (timL (qOf n) n (chL n (a : Int)) (chL n (b : Int))) i) ∧ Has 97 [] [(0, .int .i64 (n : Int)), (6, .bool false), (11, .slice (some ⟨bt, 0, none⟩) n n), (12, .int .i64 0), (13, .bool (tileB n a b)), (14, .int .i64 0), (15, .bool on), (65, .slice (some ⟨bt, 0, none⟩) n n), (66, .int .i64 (n : Nat)), (67, .int .i64 (i : Int))] act ∧ Hp w w1 ((bt, .cells ((timL (qOf n) n (chL n (a : Int)) (chL n (b : Int))).map (Value.int .i64) ++ []).toArray 3 (0, 0)) :: (mo4 ++ ((mo1 ++ ([]))))) W) (fun i => n - i) 0 (fun act W ha hw => ⟨by omega, true, W, (by rfl), ha.weak (sub_get ⟨rfl, rfl, rfl, rfl, rfl, rfl, rfl, rfl, rfl, rfl, trivial⟩), hw.toHq.lookSub (List.Sublist.refl _)⟩) ?_
  intro i act W ⟨hb_i, on, w1, hon, ha, hw⟩
  refine g_go ha hw ?_
  clear ha hw act W
  refine g_seq ?_
  refine g_region ?_
  refine s_y (y_lss rfl rfl) rfl rfl rfl rfl ?_
  refine s_nil ?_
  refine g_then ?_
  refine g_seq ?_
  refine g_cond rfl (fun cq7 => ?_) (fun cq7 => ?_)
  · (try simp at cq7)
    refine g_skip ?_
    refine g_then ?_
    refine g_seq ?_
    refine g_block ?_
    refine g_seq ?_
    refine g_region ?_
    refine s_y (y_idxb1 rfl rfl Try.underlying27 size_3 (by omega) (by omega)) rfl rfl rfl rfl ?_
    refine s_y (y_ldL (enc := (Value.int .i64)) (xs := timL (qOf n) n (chL n (a : Int)) (chL n (b : Int))) (jk := []) 0 rfl rfl agg_3 (rdI_at (by omega) (by omega))) rfl rfl rfl rfl ?_
    refine s_y (y_assign rfl) rfl rfl rfl rfl ?_
    refine s_nil ?_
    refine g_then ?_
    refine g_region ?_
    refine s_y (y_move rfl) rfl rfl rfl rfl ?_
    refine s_y (y_move rfl) rfl rfl rfl rfl ?_
    refine g_bool 72 rfl (fun cq8 => ?_) (fun cq8 => ?_)
    · (try simp at cq8)
      refine s_y (y_move rfl) rfl rfl rfl rfl ?_
      refine s_y (y_eql rfl rfl) rfl rfl rfl rfl ?_
      refine s_y (y_pick_t rfl rfl) rfl rfl rfl rfl ?_
      refine s_y (y_assign rfl) rfl rfl rfl rfl ?_
      refine s_nil ?_
      refine g_inb ?_
      refine g_then ?_
      refine g_region ?_
      refine s_y (y_add rfl rfl (by omega) (by omega)) rfl rfl rfl rfl ?_
      refine s_y (y_move rfl) rfl rfl rfl rfl ?_
      refine s_nil ?_
      refine g_then ?_
      exact fun act W ha hw => ⟨i + 1, by omega, by omega, (decide ((rdI (timL (qOf n) n (chL n (a : Int)) (chL n (b : Int))) (i : Int)) = 1)), W, (by simp only [oneF]; rw [← hon]; simp_all), ha.weak (sub_get ⟨rfl, rfl, rfl, rfl, rfl, rfl, rfl, rfl, rfl, rfl, trivial⟩), hw.toHq.lookSub (List.Sublist.refl _)⟩
    · (try simp at cq8)
      refine s_no rfl rfl rfl ?_
      refine s_no rfl rfl rfl ?_
      refine s_y (y_pick_f rfl rfl) rfl rfl rfl rfl ?_
      refine s_y (y_assign rfl) rfl rfl rfl rfl ?_
      refine s_nil ?_
      refine g_inb ?_
      refine g_then ?_
      refine g_region ?_
      refine s_y (y_add rfl rfl (by omega) (by omega)) rfl rfl rfl rfl ?_
      refine s_y (y_move rfl) rfl rfl rfl rfl ?_
      refine s_nil ?_
      refine g_then ?_
      exact fun act W ha hw => ⟨i + 1, by omega, by omega, (false), W, (by simp only [oneF]; rw [← hon]; simp_all), ha.weak (sub_get ⟨rfl, rfl, rfl, rfl, rfl, rfl, rfl, rfl, rfl, rfl, trivial⟩), hw.toHq.lookSub (List.Sublist.refl _)⟩
  · (try simp at cq7)
    refine g_exit ?_
    refine g_thenx ?_
    refine g_thenx ?_
    refine g_inbx ?_
    refine g_then ?_
    refine g_seq ?_
    refine g_region ?_
    refine s_y (y_move rfl) rfl rfl rfl rfl ?_
    refine s_y (y_eql_t rfl rfl (by decide)) rfl rfl rfl rfl ?_
    refine s_y (y_move rfl) rfl rfl rfl rfl ?_
    refine s_y (y_move rfl) rfl rfl rfl rfl ?_
    refine s_y (y_eql_t rfl rfl (by decide)) rfl rfl rfl rfl ?_
    refine s_y (y_pick_t rfl rfl) rfl rfl rfl rfl ?_
    refine s_y (y_move rfl) rfl rfl rfl rfl ?_
    refine s_y (y_move rfl) rfl rfl rfl rfl ?_
    refine s_y (y_lensl rfl sle_27) rfl rfl rfl rfl ?_
    refine s_y (y_move rfl) rfl rfl rfl rfl ?_
    refine s_y (y_eql_t rfl rfl (by omega)) rfl rfl rfl rfl ?_
    refine s_y (y_pick_t rfl rfl) rfl rfl rfl rfl ?_
    refine s_y (y_move rfl) rfl rfl rfl rfl ?_
    refine s_y (y_move rfl) rfl rfl rfl rfl ?_
    refine s_y (y_move rfl) rfl rfl rfl rfl ?_
    refine s_y (y_beql_t rfl rfl Try.underlying4 (by rw [hon, show i = n by omega]; exact prod_tile hn hn2 ha hb)) rfl rfl rfl rfl ?_
    refine s_y (y_pick_t rfl rfl) rfl rfl rfl rfl ?_
    refine s_y (y_move rfl) rfl rfl rfl rfl ?_
    refine s_tr (t_call rfl rfl ent_30 (fun w h => turns_t w)) rfl rfl rfl rfl (fun _ _ => ?_)
    refine s_y (y_pick_t rfl rfl) rfl rfl rfl rfl ?_
    refine s_y (y_assign rfl) rfl rfl rfl rfl ?_
    refine s_nil ?_
    refine g_then ?_
    refine g_ret ?_
    exact g_end trivial (fun a w ha hq_ => res1 ha rfl rfl  w) (fun w h => ⟨rfl, h.below⟩)

theorem TopProduct_no (w : World) (n a b : Int) (ha : a ≤ 9223372036854775807) (hb : b ≤ 9223372036854775807) (hno : ¬ (rhB n a = true ∧ rhB n b = true ∧ n ≤ 16)) :
    Calls Try.prog 7 [.int .i64 n, .int .i64 a, .int .i64 b].toArray w fun e w' => e = .returned (.bool (true)) ∧ Below w.heap.size w w' := by
  refine enter (N := 97) Try.func7 rfl rfl rfl ?_
  refine g_seq ?_
  refine g_region ?_
  refine s_y (y_assign rfl) rfl rfl rfl rfl ?_
  refine s_nil ?_
  refine g_then ?_
  refine g_seq ?_
  refine g_seq ?_
  refine g_region ?_
  refine s_y (y_move rfl) rfl rfl rfl rfl ?_
  refine s_y (y_move rfl) rfl rfl rfl rfl ?_
  refine s_tr (t_call rfl rfl ent_29 (fun w h => Rhythm_any w n a (by omega))) rfl rfl rfl rfl (fun _ _ => ?_)
  refine s_y (y_not rfl) rfl rfl rfl rfl ?_
  refine s_y (y_move rfl) rfl rfl rfl rfl ?_
  refine g_bool 22 rfl (fun cq1 => ?_) (fun cq1 => ?_)
  · (try simp at cq1)
    refine s_no rfl rfl rfl ?_
    refine s_no rfl rfl rfl ?_
    refine s_no rfl rfl rfl ?_
    refine s_no rfl rfl rfl ?_
    refine s_y (y_pick_t rfl rfl) rfl rfl rfl rfl ?_
    refine s_y (y_move rfl) rfl rfl rfl rfl ?_
    refine s_no rfl rfl rfl ?_
    refine s_no rfl rfl rfl ?_
    refine s_y (y_pick_t rfl rfl) rfl rfl rfl rfl ?_
    refine s_nil ?_
    refine g_then ?_
    refine g_cond_t rfl ?_
    refine g_seq ?_
    refine g_region ?_
    refine s_tr (t_call rfl rfl ent_30 (fun w h => turns_t w)) rfl rfl rfl rfl (fun _ _ => ?_)
    refine s_y (y_assign rfl) rfl rfl rfl rfl ?_
    refine s_nil ?_
    refine g_then ?_
    refine g_ret ?_
    refine g_thenr ?_
    exact g_end trivial (fun a w ha hq_ => res1 ha rfl rfl  w) (fun w h => ⟨rfl, h.below⟩)
  · (try simp at cq1)
    refine s_y (y_move rfl) rfl rfl rfl rfl ?_
    refine s_y (y_move rfl) rfl rfl rfl rfl ?_
    refine s_tr (t_call rfl rfl ent_29 (fun w h => Rhythm_any w n b (by omega))) rfl rfl rfl rfl (fun _ _ => ?_)
    refine s_y (y_not rfl) rfl rfl rfl rfl ?_
    refine s_y (y_pick_f rfl rfl) rfl rfl rfl rfl ?_
    refine s_y (y_move rfl) rfl rfl rfl rfl ?_
    refine g_bool 28 rfl (fun cq2 => ?_) (fun cq2 => ?_)
    · (try simp at cq2)
      refine s_no rfl rfl rfl ?_
      refine s_no rfl rfl rfl ?_
      refine s_y (y_pick_t rfl rfl) rfl rfl rfl rfl ?_
      refine s_nil ?_
      refine g_then ?_
      refine g_cond_t rfl ?_
      refine g_seq ?_
      refine g_region ?_
      refine s_tr (t_call rfl rfl ent_30 (fun w h => turns_t w)) rfl rfl rfl rfl (fun _ _ => ?_)
      refine s_y (y_assign rfl) rfl rfl rfl rfl ?_
      refine s_nil ?_
      refine g_then ?_
      refine g_ret ?_
      refine g_thenr ?_
      exact g_end trivial (fun a w ha hq_ => res1 ha rfl rfl  w) (fun w h => ⟨rfl, h.below⟩)
    · (try simp at cq2)
      refine s_y (y_move rfl) rfl rfl rfl rfl ?_
      refine s_y (y_gtr rfl rfl) rfl rfl rfl rfl ?_
      refine s_y (y_pick_f rfl rfl) rfl rfl rfl rfl ?_
      refine s_nil ?_
      refine g_then ?_
      refine g_cond rfl (fun cq3 => ?_) (fun cq3 => ?_)
      · (try simp at cq3)
        refine g_seq ?_
        refine g_region ?_
        refine s_tr (t_call rfl rfl ent_30 (fun w h => turns_t w)) rfl rfl rfl rfl (fun _ _ => ?_)
        refine s_y (y_assign rfl) rfl rfl rfl rfl ?_
        refine s_nil ?_
        refine g_then ?_
        refine g_ret ?_
        refine g_thenr ?_
        exact g_end trivial (fun a w ha hq_ => res1 ha rfl rfl  w) (fun w h => ⟨rfl, h.below⟩)
      · (try simp at cq3)
        exact absurd ⟨by simp_all, by simp_all, by omega⟩ hno

theorem wf_hi {x : Int} (h : (Lit.int .i64 x).wf = true) : -9223372036854775808 ≤ x ∧ x ≤ 9223372036854775807 := by
  have e1 : IntKind.i64.min = -9223372036854775808 := rfl
  have e2 : IntKind.i64.max = 9223372036854775807 := rfl
  unfold Lit.wf at h
  simp at h
  omega
theorem TopProduct_law (w : World) (n a b : Int) (_ : (Lit.int .i64 n).wf = true) (ha : (Lit.int .i64 a).wf = true) (hb : (Lit.int .i64 b).wf = true) : Calls Try.prog 7 [.int .i64 n, .int .i64 a, .int .i64 b].toArray w fun e w' => e = .returned (.bool (true)) ∧ Below w.heap.size w w' := by
  by_cases h : rhB n a = true ∧ rhB n b = true ∧ n ≤ 16
  · obtain ⟨h1, h2, h3⟩ := h
    obtain ⟨p1, p2, p3, p4, p5⟩ := of_decide_eq_true h1
    obtain ⟨q1, q2, q3, q4, q5⟩ := of_decide_eq_true h2
    obtain ⟨m, rfl⟩ := Int.eq_ofNat_of_zero_le (show 0 ≤ n by omega)
    obtain ⟨x, rfl⟩ := Int.eq_ofNat_of_zero_le p3
    obtain ⟨y, rfl⟩ := Int.eq_ofNat_of_zero_le q3
    exact TopProduct_ok w m x y (by omega) (by omega) (by exact_mod_cast p4) (by exact_mod_cast q4) p5 q5
  · exact TopProduct_no w n a b (wf_hi ha).2 (wf_hi hb).2 h

end Go.Proofs.Ytnhflahgbkmloaa
