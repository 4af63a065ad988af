/- top: the number of a set's bits; whether a row has a number of a sort. -/
import Derived.Test.YtnhflahgbkmloaaProg
import Derived.Test.YtnhflahgbkmloaaTpOnes
namespace Go.Proofs.Ytnhflahgbkmloaa
open Go.RowKit Go.Sx Go.Wh Go.Dft
set_option linter.unusedVariables false
set_option linter.unusedSimpArgs false
set_option maxRecDepth 100000
set_option maxHeartbeats 4000000

private theorem ent_88 : Enters Try.prog 88 := enters_of Try.func88 (by kernel_rfl) rfl
private theorem ent_68 : Enters Try.prog 68 := enters_of Try.func68 (by kernel_rfl) rfl
private theorem sle_27 : Try.prog.underlying 27 = some (.slice (Try.prog.elem 27)) := by kernel_rfl
private theorem size_3 : (Try.prog.info? 3).map (·.size) = some 1 := by kernel_rfl
private theorem agg_3 : isAggB Try.prog 3 = some false := by kernel_rfl
private theorem ent_82 : Enters Try.prog 82 := enters_of Try.func82 (by kernel_rfl) rfl

theorem shr_le (a b : Nat) : a >>> b ≤ a := by rw [Nat.shiftRight_eq_div_pow]; exact Nat.div_le_self _ _

theorem OnesCount64_any (w : World) (x : Nat) (hx : x < 65536) :
    Calls Try.prog 88 [.int .u64 (x : Int)].toArray w fun e w' => e = .returned (.int .i64 ((bs 16 x : Nat))) ∧ Below w.heap.size w w' := by
  obtain ⟨hA, hB, hC, hD, hE, hF⟩ := ones_small hx
  have m1 : x >>> 1 &&& 6148914691236517205 ≤ x >>> 1 := Nat.and_le_left
  have m2 : x &&& 6148914691236517205 ≤ x := Nat.and_le_left
  have m3 : oA x >>> 2 &&& 3689348814741910323 ≤ oA x >>> 2 := Nat.and_le_left
  have m4 : oA x &&& 3689348814741910323 ≤ oA x := Nat.and_le_left
  have r1 := shr_le x 1
  have r2 := shr_le (oA x) 2
  have r4 := shr_le (oB x) 4
  have r8 := shr_le (oC x) 8
  have r16 := shr_le (oD x) 16
  have r32 := shr_le (oE x) 32
  refine enter (N := 35) Try.func88 rfl rfl rfl ?_
  refine g_seq ?_
  refine g_region ?_
  refine s_y (y_assign rfl) rfl rfl rfl rfl ?_
  refine s_nil ?_
  refine g_then ?_
  refine g_seq ?_
  refine g_region ?_
  refine s_y (y_move rfl) rfl rfl rfl rfl ?_
  refine s_y (y_shrU x 1 rfl rfl (by decide) (by omega)) rfl rfl rfl rfl ?_
  refine s_y (y_andU (x >>> 1) 6148914691236517205 rfl rfl (by omega) (by decide)) rfl rfl rfl rfl ?_
  refine s_y (y_move rfl) rfl rfl rfl rfl ?_
  refine s_y (y_andU x 6148914691236517205 rfl rfl (by omega) (by decide)) rfl rfl rfl rfl ?_
  refine s_y (y_addU ((x >>> 1) &&& 6148914691236517205) (x &&& 6148914691236517205) rfl rfl (by omega)) rfl rfl rfl rfl ?_
  rw [show (((x >>> 1) &&& 6148914691236517205) + (x &&& 6148914691236517205) : Nat) = oA x from rfl]
  refine s_y (y_assign rfl) rfl rfl rfl rfl ?_
  refine s_nil ?_
  refine g_then ?_
  refine g_seq ?_
  refine g_region ?_
  refine s_y (y_move rfl) rfl rfl rfl rfl ?_
  refine s_y (y_shrU (oA x) 2 rfl rfl (by decide) (by omega)) rfl rfl rfl rfl ?_
  refine s_y (y_andU ((oA x) >>> 2) 3689348814741910323 rfl rfl (by omega) (by decide)) rfl rfl rfl rfl ?_
  refine s_y (y_move rfl) rfl rfl rfl rfl ?_
  refine s_y (y_andU (oA x) 3689348814741910323 rfl rfl (by omega) (by decide)) rfl rfl rfl rfl ?_
  refine s_y (y_addU (((oA x) >>> 2) &&& 3689348814741910323) ((oA x) &&& 3689348814741910323) rfl rfl (by omega)) rfl rfl rfl rfl ?_
  rw [show ((((oA x) >>> 2) &&& 3689348814741910323) + ((oA x) &&& 3689348814741910323) : Nat) = oB x from rfl]
  refine s_y (y_assign rfl) rfl rfl rfl rfl ?_
  refine s_nil ?_
  refine g_then ?_
  refine g_seq ?_
  refine g_region ?_
  refine s_y (y_move rfl) rfl rfl rfl rfl ?_
  refine s_y (y_shrU (oB x) 4 rfl rfl (by decide) (by omega)) rfl rfl rfl rfl ?_
  refine s_y (y_move rfl) rfl rfl rfl rfl ?_
  refine s_y (y_addU ((oB x) >>> 4) (oB x) rfl rfl (by omega)) rfl rfl rfl rfl ?_
  refine s_y (y_andU (((oB x) >>> 4) + (oB x)) 1085102592571150095 rfl rfl (by omega) (by decide)) rfl rfl rfl rfl ?_
  rw [show ((((oB x) >>> 4) + (oB x)) &&& 1085102592571150095 : Nat) = oC x from rfl]
  refine s_y (y_assign rfl) rfl rfl rfl rfl ?_
  refine s_nil ?_
  refine g_then ?_
  refine g_seq ?_
  refine g_region ?_
  refine s_y (y_move rfl) rfl rfl rfl rfl ?_
  refine s_y (y_move rfl) rfl rfl rfl rfl ?_
  refine s_y (y_shrU (oC x) 8 rfl rfl (by decide) (by omega)) rfl rfl rfl rfl ?_
  refine s_y (y_addU (oC x) ((oC x) >>> 8) rfl rfl (by omega)) rfl rfl rfl rfl ?_
  rw [show ((oC x) + ((oC x) >>> 8) : Nat) = oD x from rfl]
  refine s_y (y_assign rfl) rfl rfl rfl rfl ?_
  refine s_nil ?_
  refine g_then ?_
  refine g_seq ?_
  refine g_region ?_
  refine s_y (y_move rfl) rfl rfl rfl rfl ?_
  refine s_y (y_move rfl) rfl rfl rfl rfl ?_
  refine s_y (y_shrU (oD x) 16 rfl rfl (by decide) (by omega)) rfl rfl rfl rfl ?_
  refine s_y (y_addU (oD x) ((oD x) >>> 16) rfl rfl (by omega)) rfl rfl rfl rfl ?_
  rw [show ((oD x) + ((oD x) >>> 16) : Nat) = oE x from rfl]
  refine s_y (y_assign rfl) rfl rfl rfl rfl ?_
  refine s_nil ?_
  refine g_then ?_
  refine g_seq ?_
  refine g_region ?_
  refine s_y (y_move rfl) rfl rfl rfl rfl ?_
  refine s_y (y_move rfl) rfl rfl rfl rfl ?_
  refine s_y (y_shrU (oE x) 32 rfl rfl (by decide) (by omega)) rfl rfl rfl rfl ?_
  refine s_y (y_addU (oE x) ((oE x) >>> 32) rfl rfl (by omega)) rfl rfl rfl rfl ?_
  rw [show ((oE x) + ((oE x) >>> 32) : Nat) = oF x from rfl]
  refine s_y (y_assign rfl) rfl rfl rfl rfl ?_
  refine s_nil ?_
  refine g_then ?_
  refine g_seq ?_
  refine g_region ?_
  refine s_y (y_move rfl) rfl rfl rfl rfl ?_
  refine s_y (y_conv rfl (by kernel_rfl) Try.underlying3 (conv_eq trivial (by omega) (by omega))) rfl rfl rfl rfl ?_
  refine s_y (y_and rfl rfl (by omega) (by omega)) rfl rfl rfl rfl ?_
  refine s_y (y_assign rfl) rfl rfl rfl rfl ?_
  refine s_nil ?_
  refine g_then ?_
  refine g_ret ?_
  rw [show ((bs 16 x : Nat) : Int) = ((((oF x : Nat) : Int) : Int).toNat &&& (127 : Int).toNat : Nat) from by rw [Int.toNat_natCast, ← ones_bs hx]; rfl]
  exact g_end trivial (fun a w ha hq_ => res1 ha rfl rfl  w) (fun w h => ⟨rfl, h.below⟩)

theorem OnesCount_any (w : World) (x : Nat) (hx : x < 65536) :
    Calls Try.prog 68 [.int .u64 (x : Int)].toArray w fun e w' => e = .returned (.int .i64 ((bs 16 x : Nat))) ∧ Below w.heap.size w w' := by
  refine enter (N := 8) Try.func68 rfl rfl rfl ?_
  refine g_seq ?_
  refine g_region ?_
  refine s_y (y_assign rfl) rfl rfl rfl rfl ?_
  refine s_nil ?_
  refine g_then ?_
  refine g_seq ?_
  refine g_cond_f rfl ?_
  refine g_skip ?_
  refine g_then ?_
  refine g_seq ?_
  refine g_region ?_
  refine s_y (y_move rfl) rfl rfl rfl rfl ?_
  refine s_tr (t_call rfl rfl ent_88 (fun w h => OnesCount64_any w x hx)) rfl rfl rfl rfl (fun _ _ => ?_)
  refine s_y (y_assign rfl) rfl rfl rfl rfl ?_
  refine s_nil ?_
  refine g_then ?_
  refine g_ret ?_
  exact g_end trivial (fun a w ha hq_ => res1 ha rfl rfl  w) (fun w h => ⟨rfl, h.below⟩)

theorem canon_count (w : World) (x : Nat) (hx : x < 65536) :
    Calls Try.prog 79 [.int .i64 (x : Int)].toArray w fun e w' => e = .returned (.int .i64 ((bs 16 x : Nat))) ∧ Below w.heap.size w w' := by
  refine enter (N := 6) Try.func79 rfl rfl rfl ?_
  refine g_seq ?_
  refine g_region ?_
  refine s_y (y_assign rfl) rfl rfl rfl rfl ?_
  refine s_nil ?_
  refine g_then ?_
  refine g_seq ?_
  refine g_region ?_
  refine s_y (y_move rfl) rfl rfl rfl rfl ?_
  refine s_y (y_conv rfl (by kernel_rfl) Try.underlying31 (u64_nat (by omega))) rfl rfl rfl rfl ?_
  refine s_tr (t_call rfl rfl ent_68 (fun w h => OnesCount_any w x hx)) rfl rfl rfl rfl (fun _ _ => ?_)
  refine s_y (y_assign rfl) rfl rfl rfl rfl ?_
  refine s_nil ?_
  refine g_then ?_
  refine g_ret ?_
  exact g_end trivial (fun a w ha hq_ => res1 ha rfl rfl  w) (fun w h => ⟨rfl, h.below⟩)

theorem chords_count (w : World) (x : Nat) (hx : x < 65536) :
    Calls Try.prog 46 [.int .i64 (x : Int)].toArray w fun e w' => e = .returned (.int .i64 ((bs 16 x : Nat))) ∧ Below w.heap.size w w' := by
  refine enter (N := 6) Try.func46 rfl rfl rfl ?_
  refine g_seq ?_
  refine g_region ?_
  refine s_y (y_assign rfl) rfl rfl rfl rfl ?_
  refine s_nil ?_
  refine g_then ?_
  refine g_seq ?_
  refine g_region ?_
  refine s_y (y_move rfl) rfl rfl rfl rfl ?_
  refine s_y (y_conv rfl (by kernel_rfl) Try.underlying31 (u64_nat (by omega))) rfl rfl rfl rfl ?_
  refine s_tr (t_call rfl rfl ent_68 (fun w h => OnesCount_any w x hx)) rfl rfl rfl rfl (fun _ _ => ?_)
  refine s_y (y_assign rfl) rfl rfl rfl rfl ?_
  refine s_nil ?_
  refine g_then ?_
  refine g_ret ?_
  exact g_end trivial (fun a w ha hq_ => res1 ha rfl rfl  w) (fun w h => ⟨rfl, h.below⟩)

def ixP (p : Int → Bool) (vs : List Int) : Int := match vs.findIdx? p with
  | some i => i
  | none => -1
theorem ixP_some {p : Int → Bool} {vs : List Int} {i : Nat} (hi : i < vs.length) (h : p (rdI vs (i : Int)) = true) (hno : ∀ j : Nat, j < i → p (rdI vs (j : Int)) = false) : ixP p vs = i := by
  have e : ∀ j : Nat, (hj : j < vs.length) → vs[j] = rdI vs (j : Int) := fun j hj => by simp [rdI, List.getD_eq_getElem?_getD, hj]
  have : vs.findIdx? p = some i := by
    rw [List.findIdx?_eq_some_iff_getElem]
    refine ⟨hi, by rw [e i hi]; exact h, fun j hj => ?_⟩
    rw [e j (by omega), hno j hj]; decide
  simp [ixP, this]
theorem ixP_none {p : Int → Bool} {vs : List Int} (hno : ∀ j : Nat, j < vs.length → p (rdI vs (j : Int)) = false) : ixP p vs = -1 := by
  have : vs.findIdx? p = none := by
    rw [List.findIdx?_eq_none_iff]
    intro x hx
    obtain ⟨j, hj, rfl⟩ := List.getElem_of_mem hx
    have := hno j hj
    simpa [rdI, List.getD_eq_getElem?_getD, hj] using this
  simp [ixP, this]
theorem ixP_any {p : Int → Bool} {vs : List Int} : decide (ixP p vs ≥ 0) = vs.any p := by
  unfold ixP
  cases h : vs.findIdx? p with
  | some i =>
    obtain ⟨hi, hp, _⟩ := List.findIdx?_eq_some_iff_getElem.1 h
    have : vs.any p = true := List.any_eq_true.2 ⟨vs[i], List.getElem_mem hi, hp⟩
    rw [this]; simp
  | none =>
    have := List.findIdx?_eq_none_iff.1 h
    have : vs.any p = false := List.any_eq_false.2 fun x hx => by rw [this x hx]; decide
    rw [this]; decide

theorem IndexFunc_any (w : World) (v : Value) (xs : List Int) (hv : RdV (Value.int .i64) w v xs) (hlen : xs.length ≤ 1000) (g : Nat) (cap : List Value) (p : Int → Bool) (he : Enters Try.prog g)
    (hp : ∀ (x : Int) (W : World), x ∈ xs → Below w.heap.size w W → Calls Try.prog g (.int .i64 x :: cap).toArray W fun e W' => e = .returned (.bool (p x)) ∧ Below W.heap.size W W') :
    Calls Try.prog 82 [v, .func (.func g) #[] cap.toArray].toArray w fun e w' => e = .returned (.int .i64 (ixP p xs)) ∧ Below w.heap.size w w' := by
  refine enter (N := 19) Try.func82 rfl rfl rfl ?_
  refine g_seq ?_
  refine g_region ?_
  refine s_y (y_assign rfl) rfl rfl rfl rfl ?_
  refine s_nil ?_
  refine g_then ?_
  refine g_seq ?_
  refine g_seq ?_
  refine g_region ?_
  refine s_y (y_move rfl) rfl rfl rfl rfl ?_
  refine s_y (y_lenV (n := xs.length) rfl (by obtain ⟨A, c, h1, _⟩ := hv; exact ⟨A, c, h1⟩) sle_27) rfl rfl rfl rfl ?_
  refine s_y (y_move rfl) rfl rfl rfl rfl ?_
  refine s_nil ?_
  refine g_then ?_
  refine g_block ?_
  refine g_loop (fun (i : Nat) act W => (i ≤ xs.length ∧ ∀ j : Nat, j < i → p (rdI xs (j : Int)) = false) ∧ ∃ (w1 : World), Has 19 [] [(0, v), (1, .func (.func g) #[] cap.toArray), (7, .int .i64 (xs.length : Nat)), (8, .int .i64 (i : Int))] act ∧ Hp w w1 ([]) W) (fun i => xs.length - i) 0 (fun act W ha hw => ⟨⟨by omega, fun j hj => by omega⟩, W, ha.weak (sub_get ⟨rfl, rfl, rfl, rfl, trivial⟩), hw.toHq.lookSub (List.Sublist.refl _)⟩) ?_
  intro i act W ⟨hb_i, w1, ha, hw⟩
  refine g_go ha hw ?_
  clear ha hw act W
  refine g_seq ?_
  refine g_region ?_
  refine s_y (y_lss rfl rfl) rfl rfl rfl rfl ?_
  refine s_nil ?_
  refine g_then ?_
  refine g_seq ?_
  refine g_cond rfl (fun cq1 => ?_) (fun cq1 => ?_)
  · (try simp at cq1)
    refine g_skip ?_
    refine g_then ?_
    refine g_seq ?_
    refine g_block ?_
    refine g_seq ?_
    refine g_region ?_
    refine s_y (y_move rfl) rfl rfl rfl rfl ?_
    refine s_y (y_assign rfl) rfl rfl rfl rfl ?_
    refine s_nil ?_
    refine g_then ?_
    refine g_seq ?_
    refine g_region ?_
    refine s_y (y_move rfl) rfl rfl rfl rfl ?_
    refine s_y (y_move rfl) rfl rfl rfl rfl ?_
    refine s_y (y_move rfl) rfl rfl rfl rfl ?_
    refine s_y (y_idxV (enc := (Value.int .i64)) rfl rfl hv Try.underlying27 size_3 (by omega) (by omega)) rfl rfl rfl rfl ?_
    refine s_y (y_ldV (enc := (Value.int .i64)) (xs := xs) (fun w h => hv.rdl.below h.below) rfl agg_3 (rdI_at (by omega) (by omega))) rfl rfl rfl rfl ?_
    refine s_tr (t_callc rfl rfl he (fun w h => hp (rdI xs (i : Int)) w (rdI_mem (by omega) (by omega)) h.below)) rfl rfl rfl rfl (fun _ _ => ?_)
    refine s_nil ?_
    refine g_then ?_
    refine g_cond rfl (fun cq2 => ?_) (fun cq2 => ?_)
    · (try simp at cq2)
      refine g_seq ?_
      refine g_region ?_
      refine s_y (y_move rfl) rfl rfl rfl rfl ?_
      refine s_y (y_assign rfl) rfl rfl rfl rfl ?_
      refine s_nil ?_
      refine g_then ?_
      refine g_ret ?_
      refine g_inbr ?_
      refine g_thenr ?_
      refine g_thenr ?_
      refine g_inbr ?_
      refine g_thenr ?_
      rw [ixP_some (i := i) (by omega) (by assumption) hb_i.2]
      exact g_end trivial (fun a w ha hq_ => res1 ha rfl rfl  w) (fun w h => ⟨rfl, h.below⟩)
    · (try simp at cq2)
      refine g_skip ?_
      refine g_inb ?_
      refine g_then ?_
      refine g_region ?_
      refine s_y (y_add rfl rfl (by omega) (by omega)) rfl rfl rfl rfl ?_
      refine s_y (y_move rfl) rfl rfl rfl rfl ?_
      refine s_nil ?_
      refine g_then ?_
      have hno : ∀ j : Nat, j < i + 1 → p (rdI xs (j : Int)) = false := by
        intro j hj
        rcases Nat.lt_or_ge j i with h | h
        · exact hb_i.2 j h
        · have : j = i := by omega
          subst this; assumption
      exact fun act W ha hw => ⟨i + 1, by omega, ⟨by omega, hno⟩, W, ha.weak (sub_get ⟨rfl, rfl, rfl, rfl, trivial⟩), hw.toHq.lookSub (List.Sublist.refl _)⟩
  · (try simp at cq1)
    refine g_exit ?_
    refine g_thenx ?_
    refine g_thenx ?_
    refine g_inbx ?_
    refine g_then ?_
    refine g_seq ?_
    refine g_region ?_
    refine s_y (y_assign rfl) rfl rfl rfl rfl ?_
    refine s_nil ?_
    refine g_then ?_
    refine g_ret ?_
    rw [ixP_none (fun j hj => hb_i.2 j (by omega))]
    exact g_end trivial (fun a w ha hq_ => res1 ha rfl rfl  w) (fun w h => ⟨rfl, h.below⟩)

theorem ContainsFunc_any (w : World) (v : Value) (xs : List Int) (hv : RdV (Value.int .i64) w v xs) (hlen : xs.length ≤ 1000) (g : Nat) (cap : List Value) (p : Int → Bool) (he : Enters Try.prog g)
    (hp : ∀ (x : Int) (W : World), x ∈ xs → Below w.heap.size w W → Calls Try.prog g (.int .i64 x :: cap).toArray W fun e W' => e = .returned (.bool (p x)) ∧ Below W.heap.size W W') :
    Calls Try.prog 59 [v, .func (.func g) #[] cap.toArray].toArray w fun e w' => e = .returned (.bool (xs.any p)) ∧ Below w.heap.size w w' := by
  refine enter (N := 9) Try.func59 rfl rfl rfl ?_
  refine g_seq ?_
  refine g_region ?_
  refine s_y (y_assign rfl) rfl rfl rfl rfl ?_
  refine s_nil ?_
  refine g_then ?_
  refine g_seq ?_
  refine g_region ?_
  refine s_y (y_move rfl) rfl rfl rfl rfl ?_
  refine s_y (y_move rfl) rfl rfl rfl rfl ?_
  refine s_tr (t_call rfl rfl ent_82 (fun w h => IndexFunc_any w v xs (hv.below h.below) hlen g cap p he (fun v W hv hb => hp v W hv (h.below.trans (hb.mono h.below.size))))) rfl rfl rfl rfl (fun _ _ => ?_)
  refine s_y (y_geq rfl rfl) rfl rfl rfl rfl ?_
  refine s_y (y_assign rfl) rfl rfl rfl rfl ?_
  refine s_nil ?_
  refine g_then ?_
  refine g_ret ?_
  rw [← ixP_any]
  exact g_end trivial (fun a w ha hq_ => res1 ha rfl rfl  w) (fun w h => ⟨rfl, h.below⟩)

end Go.Proofs.Ytnhflahgbkmloaa
