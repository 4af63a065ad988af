-- Printed by a program of this session out of the translation, with functions that this session has walked itself. Lean checks it.
import Derived.Test.YtnnpdgegejklpaaPEditsChecksx0
import Derived.Test.YtnnpdgegejklpaaPEditsChecksx1
import Derived.Test.YtnnpdgegejklpaaPEditsChecksx2
import Derived.Test.YtnnpdgegejklpaaPEditsChecksx4
namespace Go.Proofs.Ytnnpdgegejklpaa.PEditsChecks
open Go.RowKit Go.Proofs.YtnnpdgegejklpaaW.PrintWords Go.Proofs.YtnnpdgegejklpaaW.PrintLast Go.Proofs.YtnnpdgegejklpaaW.PrintMore
attribute [local go_sem] max2_int min2_int max_two min_two max_three min_three max_four min_four   -- for this text's walks alone
set_option linter.unusedVariables false
set_option linter.unusedSimpArgs false

/-! ### sackbutlaw09_EditsChecks: function 9 -/
mutual
def sackbutlaw09_EditsChecks.j0 : Nat → ByteArray → List (S104) → ByteArray → Int → ByteArray → Bool → Option (Bool)
  | 0, _, _, _, _, _, _ => none
  | k + 1, x0, x3, x12, x13, x14, x16 => (sackbutref09_Line.f x0).bind fun t174 => (if t174 = true then (sackbutlaw09_EditsChecks.j1 k x12 x13 x14 x16 (decide ((x3.length : Int) > 24))) else (sackbutlaw09_EditsChecks.j1 k x12 x13 x14 x16 true))
def sackbutlaw09_EditsChecks.j1 : Nat → ByteArray → Int → ByteArray → Bool → Bool → Option (Bool)
  | 0, _, _, _, _, _ => none
  | k + 1, x12, x13, x14, x16, x100 => if x100 = true then (if x12.toList = ([] : List UInt8) then (if x13 = 2 then ((sackbutlaw09_awake.f).bind fun t175 => (some t175)) else (some false)) else (some false)) else (if x16 = true then (if x12.toList = x14.toList then (if x13 = 0 then ((sackbutlaw09_awake.f).bind fun t176 => (some t176)) else (some false)) else (some false)) else (if x12.toList = ([] : List UInt8) then (if x13 = 4 then ((sackbutlaw09_awake.f).bind fun t177 => (some t177)) else (some false)) else (some false)))
end
def sackbutlaw09_EditsChecks.f (k : Nat) (a0 : ByteArray) (a1 : ByteArray) (a2_0 : Int) (a2_1 : Int) (a2_2 : Int) (l3 : List (S104)) : Option (Bool) := if (l3.length : Int) > 40 then ((sackbutlaw09_awake.f).bind fun t152 => (some t152)) else ((sackbutlaw09_text.f a0).bind fun t153 => ((sackbutlaw09_text.f a1).bind fun t154 => ((sackbutlaw09_Of.f a2_0 a2_1 a2_2).bind fun bt155 => ((sackbutlaw09_script.f k l3).bind fun t158 => ((edits_Check.f k t153 t154 bt155.1 bt155.2.1 bt155.2.2 t158).bind fun bt161 => ((sackbutlaw09_text.f a0).bind fun t164 => ((sackbutlaw09_script.f k l3).bind fun t165 => ((edits_Apply.f k t164 t165).bind fun bt168 => ((sackbutref09_Done.f k a0 a2_0 a2_1 a2_2 l3).bind fun bt170 => ((sackbutlaw09_fine.f a0 a1 a2_0 a2_1 a2_2).bind fun t173 => (if t173 = true then (if bt170.2.2 = true then (if (bt161.2.1 != (bt170.1.toList == a1.toList)) = true then (some false) else (if bt161.2.2 = 0 then (if bt170.1.toList = a1.toList then (if bt161.1 = bt170.2.1 then (sackbutlaw09_EditsChecks.j0 k a0 l3 bt168.1 bt168.2 bt170.1 bt170.2.2) else (some false)) else (if bt161.1 = 0 then (sackbutlaw09_EditsChecks.j0 k a0 l3 bt168.1 bt168.2 bt170.1 bt170.2.2) else (some false))) else (some false))) else (if (bt161.2.1 != false) = true then (some false) else (if bt161.2.2 = 0 then (if bt161.1 = 0 then (sackbutlaw09_EditsChecks.j0 k a0 l3 bt168.1 bt168.2 bt170.1 bt170.2.2) else (some false)) else (some false)))) else (if bt161.1 = 0 then (if bt161.2.1 = true then (some false) else (if bt161.2.2 = 2 then (sackbutlaw09_EditsChecks.j0 k a0 l3 bt168.1 bt168.2 bt170.1 bt170.2.2) else (some false))) else (some false)))))))))))))
theorem sackbutlaw09_EditsChecks.mono_l : ∀ k, (∀ y0 y1 y2 y3 y4 y5, LeO (sackbutlaw09_EditsChecks.j0 k y0 y1 y2 y3 y4 y5) (sackbutlaw09_EditsChecks.j0 (k + 1) y0 y1 y2 y3 y4 y5)) ∧ (∀ y0 y1 y2 y3 y4, LeO (sackbutlaw09_EditsChecks.j1 k y0 y1 y2 y3 y4) (sackbutlaw09_EditsChecks.j1 (k + 1) y0 y1 y2 y3 y4))
  | 0 => ⟨fun _ _ _ _ _ _ r h => by simp [sackbutlaw09_EditsChecks.j0] at h, fun _ _ _ _ _ r h => by simp [sackbutlaw09_EditsChecks.j1] at h⟩
  | k + 1 => by
    obtain ⟨ih0, ih1⟩ := sackbutlaw09_EditsChecks.mono_l k
    refine ⟨?_, ?_⟩
    · intro y0 y1 y2 y3 y4 y5
      unfold sackbutlaw09_EditsChecks.j0
      repeat' first
      | (with_reducible exact ih0 _ _ _ _ _ _)
      | (with_reducible exact ih1 _ _ _ _ _)
      | (with_reducible exact edits_Apply.mono _ _ _)
      | (with_reducible exact edits_Check.mono _ _ _ _ _ _ _)
      | (with_reducible exact sackbutlaw09_script.mono _ _)
      | (with_reducible exact sackbutref09_Done.mono _ _ _ _ _ _)
      | (with_reducible exact LeO.refl _)
      | (with_reducible exact LeO.none _)
      | (with_reducible refine LeO.ite ?_ ?_)
      | (with_reducible refine LeO.bind ?_ (fun _ => ?_))
      | exact ih0 _ _ _ _ _ _
      | exact ih1 _ _ _ _ _
      | exact edits_Apply.mono _ _ _
      | exact edits_Check.mono _ _ _ _ _ _ _
      | exact sackbutlaw09_script.mono _ _
      | exact sackbutref09_Done.mono _ _ _ _ _ _
      | exact LeO.none _
      | refine LeO.ite ?_ ?_
      | refine LeO.bind ?_ (fun _ => ?_)
    · intro y0 y1 y2 y3 y4
      unfold sackbutlaw09_EditsChecks.j1
      repeat' first
      | (with_reducible exact ih0 _ _ _ _ _ _)
      | (with_reducible exact ih1 _ _ _ _ _)
      | (with_reducible exact edits_Apply.mono _ _ _)
      | (with_reducible exact edits_Check.mono _ _ _ _ _ _ _)
      | (with_reducible exact sackbutlaw09_script.mono _ _)
      | (with_reducible exact sackbutref09_Done.mono _ _ _ _ _ _)
      | (with_reducible exact LeO.refl _)
      | (with_reducible exact LeO.none _)
      | (with_reducible refine LeO.ite ?_ ?_)
      | (with_reducible refine LeO.bind ?_ (fun _ => ?_))
      | exact ih0 _ _ _ _ _ _
      | exact ih1 _ _ _ _ _
      | exact edits_Apply.mono _ _ _
      | exact edits_Check.mono _ _ _ _ _ _ _
      | exact sackbutlaw09_script.mono _ _
      | exact sackbutref09_Done.mono _ _ _ _ _ _
      | exact LeO.none _
      | refine LeO.ite ?_ ?_
      | refine LeO.bind ?_ (fun _ => ?_)
theorem sackbutlaw09_EditsChecks.mono : ∀ a0 a1 a2 a3 a4 a5 k, LeO (sackbutlaw09_EditsChecks.f k a0 a1 a2 a3 a4 a5) (sackbutlaw09_EditsChecks.f (k + 1) a0 a1 a2 a3 a4 a5) := by
  intro a0 a1 a2 a3 a4 a5 k
  obtain ⟨ih0, ih1⟩ := sackbutlaw09_EditsChecks.mono_l k
  unfold sackbutlaw09_EditsChecks.f
  repeat' first
      | (with_reducible exact ih0 _ _ _ _ _ _)
      | (with_reducible exact ih1 _ _ _ _ _)
      | (with_reducible exact edits_Apply.mono _ _ _)
      | (with_reducible exact edits_Check.mono _ _ _ _ _ _ _)
      | (with_reducible exact sackbutlaw09_script.mono _ _)
      | (with_reducible exact sackbutref09_Done.mono _ _ _ _ _ _)
      | (with_reducible exact LeO.refl _)
      | (with_reducible exact LeO.none _)
      | (with_reducible refine LeO.ite ?_ ?_)
      | (with_reducible refine LeO.bind ?_ (fun _ => ?_))
      | exact ih0 _ _ _ _ _ _
      | exact ih1 _ _ _ _ _
      | exact edits_Apply.mono _ _ _
      | exact edits_Check.mono _ _ _ _ _ _ _
      | exact sackbutlaw09_script.mono _ _
      | exact sackbutref09_Done.mono _ _ _ _ _ _
      | exact LeO.none _
      | refine LeO.ite ?_ ?_
      | refine LeO.bind ?_ (fun _ => ?_)
def sackbutlaw09_EditsChecks.T3 : Bool × List (List Nat × List Nat) := (true, [([], []), ([0], [0]), ([], []), ([2, 1], [2]), ([], []), ([4, 3], [4]), ([], []), ([6, 5], [6]), ([1, 3, 5, 7, 7], [1, 3, 5, 7]), ([8], [8]), ([9], [9]), ([9], [9]), ([9], [9]), ([10, 8, 0, 1, 2, 3, 4, 5, 6, 7, 8, 9, 10], [10]), ([11, 13, 0, 1, 2, 3, 4, 5, 6, 7, 8, 9, 10, 11, 13], [11]), ([12, 14, 0, 1, 2, 3, 4, 5, 6, 7, 8, 9, 10, 11, 12, 13, 14], [12])])
def sackbutlaw09_EditsChecks.B3 : List Nat := [0, 1, 0, 7, 0, 31, 0, 127, 255, 511, 1023, 1023, 1023, 2047, 12287, 32767]
theorem sackbutlaw09_EditsChecks.tab3 : rtab .any (opsOf Try.f9 3) = sackbutlaw09_EditsChecks.T3 := by kernel_rfl
theorem sackbutlaw09_EditsChecks.bits3 : waitsOk sackbutlaw09_EditsChecks.T3.2 sackbutlaw09_EditsChecks.B3 = true := by kernel_rfl
set_option maxHeartbeats 8000000 in
set_option maxRecDepth 100000 in
theorem sackbutlaw09_EditsChecks.calls (k : Nat) (a0 : ByteArray) (a1 : ByteArray) (a2_0 : Int) (a2_1 : Int) (a2_2 : Int) (A3 : Option Addr) (c3 : Nat) (l3 : List (S104)) (r : Bool) (w : World) (hr3 : Kd.C k104 w A3 l3.length l3) (hc3 : l3.length ≤ c3) (h : sackbutlaw09_EditsChecks.f k a0 a1 a2_0 a2_1 a2_2 l3 = some r) :
    Calls Try.prog 9 #[.string a0, .string a1, .agg #[.int .i64 a2_0, .int .i64 a2_1, .int .i64 a2_2], .slice A3 l3.length c3] w fun e w' => e = .returned (.bool r) ∧ Below w.heap.size w w' := by
  have hu23 := Try.underlying23
  have HR3 := Aside0.mk hr3
  have HC3 := Aside0.mk hc3
  clear hr3 hc3
  have HB := Aside0.mk (Below.refl w.heap.size w)
  have H : (if (l3.length : Int) > 40 then ((sackbutlaw09_awake.f).bind fun t152 => (some t152)) else ((sackbutlaw09_text.f a0).bind fun t153 => ((sackbutlaw09_text.f a1).bind fun t154 => ((sackbutlaw09_Of.f a2_0 a2_1 a2_2).bind fun bt155 => ((sackbutlaw09_script.f k l3).bind fun t158 => ((edits_Check.f k t153 t154 bt155.1 bt155.2.1 bt155.2.2 t158).bind fun bt161 => ((sackbutlaw09_text.f a0).bind fun t164 => ((sackbutlaw09_script.f k l3).bind fun t165 => ((edits_Apply.f k t164 t165).bind fun bt168 => ((sackbutref09_Done.f k a0 a2_0 a2_1 a2_2 l3).bind fun bt170 => ((sackbutlaw09_fine.f a0 a1 a2_0 a2_1 a2_2).bind fun t173 => (if t173 = true then (if bt170.2.2 = true then (if (bt161.2.1 != (bt170.1.toList == a1.toList)) = true then (some false) else (if bt161.2.2 = 0 then (if bt170.1.toList = a1.toList then (if bt161.1 = bt170.2.1 then (sackbutlaw09_EditsChecks.j0 k a0 l3 bt168.1 bt168.2 bt170.1 bt170.2.2) else (some false)) else (if bt161.1 = 0 then (sackbutlaw09_EditsChecks.j0 k a0 l3 bt168.1 bt168.2 bt170.1 bt170.2.2) else (some false))) else (some false))) else (if (bt161.2.1 != false) = true then (some false) else (if bt161.2.2 = 0 then (if bt161.1 = 0 then (sackbutlaw09_EditsChecks.j0 k a0 l3 bt168.1 bt168.2 bt170.1 bt170.2.2) else (some false)) else (some false)))) else (if bt161.1 = 0 then (if bt161.2.1 = true then (some false) else (if bt161.2.2 = 2 then (sackbutlaw09_EditsChecks.j0 k a0 l3 bt168.1 bt168.2 bt170.1 bt170.2.2) else (some false))) else (some false)))))))))))))) = some r := h
  clear h
  by_cases c5 : (l3.length : Int) > 40
  · rw [if_pos c5] at H
    have c5b0 : decide (40 < (l3.length : Int)) = true := decide_eq_true c5
    have c5b1 : decide (40 < l3.length) = true := decide_eq_true (by omega)
    clear c5
    replace H := Option.bind_eq_some_iff.mp H
    obtain ⟨t152, A60, H⟩ := H
    replace H : (some t152) = some r := H
    have A6 := Aside0.mk A60
    clear A60
    obtain rfl := Option.some.inj H
    go_enter Try.func9, Try.ntmps9
    go_wp2_with (first | ((with_reducible refine gate_dst (N := 6) rfl ?_); (try (refine gate_guard (by rfl) ?_; dsimp only)); refine box_event ?hg (N := 6) ?hd (cs := #[.int .i64 a2_0, .int .i64 a2_1, .int .i64 a2_2]) (t := 23) ?hr ?_; (case hd => rfl); (case hg => rfl); (case hr => first | (go_simp; done) | (go_simp; rfl)); intro gb151 hg w7 hbox hb; have n0_ := Aside0.mk (below_step (by repeat (first | (with_reducible first | exact HB.out | apply below_alloc | apply pw_below_drewN | apply below_drew1) | exact HB.out)) hb); have n1_ := Aside0.mk (hbox); have n2_ := Aside0.mk ((by rw [hg]; exact (below_size (by repeat (first | (with_reducible first | exact HB.out | apply below_alloc | apply pw_below_drewN | apply below_drew1) | exact HB.out))) : w.heap.size ≤ gb151)); have n3_ := Aside0.mk ((by rw [hg]; exact (below_size (by repeat (first | (with_reducible first | exact HB.out | apply below_alloc | apply pw_below_drewN | apply below_drew1) | exact HB.out))) : w.heap.size ≤ gb151)); clear HB; have HB := n0_; have BK151 := n1_; have GW151 := n2_; have GE151 := n3_; clear n0_ n1_ n2_ n3_; clear hb hbox hg) | ((with_reducible refine gate_callee (f := 22) rfl ?_); refine goesL_ (some 21) rfl rfl Try.func22 (by kernel_rfl) rfl #[] rfl (by (try simp only [List.map_toArray, List.map_cons, List.map_nil]); first | done | rfl | (simp only [List.length_drop, List.length_take]; rfl)) ?_; (with_reducible refine (sackbutlaw09_awake.calls  t152 _ A6.out).mono ?_); rintro e w8 ⟨rfl, hb⟩; refine ⟨_, rfl, ?_⟩; have n0_ := Aside0.mk (blk_below (g := gb151) (o := .cells #[.int .i64 a2_0, .int .i64 a2_1, .int .i64 a2_2] 23 (0, 0)) (by (with_reducible repeat (first | refine blk_drewN ?_ _ | refine blk_drew ?_ | refine blk_alloc ?_ _)); exact BK151.out) hb); have n1_ := Aside0.mk (below_step (by repeat (first | (with_reducible first | exact HB.out | apply below_alloc | apply pw_below_drewN | apply below_drew1 | refine below_set ?_ GE151.out) | exact HB.out)) hb); clear BK151; clear HB; have BK151 := n0_; have HB := n1_; clear n0_ n1_; (try clear hb); (try clear hb2); (try clear hk); (try clear hi)))
    go_ret
    exact ⟨by first | rfl | (simp [errW_none, errW_some] <;> rfl) | (simp [*, errW_none, errW_some] <;> rfl), by repeat (first | (with_reducible first | exact HB.out | apply below_alloc | apply pw_below_drewN | apply below_drew1 | refine below_set ?_ GE151.out) | exact HB.out)⟩
  · rw [if_neg c5] at H
    have c5b0 : decide (40 < (l3.length : Int)) = false := decide_eq_false c5
    have c5b1 : decide (40 < l3.length) = false := decide_eq_false (by omega)
    clear c5
    replace H := Option.bind_eq_some_iff.mp H
    obtain ⟨t153, A90, H⟩ := H
    replace H : ((sackbutlaw09_text.f a1).bind fun t154 => ((sackbutlaw09_Of.f a2_0 a2_1 a2_2).bind fun bt155 => ((sackbutlaw09_script.f k l3).bind fun t158 => ((edits_Check.f k t153 t154 bt155.1 bt155.2.1 bt155.2.2 t158).bind fun bt161 => ((sackbutlaw09_text.f a0).bind fun t164 => ((sackbutlaw09_script.f k l3).bind fun t165 => ((edits_Apply.f k t164 t165).bind fun bt168 => ((sackbutref09_Done.f k a0 a2_0 a2_1 a2_2 l3).bind fun bt170 => ((sackbutlaw09_fine.f a0 a1 a2_0 a2_1 a2_2).bind fun t173 => (if t173 = true then (if bt170.2.2 = true then (if (bt161.2.1 != (bt170.1.toList == a1.toList)) = true then (some false) else (if bt161.2.2 = 0 then (if bt170.1.toList = a1.toList then (if bt161.1 = bt170.2.1 then (sackbutlaw09_EditsChecks.j0 k a0 l3 bt168.1 bt168.2 bt170.1 bt170.2.2) else (some false)) else (if bt161.1 = 0 then (sackbutlaw09_EditsChecks.j0 k a0 l3 bt168.1 bt168.2 bt170.1 bt170.2.2) else (some false))) else (some false))) else (if (bt161.2.1 != false) = true then (some false) else (if bt161.2.2 = 0 then (if bt161.1 = 0 then (sackbutlaw09_EditsChecks.j0 k a0 l3 bt168.1 bt168.2 bt170.1 bt170.2.2) else (some false)) else (some false)))) else (if bt161.1 = 0 then (if bt161.2.1 = true then (some false) else (if bt161.2.2 = 2 then (sackbutlaw09_EditsChecks.j0 k a0 l3 bt168.1 bt168.2 bt170.1 bt170.2.2) else (some false))) else (some false)))))))))))) = some r := H
    have A9 := Aside0.mk A90
    clear A90
    replace H := Option.bind_eq_some_iff.mp H
    obtain ⟨t154, A100, H⟩ := H
    replace H : ((sackbutlaw09_Of.f a2_0 a2_1 a2_2).bind fun bt155 => ((sackbutlaw09_script.f k l3).bind fun t158 => ((edits_Check.f k t153 t154 bt155.1 bt155.2.1 bt155.2.2 t158).bind fun bt161 => ((sackbutlaw09_text.f a0).bind fun t164 => ((sackbutlaw09_script.f k l3).bind fun t165 => ((edits_Apply.f k t164 t165).bind fun bt168 => ((sackbutref09_Done.f k a0 a2_0 a2_1 a2_2 l3).bind fun bt170 => ((sackbutlaw09_fine.f a0 a1 a2_0 a2_1 a2_2).bind fun t173 => (if t173 = true then (if bt170.2.2 = true then (if (bt161.2.1 != (bt170.1.toList == a1.toList)) = true then (some false) else (if bt161.2.2 = 0 then (if bt170.1.toList = a1.toList then (if bt161.1 = bt170.2.1 then (sackbutlaw09_EditsChecks.j0 k a0 l3 bt168.1 bt168.2 bt170.1 bt170.2.2) else (some false)) else (if bt161.1 = 0 then (sackbutlaw09_EditsChecks.j0 k a0 l3 bt168.1 bt168.2 bt170.1 bt170.2.2) else (some false))) else (some false))) else (if (bt161.2.1 != false) = true then (some false) else (if bt161.2.2 = 0 then (if bt161.1 = 0 then (sackbutlaw09_EditsChecks.j0 k a0 l3 bt168.1 bt168.2 bt170.1 bt170.2.2) else (some false)) else (some false)))) else (if bt161.1 = 0 then (if bt161.2.1 = true then (some false) else (if bt161.2.2 = 2 then (sackbutlaw09_EditsChecks.j0 k a0 l3 bt168.1 bt168.2 bt170.1 bt170.2.2) else (some false))) else (some false))))))))))) = some r := H
    have A10 := Aside0.mk A100
    clear A100
    replace H := Option.bind_eq_some_iff.mp H
    obtain ⟨⟨t155, t156, t157⟩, A110, H⟩ := H
    replace H : ((sackbutlaw09_script.f k l3).bind fun t158 => ((edits_Check.f k t153 t154 t155 t156 t157 t158).bind fun bt161 => ((sackbutlaw09_text.f a0).bind fun t164 => ((sackbutlaw09_script.f k l3).bind fun t165 => ((edits_Apply.f k t164 t165).bind fun bt168 => ((sackbutref09_Done.f k a0 a2_0 a2_1 a2_2 l3).bind fun bt170 => ((sackbutlaw09_fine.f a0 a1 a2_0 a2_1 a2_2).bind fun t173 => (if t173 = true then (if bt170.2.2 = true then (if (bt161.2.1 != (bt170.1.toList == a1.toList)) = true then (some false) else (if bt161.2.2 = 0 then (if bt170.1.toList = a1.toList then (if bt161.1 = bt170.2.1 then (sackbutlaw09_EditsChecks.j0 k a0 l3 bt168.1 bt168.2 bt170.1 bt170.2.2) else (some false)) else (if bt161.1 = 0 then (sackbutlaw09_EditsChecks.j0 k a0 l3 bt168.1 bt168.2 bt170.1 bt170.2.2) else (some false))) else (some false))) else (if (bt161.2.1 != false) = true then (some false) else (if bt161.2.2 = 0 then (if bt161.1 = 0 then (sackbutlaw09_EditsChecks.j0 k a0 l3 bt168.1 bt168.2 bt170.1 bt170.2.2) else (some false)) else (some false)))) else (if bt161.1 = 0 then (if bt161.2.1 = true then (some false) else (if bt161.2.2 = 2 then (sackbutlaw09_EditsChecks.j0 k a0 l3 bt168.1 bt168.2 bt170.1 bt170.2.2) else (some false))) else (some false)))))))))) = some r := H
    have A11 := Aside0.mk A110
    clear A110
    replace H := Option.bind_eq_some_iff.mp H
    obtain ⟨t158, A120, H⟩ := H
    replace H : ((edits_Check.f k t153 t154 t155 t156 t157 t158).bind fun bt161 => ((sackbutlaw09_text.f a0).bind fun t164 => ((sackbutlaw09_script.f k l3).bind fun t165 => ((edits_Apply.f k t164 t165).bind fun bt168 => ((sackbutref09_Done.f k a0 a2_0 a2_1 a2_2 l3).bind fun bt170 => ((sackbutlaw09_fine.f a0 a1 a2_0 a2_1 a2_2).bind fun t173 => (if t173 = true then (if bt170.2.2 = true then (if (bt161.2.1 != (bt170.1.toList == a1.toList)) = true then (some false) else (if bt161.2.2 = 0 then (if bt170.1.toList = a1.toList then (if bt161.1 = bt170.2.1 then (sackbutlaw09_EditsChecks.j0 k a0 l3 bt168.1 bt168.2 bt170.1 bt170.2.2) else (some false)) else (if bt161.1 = 0 then (sackbutlaw09_EditsChecks.j0 k a0 l3 bt168.1 bt168.2 bt170.1 bt170.2.2) else (some false))) else (some false))) else (if (bt161.2.1 != false) = true then (some false) else (if bt161.2.2 = 0 then (if bt161.1 = 0 then (sackbutlaw09_EditsChecks.j0 k a0 l3 bt168.1 bt168.2 bt170.1 bt170.2.2) else (some false)) else (some false)))) else (if bt161.1 = 0 then (if bt161.2.1 = true then (some false) else (if bt161.2.2 = 2 then (sackbutlaw09_EditsChecks.j0 k a0 l3 bt168.1 bt168.2 bt170.1 bt170.2.2) else (some false))) else (some false))))))))) = some r := H
    have A12 := Aside0.mk A120
    clear A120
    replace H := Option.bind_eq_some_iff.mp H
    obtain ⟨⟨t161, t162, t163⟩, A130, H⟩ := H
    replace H : ((sackbutlaw09_text.f a0).bind fun t164 => ((sackbutlaw09_script.f k l3).bind fun t165 => ((edits_Apply.f k t164 t165).bind fun bt168 => ((sackbutref09_Done.f k a0 a2_0 a2_1 a2_2 l3).bind fun bt170 => ((sackbutlaw09_fine.f a0 a1 a2_0 a2_1 a2_2).bind fun t173 => (if t173 = true then (if bt170.2.2 = true then (if (t162 != (bt170.1.toList == a1.toList)) = true then (some false) else (if t163 = 0 then (if bt170.1.toList = a1.toList then (if t161 = bt170.2.1 then (sackbutlaw09_EditsChecks.j0 k a0 l3 bt168.1 bt168.2 bt170.1 bt170.2.2) else (some false)) else (if t161 = 0 then (sackbutlaw09_EditsChecks.j0 k a0 l3 bt168.1 bt168.2 bt170.1 bt170.2.2) else (some false))) else (some false))) else (if (t162 != false) = true then (some false) else (if t163 = 0 then (if t161 = 0 then (sackbutlaw09_EditsChecks.j0 k a0 l3 bt168.1 bt168.2 bt170.1 bt170.2.2) else (some false)) else (some false)))) else (if t161 = 0 then (if t162 = true then (some false) else (if t163 = 2 then (sackbutlaw09_EditsChecks.j0 k a0 l3 bt168.1 bt168.2 bt170.1 bt170.2.2) else (some false))) else (some false)))))))) = some r := H
    have A13 := Aside0.mk A130
    clear A130
    replace H := Option.bind_eq_some_iff.mp H
    obtain ⟨t164, A140, H⟩ := H
    replace H : ((sackbutlaw09_script.f k l3).bind fun t165 => ((edits_Apply.f k t164 t165).bind fun bt168 => ((sackbutref09_Done.f k a0 a2_0 a2_1 a2_2 l3).bind fun bt170 => ((sackbutlaw09_fine.f a0 a1 a2_0 a2_1 a2_2).bind fun t173 => (if t173 = true then (if bt170.2.2 = true then (if (t162 != (bt170.1.toList == a1.toList)) = true then (some false) else (if t163 = 0 then (if bt170.1.toList = a1.toList then (if t161 = bt170.2.1 then (sackbutlaw09_EditsChecks.j0 k a0 l3 bt168.1 bt168.2 bt170.1 bt170.2.2) else (some false)) else (if t161 = 0 then (sackbutlaw09_EditsChecks.j0 k a0 l3 bt168.1 bt168.2 bt170.1 bt170.2.2) else (some false))) else (some false))) else (if (t162 != false) = true then (some false) else (if t163 = 0 then (if t161 = 0 then (sackbutlaw09_EditsChecks.j0 k a0 l3 bt168.1 bt168.2 bt170.1 bt170.2.2) else (some false)) else (some false)))) else (if t161 = 0 then (if t162 = true then (some false) else (if t163 = 2 then (sackbutlaw09_EditsChecks.j0 k a0 l3 bt168.1 bt168.2 bt170.1 bt170.2.2) else (some false))) else (some false))))))) = some r := H
    have A14 := Aside0.mk A140
    clear A140
    replace H := Option.bind_eq_some_iff.mp H
    obtain ⟨t165, A150, H⟩ := H
    replace H : ((edits_Apply.f k t164 t165).bind fun bt168 => ((sackbutref09_Done.f k a0 a2_0 a2_1 a2_2 l3).bind fun bt170 => ((sackbutlaw09_fine.f a0 a1 a2_0 a2_1 a2_2).bind fun t173 => (if t173 = true then (if bt170.2.2 = true then (if (t162 != (bt170.1.toList == a1.toList)) = true then (some false) else (if t163 = 0 then (if bt170.1.toList = a1.toList then (if t161 = bt170.2.1 then (sackbutlaw09_EditsChecks.j0 k a0 l3 bt168.1 bt168.2 bt170.1 bt170.2.2) else (some false)) else (if t161 = 0 then (sackbutlaw09_EditsChecks.j0 k a0 l3 bt168.1 bt168.2 bt170.1 bt170.2.2) else (some false))) else (some false))) else (if (t162 != false) = true then (some false) else (if t163 = 0 then (if t161 = 0 then (sackbutlaw09_EditsChecks.j0 k a0 l3 bt168.1 bt168.2 bt170.1 bt170.2.2) else (some false)) else (some false)))) else (if t161 = 0 then (if t162 = true then (some false) else (if t163 = 2 then (sackbutlaw09_EditsChecks.j0 k a0 l3 bt168.1 bt168.2 bt170.1 bt170.2.2) else (some false))) else (some false)))))) = some r := H
    have A15 := Aside0.mk A150
    clear A150
    replace H := Option.bind_eq_some_iff.mp H
    obtain ⟨⟨t168, t169⟩, A160, H⟩ := H
    replace H : ((sackbutref09_Done.f k a0 a2_0 a2_1 a2_2 l3).bind fun bt170 => ((sackbutlaw09_fine.f a0 a1 a2_0 a2_1 a2_2).bind fun t173 => (if t173 = true then (if bt170.2.2 = true then (if (t162 != (bt170.1.toList == a1.toList)) = true then (some false) else (if t163 = 0 then (if bt170.1.toList = a1.toList then (if t161 = bt170.2.1 then (sackbutlaw09_EditsChecks.j0 k a0 l3 t168 t169 bt170.1 bt170.2.2) else (some false)) else (if t161 = 0 then (sackbutlaw09_EditsChecks.j0 k a0 l3 t168 t169 bt170.1 bt170.2.2) else (some false))) else (some false))) else (if (t162 != false) = true then (some false) else (if t163 = 0 then (if t161 = 0 then (sackbutlaw09_EditsChecks.j0 k a0 l3 t168 t169 bt170.1 bt170.2.2) else (some false)) else (some false)))) else (if t161 = 0 then (if t162 = true then (some false) else (if t163 = 2 then (sackbutlaw09_EditsChecks.j0 k a0 l3 t168 t169 bt170.1 bt170.2.2) else (some false))) else (some false))))) = some r := H
    have A16 := Aside0.mk A160
    clear A160
    replace H := Option.bind_eq_some_iff.mp H
    obtain ⟨⟨t170, t171, t172⟩, A170, H⟩ := H
    replace H : ((sackbutlaw09_fine.f a0 a1 a2_0 a2_1 a2_2).bind fun t173 => (if t173 = true then (if t172 = true then (if (t162 != (t170.toList == a1.toList)) = true then (some false) else (if t163 = 0 then (if t170.toList = a1.toList then (if t161 = t171 then (sackbutlaw09_EditsChecks.j0 k a0 l3 t168 t169 t170 t172) else (some false)) else (if t161 = 0 then (sackbutlaw09_EditsChecks.j0 k a0 l3 t168 t169 t170 t172) else (some false))) else (some false))) else (if (t162 != false) = true then (some false) else (if t163 = 0 then (if t161 = 0 then (sackbutlaw09_EditsChecks.j0 k a0 l3 t168 t169 t170 t172) else (some false)) else (some false)))) else (if t161 = 0 then (if t162 = true then (some false) else (if t163 = 2 then (sackbutlaw09_EditsChecks.j0 k a0 l3 t168 t169 t170 t172) else (some false))) else (some false)))) = some r := H
    have A17 := Aside0.mk A170
    clear A170
    replace H := Option.bind_eq_some_iff.mp H
    obtain ⟨t173, A180, H⟩ := H
    replace H : (if t173 = true then (if t172 = true then (if (t162 != (t170.toList == a1.toList)) = true then (some false) else (if t163 = 0 then (if t170.toList = a1.toList then (if t161 = t171 then (sackbutlaw09_EditsChecks.j0 k a0 l3 t168 t169 t170 t172) else (some false)) else (if t161 = 0 then (sackbutlaw09_EditsChecks.j0 k a0 l3 t168 t169 t170 t172) else (some false))) else (some false))) else (if (t162 != false) = true then (some false) else (if t163 = 0 then (if t161 = 0 then (sackbutlaw09_EditsChecks.j0 k a0 l3 t168 t169 t170 t172) else (some false)) else (some false)))) else (if t161 = 0 then (if t162 = true then (some false) else (if t163 = 2 then (sackbutlaw09_EditsChecks.j0 k a0 l3 t168 t169 t170 t172) else (some false))) else (some false))) = some r := H
    have A18 := Aside0.mk A180
    clear A180
    have HC19 := Aside0.mk H
    clear H
    go_enter Try.func9, Try.ntmps9
    try go_wp2_with (first | ((with_reducible refine gate_dst (N := 6) rfl ?_); (try (refine gate_guard (by rfl) ?_; dsimp only)); refine box_event ?hg (N := 6) ?hd (cs := #[.int .i64 a2_0, .int .i64 a2_1, .int .i64 a2_2]) (t := 23) ?hr ?_; (case hd => rfl); (case hg => rfl); (case hr => first | (go_simp; done) | (go_simp; rfl)); intro gb151 hg w20 hbox hb; have n0_ := Aside0.mk (below_step (by repeat (first | (with_reducible first | exact HB.out | apply below_alloc | apply pw_below_drewN | apply below_drew1) | exact HB.out)) hb); have n1_ := Aside0.mk (hbox); have n2_ := Aside0.mk ((by rw [hg]; exact (below_size (by repeat (first | (with_reducible first | exact HB.out | apply below_alloc | apply pw_below_drewN | apply below_drew1) | exact HB.out))) : w.heap.size ≤ gb151)); have n3_ := Aside0.mk ((by rw [hg]; exact (below_size (by repeat (first | (with_reducible first | exact HB.out | apply below_alloc | apply pw_below_drewN | apply below_drew1) | exact HB.out))) : w.heap.size ≤ gb151)); clear HB; have HB := n0_; have BK151 := n1_; have GW151 := n2_; have GE151 := n3_; clear n0_ n1_ n2_ n3_; clear hb hbox hg))
    have n0_ := Aside0.mk (blk_drew BK151.out)
    have n1_ := Aside0.mk (below_drew1 HB.out)
    clear BK151
    clear HB
    have BK151 := n0_
    have HB := n1_
    clear n0_ n1_
    refine start_ (n := 16) (S := fun w' => w'.cell? ⟨gb151, 0, none⟩ = some (.int .i64 a2_0) ∧ w'.cell? ⟨gb151, 1, none⟩ = some (.int .i64 a2_1) ∧ w'.cell? ⟨gb151, 2, none⟩ = some (.int .i64 a2_2)) (ds := []) #[false, false, false, false, false, false, false, false, false, false, false, false, false, false, false, false] (by kernel_rfl) rfl rfl ⟨(blk_cell BK151.out 0).trans rfl, (blk_cell BK151.out 1).trans rfl, (blk_cell BK151.out 2).trans rfl⟩ (fun hHeld => ?_); refine with_tabW sackbutlaw09_EditsChecks.tab3 sackbutlaw09_EditsChecks.bits3 (fun HT_ HW_ => ?_)
    generalize w20.drew = w21 at BK151 HB hHeld ⊢
    refine pure_ (i := 0) (N := some 23) (v := ?_) (a' := ?_) #[true, false, false, false, false, false, false, false, false, false, false, false, false, false, false, false] rfl rfl (any_of HT_.out (by kernel_rfl)) (fun _ _ _ h => h) (Or.inl ⟨by rfl, ?_⟩) ?_ ?_
    rotate_left
    · intro w'
      go_simp
      with_reducible rfl
    rotate_left
    · simp only [Act.put, List.setIfInBounds_toArray, List.set_cons_zero, List.set_cons_succ, i64_w, i32_w]
      rfl
    refine pure_ (i := 2) (N := some 25) (v := ?_) (a' := ?_) #[true, false, true, false, false, false, false, false, false, false, false, false, false, false, false, false] rfl rfl (any_of HT_.out (by kernel_rfl)) (fun _ _ _ h => h) (Or.inl ⟨by rfl, ?_⟩) ?_ ?_
    rotate_left
    · intro w'
      go_simp
      with_reducible rfl
    rotate_left
    · simp only [Act.put, List.setIfInBounds_toArray, List.set_cons_zero, List.set_cons_succ, i64_w, i32_w]
      rfl
    refine pure_ (i := 6) (N := some 29) (v := ?_) (a' := ?_) #[true, false, true, false, false, false, true, false, false, false, false, false, false, false, false, false] rfl rfl (any_of HT_.out (by kernel_rfl)) (fun _ _ _ h => h) (Or.inl ⟨by rfl, ?_⟩) ?_ ?_
    rotate_left
    · intro w'
      go_simp
      with_reducible rfl
    rotate_left
    · simp only [Act.put, List.setIfInBounds_toArray, List.set_cons_zero, List.set_cons_succ, i64_w, i32_w]
      rfl
    refine take_ (i := 4) (N := some 27) (v := ?_) (a' := ?_) #[true, false, true, false, true, false, true, false, false, false, false, false, false, false, false, false] rfl rfl (take_ofW HT_.out HW_.out (by kernel_rfl)) (fun _ _ _ h => h) (Or.inl ⟨by rfl, ?_⟩) hHeld ?_ ?_
    rotate_left
    · rintro w' ⟨s0, s1, s2⟩
      go_simp
      with_reducible rfl
    rotate_left
    · simp only [Act.put, List.setIfInBounds_toArray, List.set_cons_zero, List.set_cons_succ, i64_w, i32_w]
      rfl
    refine one_ (i := 1) (N := some 24) #[true, true, true, false, true, false, true, false, false, false, false, false, false, false, false, false] rfl rfl (one_of HT_.out (by kernel_rfl)) (by decide) (fun K hK => ?_)
    refine goes_ Try.func19 (by kernel_rfl) rfl #[.string a0] (by rfl) rfl rfl (by (try simp only [List.map_toArray, List.map_cons, List.map_nil]); first | done | rfl | (simp only [List.length_drop, List.length_take]; rfl)) ?_
    with_reducible refine (sackbutlaw09_text.calls a0 t153 _ A9.out).mono ?_
    rintro e w22 ⟨rfl, hb⟩
    refine ⟨_, rfl, ?_⟩
    have n0_ := Aside0.mk (blk_below (g := gb151) (o := .cells #[.int .i64 a2_0, .int .i64 a2_1, .int .i64 a2_2] 23 (0, 0)) (by (with_reducible repeat (first | refine blk_drewN ?_ _ | refine blk_drew ?_ | refine blk_alloc ?_ _)); exact BK151.out) hb)
    have n1_ := Aside0.mk (below_step (by repeat (first | (with_reducible first | exact HB.out | apply below_alloc | apply pw_below_drewN | apply below_drew1 | refine below_set ?_ GE151.out) | exact HB.out)) hb)
    clear BK151
    clear HB
    have BK151 := n0_
    have HB := n1_
    clear n0_ n1_
    (try clear hb)
    (try clear hb2)
    (try clear hk)
    (try clear hi)
    refine hK.out _ _ ⟨(blk_cell BK151.out 0).trans rfl, (blk_cell BK151.out 1).trans rfl, (blk_cell BK151.out 2).trans rfl⟩ (fun hHeld => ?_)
    clear hK K
    refine norm_ (a' := ?_) ?_ ?_
    rotate_left
    · show Act.put _ (some 24) _ = _
      simp only [Act.put, List.setIfInBounds_toArray, List.set_cons_zero, List.set_cons_succ, i64_w, i32_w]
      rfl
    refine one_ (i := 3) (N := some 26) #[true, true, true, true, true, false, true, false, false, false, false, false, false, false, false, false] rfl rfl (one_of HT_.out (by kernel_rfl)) (by decide) (fun K hK => ?_)
    refine goes_ Try.func19 (by kernel_rfl) rfl #[.string a1] (by rfl) rfl rfl (by (try simp only [List.map_toArray, List.map_cons, List.map_nil]); first | done | rfl | (simp only [List.length_drop, List.length_take]; rfl)) ?_
    with_reducible refine (sackbutlaw09_text.calls a1 t154 _ A10.out).mono ?_
    rintro e w23 ⟨rfl, hb⟩
    refine ⟨_, rfl, ?_⟩
    have n0_ := Aside0.mk (blk_below (g := gb151) (o := .cells #[.int .i64 a2_0, .int .i64 a2_1, .int .i64 a2_2] 23 (0, 0)) (by (with_reducible repeat (first | refine blk_drewN ?_ _ | refine blk_drew ?_ | refine blk_alloc ?_ _)); exact BK151.out) hb)
    have n1_ := Aside0.mk (below_step (by repeat (first | (with_reducible first | exact HB.out | apply below_alloc | apply pw_below_drewN | apply below_drew1 | refine below_set ?_ GE151.out) | exact HB.out)) hb)
    clear BK151
    clear HB
    have BK151 := n0_
    have HB := n1_
    clear n0_ n1_
    (try clear hb)
    (try clear hb2)
    (try clear hk)
    (try clear hi)
    refine hK.out _ _ ⟨(blk_cell BK151.out 0).trans rfl, (blk_cell BK151.out 1).trans rfl, (blk_cell BK151.out 2).trans rfl⟩ (fun hHeld => ?_)
    clear hK K
    refine norm_ (a' := ?_) ?_ ?_
    rotate_left
    · show Act.put _ (some 26) _ = _
      simp only [Act.put, List.setIfInBounds_toArray, List.set_cons_zero, List.set_cons_succ, i64_w, i32_w]
      rfl
    refine one_ (i := 5) (N := some 28) #[true, true, true, true, true, true, true, false, false, false, false, false, false, false, false, false] rfl rfl (one_of HT_.out (by kernel_rfl)) (by decide) (fun K hK => ?_)
    refine goes_ Try.func20 (by kernel_rfl) rfl #[.agg #[.int .i64 a2_0, .int .i64 a2_1, .int .i64 a2_2]] (by rfl) rfl rfl (by (try simp only [List.map_toArray, List.map_cons, List.map_nil]); first | done | rfl | (simp only [List.length_drop, List.length_take]; rfl)) ?_
    with_reducible refine (sackbutlaw09_Of.calls a2_0 a2_1 a2_2 t155 t156 t157 _ A11.out).mono ?_
    rintro e w24 ⟨rfl, hb⟩
    refine ⟨_, rfl, ?_⟩
    have n0_ := Aside0.mk (blk_below (g := gb151) (o := .cells #[.int .i64 a2_0, .int .i64 a2_1, .int .i64 a2_2] 23 (0, 0)) (by (with_reducible repeat (first | refine blk_drewN ?_ _ | refine blk_drew ?_ | refine blk_alloc ?_ _)); exact BK151.out) hb)
    have n1_ := Aside0.mk (below_step (by repeat (first | (with_reducible first | exact HB.out | apply below_alloc | apply pw_below_drewN | apply below_drew1 | refine below_set ?_ GE151.out) | exact HB.out)) hb)
    clear BK151
    clear HB
    have BK151 := n0_
    have HB := n1_
    clear n0_ n1_
    (try clear hb)
    (try clear hb2)
    (try clear hk)
    (try clear hi)
    refine hK.out _ _ ⟨(blk_cell BK151.out 0).trans rfl, (blk_cell BK151.out 1).trans rfl, (blk_cell BK151.out 2).trans rfl⟩ (fun hHeld => ?_)
    clear hK K
    refine norm_ (a' := ?_) ?_ ?_
    rotate_left
    · show Act.put _ (some 28) _ = _
      simp only [Act.put, List.setIfInBounds_toArray, List.set_cons_zero, List.set_cons_succ, i64_w, i32_w]
      rfl
    refine one_ (i := 7) (N := some 30) #[true, true, true, true, true, true, true, true, false, false, false, false, false, false, false, false] rfl rfl (one_of HT_.out (by kernel_rfl)) (by decide) (fun K hK => ?_)
    refine goes_ Try.func36 (by kernel_rfl) rfl #[.slice A3 l3.length c3] (by rfl) rfl rfl (by (try simp only [List.map_toArray, List.map_cons, List.map_nil]); first | done | rfl | (simp only [List.length_drop, List.length_take]; rfl)) ?_
    with_reducible refine (sackbutlaw09_script.calls k _ _ l3 t158 _ ?side1 ?side2 A12.out).mono ?_
    (case side1 => repeat (first | exact (Kd.C_below HR3.out HB.out) | (with_reducible refine Kd.C_alloc ?_ _) | (with_reducible refine Kd.C_drewN ?_ _) | (with_reducible refine Kd.C_drew ?_)))
    (case side2 => exact HC3.out)
    rintro e w25 ⟨v159, rfl, ho0, hb⟩
    refine ⟨_, rfl, ?_⟩
    have n0_ := Aside0.mk (Kd.R_lower ho0 (below_size (by repeat (first | (with_reducible first | exact HB.out | apply below_alloc | apply pw_below_drewN | apply below_drew1 | refine below_set ?_ GE151.out) | exact HB.out))))
    have n1_ := Aside0.mk (blk_below (g := gb151) (o := .cells #[.int .i64 a2_0, .int .i64 a2_1, .int .i64 a2_2] 23 (0, 0)) (by (with_reducible repeat (first | refine blk_drewN ?_ _ | refine blk_drew ?_ | refine blk_alloc ?_ _)); exact BK151.out) hb)
    have n2_ := Aside0.mk (below_step (by repeat (first | (with_reducible first | exact HB.out | apply below_alloc | apply pw_below_drewN | apply below_drew1 | refine below_set ?_ GE151.out) | exact HB.out)) hb)
    clear BK151
    clear HB
    have HO160 := n0_
    have BK151 := n1_
    have HB := n2_
    clear n0_ n1_ n2_
    (try clear hb)
    (try clear hb2)
    (try clear hk)
    (try clear hi)
    (try clear ho0)
    obtain ⟨Ao26, co26, eo26⟩ := Kd.R_slice HO160.out
    (first | subst eo26 | (injection eo26 with f1_ f2_ f3_; have f4_ := f1_.symm; have f5_ := f3_.symm; clear f1_ f2_ f3_; subst f4_; subst f5_))
    refine hK.out _ _ ⟨(blk_cell BK151.out 0).trans rfl, (blk_cell BK151.out 1).trans rfl, (blk_cell BK151.out 2).trans rfl⟩ (fun hHeld => ?_)
    clear hK K
    refine norm_ (a' := ?_) ?_ ?_
    rotate_left
    · show Act.put _ (some 30) _ = _
      simp only [Act.put, List.setIfInBounds_toArray, List.set_cons_zero, List.set_cons_succ, i64_w, i32_w]
      rfl
    refine one_ (i := 8) (N := some 31) #[true, true, true, true, true, true, true, true, true, false, false, false, false, false, false, false] rfl rfl (one_of HT_.out (by kernel_rfl)) (by decide) (fun K hK => ?_)
    refine goes_ Try.func35 (by kernel_rfl) rfl #[.string t153, .string t154, .agg #[.int .i64 t155, .int .i64 t156, .int .i64 t157], .slice Ao26 t158.length co26] (by rfl) rfl rfl (by (try simp only [List.map_toArray, List.map_cons, List.map_nil]); first | done | rfl | (simp only [List.length_drop, List.length_take]; rfl)) ?_
    with_reducible refine (edits_Check.calls k t153 t154 t155 t156 t157 _ _ t158 t161 t162 t163 _ ?side1 ?side2 A13.out).mono ?_
    (case side1 => repeat (first | exact (Kd.R_reads' HO160.out).2.2 | (with_reducible refine Kd.C_alloc ?_ _) | (with_reducible refine Kd.C_drewN ?_ _) | (with_reducible refine Kd.C_drew ?_)))
    (case side2 => exact (Kd.R_reads' HO160.out).2.1)
    rintro e w27 ⟨rfl, hb⟩
    refine ⟨_, rfl, ?_⟩
    have n0_ := Aside0.mk (Kd.R_below (by (with_reducible repeat (first | apply Kd.R_alloc | apply Kd.R_drewN | apply Kd.R_drew)); exact HO160.out) hb)
    have n1_ := Aside0.mk (blk_below (g := gb151) (o := .cells #[.int .i64 a2_0, .int .i64 a2_1, .int .i64 a2_2] 23 (0, 0)) (by (with_reducible repeat (first | refine blk_drewN ?_ _ | refine blk_drew ?_ | refine blk_alloc ?_ _)); exact BK151.out) hb)
    have n2_ := Aside0.mk (below_step (by repeat (first | (with_reducible first | exact HB.out | apply below_alloc | apply pw_below_drewN | apply below_drew1 | refine below_set ?_ GE151.out) | exact HB.out)) hb)
    clear HO160
    clear BK151
    clear HB
    have HO160 := n0_
    have BK151 := n1_
    have HB := n2_
    clear n0_ n1_ n2_
    (try clear hb)
    (try clear hb2)
    (try clear hk)
    (try clear hi)
    refine hK.out _ _ ⟨(blk_cell BK151.out 0).trans rfl, (blk_cell BK151.out 1).trans rfl, (blk_cell BK151.out 2).trans rfl⟩ (fun hHeld => ?_)
    clear hK K
    refine norm_ (a' := ?_) ?_ ?_
    rotate_left
    · show Act.put _ (some 31) _ = _
      simp only [Act.put, List.setIfInBounds_toArray, List.set_cons_zero, List.set_cons_succ, i64_w, i32_w]
      rfl
    refine pure_ (i := 9) (N := some 22) (v := ?_) (a' := ?_) #[true, true, true, true, true, true, true, true, true, true, false, false, false, false, false, false] rfl rfl (any_of HT_.out (by kernel_rfl)) (fun _ _ _ h => h) (Or.inl ⟨by rfl, ?_⟩) ?_ ?_
    rotate_left
    · intro w'
      go_simp
      with_reducible rfl
    rotate_left
    · simp only [Act.put, List.setIfInBounds_toArray, List.set_cons_zero, List.set_cons_succ, i64_w, i32_w]
      rfl
    refine pure_ (i := 10) (N := some 32) (v := ?_) (a' := ?_) #[true, true, true, true, true, true, true, true, true, true, true, false, false, false, false, false] rfl rfl (any_of HT_.out (by kernel_rfl)) (fun _ _ _ h => h) (Or.inl ⟨by rfl, ?_⟩) ?_ ?_
    rotate_left
    · intro w'
      go_simp
      with_reducible rfl
    rotate_left
    · simp only [Act.put, List.setIfInBounds_toArray, List.set_cons_zero, List.set_cons_succ, i64_w, i32_w]
      rfl
    refine pure_ (i := 11) (N := some 33) (v := ?_) (a' := ?_) #[true, true, true, true, true, true, true, true, true, true, true, true, false, false, false, false] rfl rfl (any_of HT_.out (by kernel_rfl)) (fun _ _ _ h => h) (Or.inl ⟨by rfl, ?_⟩) ?_ ?_
    rotate_left
    · intro w'
      go_simp
      with_reducible rfl
    rotate_left
    · simp only [Act.put, List.setIfInBounds_toArray, List.set_cons_zero, List.set_cons_succ, i64_w, i32_w]
      rfl
    refine pure_ (i := 12) (N := some 34) (v := ?_) (a' := ?_) #[true, true, true, true, true, true, true, true, true, true, true, true, true, false, false, false] rfl rfl (any_of HT_.out (by kernel_rfl)) (fun _ _ _ h => h) (Or.inl ⟨by rfl, ?_⟩) ?_ ?_
    rotate_left
    · intro w'
      go_simp
      with_reducible rfl
    rotate_left
    · simp only [Act.put, List.setIfInBounds_toArray, List.set_cons_zero, List.set_cons_succ, i64_w, i32_w]
      rfl
    refine pure_ (i := 13) (N := some 9) (v := ?_) (a' := ?_) #[true, true, true, true, true, true, true, true, true, true, true, true, true, true, false, false] rfl rfl (any_of HT_.out (by kernel_rfl)) (fun _ _ _ h => h) (Or.inl ⟨by rfl, ?_⟩) ?_ ?_
    rotate_left
    · intro w'
      go_simp
      with_reducible rfl
    rotate_left
    · simp only [Act.put, List.setIfInBounds_toArray, List.set_cons_zero, List.set_cons_succ, i64_w, i32_w]
      rfl
    refine pure_ (i := 14) (N := some 10) (v := ?_) (a' := ?_) #[true, true, true, true, true, true, true, true, true, true, true, true, true, true, true, false] rfl rfl (any_of HT_.out (by kernel_rfl)) (fun _ _ _ h => h) (Or.inl ⟨by rfl, ?_⟩) ?_ ?_
    rotate_left
    · intro w'
      go_simp
      with_reducible rfl
    rotate_left
    · simp only [Act.put, List.setIfInBounds_toArray, List.set_cons_zero, List.set_cons_succ, i64_w, i32_w]
      rfl
    refine pure_ (i := 15) (N := some 11) (v := ?_) (a' := ?_) #[true, true, true, true, true, true, true, true, true, true, true, true, true, true, true, true] rfl rfl (any_of HT_.out (by kernel_rfl)) (fun _ _ _ h => h) (Or.inl ⟨by rfl, ?_⟩) ?_ ?_
    rotate_left
    · intro w'
      go_simp
      with_reducible rfl
    rotate_left
    · simp only [Act.put, List.setIfInBounds_toArray, List.set_cons_zero, List.set_cons_succ, i64_w, i32_w]
      rfl
    refine done_ (done_of HT_.out (by kernel_rfl)) ?_
    go_upto_if 54 with (first | ((with_reducible refine gate_callee (f := 19) rfl ?_); refine goesL_ (some 37) rfl rfl Try.func19 (by kernel_rfl) rfl #[.string a0] rfl (by (try simp only [List.map_toArray, List.map_cons, List.map_nil]); first | done | rfl | (simp only [List.length_drop, List.length_take]; rfl)) ?_; (with_reducible refine (sackbutlaw09_text.calls a0 t164 _ A14.out).mono ?_); rintro e w28 ⟨rfl, hb⟩; refine ⟨_, rfl, ?_⟩; have n0_ := Aside0.mk (Kd.R_below (by (with_reducible repeat (first | apply Kd.R_alloc | apply Kd.R_drewN | apply Kd.R_drew)); exact HO160.out) hb); have n1_ := Aside0.mk (blk_below (g := gb151) (o := .cells #[.int .i64 a2_0, .int .i64 a2_1, .int .i64 a2_2] 23 (0, 0)) (by (with_reducible repeat (first | refine blk_drewN ?_ _ | refine blk_drew ?_ | refine blk_alloc ?_ _)); exact BK151.out) hb); have n2_ := Aside0.mk (below_step (by repeat (first | (with_reducible first | exact HB.out | apply below_alloc | apply pw_below_drewN | apply below_drew1 | refine below_set ?_ GE151.out) | exact HB.out)) hb); clear HO160; clear BK151; clear HB; have HO160 := n0_; have BK151 := n1_; have HB := n2_; clear n0_ n1_ n2_; (try clear hb); (try clear hb2); (try clear hk); (try clear hi)) | ((with_reducible refine gate_callee (f := 36) rfl ?_); refine goesL_ (some 39) rfl rfl Try.func36 (by kernel_rfl) rfl #[.slice A3 l3.length c3] rfl (by (try simp only [List.map_toArray, List.map_cons, List.map_nil]); first | done | rfl | (simp only [List.length_drop, List.length_take]; rfl)) ?_; (with_reducible refine (sackbutlaw09_script.calls k _ _ l3 t165 _ ?side1 ?side2 A15.out).mono ?_); (case side1 => repeat (first | exact (Kd.C_below HR3.out HB.out) | (with_reducible refine Kd.C_alloc ?_ _) | (with_reducible refine Kd.C_drewN ?_ _) | (with_reducible refine Kd.C_drew ?_))); (case side2 => exact HC3.out); rintro e w29 ⟨v166, rfl, ho0, hb⟩; refine ⟨_, rfl, ?_⟩; have n0_ := Aside0.mk (Kd.R_elder' (by (with_reducible repeat (first | apply Kd.R_alloc | apply Kd.R_drewN | apply Kd.R_drew)); exact HO160.out) (Kd.R_base ho0) hb); have n1_ := Aside0.mk (Kd.R_lower (Kd.R_new' ho0 (Kd.R_lt (by (with_reducible repeat (first | apply Kd.R_alloc | apply Kd.R_drewN | apply Kd.R_drew)); exact HO160.out))) (below_size (by repeat (first | (with_reducible first | exact HB.out | apply below_alloc | apply pw_below_drewN | apply below_drew1 | refine below_set ?_ GE151.out) | exact HB.out)))); have n2_ := Aside0.mk (blk_below (g := gb151) (o := .cells #[.int .i64 a2_0, .int .i64 a2_1, .int .i64 a2_2] 23 (0, 0)) (by (with_reducible repeat (first | refine blk_drewN ?_ _ | refine blk_drew ?_ | refine blk_alloc ?_ _)); exact BK151.out) hb); have n3_ := Aside0.mk (below_step (by repeat (first | (with_reducible first | exact HB.out | apply below_alloc | apply pw_below_drewN | apply below_drew1 | refine below_set ?_ GE151.out) | exact HB.out)) hb); clear HO160; clear BK151; clear HB; have HO160 := n0_; have HO167 := n1_; have BK151 := n2_; have HB := n3_; clear n0_ n1_ n2_ n3_; (try clear hb); (try clear hb2); (try clear hk); (try clear hi); (try clear ho0); obtain ⟨Ao30, co30, eo30⟩ := Kd.R_slice HO167.out; subst eo30) | ((with_reducible refine gate_callee (f := 37) rfl ?_); refine goesL_ (some 40) rfl rfl Try.func37 (by kernel_rfl) rfl #[.string t164, .slice Ao30 t165.length co30] rfl (by (try simp only [List.map_toArray, List.map_cons, List.map_nil]); first | done | rfl | (simp only [List.length_drop, List.length_take]; rfl)) ?_; (with_reducible refine (edits_Apply.calls k t164 _ _ t165 t168 t169 _ ?side1 ?side2 A16.out).mono ?_); (case side1 => repeat (first | exact (Kd.R_reads' HO167.out).2.2 | (with_reducible refine Kd.C_alloc ?_ _) | (with_reducible refine Kd.C_drewN ?_ _) | (with_reducible refine Kd.C_drew ?_))); (case side2 => exact (Kd.R_reads' HO167.out).2.1); rintro e w31 ⟨rfl, hb⟩; refine ⟨_, rfl, ?_⟩; have n0_ := Aside0.mk (Kd.R_below (by (with_reducible repeat (first | apply Kd.R_alloc | apply Kd.R_drewN | apply Kd.R_drew)); exact HO160.out) hb); have n1_ := Aside0.mk (Kd.R_below (by (with_reducible repeat (first | apply Kd.R_alloc | apply Kd.R_drewN | apply Kd.R_drew)); exact HO167.out) hb); have n2_ := Aside0.mk (blk_below (g := gb151) (o := .cells #[.int .i64 a2_0, .int .i64 a2_1, .int .i64 a2_2] 23 (0, 0)) (by (with_reducible repeat (first | refine blk_drewN ?_ _ | refine blk_drew ?_ | refine blk_alloc ?_ _)); exact BK151.out) hb); have n3_ := Aside0.mk (below_step (by repeat (first | (with_reducible first | exact HB.out | apply below_alloc | apply pw_below_drewN | apply below_drew1 | refine below_set ?_ GE151.out) | exact HB.out)) hb); clear HO160; clear HO167; clear BK151; clear HB; have HO160 := n0_; have HO167 := n1_; have BK151 := n2_; have HB := n3_; clear n0_ n1_ n2_ n3_; (try clear hb); (try clear hb2); (try clear hk); (try clear hi); have hcz32_0 : w31.cell? ⟨gb151, 0, none⟩ = some (.int .i64 a2_0) := (blk_cell BK151.out 0).trans rfl; have hcz32_1 : w31.cell? ⟨gb151, 1, none⟩ = some (.int .i64 a2_1) := (blk_cell BK151.out 1).trans rfl; have hcz32_2 : w31.cell? ⟨gb151, 2, none⟩ = some (.int .i64 a2_2) := (blk_cell BK151.out 2).trans rfl; have hfz32_0 := blk_frozen BK151.out 0; have hfz32_1 := blk_frozen BK151.out 1; have hfz32_2 := blk_frozen BK151.out 2) | ((with_reducible refine gate_callee (f := 28) rfl ?_); refine goesL_ (some 47) rfl rfl Try.func28 (by kernel_rfl) rfl #[.string a0, .agg #[.int .i64 a2_0, .int .i64 a2_1, .int .i64 a2_2], .slice A3 l3.length c3] rfl (by (try simp only [List.map_toArray, List.map_cons, List.map_nil]); first | done | rfl | (simp only [List.length_drop, List.length_take]; rfl)) ?_; (with_reducible refine (sackbutref09_Done.calls k a0 a2_0 a2_1 a2_2 _ _ l3 t170 t171 t172 _ ?side1 ?side2 A17.out).mono ?_); (case side1 => repeat (first | exact (Kd.C_below HR3.out HB.out) | (with_reducible refine Kd.C_alloc ?_ _) | (with_reducible refine Kd.C_drewN ?_ _) | (with_reducible refine Kd.C_drew ?_))); (case side2 => exact HC3.out); rintro e w33 ⟨rfl, hb⟩; refine ⟨_, rfl, ?_⟩; have n0_ := Aside0.mk (Kd.R_below (by (with_reducible repeat (first | apply Kd.R_alloc | apply Kd.R_drewN | apply Kd.R_drew)); exact HO160.out) hb); have n1_ := Aside0.mk (Kd.R_below (by (with_reducible repeat (first | apply Kd.R_alloc | apply Kd.R_drewN | apply Kd.R_drew)); exact HO167.out) hb); have n2_ := Aside0.mk (blk_below (g := gb151) (o := .cells #[.int .i64 a2_0, .int .i64 a2_1, .int .i64 a2_2] 23 (0, 0)) (by (with_reducible repeat (first | refine blk_drewN ?_ _ | refine blk_drew ?_ | refine blk_alloc ?_ _)); exact BK151.out) hb); have n3_ := Aside0.mk (below_step (by repeat (first | (with_reducible first | exact HB.out | apply below_alloc | apply pw_below_drewN | apply below_drew1 | refine below_set ?_ GE151.out) | exact HB.out)) hb); clear HO160; clear HO167; clear BK151; clear HB; have HO160 := n0_; have HO167 := n1_; have BK151 := n2_; have HB := n3_; clear n0_ n1_ n2_ n3_; (try clear hb); (try clear hb2); (try clear hk); (try clear hi); have hcz34_0 : w33.cell? ⟨gb151, 0, none⟩ = some (.int .i64 a2_0) := (blk_cell BK151.out 0).trans rfl; have hcz34_1 : w33.cell? ⟨gb151, 1, none⟩ = some (.int .i64 a2_1) := (blk_cell BK151.out 1).trans rfl; have hcz34_2 : w33.cell? ⟨gb151, 2, none⟩ = some (.int .i64 a2_2) := (blk_cell BK151.out 2).trans rfl; have hfz34_0 := blk_frozen BK151.out 0; have hfz34_1 := blk_frozen BK151.out 1; have hfz34_2 := blk_frozen BK151.out 2) | ((with_reducible refine gate_callee (f := 21) rfl ?_); refine goesL_ (some 54) rfl rfl Try.func21 (by kernel_rfl) rfl #[.string a0, .string a1, .agg #[.int .i64 a2_0, .int .i64 a2_1, .int .i64 a2_2]] rfl (by (try simp only [List.map_toArray, List.map_cons, List.map_nil]); first | done | rfl | (simp only [List.length_drop, List.length_take]; rfl)) ?_; (with_reducible refine (sackbutlaw09_fine.calls a0 a1 a2_0 a2_1 a2_2 t173 _ A18.out).mono ?_); rintro e w35 ⟨rfl, hb⟩; refine ⟨_, rfl, ?_⟩; have n0_ := Aside0.mk (Kd.R_below (by (with_reducible repeat (first | apply Kd.R_alloc | apply Kd.R_drewN | apply Kd.R_drew)); exact HO160.out) hb); have n1_ := Aside0.mk (Kd.R_below (by (with_reducible repeat (first | apply Kd.R_alloc | apply Kd.R_drewN | apply Kd.R_drew)); exact HO167.out) hb); have n2_ := Aside0.mk (blk_below (g := gb151) (o := .cells #[.int .i64 a2_0, .int .i64 a2_1, .int .i64 a2_2] 23 (0, 0)) (by (with_reducible repeat (first | refine blk_drewN ?_ _ | refine blk_drew ?_ | refine blk_alloc ?_ _)); exact BK151.out) hb); have n3_ := Aside0.mk (below_step (by repeat (first | (with_reducible first | exact HB.out | apply below_alloc | apply pw_below_drewN | apply below_drew1 | refine below_set ?_ GE151.out) | exact HB.out)) hb); clear HO160; clear HO167; clear BK151; clear HB; have HO160 := n0_; have HO167 := n1_; have BK151 := n2_; have HB := n3_; clear n0_ n1_ n2_ n3_; (try clear hb); (try clear hb2); (try clear hk); (try clear hi)))
    (try simp only [Act.put, List.setIfInBounds_toArray, List.set_cons_zero, List.set_cons_succ])
    go_cut [] (fun wc => ∃ (kq : Nat), Aside0 (sackbutlaw09_EditsChecks.j0 kq a0 l3 t168 t169 t170 t172 = some r) ∧ Aside0 (kq ≤ k) ∧ Aside0 (wc.heap[gb151]? = some (.cells #[.int .i64 a2_0, .int .i64 a2_1, .int .i64 a2_2] 23 (0, 0))) ∧ Aside0 (Below w.heap.size w wc))
    case first =>
      have H := HC19.out
      clear HC19
      by_cases c36 : t173 = true
      · subst c36
        have H1 : (if t172 = true then (if (t162 != (t170.toList == a1.toList)) = true then (some false) else (if t163 = 0 then (if t170.toList = a1.toList then (if t161 = t171 then (sackbutlaw09_EditsChecks.j0 k a0 l3 t168 t169 t170 t172) else (some false)) else (if t161 = 0 then (sackbutlaw09_EditsChecks.j0 k a0 l3 t168 t169 t170 t172) else (some false))) else (some false))) else (if (t162 != false) = true then (some false) else (if t163 = 0 then (if t161 = 0 then (sackbutlaw09_EditsChecks.j0 k a0 l3 t168 t169 t170 t172) else (some false)) else (some false)))) = some r := by rw [if_pos rfl] at H; exact H
        clear H
        have H := H1
        clear H1
        by_cases c37 : t172 = true
        · subst c37
          have H1 : (if (t162 != (t170.toList == a1.toList)) = true then (some false) else (if t163 = 0 then (if t170.toList = a1.toList then (if t161 = t171 then (sackbutlaw09_EditsChecks.j0 k a0 l3 t168 t169 t170 true) else (some false)) else (if t161 = 0 then (sackbutlaw09_EditsChecks.j0 k a0 l3 t168 t169 t170 true) else (some false))) else (some false))) = some r := by rw [if_pos rfl] at H; exact H
          clear H
          have H := H1
          clear H1
          by_cases c38 : (t162 != (t170.toList == a1.toList)) = true
          · rw [if_pos c38] at H
            have c38b0 : (t162 != (t170.toList == a1.toList)) = true := c38
            (try (have c38b1 : decide (t162 = (t170.toList == a1.toList)) = false := by simpa using c38))
            (try (have c38b2 : (t162 == (t170.toList == a1.toList)) = false := by simpa using c38))
            (try (have c38b3 : ¬ (t162 = (t170.toList == a1.toList)) := by simpa using c38))
            clear c38
            (first | rw [c38b0] | (simp only [i64_w, i32_w]; rw [c38b0]) | skip)
            obtain rfl := Option.some.inj H
            go_wp2
            go_ret
            exact ⟨by first | rfl | (simp [errW_none, errW_some] <;> rfl) | (simp [*, errW_none, errW_some] <;> rfl), by repeat (first | (with_reducible first | exact HB.out | apply below_alloc | apply pw_below_drewN | apply below_drew1 | refine below_set ?_ GE151.out) | exact HB.out)⟩
          · rw [if_neg c38] at H
            have c38b0 : (t162 != (t170.toList == a1.toList)) = false := by simpa using c38
            (try (have c38b1 : decide (t162 = (t170.toList == a1.toList)) = true := by simpa using c38))
            (try (have c38b2 : (t162 == (t170.toList == a1.toList)) = true := by simpa using c38))
            clear c38
            (first | rw [c38b0] | (simp only [i64_w, i32_w]; rw [c38b0]) | skip)
            by_cases c39 : t163 = 0
            · rw [if_pos c39] at H
              have c39b0 : (t163 == 0) = true := beq_iff_eq.mpr c39
              have c39b1 : (t163 != 0) = false := bne_eq_false_iff_eq.mpr c39
              clear c39
              by_cases c40 : t170.toList = a1.toList
              · rw [if_pos c40] at H
                have c40b0 : (t170.toList == a1.toList) = true := beq_iff_eq.mpr c40
                have c40b1 : (t170.toList != a1.toList) = false := bne_eq_false_iff_eq.mpr c40
                obtain rfl : t162 = true := by rw [c40b0] at c38b0; simpa using c38b0
                clear c40
                by_cases c41 : t161 = t171
                · rw [if_pos c41] at H
                  have c41b0 : (t161 == t171) = true := beq_iff_eq.mpr c41
                  have c41b1 : (t161 != t171) = false := bne_eq_false_iff_eq.mpr c41
                  clear c41
                  have H' := Aside0.mk H
                  clear H
                  go_wp2
                  go_meet
                  case rel => exact ⟨_, H', ⟨by first | omega | exact Nat.le_refl _⟩, ⟨by (with_reducible repeat (first | refine blk_drewN ?_ _ | refine blk_drew ?_ | refine blk_alloc ?_ _)); exact BK151.out⟩, ⟨by repeat (first | (with_reducible first | exact HB.out | apply below_alloc | apply pw_below_drewN | apply below_drew1 | refine below_set ?_ GE151.out) | exact HB.out)⟩⟩
                · rw [if_neg c41] at H
                  have c41b0 : (t161 == t171) = false := beq_eq_false_iff_ne.mpr c41
                  have c41b1 : (t161 != t171) = true := bne_iff_ne.mpr c41
                  obtain rfl := Option.some.inj H
                  go_wp2
                  go_ret
                  exact ⟨by first | rfl | (simp [errW_none, errW_some] <;> rfl) | (simp [*, errW_none, errW_some] <;> rfl), by repeat (first | (with_reducible first | exact HB.out | apply below_alloc | apply pw_below_drewN | apply below_drew1 | refine below_set ?_ GE151.out) | exact HB.out)⟩
              · rw [if_neg c40] at H
                have c40b0 : (t170.toList == a1.toList) = false := beq_eq_false_iff_ne.mpr c40
                have c40b1 : (t170.toList != a1.toList) = true := bne_iff_ne.mpr c40
                obtain rfl : t162 = false := by rw [c40b0] at c38b0; simpa using c38b0
                by_cases c42 : t161 = 0
                · rw [if_pos c42] at H
                  have c42b0 : (t161 == 0) = true := beq_iff_eq.mpr c42
                  have c42b1 : (t161 != 0) = false := bne_eq_false_iff_eq.mpr c42
                  clear c42
                  have H' := Aside0.mk H
                  clear H
                  go_wp2
                  go_meet
                  case rel => exact ⟨_, H', ⟨by first | omega | exact Nat.le_refl _⟩, ⟨by (with_reducible repeat (first | refine blk_drewN ?_ _ | refine blk_drew ?_ | refine blk_alloc ?_ _)); exact BK151.out⟩, ⟨by repeat (first | (with_reducible first | exact HB.out | apply below_alloc | apply pw_below_drewN | apply below_drew1 | refine below_set ?_ GE151.out) | exact HB.out)⟩⟩
                · rw [if_neg c42] at H
                  have c42b0 : (t161 == 0) = false := beq_eq_false_iff_ne.mpr c42
                  have c42b1 : (t161 != 0) = true := bne_iff_ne.mpr c42
                  obtain rfl := Option.some.inj H
                  go_wp2
                  go_ret
                  exact ⟨by first | rfl | (simp [errW_none, errW_some] <;> rfl) | (simp [*, errW_none, errW_some] <;> rfl), by repeat (first | (with_reducible first | exact HB.out | apply below_alloc | apply pw_below_drewN | apply below_drew1 | refine below_set ?_ GE151.out) | exact HB.out)⟩
            · rw [if_neg c39] at H
              have c39b0 : (t163 == 0) = false := beq_eq_false_iff_ne.mpr c39
              have c39b1 : (t163 != 0) = true := bne_iff_ne.mpr c39
              obtain rfl := Option.some.inj H
              go_wp2
              go_ret
              exact ⟨by first | rfl | (simp [errW_none, errW_some] <;> rfl) | (simp [*, errW_none, errW_some] <;> rfl), by repeat (first | (with_reducible first | exact HB.out | apply below_alloc | apply pw_below_drewN | apply below_drew1 | refine below_set ?_ GE151.out) | exact HB.out)⟩
        · replace c37 := Bool.eq_false_iff.mpr c37
          subst c37
          have H1 : (if (t162 != false) = true then (some false) else (if t163 = 0 then (if t161 = 0 then (sackbutlaw09_EditsChecks.j0 k a0 l3 t168 t169 t170 false) else (some false)) else (some false))) = some r := by rw [if_neg (show ¬ (false = true) by decide)] at H; exact H
          clear H
          have H := H1
          clear H1
          by_cases c43 : (t162 != false) = true
          · rw [if_pos c43] at H
            have c43b0 : (t162 != false) = true := c43
            (try (have c43b1 : decide (t162 = false) = false := by simpa using c43))
            (try (have c43b2 : (t162 == false) = false := by simpa using c43))
            (try (have c43b3 : ¬ (t162 = false) := by simpa using c43))
            clear c43
            obtain rfl := Option.some.inj H
            go_wp2
            go_ret
            exact ⟨by first | rfl | (simp [errW_none, errW_some] <;> rfl) | (simp [*, errW_none, errW_some] <;> rfl), by repeat (first | (with_reducible first | exact HB.out | apply below_alloc | apply pw_below_drewN | apply below_drew1 | refine below_set ?_ GE151.out) | exact HB.out)⟩
          · rw [if_neg c43] at H
            have c43b0 : (t162 != false) = false := by simpa using c43
            (try (have c43b1 : decide (t162 = false) = true := by simpa using c43))
            (try (have c43b2 : (t162 == false) = true := by simpa using c43))
            clear c43
            by_cases c44 : t163 = 0
            · rw [if_pos c44] at H
              have c44b0 : (t163 == 0) = true := beq_iff_eq.mpr c44
              have c44b1 : (t163 != 0) = false := bne_eq_false_iff_eq.mpr c44
              clear c44
              by_cases c45 : t161 = 0
              · rw [if_pos c45] at H
                have c45b0 : (t161 == 0) = true := beq_iff_eq.mpr c45
                have c45b1 : (t161 != 0) = false := bne_eq_false_iff_eq.mpr c45
                clear c45
                have H' := Aside0.mk H
                clear H
                go_wp2
                go_meet
                case rel => exact ⟨_, H', ⟨by first | omega | exact Nat.le_refl _⟩, ⟨by (with_reducible repeat (first | refine blk_drewN ?_ _ | refine blk_drew ?_ | refine blk_alloc ?_ _)); exact BK151.out⟩, ⟨by repeat (first | (with_reducible first | exact HB.out | apply below_alloc | apply pw_below_drewN | apply below_drew1 | refine below_set ?_ GE151.out) | exact HB.out)⟩⟩
              · rw [if_neg c45] at H
                have c45b0 : (t161 == 0) = false := beq_eq_false_iff_ne.mpr c45
                have c45b1 : (t161 != 0) = true := bne_iff_ne.mpr c45
                obtain rfl := Option.some.inj H
                go_wp2
                go_ret
                exact ⟨by first | rfl | (simp [errW_none, errW_some] <;> rfl) | (simp [*, errW_none, errW_some] <;> rfl), by repeat (first | (with_reducible first | exact HB.out | apply below_alloc | apply pw_below_drewN | apply below_drew1 | refine below_set ?_ GE151.out) | exact HB.out)⟩
            · rw [if_neg c44] at H
              have c44b0 : (t163 == 0) = false := beq_eq_false_iff_ne.mpr c44
              have c44b1 : (t163 != 0) = true := bne_iff_ne.mpr c44
              obtain rfl := Option.some.inj H
              go_wp2
              go_ret
              exact ⟨by first | rfl | (simp [errW_none, errW_some] <;> rfl) | (simp [*, errW_none, errW_some] <;> rfl), by repeat (first | (with_reducible first | exact HB.out | apply below_alloc | apply pw_below_drewN | apply below_drew1 | refine below_set ?_ GE151.out) | exact HB.out)⟩
      · replace c36 := Bool.eq_false_iff.mpr c36
        subst c36
        have H1 : (if t161 = 0 then (if t162 = true then (some false) else (if t163 = 2 then (sackbutlaw09_EditsChecks.j0 k a0 l3 t168 t169 t170 t172) else (some false))) else (some false)) = some r := by rw [if_neg (show ¬ (false = true) by decide)] at H; exact H
        clear H
        have H := H1
        clear H1
        by_cases c46 : t161 = 0
        · rw [if_pos c46] at H
          have c46b0 : (t161 == 0) = true := beq_iff_eq.mpr c46
          have c46b1 : (t161 != 0) = false := bne_eq_false_iff_eq.mpr c46
          clear c46
          by_cases c47 : t162 = true
          · subst c47
            have H1 : (some false) = some r := by rw [if_pos rfl] at H; exact H
            clear H
            have H := H1
            clear H1
            obtain rfl := Option.some.inj H
            go_wp2
            go_ret
            exact ⟨by first | rfl | (simp [errW_none, errW_some] <;> rfl) | (simp [*, errW_none, errW_some] <;> rfl), by repeat (first | (with_reducible first | exact HB.out | apply below_alloc | apply pw_below_drewN | apply below_drew1 | refine below_set ?_ GE151.out) | exact HB.out)⟩
          · replace c47 := Bool.eq_false_iff.mpr c47
            subst c47
            have H1 : (if t163 = 2 then (sackbutlaw09_EditsChecks.j0 k a0 l3 t168 t169 t170 t172) else (some false)) = some r := by rw [if_neg (show ¬ (false = true) by decide)] at H; exact H
            clear H
            have H := H1
            clear H1
            by_cases c48 : t163 = 2
            · rw [if_pos c48] at H
              have c48b0 : (t163 == 2) = true := beq_iff_eq.mpr c48
              have c48b1 : (t163 != 2) = false := bne_eq_false_iff_eq.mpr c48
              clear c48
              have H' := Aside0.mk H
              clear H
              go_wp2
              go_meet
              case rel => exact ⟨_, H', ⟨by first | omega | exact Nat.le_refl _⟩, ⟨by (with_reducible repeat (first | refine blk_drewN ?_ _ | refine blk_drew ?_ | refine blk_alloc ?_ _)); exact BK151.out⟩, ⟨by repeat (first | (with_reducible first | exact HB.out | apply below_alloc | apply pw_below_drewN | apply below_drew1 | refine below_set ?_ GE151.out) | exact HB.out)⟩⟩
            · rw [if_neg c48] at H
              have c48b0 : (t163 == 2) = false := beq_eq_false_iff_ne.mpr c48
              have c48b1 : (t163 != 2) = true := bne_iff_ne.mpr c48
              obtain rfl := Option.some.inj H
              go_wp2
              go_ret
              exact ⟨by first | rfl | (simp [errW_none, errW_some] <;> rfl) | (simp [*, errW_none, errW_some] <;> rfl), by repeat (first | (with_reducible first | exact HB.out | apply below_alloc | apply pw_below_drewN | apply below_drew1 | refine below_set ?_ GE151.out) | exact HB.out)⟩
        · rw [if_neg c46] at H
          have c46b0 : (t161 == 0) = false := beq_eq_false_iff_ne.mpr c46
          have c46b1 : (t161 != 0) = true := bne_iff_ne.mpr c46
          obtain rfl := Option.some.inj H
          go_wp2
          go_ret
          exact ⟨by first | rfl | (simp [errW_none, errW_some] <;> rfl) | (simp [*, errW_none, errW_some] <;> rfl), by repeat (first | (with_reducible first | exact HB.out | apply below_alloc | apply pw_below_drewN | apply below_drew1 | refine below_set ?_ GE151.out) | exact HB.out)⟩
    case rest =>
      clear HC19
      try clear c1
      try clear c2
      try clear p2
      try clear c3
      try clear c4
      try clear c5
      try clear c5b0
      try clear c5b1
      try clear c9
      try clear c19
      try clear c20
      try clear c21
      try clear c22
      try clear c28
      try clear c35
      try clear c36
      try clear c37
      try clear c38
      try clear c38b0
      try clear c38b1
      try clear c38b2
      try clear c39
      try clear c39b0
      try clear c39b1
      try clear c40
      try clear c40b0
      try clear c40b1
      try clear c41
      try clear c41b0
      try clear c41b1
      try clear c42
      try clear c42b0
      try clear c42b1
      try clear c43
      try clear c43b0
      try clear c43b1
      try clear c43b2
      try clear c44
      try clear c44b0
      try clear c44b1
      try clear c45
      try clear c45b0
      try clear c45b1
      try clear c46
      try clear c46b0
      try clear c46b1
      try clear c47
      try clear c48
      try clear c48b0
      try clear c48b1
      try clear hcz32_0
      try clear hcz32_1
      try clear hcz32_2
      try clear hcz34_0
      try clear hcz34_1
      try clear hcz34_2
      try clear hfz32_0
      try clear hfz32_1
      try clear hfz32_2
      try clear hfz34_0
      try clear hfz34_1
      try clear hfz34_2
      obtain ⟨kq, HA, HJ18, BK151, HB⟩ := hcut
      cases kq with
      | zero => exact absurd HA.out (by simp [sackbutlaw09_EditsChecks.j0])
      | succ kj18 =>
        have H := HA.out
        clear HA
        simp only [sackbutlaw09_EditsChecks.j0] at H
        have HC49 := Aside0.mk H
        clear H
        go_upto_region 12 with (fail)
        go_cut [100] (fun v100 wc => ∃ (kq : Nat) (x100_48 : Bool), v100 = .bool x100_48 ∧ Aside0 (sackbutlaw09_EditsChecks.j1 kq t168 t169 t170 t172 x100_48 = some r) ∧ Aside0 (kq ≤ kj18) ∧ Aside0 (wc.heap[gb151]? = some (.cells #[.int .i64 a2_0, .int .i64 a2_1, .int .i64 a2_2] 23 (0, 0))) ∧ Aside0 (Below w.heap.size w wc))
        case first =>
          have H := HC49.out
          clear HC49
          replace H := Option.bind_eq_some_iff.mp H
          obtain ⟨t174, A500, H⟩ := H
          replace H : (if t174 = true then (sackbutlaw09_EditsChecks.j1 kj18 t168 t169 t170 t172 (decide ((l3.length : Int) > 24))) else (sackbutlaw09_EditsChecks.j1 kj18 t168 t169 t170 t172 true)) = some r := H
          have A50 := Aside0.mk A500
          clear A500
          by_cases c51 : t174 = true
          · subst c51
            have H1 : (sackbutlaw09_EditsChecks.j1 kj18 t168 t169 t170 t172 (decide ((l3.length : Int) > 24))) = some r := by rw [if_pos rfl] at H; exact H
            clear H
            have H := H1
            clear H1
            have H' := Aside0.mk H
            clear H
            go_wp2_with (first | ((with_reducible refine gate_callee (f := 24) rfl ?_); refine goesL_ (some 94) rfl rfl Try.func24 (by kernel_rfl) rfl #[.string a0] rfl (by (try simp only [List.map_toArray, List.map_cons, List.map_nil]); first | done | rfl | (simp only [List.length_drop, List.length_take]; rfl)) ?_; (with_reducible refine (sackbutref09_Line.calls a0 true _ A50.out).mono ?_); rintro e w' ⟨rfl, ⟨nd, rfl⟩⟩; refine ⟨_, rfl, ?_⟩))
            go_meet
            case rel => exact ⟨_, (decide ((l3.length : Int) > 24)), (by first | rfl | (simp; done) | (simp [*]; done)), H', ⟨by have := HJ18.out; first | omega | exact Nat.le_refl _⟩, ⟨by (with_reducible repeat (first | refine blk_drewN ?_ _ | refine blk_drew ?_ | refine blk_alloc ?_ _)); exact BK151.out⟩, ⟨by repeat (first | (with_reducible first | exact HB.out | apply below_alloc | apply pw_below_drewN | apply below_drew1 | refine below_set ?_ GE151.out) | exact HB.out)⟩⟩
          · replace c51 := Bool.eq_false_iff.mpr c51
            subst c51
            have H1 : (sackbutlaw09_EditsChecks.j1 kj18 t168 t169 t170 t172 true) = some r := by rw [if_neg (show ¬ (false = true) by decide)] at H; exact H
            clear H
            have H := H1
            clear H1
            have H' := Aside0.mk H
            clear H
            go_wp2_with (first | ((with_reducible refine gate_callee (f := 24) rfl ?_); refine goesL_ (some 94) rfl rfl Try.func24 (by kernel_rfl) rfl #[.string a0] rfl (by (try simp only [List.map_toArray, List.map_cons, List.map_nil]); first | done | rfl | (simp only [List.length_drop, List.length_take]; rfl)) ?_; (with_reducible refine (sackbutref09_Line.calls a0 false _ A50.out).mono ?_); rintro e w' ⟨rfl, ⟨nd, rfl⟩⟩; refine ⟨_, rfl, ?_⟩))
            go_meet
            case rel => exact ⟨_, (true), (by first | rfl | (simp; done) | (simp [*]; done)), H', ⟨by have := HJ18.out; first | omega | exact Nat.le_refl _⟩, ⟨by (with_reducible repeat (first | refine blk_drewN ?_ _ | refine blk_drew ?_ | refine blk_alloc ?_ _)); exact BK151.out⟩, ⟨by repeat (first | (with_reducible first | exact HB.out | apply below_alloc | apply pw_below_drewN | apply below_drew1 | refine below_set ?_ GE151.out) | exact HB.out)⟩⟩
        case rest =>
          clear HC49
          try clear c1
          try clear c2
          try clear p2
          try clear c3
          try clear c4
          try clear c5
          try clear c5b0
          try clear c5b1
          try clear c9
          try clear c19
          try clear c20
          try clear c21
          try clear c22
          try clear c24
          try clear c28
          try clear c35
          try clear c36
          try clear c37
          try clear c38
          try clear c38b0
          try clear c38b1
          try clear c38b2
          try clear c39
          try clear c39b0
          try clear c39b1
          try clear c40
          try clear c40b0
          try clear c40b1
          try clear c41
          try clear c41b0
          try clear c41b1
          try clear c42
          try clear c42b0
          try clear c42b1
          try clear c43
          try clear c43b0
          try clear c43b1
          try clear c43b2
          try clear c44
          try clear c44b0
          try clear c44b1
          try clear c45
          try clear c45b0
          try clear c45b1
          try clear c46
          try clear c46b0
          try clear c46b1
          try clear c47
          try clear c48
          try clear c48b0
          try clear c48b1
          try clear c51
          try clear hcz32_0
          try clear hcz32_1
          try clear hcz32_2
          try clear hcz34_0
          try clear hcz34_1
          try clear hcz34_2
          try clear hfz32_0
          try clear hfz32_1
          try clear hfz32_2
          try clear hfz34_0
          try clear hfz34_1
          try clear hfz34_2
          try clear p2
          obtain ⟨kq, x100_48, rfl, HA, HJ48, BK151, HB⟩ := hcut
          cases kq with
          | zero => exact absurd HA.out (by simp [sackbutlaw09_EditsChecks.j1])
          | succ kj48 =>
            have H := HA.out
            clear HA
            simp only [sackbutlaw09_EditsChecks.j1] at H
            by_cases c52 : x100_48 = true
            · subst c52
              have H1 : (if t168.toList = ([] : List UInt8) then (if t169 = 2 then ((sackbutlaw09_awake.f).bind fun t175 => (some t175)) else (some false)) else (some false)) = some r := by rw [if_pos rfl] at H; exact H
              clear H
              have H := H1
              clear H1
              by_cases c53 : t168.toList = ([] : List UInt8)
              · rw [if_pos c53] at H
                have c53b0 : (t168.toList == ([] : List UInt8)) = true := beq_iff_eq.mpr c53
                have c53b1 : (t168.toList != ([] : List UInt8)) = false := bne_eq_false_iff_eq.mpr c53
                clear c53
                by_cases c54 : t169 = 2
                · rw [if_pos c54] at H
                  have c54b0 : (t169 == 2) = true := beq_iff_eq.mpr c54
                  have c54b1 : (t169 != 2) = false := bne_eq_false_iff_eq.mpr c54
                  clear c54
                  replace H := Option.bind_eq_some_iff.mp H
                  obtain ⟨t175, A550, H⟩ := H
                  replace H : (some t175) = some r := H
                  have A55 := Aside0.mk A550
                  clear A550
                  obtain rfl := Option.some.inj H
                  go_wp2_with (first | (go_at_call 22; (with_reducible refine (sackbutlaw09_awake.calls  t175 _ A55.out).mono ?_); rintro e w56 ⟨rfl, hb⟩; have n0_ := Aside0.mk (blk_below (g := gb151) (o := .cells #[.int .i64 a2_0, .int .i64 a2_1, .int .i64 a2_2] 23 (0, 0)) (by (with_reducible repeat (first | refine blk_drewN ?_ _ | refine blk_drew ?_ | refine blk_alloc ?_ _)); exact BK151.out) hb); have n1_ := Aside0.mk (below_step (by repeat (first | (with_reducible first | exact HB.out | apply below_alloc | apply pw_below_drewN | apply below_drew1 | refine below_set ?_ GE151.out) | exact HB.out)) hb); clear BK151; clear HB; have BK151 := n0_; have HB := n1_; clear n0_ n1_; (try clear hb); (try clear hb2); (try clear hk); (try clear hi)))
                  go_ret
                  exact ⟨by first | rfl | (simp [errW_none, errW_some] <;> rfl) | (simp [*, errW_none, errW_some] <;> rfl), by repeat (first | (with_reducible first | exact HB.out | apply below_alloc | apply pw_below_drewN | apply below_drew1 | refine below_set ?_ GE151.out) | exact HB.out)⟩
                · rw [if_neg c54] at H
                  have c54b0 : (t169 == 2) = false := beq_eq_false_iff_ne.mpr c54
                  have c54b1 : (t169 != 2) = true := bne_iff_ne.mpr c54
                  obtain rfl := Option.some.inj H
                  go_wp2
                  go_ret
                  exact ⟨by first | rfl | (simp [errW_none, errW_some] <;> rfl) | (simp [*, errW_none, errW_some] <;> rfl), by repeat (first | (with_reducible first | exact HB.out | apply below_alloc | apply pw_below_drewN | apply below_drew1 | refine below_set ?_ GE151.out) | exact HB.out)⟩
              · rw [if_neg c53] at H
                have c53b0 : (t168.toList == ([] : List UInt8)) = false := beq_eq_false_iff_ne.mpr c53
                have c53b1 : (t168.toList != ([] : List UInt8)) = true := bne_iff_ne.mpr c53
                obtain rfl := Option.some.inj H
                go_wp2
                go_ret
                exact ⟨by first | rfl | (simp [errW_none, errW_some] <;> rfl) | (simp [*, errW_none, errW_some] <;> rfl), by repeat (first | (with_reducible first | exact HB.out | apply below_alloc | apply pw_below_drewN | apply below_drew1 | refine below_set ?_ GE151.out) | exact HB.out)⟩
            · replace c52 := Bool.eq_false_iff.mpr c52
              subst c52
              have H1 : (if t172 = true then (if t168.toList = t170.toList then (if t169 = 0 then ((sackbutlaw09_awake.f).bind fun t176 => (some t176)) else (some false)) else (some false)) else (if t168.toList = ([] : List UInt8) then (if t169 = 4 then ((sackbutlaw09_awake.f).bind fun t177 => (some t177)) else (some false)) else (some false))) = some r := by rw [if_neg (show ¬ (false = true) by decide)] at H; exact H
              clear H
              have H := H1
              clear H1
              by_cases c57 : t172 = true
              · subst c57
                have H1 : (if t168.toList = t170.toList then (if t169 = 0 then ((sackbutlaw09_awake.f).bind fun t176 => (some t176)) else (some false)) else (some false)) = some r := by rw [if_pos rfl] at H; exact H
                clear H
                have H := H1
                clear H1
                by_cases c58 : t168.toList = t170.toList
                · rw [if_pos c58] at H
                  have c58b0 : (t168.toList == t170.toList) = true := beq_iff_eq.mpr c58
                  have c58b1 : (t168.toList != t170.toList) = false := bne_eq_false_iff_eq.mpr c58
                  clear c58
                  by_cases c59 : t169 = 0
                  · rw [if_pos c59] at H
                    have c59b0 : (t169 == 0) = true := beq_iff_eq.mpr c59
                    have c59b1 : (t169 != 0) = false := bne_eq_false_iff_eq.mpr c59
                    clear c59
                    replace H := Option.bind_eq_some_iff.mp H
                    obtain ⟨t176, A600, H⟩ := H
                    replace H : (some t176) = some r := H
                    have A60 := Aside0.mk A600
                    clear A600
                    obtain rfl := Option.some.inj H
                    go_wp2_with (first | (go_at_call 22; (with_reducible refine (sackbutlaw09_awake.calls  t176 _ A60.out).mono ?_); rintro e w61 ⟨rfl, hb⟩; have n0_ := Aside0.mk (blk_below (g := gb151) (o := .cells #[.int .i64 a2_0, .int .i64 a2_1, .int .i64 a2_2] 23 (0, 0)) (by (with_reducible repeat (first | refine blk_drewN ?_ _ | refine blk_drew ?_ | refine blk_alloc ?_ _)); exact BK151.out) hb); have n1_ := Aside0.mk (below_step (by repeat (first | (with_reducible first | exact HB.out | apply below_alloc | apply pw_below_drewN | apply below_drew1 | refine below_set ?_ GE151.out) | exact HB.out)) hb); clear BK151; clear HB; have BK151 := n0_; have HB := n1_; clear n0_ n1_; (try clear hb); (try clear hb2); (try clear hk); (try clear hi)))
                    go_ret
                    exact ⟨by first | rfl | (simp [errW_none, errW_some] <;> rfl) | (simp [*, errW_none, errW_some] <;> rfl), by repeat (first | (with_reducible first | exact HB.out | apply below_alloc | apply pw_below_drewN | apply below_drew1 | refine below_set ?_ GE151.out) | exact HB.out)⟩
                  · rw [if_neg c59] at H
                    have c59b0 : (t169 == 0) = false := beq_eq_false_iff_ne.mpr c59
                    have c59b1 : (t169 != 0) = true := bne_iff_ne.mpr c59
                    obtain rfl := Option.some.inj H
                    go_wp2
                    go_ret
                    exact ⟨by first | rfl | (simp [errW_none, errW_some] <;> rfl) | (simp [*, errW_none, errW_some] <;> rfl), by repeat (first | (with_reducible first | exact HB.out | apply below_alloc | apply pw_below_drewN | apply below_drew1 | refine below_set ?_ GE151.out) | exact HB.out)⟩
                · rw [if_neg c58] at H
                  have c58b0 : (t168.toList == t170.toList) = false := beq_eq_false_iff_ne.mpr c58
                  have c58b1 : (t168.toList != t170.toList) = true := bne_iff_ne.mpr c58
                  obtain rfl := Option.some.inj H
                  go_wp2
                  go_ret
                  exact ⟨by first | rfl | (simp [errW_none, errW_some] <;> rfl) | (simp [*, errW_none, errW_some] <;> rfl), by repeat (first | (with_reducible first | exact HB.out | apply below_alloc | apply pw_below_drewN | apply below_drew1 | refine below_set ?_ GE151.out) | exact HB.out)⟩
              · replace c57 := Bool.eq_false_iff.mpr c57
                subst c57
                have H1 : (if t168.toList = ([] : List UInt8) then (if t169 = 4 then ((sackbutlaw09_awake.f).bind fun t177 => (some t177)) else (some false)) else (some false)) = some r := by rw [if_neg (show ¬ (false = true) by decide)] at H; exact H
                clear H
                have H := H1
                clear H1
                by_cases c62 : t168.toList = ([] : List UInt8)
                · rw [if_pos c62] at H
                  have c62b0 : (t168.toList == ([] : List UInt8)) = true := beq_iff_eq.mpr c62
                  have c62b1 : (t168.toList != ([] : List UInt8)) = false := bne_eq_false_iff_eq.mpr c62
                  clear c62
                  by_cases c63 : t169 = 4
                  · rw [if_pos c63] at H
                    have c63b0 : (t169 == 4) = true := beq_iff_eq.mpr c63
                    have c63b1 : (t169 != 4) = false := bne_eq_false_iff_eq.mpr c63
                    clear c63
                    replace H := Option.bind_eq_some_iff.mp H
                    obtain ⟨t177, A640, H⟩ := H
                    replace H : (some t177) = some r := H
                    have A64 := Aside0.mk A640
                    clear A640
                    obtain rfl := Option.some.inj H
                    go_wp2_with (first | (go_at_call 22; (with_reducible refine (sackbutlaw09_awake.calls  t177 _ A64.out).mono ?_); rintro e w65 ⟨rfl, hb⟩; have n0_ := Aside0.mk (blk_below (g := gb151) (o := .cells #[.int .i64 a2_0, .int .i64 a2_1, .int .i64 a2_2] 23 (0, 0)) (by (with_reducible repeat (first | refine blk_drewN ?_ _ | refine blk_drew ?_ | refine blk_alloc ?_ _)); exact BK151.out) hb); have n1_ := Aside0.mk (below_step (by repeat (first | (with_reducible first | exact HB.out | apply below_alloc | apply pw_below_drewN | apply below_drew1 | refine below_set ?_ GE151.out) | exact HB.out)) hb); clear BK151; clear HB; have BK151 := n0_; have HB := n1_; clear n0_ n1_; (try clear hb); (try clear hb2); (try clear hk); (try clear hi)))
                    go_ret
                    exact ⟨by first | rfl | (simp [errW_none, errW_some] <;> rfl) | (simp [*, errW_none, errW_some] <;> rfl), by repeat (first | (with_reducible first | exact HB.out | apply below_alloc | apply pw_below_drewN | apply below_drew1 | refine below_set ?_ GE151.out) | exact HB.out)⟩
                  · rw [if_neg c63] at H
                    have c63b0 : (t169 == 4) = false := beq_eq_false_iff_ne.mpr c63
                    have c63b1 : (t169 != 4) = true := bne_iff_ne.mpr c63
                    obtain rfl := Option.some.inj H
                    go_wp2
                    go_ret
                    exact ⟨by first | rfl | (simp [errW_none, errW_some] <;> rfl) | (simp [*, errW_none, errW_some] <;> rfl), by repeat (first | (with_reducible first | exact HB.out | apply below_alloc | apply pw_below_drewN | apply below_drew1 | refine below_set ?_ GE151.out) | exact HB.out)⟩
                · rw [if_neg c62] at H
                  have c62b0 : (t168.toList == ([] : List UInt8)) = false := beq_eq_false_iff_ne.mpr c62
                  have c62b1 : (t168.toList != ([] : List UInt8)) = true := bne_iff_ne.mpr c62
                  obtain rfl := Option.some.inj H
                  go_wp2
                  go_ret
                  exact ⟨by first | rfl | (simp [errW_none, errW_some] <;> rfl) | (simp [*, errW_none, errW_some] <;> rfl), by repeat (first | (with_reducible first | exact HB.out | apply below_alloc | apply pw_below_drewN | apply below_drew1 | refine below_set ?_ GE151.out) | exact HB.out)⟩

/-- THE ONE PURE STATEMENT of sackbutlaw09_EditsChecks: yours. -/
def sackbutlaw09_EditsChecks.Pure : Prop := ∀ (a0 : ByteArray) (a1 : ByteArray) (a2_0 : Int) (a2_1 : Int) (a2_2 : Int) (l3 : List (S104)), a0.size ≤ 140737488351232 → a1.size ≤ 140737488351232 → (Lit.int .i64 a2_0).wf = true → (Lit.int .i64 a2_1).wf = true → (Lit.int .i64 a2_2).wf = true → l3.length ≤ maxLen → (∀ s ∈ l3, (Lit.int .i64 s.f0).wf = true ∧ (Lit.int .i64 s.f1).wf = true) → ∃ k, sackbutlaw09_EditsChecks.f k a0 a1 a2_0 a2_1 a2_2 l3 = some true
theorem sackbutlaw09_EditsChecks.walk (P : sackbutlaw09_EditsChecks.Pure) (a0 : ByteArray) (a1 : ByteArray) (a2_0 : Int) (a2_1 : Int) (a2_2 : Int) (A3 : Option Addr) (c3 : Nat) (l3 : List (S104)) (w : World) (w0 : a0.size ≤ 140737488351232) (w1 : a1.size ≤ 140737488351232) (w2_0 : (Lit.int .i64 a2_0).wf = true) (w2_1 : (Lit.int .i64 a2_1).wf = true) (w2_2 : (Lit.int .i64 a2_2).wf = true) (hr3 : Kd.C k104 w A3 l3.length l3) (hc3 : l3.length ≤ c3) (hm3 : l3.length ≤ maxLen) (hw3 : (∀ s ∈ l3, (Lit.int .i64 s.f0).wf = true ∧ (Lit.int .i64 s.f1).wf = true)) :
    Calls Try.prog 9 #[.string a0, .string a1, .agg #[.int .i64 a2_0, .int .i64 a2_1, .int .i64 a2_2], .slice A3 l3.length c3] w fun e w' => e = .returned (.bool true) ∧ Below w.heap.size w w' := by
  obtain ⟨k, h⟩ := P a0 a1 a2_0 a2_1 a2_2 l3 w0 w1 w2_0 w2_1 w2_2 hm3 hw3
  refine (sackbutlaw09_EditsChecks.calls k a0 a1 a2_0 a2_1 a2_2 _ _ l3 true w hr3 hc3 h).mono ?_
  rintro e w' ⟨rfl, hd⟩
  exact ⟨rfl, hd⟩

end Go.Proofs.Ytnnpdgegejklpaa.PEditsChecks
