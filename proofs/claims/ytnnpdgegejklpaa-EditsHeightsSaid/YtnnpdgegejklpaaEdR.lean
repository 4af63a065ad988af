/- edits: the law EditsHeights. -/
import Derived.Test.YtnnpdgegejklpaaEdP
import Derived.Test.YtnnpdgegejklpaaEdQ
import Derived.Test.YtnnpdgegejklpaaSxRowX
namespace Go.Proofs.Ytnnpdgegejklpaa
open Go.RowKit Go.Sx 
set_option linter.unusedVariables false
set_option linter.unusedSimpArgs false
set_option maxRecDepth 100000
set_option maxHeartbeats 4000000

private theorem agg_23 : isAggB Try.prog 23 = some true := by kernel_rfl
private theorem size_23 : (Try.prog.info? 23).map (·.size) = some 3 := by kernel_rfl
private theorem ent_19 : Enters Try.prog 19 := enters_of Try.func19 (by kernel_rfl) rfl
private theorem ent_20 : Enters Try.prog 20 := enters_of Try.func20 (by kernel_rfl) rfl
private theorem ent_46 : Enters Try.prog 46 := enters_of Try.func46 (by kernel_rfl) rfl
private theorem ent_48 : Enters Try.prog 48 := enters_of Try.func48 (by kernel_rfl) rfl
private theorem ent_47 : Enters Try.prog 47 := enters_of Try.func47 (by kernel_rfl) rfl
private theorem ent_21 : Enters Try.prog 21 := enters_of Try.func21 (by kernel_rfl) rfl
private theorem ent_49 : Enters Try.prog 49 := enters_of Try.func49 (by kernel_rfl) rfl
private theorem size_46 : (Try.prog.info? 46).map (·.size) = some 1 := by kernel_rfl
private theorem agg_46 : isAggB Try.prog 46 = some false := by kernel_rfl
private theorem size_3 : (Try.prog.info? 3).map (·.size) = some 1 := by kernel_rfl
private theorem agg_3 : isAggB Try.prog 3 = some false := by kernel_rfl
private theorem ent_30 : Enters Try.prog 30 := enters_of Try.func30 (by kernel_rfl) rfl
private theorem ent_22 : Enters Try.prog 22 := enters_of Try.func22 (by kernel_rfl) rfl
private theorem sle_66 : Try.prog.underlying 66 = some (.slice (Try.prog.elem 66)) := by kernel_rfl

theorem hgtR_cut {a b : ByteArray} {pi po ps : Int} {hs : List (List Int)} (ha : a.size ≤ 12) (hb : b.size ≤ 12) : hgtR a b pi po ps ((hs.take 16).map (·.take 16)) = hgtR a b pi po ps hs := by
  by_cases h : HOK a b pi po ps hs
  · rw [cut_rows ha hb h.1]
  · rw [hgtR_f h, hgtR_f (fun h_ => h ((cut_iff ha hb).1 h_))]

theorem EditsHeights_ok (w : World) (a b : ByteArray) (pi po ps : Int) (v : Value) (vs : List Value) (hs : List (List Int)) (hh : RdVV w v vs hs) (hlh : hs.length ≤ 9223372036854775807) (hlr : ∀ r ∈ hs, r.length ≤ 9223372036854775807) (ha : a.size ≤ 12) (hb : b.size ≤ 12) (hok : okP pi po ps) (hH : HOK a b pi po ps hs) :
    Calls Try.prog 13 [.string a, .string b, .agg #[.int .i64 pi, .int .i64 po, .int .i64 ps], v].toArray w fun e w' => e = .returned (.bool true) ∧ Below w.heap.size w w' := by
  have hvl := hh.len
  refine enter (N := 124) Try.func13 rfl rfl rfl ?_
  refine g_seq ?_
  refine g_region ?_
  refine s_tr (t_box rfl rfl) rfl rfl rfl rfl (fun b6 hb6 => ?_)
  refine s_y (y_assign rfl) rfl rfl rfl rfl ?_
  refine s_nil ?_
  refine g_then ?_
  refine g_seq ?_
  refine g_draw 6 (by kernel_rfl) ?_
  refine j_p (i := 0) rfl (y_move rfl) (by kernel_rfl) (by kernel_rfl) (by kernel_rfl) rfl rfl rfl rfl rfl (.inr (fun _ h => h)) ?_
  refine j_p (i := 2) rfl (y_move rfl) (by kernel_rfl) (by kernel_rfl) (by kernel_rfl) rfl rfl rfl rfl rfl (.inr (fun _ h => h)) ?_
  refine j_l (i := 4) rfl (y_ldn 0 rfl rfl agg_23 size_23 rfl rfl) (by kernel_rfl) (by kernel_rfl) (by kernel_rfl) (by kernel_rfl) rfl rfl rfl rfl rfl (.inr (fun _ h => h)) ?_
  refine j_tr (i := 1) rfl (t_call rfl rfl ent_19 (fun w h => by have h_ := text_any w a; rwa [textS_id ha] at h_)) (by kernel_rfl) rfl rfl rfl rfl (.inr (fun x w hb h => h)) (fun _ _ => ?_)
  refine j_tr (i := 3) rfl (t_call rfl rfl ent_19 (fun w h => by have h_ := text_any w b; rwa [textS_id hb] at h_)) (by kernel_rfl) rfl rfl rfl rfl (.inr (fun x w hb h => h)) (fun _ _ => ?_)
  refine j_tr (i := 5) rfl (t_call rfl rfl ent_20 (fun w h => Of_any w pi po ps)) (by kernel_rfl) rfl rfl rfl rfl (.inr (fun x w hb h => h)) (fun _ _ => ?_)
  refine j_tr (i := 6) rfl (t_callm (A := fun x : Nat × Nat × Nat × List Value × List Nat => x.2.2.2.2.length = a.size + 1) (vf := fun x => .tuple #[.slice (some ⟨x.2.1, 0, none⟩) (a.size + 1) x.2.2.1, .int .i64 0]) (mm := fun x => gridM a b pi po ps x) rfl rfl ent_46 (fun w h => Heights_ok w a b pi po ps ha hb hok)) (by kernel_rfl) rfl rfl rfl rfl (.inl rfl) (fun xg hxg => ?_)
  obtain ⟨g, bb, cap, jk, Bs⟩ := xg
  have hl : Bs.length = a.size + 1 := hxg
  refine j_p (i := 7) rfl (y_move rfl) (by kernel_rfl) (by kernel_rfl) (by kernel_rfl) rfl rfl rfl rfl rfl (.inl rfl) ?_
  refine j_p (i := 8) rfl (y_extract rfl rfl) (by kernel_rfl) (by kernel_rfl) (by kernel_rfl) rfl rfl rfl rfl rfl (.inl rfl) ?_
  refine j_p (i := 9) rfl (y_extract rfl rfl) (by kernel_rfl) (by kernel_rfl) (by kernel_rfl) rfl rfl rfl rfl rfl (.inl rfl) ?_
  refine j_p (i := 10) rfl (y_assign rfl) (by kernel_rfl) (by kernel_rfl) (by kernel_rfl) rfl rfl rfl rfl rfl (.inl rfl) ?_
  refine j_p (i := 11) rfl (y_assign rfl) (by kernel_rfl) (by kernel_rfl) (by kernel_rfl) rfl rfl rfl rfl rfl (.inl rfl) ?_
  refine j_nil (by kernel_rfl) ?_
  refine g_then ?_
  refine g_seq ?_
  refine g_draw 7 (by kernel_rfl) ?_
  refine j_p (i := 0) rfl (y_move rfl) (by kernel_rfl) (by kernel_rfl) (by kernel_rfl) rfl rfl rfl rfl rfl (.inr (fun _ h => h)) ?_
  refine j_p (i := 2) rfl (y_move rfl) (by kernel_rfl) (by kernel_rfl) (by kernel_rfl) rfl rfl rfl rfl rfl (.inr (fun _ h => h)) ?_
  refine j_l (i := 4) rfl (y_ldMn (List.mem_cons_of_mem _ (List.mem_cons_of_mem _ (mem_ar (rowsM (D a b pi po ps) (b.size + 1) Bs) (List.mem_cons_self ..)))) rfl agg_23 size_23 rfl rfl) (by kernel_rfl) (by kernel_rfl) (by kernel_rfl) (by kernel_rfl) rfl rfl rfl rfl rfl (.inr (fun _ h => h)) ?_
  refine j_p (i := 6) rfl (y_move rfl) (by kernel_rfl) (by kernel_rfl) (by kernel_rfl) rfl rfl rfl rfl rfl (.inr (fun _ h => h)) ?_
  refine j_tr (i := 1) rfl (t_call rfl rfl ent_19 (fun w h => by have h_ := text_any w a; rwa [textS_id ha] at h_)) (by kernel_rfl) rfl rfl rfl rfl (.inr (fun x w hb h => h)) (fun _ _ => ?_)
  refine j_tr (i := 3) rfl (t_call rfl rfl ent_19 (fun w h => by have h_ := text_any w b; rwa [textS_id hb] at h_)) (by kernel_rfl) rfl rfl rfl rfl (.inr (fun x w hb h => h)) (fun _ _ => ?_)
  refine j_tr (i := 5) rfl (t_call rfl rfl ent_20 (fun w h => Of_any w pi po ps)) (by kernel_rfl) rfl rfl rfl rfl (.inr (fun x w hb h => h)) (fun _ _ => ?_)
  refine j_tr (i := 7) rfl (t_callm (A := fun y : Value × List Value × List (Nat × Obj) => OwnVV y.1 y.2.1 ((hs.take 16).map (·.take 16)) y.2.2) (vf := fun y => y.1) (mm := fun y => y.2.2) rfl rfl ent_48 (fun w h => lists_any w _ vs hs (hh.below h.below) hlh)) (by kernel_rfl) rfl rfl rfl rfl (.inl rfl) (fun yL hyL => ?_)
  obtain ⟨vL, wL, mL⟩ := yL
  have hOL : OwnVV vL wL ((hs.take 16).map (·.take 16)) mL := hyL
  refine j_tr (i := 8) rfl (t_call rfl rfl ent_47 (fun w h => by have h_ := CheckH_ok w a b pi po ps _ wL _ (hOL _ (fun p hp => h.at_ p (mem_al mL hp))) (by simp only [List.length_map, List.length_take]; omega) ha hb hok; rw [hgtR_cut ha hb, hgtR_t hH] at h_; exact h_)) (by kernel_rfl) rfl rfl rfl rfl (.inl rfl) (fun _ _ => ?_)
  refine j_p (i := 9) rfl (y_move rfl) (by kernel_rfl) (by kernel_rfl) (by kernel_rfl) rfl rfl rfl rfl rfl (.inl rfl) ?_
  refine j_p (i := 10) rfl (y_extract rfl rfl) (by kernel_rfl) (by kernel_rfl) (by kernel_rfl) rfl rfl rfl rfl rfl (.inl rfl) ?_
  refine j_p (i := 11) rfl (y_extract rfl rfl) (by kernel_rfl) (by kernel_rfl) (by kernel_rfl) rfl rfl rfl rfl rfl (.inl rfl) ?_
  refine j_p (i := 12) rfl (y_extract rfl rfl) (by kernel_rfl) (by kernel_rfl) (by kernel_rfl) rfl rfl rfl rfl rfl (.inl rfl) ?_
  refine j_p (i := 13) rfl (y_assign rfl) (by kernel_rfl) (by kernel_rfl) (by kernel_rfl) rfl rfl rfl rfl rfl (.inl rfl) ?_
  refine j_p (i := 14) rfl (y_assign rfl) (by kernel_rfl) (by kernel_rfl) (by kernel_rfl) rfl rfl rfl rfl rfl (.inl rfl) ?_
  refine j_p (i := 15) rfl (y_assign rfl) (by kernel_rfl) (by kernel_rfl) (by kernel_rfl) rfl rfl rfl rfl rfl (.inl rfl) ?_
  refine j_nil (by kernel_rfl) ?_
  refine g_then ?_
  refine g_seq ?_
  refine g_seq ?_
  refine g_region ?_
  refine s_y (y_move rfl) rfl rfl rfl rfl ?_
  refine g_less (sub_skip mL (List.Sublist.refl _)) (fun w1 => ?_)
  refine s_y (y_move rfl) rfl rfl rfl rfl ?_
  refine s_y (y_ldMn (List.mem_cons_of_mem _ (List.mem_cons_of_mem _ (mem_ar (rowsM (D a b pi po ps) (b.size + 1) Bs) (List.mem_cons_self ..)))) rfl agg_23 size_23 rfl rfl) rfl rfl rfl rfl ?_
  refine s_tr (t_call rfl rfl ent_21 (fun w h => fine_t w a b pi po ps ha hb hok)) rfl rfl rfl rfl (fun _ _ => ?_)
  refine s_y (y_not_t rfl) rfl rfl rfl rfl ?_
  refine s_nil ?_
  refine g_then ?_
  refine g_cond_f rfl ?_
  refine g_skip ?_
  refine g_then ?_
  refine g_seq ?_
  refine g_seq ?_
  obtain ⟨B, hB0⟩ : ∃ B, Bs[a.size]? = some B := ⟨_, List.getElem?_eq_getElem (by omega)⟩
  have hB1 : Bs[((a.size : Nat) : Int).toNat]? = some B := by rw [Int.toNat_natCast]; exact hB0
  have hp := rowsM_mem (D a b pi po ps) (b.size + 1) Bs a.size B hB0
  have hc : ((tabRow (D a b pi po ps) (b.size + 1) a.size).map (Value.int .i64))[((b.size : Nat) : Int).toNat]? = some (.int .i64 (D a b pi po ps a.size b.size)) := by rw [Int.toNat_natCast, List.getElem?_map, tabRow_at _ _ _ _ (by omega)]; rfl
  refine g_draw 34 (by kernel_rfl) ?_
  refine j_p (i := 0) rfl (y_move rfl) (by kernel_rfl) (by kernel_rfl) (by kernel_rfl) rfl rfl rfl rfl rfl (.inr (fun _ h => h)) ?_
  refine j_p (i := 1) rfl (y_neq_f rfl rfl (by decide)) (by kernel_rfl) (by kernel_rfl) (by kernel_rfl) rfl rfl rfl rfl rfl (.inr (fun _ h => h)) ?_
  refine j_p (i := 2) rfl (y_move rfl) (by kernel_rfl) (by kernel_rfl) (by kernel_rfl) rfl rfl rfl rfl rfl (.inr (fun _ h => h)) ?_
  refine j_p (i := 3) rfl (y_move rfl) (by kernel_rfl) (by kernel_rfl) (by kernel_rfl) rfl rfl rfl rfl rfl (.inr (fun _ h => h)) ?_
  refine j_p (i := 4) rfl (y_move rfl) (by kernel_rfl) (by kernel_rfl) (by kernel_rfl) rfl rfl rfl rfl rfl (.inr (fun _ h => h)) ?_
  refine j_l (i := 5) rfl (y_ldMn (List.mem_cons_of_mem _ (List.mem_cons_of_mem _ (mem_ar (rowsM (D a b pi po ps) (b.size + 1) Bs) (List.mem_cons_self ..)))) rfl agg_23 size_23 rfl rfl) (by kernel_rfl) (by kernel_rfl) (by kernel_rfl) (by kernel_rfl) rfl rfl rfl rfl rfl (.inr (fun _ h => h)) ?_
  refine j_p (i := 6) rfl (y_move rfl) (by kernel_rfl) (by kernel_rfl) (by kernel_rfl) rfl rfl rfl rfl rfl (.inr (fun _ h => h)) ?_
  refine j_tr (i := 7) rfl (t_call rfl rfl ent_49 (fun w h => by have h_ := RHeights_ok w a b pi po ps _ (Bs.map (rowV (b.size + 1))) (tabD a b pi po ps) (grid_rows (a := a) (b := b) (pi := pi) (po := po) (ps := ps) (x := (g, bb, cap, jk, Bs)) hl (fun p hp => h.at_ p (List.Sublist.subset (List.Sublist.cons_cons _ (List.Sublist.cons_cons _ (sub_here (rowsM (D a b pi po ps) (b.size + 1) Bs) _))) hp))) (by rw [tabD_len]; omega) (fun r hr => by have := ((tabD_ok (a := a) (b := b) hok ha hb).1.2 r hr).1; omega) ha hb hok; rw [hgtR_t (tabD_ok hok ha hb)] at h_; exact h_)) (by kernel_rfl) rfl rfl rfl rfl (.inr (fun x w hb h => h)) (fun _ _ => ?_)
  refine j_p (i := 8) rfl (y_not_t rfl) (by kernel_rfl) (by kernel_rfl) (by kernel_rfl) rfl rfl rfl rfl rfl (.inr (fun _ h => h)) ?_
  refine j_p (i := 9) rfl (y_pick_f rfl rfl) (by kernel_rfl) (by kernel_rfl) (by kernel_rfl) rfl rfl rfl rfl rfl (.inr (fun _ h => h)) ?_
  refine j_p (i := 10) rfl (y_move rfl) (by kernel_rfl) (by kernel_rfl) (by kernel_rfl) rfl rfl rfl rfl rfl (.inr (fun _ h => h)) ?_
  refine j_p (i := 11) rfl (y_move rfl) (by kernel_rfl) (by kernel_rfl) (by kernel_rfl) rfl rfl rfl rfl rfl (.inr (fun _ h => h)) ?_
  refine j_p (i := 12) rfl (y_move rfl) (by kernel_rfl) (by kernel_rfl) (by kernel_rfl) rfl rfl rfl rfl rfl (.inr (fun _ h => h)) ?_
  refine j_p (i := 13) rfl (y_lens rfl Try.underlying9) (by kernel_rfl) (by kernel_rfl) (by kernel_rfl) rfl rfl rfl rfl rfl (.inr (fun _ h => h)) ?_
  refine j_p (i := 14) rfl (y_idxb1 rfl rfl Try.underlying66 size_46 (by omega) (by omega)) (by kernel_rfl) (by kernel_rfl) (by kernel_rfl) rfl rfl rfl rfl rfl (.inr (fun _ h => h)) ?_
  refine j_l (i := 15) rfl (y_ldL (enc := (rowV (b.size + 1))) (xs := Bs) (jk := jk) 1 rfl rfl agg_46 (hB1)) (by kernel_rfl) (by kernel_rfl) (by kernel_rfl) (by kernel_rfl) rfl rfl rfl rfl rfl (.inr (fun _ h => h)) ?_
  refine j_p (i := 16) rfl (y_move rfl) (by kernel_rfl) (by kernel_rfl) (by kernel_rfl) rfl rfl rfl rfl rfl (.inr (fun _ h => h)) ?_
  refine j_p (i := 17) rfl (y_lens rfl Try.underlying9) (by kernel_rfl) (by kernel_rfl) (by kernel_rfl) rfl rfl rfl rfl rfl (.inr (fun _ h => h)) ?_
  refine j_p (i := 18) rfl (y_idxb1 rfl rfl Try.underlying46 size_3 (by omega) (by omega)) (by kernel_rfl) (by kernel_rfl) (by kernel_rfl) rfl rfl rfl rfl rfl (.inr (fun _ h => h)) ?_
  refine j_l (i := 19) rfl (y_ldM (List.mem_cons_of_mem _ (List.mem_cons_of_mem _ (mem_al (rowsM (D a b pi po ps) (b.size + 1) Bs) hp))) rfl agg_3 hc) (by kernel_rfl) (by kernel_rfl) (by kernel_rfl) (by kernel_rfl) rfl rfl rfl rfl rfl (.inr (fun _ h => h)) ?_
  refine j_p (i := 20) rfl (y_move rfl) (by kernel_rfl) (by kernel_rfl) (by kernel_rfl) rfl rfl rfl rfl rfl (.inr (fun _ h => h)) ?_
  refine j_p (i := 21) rfl (y_move rfl) (by kernel_rfl) (by kernel_rfl) (by kernel_rfl) rfl rfl rfl rfl rfl (.inr (fun _ h => h)) ?_
  refine j_l (i := 22) rfl (y_ldMn (List.mem_cons_of_mem _ (List.mem_cons_of_mem _ (mem_ar (rowsM (D a b pi po ps) (b.size + 1) Bs) (List.mem_cons_self ..)))) rfl agg_23 size_23 rfl rfl) (by kernel_rfl) (by kernel_rfl) (by kernel_rfl) (by kernel_rfl) rfl rfl rfl rfl rfl (.inr (fun _ h => h)) ?_
  refine j_tr (i := 23) rfl (t_call rfl rfl ent_30 (fun w h => RCost_ok w a b pi po ps ha hb hok)) (by kernel_rfl) rfl rfl rfl rfl (.inr (fun x w hb h => h)) (fun _ _ => ?_)
  refine j_p (i := 24) rfl (y_neq_f rfl rfl (rfl)) (by kernel_rfl) (by kernel_rfl) (by kernel_rfl) rfl rfl rfl rfl rfl (.inr (fun _ h => h)) ?_
  refine j_p (i := 25) rfl (y_pick_f rfl rfl) (by kernel_rfl) (by kernel_rfl) (by kernel_rfl) rfl rfl rfl rfl rfl (.inr (fun _ h => h)) ?_
  refine j_p (i := 26) rfl (y_move rfl) (by kernel_rfl) (by kernel_rfl) (by kernel_rfl) rfl rfl rfl rfl rfl (.inr (fun _ h => h)) ?_
  refine j_p (i := 27) rfl (y_move rfl) (by kernel_rfl) (by kernel_rfl) (by kernel_rfl) rfl rfl rfl rfl rfl (.inr (fun _ h => h)) ?_
  refine j_p (i := 28) rfl (y_neq_f rfl rfl (by decide)) (by kernel_rfl) (by kernel_rfl) (by kernel_rfl) rfl rfl rfl rfl rfl (.inr (fun _ h => h)) ?_
  refine j_p (i := 29) rfl (y_pick_f rfl rfl) (by kernel_rfl) (by kernel_rfl) (by kernel_rfl) rfl rfl rfl rfl rfl (.inr (fun _ h => h)) ?_
  refine j_p (i := 30) rfl (y_move rfl) (by kernel_rfl) (by kernel_rfl) (by kernel_rfl) rfl rfl rfl rfl rfl (.inr (fun _ h => h)) ?_
  refine j_tr (i := 31) rfl (t_call rfl rfl ent_22 (fun w h => awakeE_t w)) (by kernel_rfl) rfl rfl rfl rfl (.inr (fun x w hb h => h)) (fun _ _ => ?_)
  refine j_p (i := 32) rfl (y_not_t rfl) (by kernel_rfl) (by kernel_rfl) (by kernel_rfl) rfl rfl rfl rfl rfl (.inr (fun _ h => h)) ?_
  refine j_p (i := 33) rfl (y_pick_f rfl rfl) (by kernel_rfl) (by kernel_rfl) (by kernel_rfl) rfl rfl rfl rfl rfl (.inr (fun _ h => h)) ?_
  refine j_nil (by kernel_rfl) ?_
  refine g_then ?_
  refine g_cond_f rfl ?_
  refine g_skip ?_
  refine g_then ?_
  refine g_seq ?_
  refine g_seq ?_
  refine g_region ?_
  refine s_y (y_move rfl) rfl rfl rfl rfl ?_
  refine s_y (y_move rfl) rfl rfl rfl rfl ?_
  refine s_y (y_ldMn (List.mem_cons_of_mem _ (List.mem_cons_of_mem _ (mem_ar (rowsM (D a b pi po ps) (b.size + 1) Bs) (List.mem_cons_self ..)))) rfl agg_23 size_23 rfl rfl) rfl rfl rfl rfl ?_
  refine s_y (y_move rfl) rfl rfl rfl rfl ?_
  refine s_tr (t_call rfl rfl ent_49 (fun w h => by have h_ := RHeights_ok w a b pi po ps _ vs hs (hh.below h.below) hlh hlr ha hb hok; rw [hgtR_t hH] at h_; exact h_)) rfl rfl rfl rfl (fun _ _ => ?_)
  refine s_y (y_not_t rfl) rfl rfl rfl rfl ?_
  refine s_nil ?_
  refine g_then ?_
  refine g_cond_f rfl ?_
  refine g_skip ?_
  refine g_then ?_
  refine g_seq ?_
  have hln := hH.1.1
  have hrw : (rdR hs (a.size : Int)).length = b.size + 1 := (hH.1.2 _ (rdR_mem (by omega) (by omega))).1
  refine g_region ?_
  refine s_y (y_move rfl) rfl rfl rfl rfl ?_
  refine s_y (y_move rfl) rfl rfl rfl rfl ?_
  refine s_y (y_move rfl) rfl rfl rfl rfl ?_
  refine s_y (y_lens rfl Try.underlying9) rfl rfl rfl rfl ?_
  refine s_y (y_idxR rfl rfl hh Try.underlying66 size_46 (by omega) (by omega)) rfl rfl rfl rfl ?_
  refine s_y (y_ldV (enc := encV) (xs := vs) (fun w h => hh.rdl.below h.below) rfl agg_46 (rdVal_at (by omega) (by have := hh.len; omega))) rfl rfl rfl rfl ?_
  refine s_y (y_move rfl) rfl rfl rfl rfl ?_
  refine s_y (y_lens rfl Try.underlying9) rfl rfl rfl rfl ?_
  refine s_y (y_idxV (enc := (Value.int .i64)) rfl rfl (hh.at_ (i := a.size) (by omega) (by omega)) Try.underlying46 size_3 (by omega) (by omega)) rfl rfl rfl rfl ?_
  refine s_y (y_ldV (enc := (Value.int .i64)) (xs := (rdR hs a.size)) (fun w h => (hh.at_ (i := a.size) (by omega) (by omega)).rdl.below h.below) rfl agg_3 (rdI_at (by omega) (by omega))) rfl rfl rfl rfl ?_
  refine s_y (y_eql_t rfl rfl (rfl)) rfl rfl rfl rfl ?_
  refine s_y (y_move rfl) rfl rfl rfl rfl ?_
  refine s_y (y_move rfl) rfl rfl rfl rfl ?_
  refine s_y (y_pick_t rfl rfl) rfl rfl rfl rfl ?_
  refine s_y (y_assign rfl) rfl rfl rfl rfl ?_
  refine s_nil ?_
  refine g_then ?_
  refine g_ret ?_
  exact g_end trivial (fun a w ha hq_ => res1 ha rfl rfl  w) (fun w h => ⟨rfl, h.below⟩)

theorem EditsHeights_ok2 (w : World) (a b : ByteArray) (pi po ps : Int) (v : Value) (vs : List Value) (hs : List (List Int)) (hh : RdVV w v vs hs) (hlh : hs.length ≤ 9223372036854775807) (hlr : ∀ r ∈ hs, r.length ≤ 9223372036854775807) (ha : a.size ≤ 12) (hb : b.size ≤ 12) (hok : okP pi po ps) (hH : ¬ HOK a b pi po ps hs) :
    Calls Try.prog 13 [.string a, .string b, .agg #[.int .i64 pi, .int .i64 po, .int .i64 ps], v].toArray w fun e w' => e = .returned (.bool true) ∧ Below w.heap.size w w' := by
  have hvl := hh.len
  refine enter (N := 124) Try.func13 rfl rfl rfl ?_
  refine g_seq ?_
  refine g_region ?_
  refine s_tr (t_box rfl rfl) rfl rfl rfl rfl (fun b6 hb6 => ?_)
  refine s_y (y_assign rfl) rfl rfl rfl rfl ?_
  refine s_nil ?_
  refine g_then ?_
  refine g_seq ?_
  refine g_draw 6 (by kernel_rfl) ?_
  refine j_p (i := 0) rfl (y_move rfl) (by kernel_rfl) (by kernel_rfl) (by kernel_rfl) rfl rfl rfl rfl rfl (.inr (fun _ h => h)) ?_
  refine j_p (i := 2) rfl (y_move rfl) (by kernel_rfl) (by kernel_rfl) (by kernel_rfl) rfl rfl rfl rfl rfl (.inr (fun _ h => h)) ?_
  refine j_l (i := 4) rfl (y_ldn 0 rfl rfl agg_23 size_23 rfl rfl) (by kernel_rfl) (by kernel_rfl) (by kernel_rfl) (by kernel_rfl) rfl rfl rfl rfl rfl (.inr (fun _ h => h)) ?_
  refine j_tr (i := 1) rfl (t_call rfl rfl ent_19 (fun w h => by have h_ := text_any w a; rwa [textS_id ha] at h_)) (by kernel_rfl) rfl rfl rfl rfl (.inr (fun x w hb h => h)) (fun _ _ => ?_)
  refine j_tr (i := 3) rfl (t_call rfl rfl ent_19 (fun w h => by have h_ := text_any w b; rwa [textS_id hb] at h_)) (by kernel_rfl) rfl rfl rfl rfl (.inr (fun x w hb h => h)) (fun _ _ => ?_)
  refine j_tr (i := 5) rfl (t_call rfl rfl ent_20 (fun w h => Of_any w pi po ps)) (by kernel_rfl) rfl rfl rfl rfl (.inr (fun x w hb h => h)) (fun _ _ => ?_)
  refine j_tr (i := 6) rfl (t_callm (A := fun x : Nat × Nat × Nat × List Value × List Nat => x.2.2.2.2.length = a.size + 1) (vf := fun x => .tuple #[.slice (some ⟨x.2.1, 0, none⟩) (a.size + 1) x.2.2.1, .int .i64 0]) (mm := fun x => gridM a b pi po ps x) rfl rfl ent_46 (fun w h => Heights_ok w a b pi po ps ha hb hok)) (by kernel_rfl) rfl rfl rfl rfl (.inl rfl) (fun xg hxg => ?_)
  obtain ⟨g, bb, cap, jk, Bs⟩ := xg
  have hl : Bs.length = a.size + 1 := hxg
  refine j_p (i := 7) rfl (y_move rfl) (by kernel_rfl) (by kernel_rfl) (by kernel_rfl) rfl rfl rfl rfl rfl (.inl rfl) ?_
  refine j_p (i := 8) rfl (y_extract rfl rfl) (by kernel_rfl) (by kernel_rfl) (by kernel_rfl) rfl rfl rfl rfl rfl (.inl rfl) ?_
  refine j_p (i := 9) rfl (y_extract rfl rfl) (by kernel_rfl) (by kernel_rfl) (by kernel_rfl) rfl rfl rfl rfl rfl (.inl rfl) ?_
  refine j_p (i := 10) rfl (y_assign rfl) (by kernel_rfl) (by kernel_rfl) (by kernel_rfl) rfl rfl rfl rfl rfl (.inl rfl) ?_
  refine j_p (i := 11) rfl (y_assign rfl) (by kernel_rfl) (by kernel_rfl) (by kernel_rfl) rfl rfl rfl rfl rfl (.inl rfl) ?_
  refine j_nil (by kernel_rfl) ?_
  refine g_then ?_
  refine g_seq ?_
  refine g_draw 7 (by kernel_rfl) ?_
  refine j_p (i := 0) rfl (y_move rfl) (by kernel_rfl) (by kernel_rfl) (by kernel_rfl) rfl rfl rfl rfl rfl (.inr (fun _ h => h)) ?_
  refine j_p (i := 2) rfl (y_move rfl) (by kernel_rfl) (by kernel_rfl) (by kernel_rfl) rfl rfl rfl rfl rfl (.inr (fun _ h => h)) ?_
  refine j_l (i := 4) rfl (y_ldMn (List.mem_cons_of_mem _ (List.mem_cons_of_mem _ (mem_ar (rowsM (D a b pi po ps) (b.size + 1) Bs) (List.mem_cons_self ..)))) rfl agg_23 size_23 rfl rfl) (by kernel_rfl) (by kernel_rfl) (by kernel_rfl) (by kernel_rfl) rfl rfl rfl rfl rfl (.inr (fun _ h => h)) ?_
  refine j_p (i := 6) rfl (y_move rfl) (by kernel_rfl) (by kernel_rfl) (by kernel_rfl) rfl rfl rfl rfl rfl (.inr (fun _ h => h)) ?_
  refine j_tr (i := 1) rfl (t_call rfl rfl ent_19 (fun w h => by have h_ := text_any w a; rwa [textS_id ha] at h_)) (by kernel_rfl) rfl rfl rfl rfl (.inr (fun x w hb h => h)) (fun _ _ => ?_)
  refine j_tr (i := 3) rfl (t_call rfl rfl ent_19 (fun w h => by have h_ := text_any w b; rwa [textS_id hb] at h_)) (by kernel_rfl) rfl rfl rfl rfl (.inr (fun x w hb h => h)) (fun _ _ => ?_)
  refine j_tr (i := 5) rfl (t_call rfl rfl ent_20 (fun w h => Of_any w pi po ps)) (by kernel_rfl) rfl rfl rfl rfl (.inr (fun x w hb h => h)) (fun _ _ => ?_)
  refine j_tr (i := 7) rfl (t_callm (A := fun y : Value × List Value × List (Nat × Obj) => OwnVV y.1 y.2.1 ((hs.take 16).map (·.take 16)) y.2.2) (vf := fun y => y.1) (mm := fun y => y.2.2) rfl rfl ent_48 (fun w h => lists_any w _ vs hs (hh.below h.below) hlh)) (by kernel_rfl) rfl rfl rfl rfl (.inl rfl) (fun yL hyL => ?_)
  obtain ⟨vL, wL, mL⟩ := yL
  have hOL : OwnVV vL wL ((hs.take 16).map (·.take 16)) mL := hyL
  refine j_tr (i := 8) rfl (t_call rfl rfl ent_47 (fun w h => by have h_ := CheckH_ok w a b pi po ps _ wL _ (hOL _ (fun p hp => h.at_ p (mem_al mL hp))) (by simp only [List.length_map, List.length_take]; omega) ha hb hok; rw [hgtR_cut ha hb, hgtR_f hH] at h_; exact h_)) (by kernel_rfl) rfl rfl rfl rfl (.inl rfl) (fun _ _ => ?_)
  refine j_p (i := 9) rfl (y_move rfl) (by kernel_rfl) (by kernel_rfl) (by kernel_rfl) rfl rfl rfl rfl rfl (.inl rfl) ?_
  refine j_p (i := 10) rfl (y_extract rfl rfl) (by kernel_rfl) (by kernel_rfl) (by kernel_rfl) rfl rfl rfl rfl rfl (.inl rfl) ?_
  refine j_p (i := 11) rfl (y_extract rfl rfl) (by kernel_rfl) (by kernel_rfl) (by kernel_rfl) rfl rfl rfl rfl rfl (.inl rfl) ?_
  refine j_p (i := 12) rfl (y_extract rfl rfl) (by kernel_rfl) (by kernel_rfl) (by kernel_rfl) rfl rfl rfl rfl rfl (.inl rfl) ?_
  refine j_p (i := 13) rfl (y_assign rfl) (by kernel_rfl) (by kernel_rfl) (by kernel_rfl) rfl rfl rfl rfl rfl (.inl rfl) ?_
  refine j_p (i := 14) rfl (y_assign rfl) (by kernel_rfl) (by kernel_rfl) (by kernel_rfl) rfl rfl rfl rfl rfl (.inl rfl) ?_
  refine j_p (i := 15) rfl (y_assign rfl) (by kernel_rfl) (by kernel_rfl) (by kernel_rfl) rfl rfl rfl rfl rfl (.inl rfl) ?_
  refine j_nil (by kernel_rfl) ?_
  refine g_then ?_
  refine g_seq ?_
  refine g_seq ?_
  refine g_region ?_
  refine s_y (y_move rfl) rfl rfl rfl rfl ?_
  refine g_less (sub_skip mL (List.Sublist.refl _)) (fun w1 => ?_)
  refine s_y (y_move rfl) rfl rfl rfl rfl ?_
  refine s_y (y_ldMn (List.mem_cons_of_mem _ (List.mem_cons_of_mem _ (mem_ar (rowsM (D a b pi po ps) (b.size + 1) Bs) (List.mem_cons_self ..)))) rfl agg_23 size_23 rfl rfl) rfl rfl rfl rfl ?_
  refine s_tr (t_call rfl rfl ent_21 (fun w h => fine_t w a b pi po ps ha hb hok)) rfl rfl rfl rfl (fun _ _ => ?_)
  refine s_y (y_not_t rfl) rfl rfl rfl rfl ?_
  refine s_nil ?_
  refine g_then ?_
  refine g_cond_f rfl ?_
  refine g_skip ?_
  refine g_then ?_
  refine g_seq ?_
  refine g_seq ?_
  obtain ⟨B, hB0⟩ : ∃ B, Bs[a.size]? = some B := ⟨_, List.getElem?_eq_getElem (by omega)⟩
  have hB1 : Bs[((a.size : Nat) : Int).toNat]? = some B := by rw [Int.toNat_natCast]; exact hB0
  have hp := rowsM_mem (D a b pi po ps) (b.size + 1) Bs a.size B hB0
  have hc : ((tabRow (D a b pi po ps) (b.size + 1) a.size).map (Value.int .i64))[((b.size : Nat) : Int).toNat]? = some (.int .i64 (D a b pi po ps a.size b.size)) := by rw [Int.toNat_natCast, List.getElem?_map, tabRow_at _ _ _ _ (by omega)]; rfl
  refine g_draw 34 (by kernel_rfl) ?_
  refine j_p (i := 0) rfl (y_move rfl) (by kernel_rfl) (by kernel_rfl) (by kernel_rfl) rfl rfl rfl rfl rfl (.inr (fun _ h => h)) ?_
  refine j_p (i := 1) rfl (y_neq_f rfl rfl (by decide)) (by kernel_rfl) (by kernel_rfl) (by kernel_rfl) rfl rfl rfl rfl rfl (.inr (fun _ h => h)) ?_
  refine j_p (i := 2) rfl (y_move rfl) (by kernel_rfl) (by kernel_rfl) (by kernel_rfl) rfl rfl rfl rfl rfl (.inr (fun _ h => h)) ?_
  refine j_p (i := 3) rfl (y_move rfl) (by kernel_rfl) (by kernel_rfl) (by kernel_rfl) rfl rfl rfl rfl rfl (.inr (fun _ h => h)) ?_
  refine j_p (i := 4) rfl (y_move rfl) (by kernel_rfl) (by kernel_rfl) (by kernel_rfl) rfl rfl rfl rfl rfl (.inr (fun _ h => h)) ?_
  refine j_l (i := 5) rfl (y_ldMn (List.mem_cons_of_mem _ (List.mem_cons_of_mem _ (mem_ar (rowsM (D a b pi po ps) (b.size + 1) Bs) (List.mem_cons_self ..)))) rfl agg_23 size_23 rfl rfl) (by kernel_rfl) (by kernel_rfl) (by kernel_rfl) (by kernel_rfl) rfl rfl rfl rfl rfl (.inr (fun _ h => h)) ?_
  refine j_p (i := 6) rfl (y_move rfl) (by kernel_rfl) (by kernel_rfl) (by kernel_rfl) rfl rfl rfl rfl rfl (.inr (fun _ h => h)) ?_
  refine j_tr (i := 7) rfl (t_call rfl rfl ent_49 (fun w h => by have h_ := RHeights_ok w a b pi po ps _ (Bs.map (rowV (b.size + 1))) (tabD a b pi po ps) (grid_rows (a := a) (b := b) (pi := pi) (po := po) (ps := ps) (x := (g, bb, cap, jk, Bs)) hl (fun p hp => h.at_ p (List.Sublist.subset (List.Sublist.cons_cons _ (List.Sublist.cons_cons _ (sub_here (rowsM (D a b pi po ps) (b.size + 1) Bs) _))) hp))) (by rw [tabD_len]; omega) (fun r hr => by have := ((tabD_ok (a := a) (b := b) hok ha hb).1.2 r hr).1; omega) ha hb hok; rw [hgtR_t (tabD_ok hok ha hb)] at h_; exact h_)) (by kernel_rfl) rfl rfl rfl rfl (.inr (fun x w hb h => h)) (fun _ _ => ?_)
  refine j_p (i := 8) rfl (y_not_t rfl) (by kernel_rfl) (by kernel_rfl) (by kernel_rfl) rfl rfl rfl rfl rfl (.inr (fun _ h => h)) ?_
  refine j_p (i := 9) rfl (y_pick_f rfl rfl) (by kernel_rfl) (by kernel_rfl) (by kernel_rfl) rfl rfl rfl rfl rfl (.inr (fun _ h => h)) ?_
  refine j_p (i := 10) rfl (y_move rfl) (by kernel_rfl) (by kernel_rfl) (by kernel_rfl) rfl rfl rfl rfl rfl (.inr (fun _ h => h)) ?_
  refine j_p (i := 11) rfl (y_move rfl) (by kernel_rfl) (by kernel_rfl) (by kernel_rfl) rfl rfl rfl rfl rfl (.inr (fun _ h => h)) ?_
  refine j_p (i := 12) rfl (y_move rfl) (by kernel_rfl) (by kernel_rfl) (by kernel_rfl) rfl rfl rfl rfl rfl (.inr (fun _ h => h)) ?_
  refine j_p (i := 13) rfl (y_lens rfl Try.underlying9) (by kernel_rfl) (by kernel_rfl) (by kernel_rfl) rfl rfl rfl rfl rfl (.inr (fun _ h => h)) ?_
  refine j_p (i := 14) rfl (y_idxb1 rfl rfl Try.underlying66 size_46 (by omega) (by omega)) (by kernel_rfl) (by kernel_rfl) (by kernel_rfl) rfl rfl rfl rfl rfl (.inr (fun _ h => h)) ?_
  refine j_l (i := 15) rfl (y_ldL (enc := (rowV (b.size + 1))) (xs := Bs) (jk := jk) 1 rfl rfl agg_46 (hB1)) (by kernel_rfl) (by kernel_rfl) (by kernel_rfl) (by kernel_rfl) rfl rfl rfl rfl rfl (.inr (fun _ h => h)) ?_
  refine j_p (i := 16) rfl (y_move rfl) (by kernel_rfl) (by kernel_rfl) (by kernel_rfl) rfl rfl rfl rfl rfl (.inr (fun _ h => h)) ?_
  refine j_p (i := 17) rfl (y_lens rfl Try.underlying9) (by kernel_rfl) (by kernel_rfl) (by kernel_rfl) rfl rfl rfl rfl rfl (.inr (fun _ h => h)) ?_
  refine j_p (i := 18) rfl (y_idxb1 rfl rfl Try.underlying46 size_3 (by omega) (by omega)) (by kernel_rfl) (by kernel_rfl) (by kernel_rfl) rfl rfl rfl rfl rfl (.inr (fun _ h => h)) ?_
  refine j_l (i := 19) rfl (y_ldM (List.mem_cons_of_mem _ (List.mem_cons_of_mem _ (mem_al (rowsM (D a b pi po ps) (b.size + 1) Bs) hp))) rfl agg_3 hc) (by kernel_rfl) (by kernel_rfl) (by kernel_rfl) (by kernel_rfl) rfl rfl rfl rfl rfl (.inr (fun _ h => h)) ?_
  refine j_p (i := 20) rfl (y_move rfl) (by kernel_rfl) (by kernel_rfl) (by kernel_rfl) rfl rfl rfl rfl rfl (.inr (fun _ h => h)) ?_
  refine j_p (i := 21) rfl (y_move rfl) (by kernel_rfl) (by kernel_rfl) (by kernel_rfl) rfl rfl rfl rfl rfl (.inr (fun _ h => h)) ?_
  refine j_l (i := 22) rfl (y_ldMn (List.mem_cons_of_mem _ (List.mem_cons_of_mem _ (mem_ar (rowsM (D a b pi po ps) (b.size + 1) Bs) (List.mem_cons_self ..)))) rfl agg_23 size_23 rfl rfl) (by kernel_rfl) (by kernel_rfl) (by kernel_rfl) (by kernel_rfl) rfl rfl rfl rfl rfl (.inr (fun _ h => h)) ?_
  refine j_tr (i := 23) rfl (t_call rfl rfl ent_30 (fun w h => RCost_ok w a b pi po ps ha hb hok)) (by kernel_rfl) rfl rfl rfl rfl (.inr (fun x w hb h => h)) (fun _ _ => ?_)
  refine j_p (i := 24) rfl (y_neq_f rfl rfl (rfl)) (by kernel_rfl) (by kernel_rfl) (by kernel_rfl) rfl rfl rfl rfl rfl (.inr (fun _ h => h)) ?_
  refine j_p (i := 25) rfl (y_pick_f rfl rfl) (by kernel_rfl) (by kernel_rfl) (by kernel_rfl) rfl rfl rfl rfl rfl (.inr (fun _ h => h)) ?_
  refine j_p (i := 26) rfl (y_move rfl) (by kernel_rfl) (by kernel_rfl) (by kernel_rfl) rfl rfl rfl rfl rfl (.inr (fun _ h => h)) ?_
  refine j_p (i := 27) rfl (y_move rfl) (by kernel_rfl) (by kernel_rfl) (by kernel_rfl) rfl rfl rfl rfl rfl (.inr (fun _ h => h)) ?_
  refine j_p (i := 28) rfl (y_neq_f rfl rfl (by decide)) (by kernel_rfl) (by kernel_rfl) (by kernel_rfl) rfl rfl rfl rfl rfl (.inr (fun _ h => h)) ?_
  refine j_p (i := 29) rfl (y_pick_f rfl rfl) (by kernel_rfl) (by kernel_rfl) (by kernel_rfl) rfl rfl rfl rfl rfl (.inr (fun _ h => h)) ?_
  refine j_p (i := 30) rfl (y_move rfl) (by kernel_rfl) (by kernel_rfl) (by kernel_rfl) rfl rfl rfl rfl rfl (.inr (fun _ h => h)) ?_
  refine j_tr (i := 31) rfl (t_call rfl rfl ent_22 (fun w h => awakeE_t w)) (by kernel_rfl) rfl rfl rfl rfl (.inr (fun x w hb h => h)) (fun _ _ => ?_)
  refine j_p (i := 32) rfl (y_not_t rfl) (by kernel_rfl) (by kernel_rfl) (by kernel_rfl) rfl rfl rfl rfl rfl (.inr (fun _ h => h)) ?_
  refine j_p (i := 33) rfl (y_pick_f rfl rfl) (by kernel_rfl) (by kernel_rfl) (by kernel_rfl) rfl rfl rfl rfl rfl (.inr (fun _ h => h)) ?_
  refine j_nil (by kernel_rfl) ?_
  refine g_then ?_
  refine g_cond_f rfl ?_
  refine g_skip ?_
  refine g_then ?_
  refine g_seq ?_
  refine g_seq ?_
  refine g_region ?_
  refine s_y (y_move rfl) rfl rfl rfl rfl ?_
  refine s_y (y_move rfl) rfl rfl rfl rfl ?_
  refine s_y (y_ldMn (List.mem_cons_of_mem _ (List.mem_cons_of_mem _ (mem_ar (rowsM (D a b pi po ps) (b.size + 1) Bs) (List.mem_cons_self ..)))) rfl agg_23 size_23 rfl rfl) rfl rfl rfl rfl ?_
  refine s_y (y_move rfl) rfl rfl rfl rfl ?_
  refine s_tr (t_call rfl rfl ent_49 (fun w h => by have h_ := RHeights_ok w a b pi po ps _ vs hs (hh.below h.below) hlh hlr ha hb hok; rw [hgtR_f hH] at h_; exact h_)) rfl rfl rfl rfl (fun _ _ => ?_)
  refine s_y (y_not_f rfl) rfl rfl rfl rfl ?_
  refine s_nil ?_
  refine g_then ?_
  refine g_cond_t rfl ?_
  refine g_seq ?_
  refine g_region ?_
  refine s_y (y_move rfl) rfl rfl rfl rfl ?_
  refine s_y (y_eql_t rfl rfl (by decide)) rfl rfl rfl rfl ?_
  refine s_y (y_move rfl) rfl rfl rfl rfl ?_
  refine s_y (y_move rfl) rfl rfl rfl rfl ?_
  refine s_y (y_not_f rfl) rfl rfl rfl rfl ?_
  refine s_y (y_pick_t rfl rfl) rfl rfl rfl rfl ?_
  refine s_y (y_assign rfl) rfl rfl rfl rfl ?_
  refine s_nil ?_
  refine g_then ?_
  refine g_ret ?_
  refine g_thenr ?_
  exact g_end trivial (fun a w ha hq_ => res1 ha rfl rfl  w) (fun w h => ⟨rfl, h.below⟩)

theorem EditsHeights_no (w : World) (a b : ByteArray) (pi po ps : Int) (v : Value) (vs : List Value) (hs : List (List Int)) (hh : RdVV w v vs hs) (hlh : hs.length ≤ 9223372036854775807) (hno : ¬ (a.size ≤ 12 ∧ b.size ≤ 12 ∧ okP pi po ps)) :
    Calls Try.prog 13 [.string a, .string b, .agg #[.int .i64 pi, .int .i64 po, .int .i64 ps], v].toArray w fun e w' => e = .returned (.bool true) ∧ Below w.heap.size w w' := by
  refine enter (N := 124) Try.func13 rfl rfl rfl ?_
  refine g_seq ?_
  refine g_region ?_
  refine s_tr (t_box rfl rfl) rfl rfl rfl rfl (fun b6 hb6 => ?_)
  refine s_y (y_assign rfl) rfl rfl rfl rfl ?_
  refine s_nil ?_
  refine g_then ?_
  refine g_seq ?_
  refine g_draw 12 (by kernel_rfl) ?_
  refine j_p (i := 0) rfl (y_move rfl) (by kernel_rfl) (by kernel_rfl) (by kernel_rfl) rfl rfl rfl rfl rfl (.inr (fun _ h => h)) ?_
  refine j_p (i := 2) rfl (y_move rfl) (by kernel_rfl) (by kernel_rfl) (by kernel_rfl) rfl rfl rfl rfl rfl (.inr (fun _ h => h)) ?_
  refine j_l (i := 4) rfl (y_ldn 0 rfl rfl agg_23 size_23 rfl rfl) (by kernel_rfl) (by kernel_rfl) (by kernel_rfl) (by kernel_rfl) rfl rfl rfl rfl rfl (.inr (fun _ h => h)) ?_
  refine j_tr (i := 1) rfl (t_call rfl rfl ent_19 (fun w h => text_any w _)) (by kernel_rfl) rfl rfl rfl rfl (.inr (fun x w hb h => h)) (fun _ _ => ?_)
  refine j_tr (i := 3) rfl (t_call rfl rfl ent_19 (fun w h => text_any w _)) (by kernel_rfl) rfl rfl rfl rfl (.inr (fun x w hb h => h)) (fun _ _ => ?_)
  refine j_tr (i := 5) rfl (t_call rfl rfl ent_20 (fun w h => Of_any w pi po ps)) (by kernel_rfl) rfl rfl rfl rfl (.inr (fun x w hb h => h)) (fun _ _ => ?_)
  refine j_tr (i := 6) rfl (t_call rfl rfl ent_46 (fun w h => Heights_bad w (textS a) (textS b) pi po ps (not_text hno))) (by kernel_rfl) rfl rfl rfl rfl (.inr (fun x w hb h => h)) (fun _ _ => ?_)
  refine j_p (i := 7) rfl (y_move rfl) (by kernel_rfl) (by kernel_rfl) (by kernel_rfl) rfl rfl rfl rfl rfl (.inr (fun _ h => h)) ?_
  refine j_p (i := 8) rfl (y_extract rfl rfl) (by kernel_rfl) (by kernel_rfl) (by kernel_rfl) rfl rfl rfl rfl rfl (.inr (fun _ h => h)) ?_
  refine j_p (i := 9) rfl (y_extract rfl rfl) (by kernel_rfl) (by kernel_rfl) (by kernel_rfl) rfl rfl rfl rfl rfl (.inr (fun _ h => h)) ?_
  refine j_p (i := 10) rfl (y_assign rfl) (by kernel_rfl) (by kernel_rfl) (by kernel_rfl) rfl rfl rfl rfl rfl (.inr (fun _ h => h)) ?_
  refine j_p (i := 11) rfl (y_assign rfl) (by kernel_rfl) (by kernel_rfl) (by kernel_rfl) rfl rfl rfl rfl rfl (.inr (fun _ h => h)) ?_
  refine j_nil (by kernel_rfl) ?_
  refine g_then ?_
  refine g_seq ?_
  refine g_draw 7 (by kernel_rfl) ?_
  refine j_p (i := 0) rfl (y_move rfl) (by kernel_rfl) (by kernel_rfl) (by kernel_rfl) rfl rfl rfl rfl rfl (.inr (fun _ h => h)) ?_
  refine j_p (i := 2) rfl (y_move rfl) (by kernel_rfl) (by kernel_rfl) (by kernel_rfl) rfl rfl rfl rfl rfl (.inr (fun _ h => h)) ?_
  refine j_l (i := 4) rfl (y_ldn 0 rfl rfl agg_23 size_23 rfl rfl) (by kernel_rfl) (by kernel_rfl) (by kernel_rfl) (by kernel_rfl) rfl rfl rfl rfl rfl (.inr (fun _ h => h)) ?_
  refine j_p (i := 6) rfl (y_move rfl) (by kernel_rfl) (by kernel_rfl) (by kernel_rfl) rfl rfl rfl rfl rfl (.inr (fun _ h => h)) ?_
  refine j_tr (i := 1) rfl (t_call rfl rfl ent_19 (fun w h => text_any w _)) (by kernel_rfl) rfl rfl rfl rfl (.inr (fun x w hb h => h)) (fun _ _ => ?_)
  refine j_tr (i := 3) rfl (t_call rfl rfl ent_19 (fun w h => text_any w _)) (by kernel_rfl) rfl rfl rfl rfl (.inr (fun x w hb h => h)) (fun _ _ => ?_)
  refine j_tr (i := 5) rfl (t_call rfl rfl ent_20 (fun w h => Of_any w pi po ps)) (by kernel_rfl) rfl rfl rfl rfl (.inr (fun x w hb h => h)) (fun _ _ => ?_)
  refine j_tr (i := 7) rfl (t_callm (A := fun y : Value × List Value × List (Nat × Obj) => OwnVV y.1 y.2.1 ((hs.take 16).map (·.take 16)) y.2.2) (vf := fun y => y.1) (mm := fun y => y.2.2) rfl rfl ent_48 (fun w h => lists_any w _ vs hs (hh.below h.below) hlh)) (by kernel_rfl) rfl rfl rfl rfl (.inl rfl) (fun yL hyL => ?_)
  obtain ⟨vL, wL, mL⟩ := yL
  have hOL : OwnVV vL wL ((hs.take 16).map (·.take 16)) mL := hyL
  refine j_tr (i := 8) rfl (t_call rfl rfl ent_47 (fun w h => CheckH_bad w (textS a) (textS b) pi po ps _ wL _ (hOL _ (fun p hp => h.at_ p (mem_al mL hp))) (by simp only [List.length_map, List.length_take]; omega) (not_text hno))) (by kernel_rfl) rfl rfl rfl rfl (.inl rfl) (fun _ _ => ?_)
  refine j_p (i := 9) rfl (y_move rfl) (by kernel_rfl) (by kernel_rfl) (by kernel_rfl) rfl rfl rfl rfl rfl (.inl rfl) ?_
  refine j_p (i := 10) rfl (y_extract rfl rfl) (by kernel_rfl) (by kernel_rfl) (by kernel_rfl) rfl rfl rfl rfl rfl (.inl rfl) ?_
  refine j_p (i := 11) rfl (y_extract rfl rfl) (by kernel_rfl) (by kernel_rfl) (by kernel_rfl) rfl rfl rfl rfl rfl (.inl rfl) ?_
  refine j_p (i := 12) rfl (y_extract rfl rfl) (by kernel_rfl) (by kernel_rfl) (by kernel_rfl) rfl rfl rfl rfl rfl (.inl rfl) ?_
  refine j_p (i := 13) rfl (y_assign rfl) (by kernel_rfl) (by kernel_rfl) (by kernel_rfl) rfl rfl rfl rfl rfl (.inl rfl) ?_
  refine j_p (i := 14) rfl (y_assign rfl) (by kernel_rfl) (by kernel_rfl) (by kernel_rfl) rfl rfl rfl rfl rfl (.inl rfl) ?_
  refine j_p (i := 15) rfl (y_assign rfl) (by kernel_rfl) (by kernel_rfl) (by kernel_rfl) rfl rfl rfl rfl rfl (.inl rfl) ?_
  refine j_nil (by kernel_rfl) ?_
  refine g_then ?_
  refine g_seq ?_
  refine g_seq ?_
  refine g_region ?_
  refine s_y (y_move rfl) rfl rfl rfl rfl ?_
  refine s_y (y_move rfl) rfl rfl rfl rfl ?_
  refine s_y (y_ldMn (mem_ar mL (List.mem_cons_self ..)) rfl agg_23 size_23 rfl rfl) rfl rfl rfl rfl ?_
  refine s_tr (t_call rfl rfl ent_21 (fun w h => fine_f w a b pi po ps hno)) rfl rfl rfl rfl (fun _ _ => ?_)
  refine s_y (y_not_f rfl) rfl rfl rfl rfl ?_
  refine s_nil ?_
  refine g_then ?_
  refine g_cond_t rfl ?_
  refine g_seq ?_
  refine g_region ?_
  refine s_y (y_move rfl) rfl rfl rfl rfl ?_
  refine s_y (y_lensl rfl sle_66) rfl rfl rfl rfl ?_
  refine s_y (y_eql_t rfl rfl (by decide)) rfl rfl rfl rfl ?_
  refine s_y (y_move rfl) rfl rfl rfl rfl ?_
  refine s_y (y_move rfl) rfl rfl rfl rfl ?_
  refine s_y (y_eql_t rfl rfl (by decide)) rfl rfl rfl rfl ?_
  refine s_y (y_pick_t rfl rfl) rfl rfl rfl rfl ?_
  refine s_y (y_move rfl) rfl rfl rfl rfl ?_
  refine s_y (y_move rfl) rfl rfl rfl rfl ?_
  refine s_y (y_not_f rfl) rfl rfl rfl rfl ?_
  refine s_y (y_pick_t rfl rfl) rfl rfl rfl rfl ?_
  refine s_y (y_move rfl) rfl rfl rfl rfl ?_
  refine s_y (y_move rfl) rfl rfl rfl rfl ?_
  refine s_y (y_eql_t rfl rfl (by decide)) rfl rfl rfl rfl ?_
  refine s_y (y_pick_t rfl rfl) rfl rfl rfl rfl ?_
  refine s_y (y_move rfl) rfl rfl rfl rfl ?_
  refine s_y (y_move rfl) rfl rfl rfl rfl ?_
  refine s_y (y_eql_t rfl rfl (by decide)) rfl rfl rfl rfl ?_
  refine s_y (y_pick_t rfl rfl) rfl rfl rfl rfl ?_
  refine s_y (y_move rfl) rfl rfl rfl rfl ?_
  refine s_tr (t_call rfl rfl ent_22 (fun w h => awakeE_t w)) rfl rfl rfl rfl (fun _ _ => ?_)
  refine s_y (y_pick_t rfl rfl) rfl rfl rfl rfl ?_
  refine s_y (y_assign rfl) rfl rfl rfl rfl ?_
  refine s_nil ?_
  refine g_then ?_
  refine g_ret ?_
  refine g_thenr ?_
  exact g_end trivial (fun a w ha hq_ => res1 ha rfl rfl  w) (fun w h => ⟨rfl, h.below⟩)

theorem EditsHeights_law (w : World) (a b : ByteArray) (pi po ps : Int) (v : Value) (vs : List Value) (hs : List (List Int)) (_ : a.size ≤ 140737488351232) (_ : b.size ≤ 140737488351232) (_ : (Lit.int .i64 pi).wf = true) (_ : (Lit.int .i64 po).wf = true) (_ : (Lit.int .i64 ps).wf = true) (hh : RdVV w v vs hs) (hm : hs.length ≤ maxLen) (hr : ∀ r ∈ hs, r.length ≤ maxLen) : Calls Try.prog 13 [.string a, .string b, .agg #[.int .i64 pi, .int .i64 po, .int .i64 ps], v].toArray w fun e w' => e = .returned (.bool true) ∧ Below w.heap.size w w' := by
  have hm' : hs.length ≤ 9223372036854775807 := by unfold maxLen at hm; omega
  have hr' : ∀ r ∈ hs, r.length ≤ 9223372036854775807 := fun r h => by have := hr r h; unfold maxLen at this; omega
  by_cases h : a.size ≤ 12 ∧ b.size ≤ 12 ∧ okP pi po ps
  · by_cases hH : HOK a b pi po ps hs
    · exact EditsHeights_ok w a b pi po ps v vs hs hh hm' hr' h.1 h.2.1 h.2.2 hH
    · exact EditsHeights_ok2 w a b pi po ps v vs hs hh hm' hr' h.1 h.2.1 h.2.2 hH
  · exact EditsHeights_no w a b pi po ps v vs hs hh hm' h

end Go.Proofs.Ytnnpdgegejklpaa
